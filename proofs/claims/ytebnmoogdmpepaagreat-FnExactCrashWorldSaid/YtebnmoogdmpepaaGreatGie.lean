/- Of this proof. -/
import Derived.Test.YtebnmoogdmpepaaGreatGic
import Derived.Orders
set_option linter.unusedSimpArgs false
set_option linter.unusedVariables false
namespace Gi
open Go
def Uo :Value→Option L
 | .int k n=>some (.pv (.int k n))
 | .bool b=>some (.pv (.bool b))
 | .string s=>some (.pv (.str s.data.toList))
 | .slice none 0 0=>some .nil
 |_=>none
def U7 :Value→Option PV
 | .int k n=>some (.int k n)
 | .bool b=>some (.bool b)
 | .string s=>some (.str s.data.toList)
 | .slice none 0 0=>some (.lst [])
 |_=>none
def gl :Operand→Option Opd
 | .tmp t=>some (.tmp t)
 | .const (.int k n)=>some (.pv (.int k n))
 | .const (.bool b)=>some (.pv (.bool b))
 | .const (.string s)=>some (.pv (.str s.data.toList))
 | .const (.slice none 0 0)=>some .nil
 |_=>none
def kN (kf:FuncId→Option Nat):Operand→Option Opd
 | .func f=>(kf f).map .fn
 |x=>gl x
def fy {α β:Type}(f:α→Option β):List α→Option (List β)
 |[]=>some []
 |x::xs=>match f x,fy f xs with
  |some y,some ys=>some (y::ys)
  |_,_=>none
def jA (P:Program)(t:TypeId):Option Bool:=
 match P.underlying t with
 |some (.struct _)=>some true
 |some (.array _ _)=>some true
 |some _=>some false
 |none=>none
def o7 (P:Program)(t:TypeId):Option Nat:=(P.info? t).map (·.size)
def NQ (P:Program)(t:TypeId):Option Nat:=(P.info? t).map (·.bytes)
def m4 (P:Program)(t:TypeId):Option Value:=(P.info? t).bind (·.zero)
def gJ (P:Program)(t:TypeId):Option TypeId:=
 match P.underlying t with
 |some (.slice e)=>some e
 |_=>none
def AY (P:Program)(t:TypeId)(f:Nat):Option Field:=
 match P.underlying t with
 |some (.struct fs)=>fs[f]?
 |_=>none
def Na (P:Program):Nat→TypeId→Bool
 |0,_=>false
 |n+1,t=>match P.underlying t with
  |some .bool=>true
  |some (.int _)=>true
  |some .string=>true
  |some (.struct fs)=>fs.toList.all fun f=>Na P n f.type
  |_=>false
def Pq (P:Program)(g:TypeId→Option (List EK)):List Field→Nat→Option (List EK)
 |[],_=>some []
 |f::fs,off=>if f.name≠ "_" ∧f.offset=off then(match g f.type with
  |some m=>if o7 P f.type=some m.length∧0<m.length then(match Pq P g fs (off+m.length)with
   |some ks=>some (m++ks)
   |none=>none)else none
  |none=>none)else none
def SI (P:Program):Nat→TypeId→Option (List EK)
 |0,_=>none
 |n+1,t=>match P.underlying t with
  |some .bool=>some [.b]
  |some (.int _)=>some [.i]
  |some .string=>some [.s]
  |some (.struct fs)=>if P.stoodInHeld t then none else Pq P (SI P n) fs.toList 0
  |_=>none
structure Md where
 draw:Bool
 dt:Bool
 st:Bool
 sb:Bool
 dp:Bool
 zn:Bool
 zl:List Nat
 tr:List Nat
 nb:Option Nat
def eV (P:Program)(kf:FuncId→Option Nat)(md:Md):Op→Option AOp
 | .move x=>(gl x).map .mv
 | .assign x=>(gl x).map .mv
 | .pick c a b=>match gl c,gl a,gl b with
  |some c,some a,some b=>some (.pick c a b)
  |_,_,_=>none
 | .alloc t=>match m4 P t with
  |some v=>match fy Uo v.cells.toList with
   |some cs=>some (.alloc cs)
   |none=>none
  |none=>none
 | .box _ x=>(gl x).map .box
 | .build t parts=>match P.underlying t,m4 P t,fy (fun x=>match AY P t x.1,gl x.2 with
  |some f,some y=>(o7 P f.type).map fun n=>(f.offset,n,y)
  |_,_=>none) parts.toList with
  |some (.struct fs),some v,some ps=>match fy Uo v.cells.toList with
   |some cs=>if fs.toList.all (fun f=>(o7 P f.type).isSome)then some (.build cs ps)else none
   |none=>none
  |some (.array _ e),some v,some []=>match fy Uo v.cells.toList,o7 P e with
   |some cs,some _=>some (.build cs [])
   |_,_=>none
  |_,_,_=>none
 | .buildSlice t n parts=>match gJ P t,fy (fun x=>gl x.2) parts.toList with
  |some e,some ps=>match o7 P e,m4 P e with
   |some z,some v=>if(parts.toList.map (·.1)==List.range n)&&v.cells.size==z then some (if md.st&&(ps.isEmpty|| !md.dp)then .buildF z ps else .buildS z ps)else none
   |_,_=>none
  |_,_=>none
 | .load t a=>match jA P t,o7 P t,gl a with
  |some g,some n,some a=>some (if md.st then .loadB g n a else .load g n a)
  |_,_,_=>none
 | .store t a v=>match o7 P t,gl a,gl v with
  |some n,some a,some v=>some (.store n a v)
  |_,_,_=>none
 | .binOp op t x y _=>match P.underlying t,gl x,gl y with
  |some .bool,some x,some y=>match op with
   | .eql=>some (.eqB false x y)
   | .neq=>some (.eqB true x y)
   |_=>none
  |some (.int _),some x,some y=>some (.bin op x y)
  |some .string,some x,some y=>some (.bin op x y)
  |some (.struct _),some x,some y=>match SI P 6 t,P.eqGuardType P.depth t with
   |some n,false=>match op with
    | .eql=>some (.eqS false n x y)
    | .neq=>some (.eqS true n x y)
    |_=>none
   |_,_=>none
  |_,_,_=>none
 | .unOp op _ x=>(gl x).map (.un op)
 | .convert s d x=>match P.underlying s,P.underlying d,gl x with
  |some (.int _),some (.int k),some x=>some (.conv k x)
  |some (.slice e),some .string,some x=>match P.underlying e with
   |some (.int .u8)=>some (.b2s x)
   |_=>none
  |some .string,some (.slice e),some x=>match P.underlying e,o7 P e with
   |some (.int .u8),some 1=>some (.s2b x)
   |_,_=>none
  |_,_,_=>none
 | .makeSlice t n m=>match gJ P t,gl n,gl m with
  |some e,some (.tmp a),some (.tmp b)=>if a=b then(match NQ P e,o7 P e,m4 P e with
   |some by',some z,some v=>match fy U7 v.cells.toList with
    |some zs=>if zs.length=z then some (.make by' zs (.tmp a))else none
    |none=>none
   |_,_,_=>none)else none
  |_,_,_=>none
 | .slice t x lo hi mx=>match P.underlying t,gl x,fy gl lo.toList,fy gl hi.toList,mx with
  |some .string,some x,some lo,some hi,none=>some (.slcS x lo.head? hi.head?)
  |some (.slice e),some x,some lo,some hi,none=>match o7 P e with
   |some z=>if z=0 then none else some (if md.st then .slcF z x lo.head? hi.head? else .slcL z x lo.head? hi.head?)
   |none=>none
  |_,_,_,_,_=>none
 | .nilCheck x=>(gl x).map (.fieldA · 0)
 | .fieldAddr t x f=>match AY P t f,gl x with
  |some fd,some x=>match o7 P fd.type with
   |some n=>if n=0 then none else some (.fieldA x fd.offset)
   |none=>none
  |_,_=>none
 | .field t x f=>match AY P t f,gl x with
  |some fd,some x=>match jA P fd.type,o7 P fd.type with
   |some g,some n=>some (.field x g fd.offset n)
   |_,_=>none
  |_,_=>none
 | .indexAddr t x i=>match gJ P t,gl x,gl i with
  |some e,some x,some i=>match o7 P e with
   |some z=>some (.indexA z x i)
   |none=>none
  |_,_,_=>none
 | .index t x i=>match P.underlying t,gl x,gl i with
  |some .string,some x,some i=>some (.indexS x i)
  |_,_,_=>none
 | .extract x i=>(gl x).map (.extract · i)
 | .call c=>match c.callee with
  | .value (.func f)=>match kf f,fy (kN kf) c.args.toList,P.funcs[f]? with
   |some k,some xz,some fn=>if fn.origin== "slices.Insert" then(match xz,fn.params.toList with
    |[x,i,v],t::_=>match gJ P t with
     |some e=>match o7 P e,NQ P e with
      |some z,some b=>some (.insert k z b x i v)
      |_,_=>none
     |none=>none
    |_,_=>none)else if fn.origin== "slices.DeleteFunc" then(match xz,fn.params.toList with
    |[x,g],t::_=>match gJ P t with
     |some e=>match o7 P e with
      |some z=>some (.delF k z x g)
      |none=>none
     |none=>none
    |_,_=>none)else if fn.origin== "slices.Delete" then(match xz,fn.params.toList with
    |[x,i,j],t::_=>match gJ P t with
     |some e=>match o7 P e with
      |some z=>some (.delR k z x i j)
      |none=>none
     |none=>none
    |_,_=>none)else some (if md.dt&& !md.draw&& !(fn.resultTypes.toList.all (Na P 6))then .callD k xz else .call k xz (fn.resultTypes.toList.all (Na P 6)) md.draw)
   |_,_,_=>none
  | .value (.tmp t)=>match fy gl c.args.toList with
   |some xz=>some (.callV (.tmp t) xz)
   |none=>none
  | .builtin .len=>match c.args.toList,c.argTypes.toList with
   |[x],[t]=>match P.underlying t,gl x with
    |some .string,some x=>some (.lenS x)
    |some (.slice _),some x=>some (.len x)
    |_,_=>none
   |_,_=>none
  | .builtin .append=>match c.args.toList,c.argTypes.toList with
   |[x,y],[t,u]=>match gJ P t,P.underlying u,gl x,gl y with
    |some e,some (.slice _),some x,some y=>match o7 P e,NQ P e,m4 P e with
     |some z,some b,some v=>if v.cells.size=z∧t=u then some (.append z b x y)else none
     |_,_,_=>none
    |some e,some .string,some x,some y=>match P.underlying e,o7 P e,NQ P e,m4 P e with
     |some (.int .u8),some 1,some b,some (.int .u8 0)=>some (.appendS b x y)
     |_,_,_,_=>none
    |_,_,_,_=>none
   |_,_=>none
  | .builtin .min=>match c.args.toList with
   |[x,y]=>match gl x,gl y with
    |some x,some y=>some (.mm false x y)
    |_,_=>none
   |_=>none
  | .builtin .max=>match c.args.toList with
   |[x,y]=>match gl x,gl y with
    |some x,some y=>some (.mm true x y)
    |_,_=>none
   |_=>none
  |_=>none
 | .makeFunc (.func f) first caps=>match kf f,fy gl caps.toList with
  |some k,some cs=>if first.isEmpty then some (.mkfn k cs)else none
  |_,_=>none
 |_=>none
def AOp.isF :AOp→Bool
 | .alloc _=>false
 | .box _=>false
 | .buildS _ _=>false
 | .store _ _ _=>false
 | .storeD _ _ _=>false
 | .buildD _ _=>false
 | .appendD _ _ _ _=>false
 | .callC _ _=>false
 | .storeZ _ _ _=>false
 | .callZ _ _=>false
 | .callM _ _ _=>false
 | .make _ _ _=>false
 | .append _ _ _ _=>false
 | .appendS _ _ _=>false
 | .callD _ _=>false
 | .slcL _ _ _ _=>false
 | .mkfn _ _=>false
 | .insert _ _ _ _ _ _=>false
 | .delF _ _ _ _=>false
 | .storeB _ _ _=>false
 | .allocT _=>false
 | .storeT _ _ _=>false
 | .allocW _=>false
 | .allocAt _ _=>false
 | .boxW _ _=>false
 | .delW _ _ _ _=>false
 | .delR _ _ _ _ _=>false
 | .call _ _ fl fz=>fl||fz
 |_=>true
def Ix (ops:Array Oper):Option (Nat×Bool)→Option (Option (Nat×Bool))
 |none=>some none
 |some (j,w)=>match ops[j]? with
  |some o=>match o.dst with
   |some t=>some (some (t,w))
   |none=>none
  |none=>none
def Ow (zl:List Nat)(mk:Bool)(dst:Option Nat):AOp→AOp
 | .load g n a=> .loadZ g n a
 | .store n a v=> .storeZ n a v
 | .indexA z x i=> .indexZ z x i
 | .len x=> .lenZ x
 | .call f xz fl fz=>match xz with
  |[x,k]=>if mk then .callM f x k else if(dst.map zl.contains).getD false then .callZ f [x,k]else if fl then .callF f [x,k]else if fz then .call f [x,k] fl fz else .callD f [x,k]
  |xz=>if(dst.map zl.contains).getD false then .callZ f xz else if fl then .callF f xz else if fz then .call f xz fl fz else .callD f xz
 |op=>op
def uN (md:Md)(dst:Option Nat):AOp→AOp
 | .alloc zero=>match dst with
  |some t=>if md.tr.contains t then .allocT zero.length else if md.tr.contains (t+1000000)then .allocW zero else match md.tr.find? (fun x=>x/1000000==t+2)with
   |some x=> .allocAt (x%1000000) zero
   |none=> .alloc zero
  |none=> .alloc zero
 | .box x=>match dst with
  |some t=>match md.tr.find? (fun y=>y%1000000000==t&&Nat.ble 1000000000 y)with
   |some y=> .boxW (y/1000000000) x
   |none=> .box x
  |none=> .box x
 | .store n a v=>match a with
  | .tmp t=>if md.tr.contains t then .storeT n (.tmp t) v else if md.sb||md.nb==some t then .storeB n (.tmp t) v else if md.dp then .storeD n (.tmp t) v else .store n (.tmp t) v
  |a=> .store n a v
 | .load g n a=>if md.sb then .loadA g n a else match md.nb with
  |some r=> .loadN g n a r
  |none=> .load g n a
 | .append z b x y=>if md.tr.contains 4999999 then .delW z b x y else if md.dp then .appendD z b x y else .append z b x y
 | .slcL z x lo hi=>if md.tr.contains 4999999 then .slcW z x lo hi else .slcL z x lo hi
 | .buildS z ps=>if md.dp then .buildD z ps else .buildS z ps
 | .call f xz fl fz=>if md.dp&& !fl&& !md.dt then .callC f xz else .call f xz fl fz
 |op=>op
def Iy (P:Program)(kf:FuncId→Option Nat)(md:Md)(ops:Array Oper)(o:Oper):Option AOper:=
 match eV P kf md o.op,Ix ops o.guard with
 |some op,some g=>some ⟨o.dst,op,g⟩
 |_,_=>none
def Vo :List Nat:=[474,444,475,447,539,472,473,421,443,485,471,442,427,449,448,445,428,446,429,441,426,430,431,420]
def UO (kf:FuncId→Option Nat):Op→Bool
 | .call c=>match c.callee with
  | .value (.func f)=>match kf f with
   |some k=>Vo.contains k
   |none=>false
  |_=>false
 |_=>false
def vZ (P:Program)(kf:FuncId→Option Nat)(md:Md)(ops:Array Oper)(o:Oper):Option AOper:=
 match Iy P kf md ops o with
 |some x=>some ⟨x.dst,if md.zn then Ow md.zl (UO kf o.op) o.dst x.op else uN md o.dst x.op,x.guard⟩
 |none=>none
def AOp.opds :AOp→List Opd
 | .mv x=>[x]
 | .pick c a b=>[c,a,b]
 | .alloc _=>[]
 | .box x=>[x]
 | .build _ ps=>ps.map (·.2.2)
 | .buildS _ ps=>ps
 | .load _ _ a=>[a]
 | .store _ a v=>[a,v]
 | .bin _ x y=>[x,y]
 | .eqB _ x y=>[x,y]
 | .un _ x=>[x]
 | .conv _ x=>[x]
 | .b2s x=>[x]
 | .make _ _ n=>[n]
 | .slcS x lo hi=>x::(lo.toList++hi.toList)
 | .fieldA x _=>[x]
 | .field x _ _ _=>[x]
 | .indexA _ x i=>[x,i]
 | .indexS x i=>[x,i]
 | .extract x _=>[x]
 | .len x=>[x]
 | .lenS x=>[x]
 | .append _ _ x y=>[x,y]
 | .appendS _ x y=>[x,y]
 | .call _ xz _ _=>xz
 | .mm _ x y=>[x,y]
 | .mkfn _ cs=>cs
 | .callV x xz=>x::xz
 | .eqS _ _ x y=>[x,y]
 | .slcL _ x lo hi=>x::(lo.toList++hi.toList)
 | .s2b x=>[x]
 | .callD _ xz=>xz
 | .insert _ _ _ x i v=>[x,i,v]
 | .delF _ _ x f=>[x,f]
 | .loadB _ _ a=>[a]
 | .slcF _ x lo hi=>x::(lo.toList++hi.toList)
 | .buildF _ ps=>ps
 | .loadA _ _ a=>[a]
 | .loadN _ _ a r=>[a, .tmp r]
 | .storeB _ a v=>[a,v]
 | .allocT _=>[]
 | .storeT _ a v=>[a,v]
 | .storeD _ a v=>[a,v]
 | .buildD _ ps=>ps
 | .appendD _ _ x y=>[x,y]
 | .callC _ xz=>xz
 | .lenZ x=>[x]
 | .indexZ _ x i=>[x,i]
 | .loadZ _ _ a=>[a]
 | .storeZ _ a v=>[a,v]
 | .callF _ xz=>xz
 | .callZ _ xz=>xz
 | .callM _ x k=>[x,k]
 | .allocW _=>[]
 | .allocAt _ _=>[]
 | .boxW _ x=>[x]
 | .slcW _ x lo hi=>x::(lo.toList++hi.toList)
 | .delW _ _ x y=>[x,y]
 | .delR _ _ x i j=>[x,i,j]
def Opd.tmps :Opd→List Nat
 | .tmp n=>[n]
 |_=>[]
def AOper.reads (o:AOper):List Nat:=o.op.opds.flatMap Opd.tmps++(match o.guard with|some (g,_)=>[g]|none=>[])
def uf (x y:AOper):Bool:=
 (match x.dst with
  |some d=> !(y.reads).contains d&&y.dst !=some d
  |none=>true)&&
 (match y.dst with
  |some d=> !(x.reads).contains d
  |none=>true)
def AOp.cls :AOp→Nat
 | .load _ _ _=>1
 | .loadB _ _ _=>1
 | .loadA _ _ _=>1
 | .loadN _ _ _ _=>1
 | .storeB _ _ _=>3
 | .allocT _=>2
 | .storeT _ _ _=>3
 | .b2s _=>1
 | .indexA _ _ _=>1
 | .len _=>1
 | .lenZ _=>1
 | .indexZ _ _ _=>1
 | .loadZ _ _ _=>1
 | .callF _ _=>1
 | .storeZ _ _ _=>3
 | .callZ _ _=>3
 | .callM _ _ _=>3
 | .allocW _=>2
 | .allocAt _ _=>2
 | .boxW _ _=>2
 | .slcW _ _ _ _=>1
 | .delW _ _ _ _=>3
 | .delR _ _ _ _ _=>3
 | .callV _ _=>1
 | .insert _ _ _ _ _ _=>3
 | .delF _ _ _ _=>3
 | .call _ _ fl fz=>if fl||fz then 1 else 3
 | .alloc _=>2
 | .box _=>2
 | .buildS _ _=>2
 | .make _ _ _=>2
 | .slcL _ _ _ _=>2
 | .store _ _ _=>3
 | .storeD _ _ _=>3
 | .buildD _ _=>3
 | .appendD _ _ _ _=>3
 | .callC _ _=>3
 | .append _ _ _ _=>3
 | .appendS _ _ _=>3
 | .callD _ _=>3
 | .mkfn _ _=>3
 |_=>0
def AOp.arrT :AOp→Bool
 | .append _ _ _ _=>true
 | .appendS _ _ _=>true
 | .buildS _ _=>true
 | .make _ _ _=>true
 | .slcL _ _ _ _=>true
 | .callC _ _=>true
 | .buildD _ _=>true
 | .appendD _ _ _ _=>true
 |_=>false
def AOp.isLB :AOp→Bool
 | .loadB _ _ _=>true
 |_=>false
def AOp.isAR (nb:Bool):AOp→Bool
 | .loadA _ _ _=>true
 | .indexA _ _ _=>true
 | .len _=>nb
 |_=>false
def AOp.isSB :AOp→Bool
 | .storeB _ _ _=>true
 |_=>false
def AOp.isST :AOp→Bool
 | .storeT _ _ _=>true
 |_=>false
def TH :AOp→AOp→Bool
 | .allocAt _ _, .appendD _ _ _ _=>true
 | .appendD _ _ _ _, .allocAt _ _=>true
 | .allocAt _ _, .callC _ _=>true
 | .callC _ _, .allocAt _ _=>true
 |_,_=>false
def R5 :AOp→AOp→Bool
 | .allocT n, .allocT m=>n==m
 |_,_=>false
def UQ :AOp→AOp→Bool
 | .loadN _ _ _ r, .storeB _ (.tmp t) _=>r==t
 | .storeB _ (.tmp t) _, .loadN _ _ _ r=>r==t
 |_,_=>false
def Vs (os:List AOper):Option Nat:=os.findSome? fun o=>match o.op with
 | .store _ (.tmp t) _=>some t
 |_=>none
def Ki (nb:Bool)(x y:AOper):Bool:=uf x y&&(x.op.cls==0||y.op.cls==0||(x.op.cls==1&&Nat.ble y.op.cls 2)||(x.op.isLB&&y.op.arrT)||(x.op.arrT&&y.op.isLB)||(x.op.isAR nb&&y.op.isSB)||(x.op.isSB&&y.op.isAR nb)||x.op.isST||y.op.isST||R5 x.op y.op||TH x.op y.op||UQ x.op y.op)
def OV (listed:Array Bool)(k:Nat):List Oper→Array Bool→Array Bool
 |[],acc=>acc
 |o::r,acc=>OV listed k r (acc.push (o.after.any fun e=>Region.binds .any e&& !(listed.getD e.on true)&&(e.on==k||acc.getD e.on false)))
def Rn (nb:Bool)(ops:Array Oper)(oos:List AOper)(listed:Array Bool)(k:Nat):Bool:=
 let an:=OV listed k ops.toList #[]
 (List.range oos.length).all fun j=>j==k||listed.getD j true||an.getD j false||(match oos[k]?,oos[j]? with
  |some x,some y=>Ki nb x y
  |_,_=>false)
def mQ (nb:Bool)(ops:Array Oper)(oos:List AOper):Nat→Nat→Array Bool→Bool
 |0,_,listed=>(Region.ready .any ops listed).isEmpty
 |fuel+1,k,listed=>(Region.ready .any ops listed).contains k&&Rn nb ops oos listed k&&mQ nb ops oos fuel (k+1) (listed.setIfInBounds k true)
def qC (P:Program)(kf:FuncId→Option Nat)(dt dp zn:Bool)(zl tr:List Nat):Code→Option ACode
 | .skip=>some .skip
 | .region _ ops draw=>match fy (vZ P kf ⟨draw,dt,false,false,dp,zn,zl,tr,none⟩ ops) ops.toList with
  |some os=>if draw then(if mQ false ops os ops.size 0 (Array.replicate ops.size false)then some (.region os)else(match fy (vZ P kf ⟨draw,dt,true,false,dp,zn,zl,tr,none⟩ ops) ops.toList,fy (vZ P kf ⟨draw,dt,false,true,dp,zn,zl,tr,none⟩ ops) ops.toList with
   |some os',some os2=>if mQ false ops os' ops.size 0 (Array.replicate ops.size false)then some (.region os')else if mQ false ops os2 ops.size 0 (Array.replicate ops.size false)then some (.region os2)else(match fy (vZ P kf ⟨draw,dt,false,false,dp,zn,zl,tr,Vs os⟩ ops) ops.toList with
    |some os3=>if mQ true ops os3 ops.size 0 (Array.replicate ops.size false)then some (.region os3)else none
    |none=>none)
   |_,_=>none))else some (.region os)
  |none=>none
 | .seq a b=>match qC P kf dt dp zn zl tr a,qC P kf dt dp zn zl tr b with
  |some a,some b=>some (.seq a b)
  |_,_=>none
 | .cond c a b=>match gl c,qC P kf dt dp zn zl tr a,qC P kf dt dp zn zl tr b with
  |some c,some a,some b=>some (.cond c a b)
  |_,_,_=>none
 | .block id c=>(qC P kf dt dp zn zl tr c).map (.block id)
 | .loop c=>(qC P kf dt dp zn zl tr c).map .loop
 | .exit id=>some (.exit id)
 | .ret=>some .ret
 |_=>none
def O6 (P:Program):ResultVar→Option ARes
 | .tmp t=>some (.tmp t)
 | .cell t ty=>match jA P ty,o7 P ty with
  |some true,some n=>some (.cell t n)
  |_,_=>none
def VA :List Nat:=[226,222,313,311,326,323,309,308,299,298,301,300,303,302,564,561,597,594,603,604,601,548,547,542,541,562,559,563,560,582,592,600,575,581,591,583,576,551,549,536,535,580,574,649,646]
def Vz :List Nat:=[255,75,34,89,66,35,7,53,22,60,274,266,254,85,59,27,233,93,74,43,281,204,170,278,273,265,253,232,231,73,42,12,134,81,49,267,80,48,17,256,234,202,168,135,203,169,136,201,167,133,137,138,106,113,261,242,218,191,498,491,334,490,501,499,492,478,456,493,479,457,458,459,460,461,434,424,496,239,187,487,477,329,454,486,451,500,455,497,488,452,453,476,450,433,214,489,495,423,538,537,619,621,635,623,639,662,627,650,674,629,653,631,633,625,542,643,640,645,644]
def VE :List (Nat×List Nat):=[(397,[8,9]),(393,[6,7]),(498,[1000002,5000002]),(496,[1000002,5000002]),(627,[2000000003,13000001,15000002]),(640,[4999999])]
def zK :List (Nat×List Nat):=[(416,[32,36]),(417,[23,26]),(502,[11]),(610,[38,43]),(611,[29,33]),(612,[29,33]),(614,[38,43]),(615,[41,47]),(616,[32,36]),(617,[20,22]),(613,[28,30,33]),(534,[32,36]),(533,[32,36]),(532,[38,40])]
def N6 {α:Type}(b:Bool)(f:Bool→α):α:=match b with
 |true=>f true
 |false=>f false
def IU {α:Type}(l:List Nat)(f:List Nat→α):α:=match l with
 |[]=>f []
 |[a]=>f [a]
 |[a,b]=>f [a,b]
 |l=>f l
theorem Rm {α:Type}(b:Bool)(f:Bool→α):N6 b f=f b:=by cases b<;>rfl
theorem PG {α:Type}(l:List Nat)(f:List Nat→α):IU l f=f l:=by
 unfold IU;split<;>rfl
def UC (P:Program)(kf:FuncId→Option Nat)(k:Nat)(fn:Func):Option AFn:=
 match fn.body with
 |some c=>N6 (VA.contains k) fun dt=>N6 (Vz.contains k) fun dp=>N6 (Vo.contains k||(zK.lookup k).isSome) fun zn=>IU ((zK.lookup k).getD []) fun zl=>IU ((VE.lookup k).getD []) fun tr=>
  match qC P kf dt dp zn zl tr c,fy (O6 P) fn.results.toList with
  |some b,some rs=>if fn.name== "runtime.NumGoroutine" then none else some ⟨fn.ntmps,rs,b⟩
  |_,_=>none
 |none=>none
theorem Iw (P:Program)(kf:FuncId→Option Nat)(k:Nat)(fn:Func):UC P kf k fn=
 match fn.body with
 |some c=>match qC P kf (VA.contains k) (Vz.contains k) (Vo.contains k||(zK.lookup k).isSome) ((zK.lookup k).getD []) ((VE.lookup k).getD []) c,fy (O6 P) fn.results.toList with
  |some b,some rs=>if fn.name== "runtime.NumGoroutine" then none else some ⟨fn.ntmps,rs,b⟩
  |_,_=>none
 |none=>none:=by
 unfold UC
 cases fn.body with
 |none=>rfl
 |some c=>simp only[Rm,PG]
variable {KI:KF}
section
variable {Γ:Ctx}{P:Program}{M0:Nat→Prop}{base:Nat}{σ:St}{a:Act}{w:World}{ρ:List (Option Nat)}
theorem aw (s:SR Γ M0 base σ a w ρ){x:Operand}{y:Opd}(h:gl x=some y):VR (Mu M0 ρ σ.h) w ρ σ.h (y.ev σ) (a.eval x):=by
 unfold gl at h
 split at h<;>cases h
 ·exact s.fr.eval _
 ·simp[Opd.ev,VR,LR,ap,Act.eval]
 ·simp[Opd.ev,VR,LR,ap,Act.eval]
 ·simp[Opd.ev,VR,LR,ap,Act.eval]
 ·simp[Opd.ev,VR,LR,Act.eval]
theorem VR.int {M:Nat→Prop}{h:List AObj}{x:V}{u:Value}{k:IntKind}{n:Int}(r:VR M w ρ h x u)(e:isInt x=some (k,n)):u= .int k n:=by
 unfold isInt at e
 split at e<;>simp at e
 obtain⟨rfl,rfl⟩:=e
 simpa[VR,LR,ap]using r
theorem VR.bool {M:Nat→Prop}{h:List AObj}{x:V}{u:Value}{b:Bool}(r:VR M w ρ h x u)(e:isBool x=some b):u= .bool b:=by
 unfold isBool at e
 split at e<;>simp at e
 subst e
 simpa[VR,LR,ap]using r
theorem VR.str {M:Nat→Prop}{h:List AObj}{x:V}{u:Value}{s:List UInt8}(r:VR M w ρ h x u)(e:isStr x=some s):u= .string ⟨s.toArray⟩:=by
 unfold isStr at e
 split at e<;>simp at e
 subst e
 simpa[VR,LR,ap]using r
theorem VR.mkInt {M:Nat→Prop}{h:List AObj}(k:IntKind)(n:Int):VR M w ρ h (aa k n) (.int k n):=by simp[VR,LR,ap]
theorem VR.mkBool {M:Nat→Prop}{h:List AObj}(b:Bool):VR M w ρ h (av b) (.bool b):=by simp[VR,LR,ap]
theorem VR.mkStr {M:Nat→Prop}{h:List AObj}(s:List UInt8):VR M w ρ h (f9 s) (.string ⟨s.toArray⟩):=by simp[VR,LR,ap]
theorem vC (l:List UInt8):(⟨l.toArray⟩:ByteArray).toList=l:=by
 have:(⟨l.toArray⟩:ByteArray).toList=l:=by simp[ByteArray.toList_eq]
 exact this
theorem KC (op:BinOp)(t:TypeId)(x y:Operand)(k k':IntKind)(m n:Int):(eqGuard op t x y (.int k m) (.int k' n)).run P w= .ok () w:=by
 unfold eqGuard;split<;>simp
theorem KD (op:BinOp)(t:TypeId)(x y:Operand)(m n:ByteArray):(eqGuard op t x y (.string m) (.string n)).run P w= .ok () w:=by
 unfold eqGuard;split<;>simp
theorem xW (op:BinOp)(t:TypeId)(x y:Operand)(m n:Bool):(eqGuard op t x y (.bool m) (.bool n)).run P w= .ok () w:=by
 unfold eqGuard;split<;>simp
theorem Gu {op:BinOp}{k:IntKind}{m n:Int}{t:TypeId}{v:V}(h:bV op k m n=some v)(hs:op≠ .shl∧op≠ .shr):∃u,(binOp op t (.int k m) (.int k n)).run P w= .ok u w∧∀M h',VR M w ρ h' v u:=by
 cases op<;>simp[bV]at h hs<;>(try subst h)
 case quo=>
  obtain⟨h0,rfl⟩:=h
  exact⟨_,by simp[binOp,Op.intDiv,h0],fun _ _=>VR.mkInt _ _⟩
 case rem=>
  obtain⟨h0,rfl⟩:=h
  exact⟨_,by simp[binOp,Op.intDiv,h0],fun _ _=>VR.mkInt _ _⟩
 case and=>exact⟨_,by simp[binOp,Op.intBits],fun _ _=>VR.mkInt _ _⟩
 case or=>exact⟨_,by simp[binOp,Op.intBits],fun _ _=>VR.mkInt _ _⟩
 case add=>exact⟨_,by simp[binOp,Op.intArith],fun _ _=>VR.mkInt _ _⟩
 case sub=>exact⟨_,by simp[binOp,Op.intArith],fun _ _=>VR.mkInt _ _⟩
 case mul=>exact⟨_,by simp[binOp,Op.intArith],fun _ _=>VR.mkInt _ _⟩
 all_goals exact⟨_,by simp[binOp,Op.intCmp],fun _ _=>VR.mkBool _⟩
theorem tn {op:BinOp}{k k':IntKind}{m n:Int}{t:TypeId}{v:V}(h:jN op k m n=some v)(hs:op= .shl∨op= .shr):∃u,(binOp op t (.int k m) (.int k' n)).run P w= .ok u w∧∀M h',VR M w ρ h' v u:=by
 unfold jN at h
 split at h
 ·cases h
 ·rename_i hn
  rcases hs with rfl|rfl<;>simp at h<;>subst h
  ·exact⟨_,by simp[binOp,Op.shift,hn],fun _ _=>VR.mkInt _ _⟩
  ·exact⟨_,by simp[binOp,Op.shift,hn],fun _ _=>VR.mkInt _ _⟩
theorem Gv {op:BinOp}{x y:List UInt8}{t:TypeId}{v:V}(h:je op x y=some v):∃u,(binOp op t (.string ⟨x.toArray⟩) (.string ⟨y.toArray⟩)).run P w= .ok u w∧∀M h',VR M w ρ h' v u:=by
 have e1:=vC x
 have e2:=vC y
 cases op<;>simp[je]at h<;>(try subst h)
 case add=>
  obtain⟨hl,rfl⟩:=h
  refine⟨.string ⟨(x++y).toArray⟩,?_,fun _ _=>VR.mkStr _⟩
  have h1:¬(((⟨x.toArray⟩:ByteArray).size+(⟨y.toArray⟩:ByteArray).size:Nat):Int)>IntKind.i64.max:=by
   have a1:(⟨x.toArray⟩:ByteArray).size=x.length:=by simp[ByteArray.size]
   have a2:(⟨y.toArray⟩:ByteArray).size=y.length:=by simp[ByteArray.size]
   rw[a1,a2]
   have:IntKind.i64.max=9223372036854775807:=by decide
   rw[this]
   omega
  have h2:((⟨x.toArray⟩:ByteArray)++(⟨y.toArray⟩:ByteArray))=⟨(x++y).toArray⟩:=by
   apply ByteArray.ext
   simp
  simp only[binOp,Op.stringOp,if_neg h1,h2]
  simp
 all_goals exact⟨_,by simp[binOp,Op.stringOp,e1,e2],fun _ _=>VR.mkBool _⟩
theorem HA {op:BinOp}{x y v:V}{u1 u2:Value}{t:TypeId}{ox oy:Operand}{M:Nat→Prop}{h:List AObj}(hb:bin op x y=some v)(r1:VR M w ρ h x u1)(r2:VR M w ρ h y u2):
 ∃u,(do eqGuard op t ox oy u1 u2;binOp op t u1 u2:Sem Value).run P w= .ok u w∧VR M w ρ h v u:=by
 unfold bin at hb
 split at hb
 ·rename_i k m k' n
  obtain rfl:u1= .int k m:=by simpa[VR,LR,ap]using r1
  obtain rfl:u2= .int k' n:=by simpa[VR,LR,ap]using r2
  have step:∀{v':V},(∃u,(binOp op t (.int k m) (.int k' n)).run P w= .ok u w∧∀M h',VR M w ρ h' v' u)→∃u,(do eqGuard op t ox oy (.int k m) (.int k' n);binOp op t (.int k m) (.int k' n):Sem Value).run P w= .ok u w∧VR M w ρ h v' u:=by
   rintro v' ⟨u,hu,hr⟩
   exact⟨u,by rw[Sem.run_bind,KC,Result.andThen_ok];exact hu,hr _ _⟩
  split at hb
  ·exact step (tn hb (.inl rfl))
  ·exact step (tn hb (.inr rfl))
  ·rename_i h1 h2
   split at hb
   ·rename_i e
    subst e
    exact step (Gu hb ⟨h1,h2⟩)
   ·cases hb
 ·rename_i m n
  obtain rfl:u1= .string ⟨m.toArray⟩:=by simpa[VR,LR,ap]using r1
  obtain rfl:u2= .string ⟨n.toArray⟩:=by simpa[VR,LR,ap]using r2
  obtain⟨u,hu,hr⟩:=Gv (P:=P) (w:=w) (ρ:=ρ) (t:=t) hb
  exact⟨u,by rw[Sem.run_bind,KD,Result.andThen_ok];exact hu,hr _ _⟩
 ·cases hb
theorem Si {op:UnOp}{x v:V}{u1:Value}{M:Nat→Prop}{h:List AObj}(hb:un op x=some v)(r1:VR M w ρ h x u1):∃u,(Op.unary op u1).run P w= .ok u w∧VR M w ρ h v u:=by
 unfold un at hb
 split at hb
 ·rename_i b
  obtain rfl:u1= .bool b:=by simpa[VR,LR,ap]using r1
  cases hb
  exact⟨_,by simp[Op.unary],VR.mkBool _⟩
 ·rename_i k n
  obtain rfl:u1= .int k n:=by simpa[VR,LR,ap]using r1
  cases hb
  exact⟨_,by simp[Op.unary,Op.intArith],VR.mkInt _ _⟩
 ·cases hb
theorem V.not_tup {x:V}(h:x.cells.all plain=true):∀xs,x≠ .tup xs:=by
 rintro xs rfl
 simp[V.cells,plain]at h
theorem VR.cells {M:Nat→Prop}{h:List AObj}{x:V}{u:Value}(r:VR M w ρ h x u)(hx:∀xs,x≠ .tup xs):ru M w ρ h x.cells u.cells.toList:=by
 cases x with
 |one l=>
  have h1:u.oneCell'=true:=LR.one r
  have:u.cells= #[u]:=by cases u<;>first|rfl|cases h1
  rw[this]
  exact⟨rfl,fun i l' v hl hv=>by
   cases i with
   |zero=>simp[V.cells]at hl hv;subst hl;subst hv;exact r
   |succ i=>simp[V.cells]at hl⟩
 |agg ls=>obtain⟨cs,rfl,hl⟩:=r;exact hl
 |tup xs=>exact absurd rfl (hx xs)
theorem HG {g:Bool}{n j:Nat}{cs:List L}{v:V}{us:List Value}{M:Nat→Prop}{h:List AObj}(hc:gn g n j cs=some v)(r:ru M w ρ h cs us):
 (g=true∧j+n≤us.length∧VR M w ρ h v (.agg ((us.drop j).take n).toArray))∨(g=false∧n=1∧∃u,us[j]? =some u∧VR M w ρ h v u):=by
 unfold gn at hc
 split at hc
 ·rename_i hle
  split at hc
  ·rename_i hg
   cases hc
   refine .inl ⟨hg,by rw[←r.1];exact hle,_,rfl,?_,fun i l u hl hu=> ?_⟩
   ·simp[r.1]
   ·simp only[Z4,Y0]at hl hu
    split at hl
    ·rename_i hi
     simp only[hi,if_true]at hu
     exact r.2 _ l u hl hu
    ·cases hl
  ·rename_i hg
   split at hc
   ·rename_i hn
    split at hc
    ·rename_i l hl
     cases hc
     have hj:j<us.length:=by rw[←r.1];omega
     exact .inr ⟨by simpa using hg,hn,us[j],by simp[hj],r.2 j l _ hl (by simp[hj])⟩
    ·cases hc
   ·cases hc
 ·cases hc
theorem MY {h:List AObj}{g:Bool}{n:Nat}{x v:V}{u:Value}(k:HR M0 base w ρ h)(hl:bo h g n x=some v)(r:VR (Mu M0 ρ h) w ρ h x u):
 ∃b o,u= .pointer (some ⟨b,o,none⟩)∧
  ((g=true∧∃us:List Value,us.length=n∧w.rangeAt b o us∧VR (Mu M0 ρ h) w ρ h v (.agg us.toArray))∨(g=false∧n=1∧∃u',w.cell? ⟨b,o,none⟩=some u'∧VR (Mu M0 ρ h) w ρ h v u')):=by
 have fin:∀{cs:List L}{us:List Value}{j b o0:Nat},gn g n j cs=some v→ru (Mu M0 ρ h) w ρ h cs us→(∀i u',us[i]? =some u'→w.cell? ⟨b,o0+i,none⟩=some u')→u= .pointer (some ⟨b,o0+j,none⟩)→
  ∃b o,u= .pointer (some ⟨b,o,none⟩)∧
  ((g=true∧∃us:List Value,us.length=n∧w.rangeAt b o us∧VR (Mu M0 ρ h) w ρ h v (.agg us.toArray))∨(g=false∧n=1∧∃u',w.cell? ⟨b,o,none⟩=some u'∧VR (Mu M0 ρ h) w ρ h v u')):=by
  intro cs us j b o0 hc hls hcell hu
  refine⟨b,o0+j,hu,?_⟩
  rcases HG hc hls with⟨hg,hle,hv⟩|⟨hg,hn,u',hu',hv⟩
  ·refine .inl ⟨hg,(us.drop j).take n,by simp;omega,fun i u' hi=> ?_,hv⟩
   simp only[Z4,Y0]at hi
   split at hi
   ·have:=hcell _ u' hi
    rwa[show o0+j+i=o0+(j+i) by omega]
   ·cases hi
  ·exact .inr ⟨hg,hn,u',hcell j u' hu',hv⟩
 have rowcase:∀{z:Nat}{es:List (List PV)}{e:List PV}{i j b:Nat}{cur:Array Value},es[i]? =some e→(∀e∈es,e.length=z)→gg w b cur→
  (∀(i:Nat)(e:List PV)(j:Nat)(p:PV),es[i]? =some e→e[j]? =some p→∃v,cur[i*z+j]? =some v∧ap (Mu M0 ρ h) w p v)→gn g n j (e.map .pv)=some v→u= .pointer (some ⟨b,i*z+j,none⟩)→
  ∃b o,u= .pointer (some ⟨b,o,none⟩)∧
  ((g=true∧∃us:List Value,us.length=n∧w.rangeAt b o us∧VR (Mu M0 ρ h) w ρ h v (.agg us.toArray))∨(g=false∧n=1∧∃u',w.cell? ⟨b,o,none⟩=some u'∧VR (Mu M0 ρ h) w ρ h v u')):=by
  intro z es e i j b cur he hz hrow hcells hc hu
  have hlen:∀j',j'<e.length→∃v,cur[i*z+j']? =some v∧ap (Mu M0 ρ h) w (e[j']?.getD (.bool false)) v:=fun j' hj'=>by
   obtain⟨v,hv,hr⟩:=hcells i e j' (e[j']) he (by simp[hj'])
   exact⟨v,hv,by simpa[hj']using hr⟩
  have us:∃us:List Value,us.length=e.length∧∀i' u',us[i']? =some u'→cur[i*z+i']? =some u':=by
   refine⟨(List.range e.length).map fun i'=>cur[i*z+i']?.getD undef,by simp,fun i' u' hu'=> ?_⟩
   simp only[Zp,Zj]at hu'
   obtain⟨x,hx,rfl⟩:=hu'
   obtain⟨h1,h2⟩:=Zb.1 hx
   simp at h1 h2
   subst h2
   obtain⟨v,hv,_⟩:=hlen i' h1
   simp[hv]
  obtain⟨us,hl1,hl2⟩:=us
  refine fin (us:=us) (o0:=i*z) (b:=b) hc ⟨by simp[hl1],fun i' l u' hl hu'=> ?_⟩ (fun i' u' hu'=>by rw[hrow.cell];exact hl2 i' u' hu') hu
  simp only[Zp,Zj]at hl
  obtain⟨p,hp,rfl⟩:=hl
  obtain⟨v',hv',hr⟩:=hcells i e i' p he hp
  have:=hl2 i' u' hu'
  rw[hv']at this
  cases this
  exact hr
 unfold bo at hl
 split at hl
 ·rename_i o i j
  obtain⟨r0,ob,hr0,hob,hpt⟩:=r
  split at hl
  ·rename_i cs hcs
   rw[hcs]at hob;cases hob
   split at hl
   ·rename_i hi
    subst hi
    obtain⟨b,cur,e,hbase,hrow,hls⟩:=k.objs o _ r0 hcs hr0
    obtain⟨b',e',hu⟩:=hpt
    rw[e]at e';cases e'
    simp[AObj.z]at hu
    exact fin (o0:=0) (b:=b) hl hls (fun i u' hi=>by rw[hrow.cell];simpa using hi) (by simpa using hu)
   ·cases hl
  ·rename_i z es hcs
   rw[hcs]at hob;cases hob
   obtain⟨hz,hes,kx⟩:=k.objs o _ r0 hcs hr0
   obtain⟨b',e',hu⟩:=hpt
   subst e'
   obtain⟨_,cur,cap,hrow,h1,h2,h3,h4⟩:=kx
   split at hl
   ·rename_i e he
    exact rowcase he hes hrow h4 hl (by simpa[AObj.z]using hu)
   ·cases hl
  ·rename_i z es hcs
   rw[hcs]at hob;cases hob
   obtain⟨hz,hes,kx⟩:=k.objs o _ r0 hcs hr0
   obtain⟨b',e',hu⟩:=hpt
   subst e'
   obtain⟨_,cur,cap,hrow,h1,h2,h3,h4⟩:=kx
   split at hl
   ·rename_i e he
    exact rowcase he hes hrow h4 hl (by simpa[AObj.z]using hu)
   ·cases hl
  ·rename_i z es hcs
   rw[hcs]at hob;cases hob
   obtain⟨hz,hes,kx⟩:=k.objs o _ r0 hcs hr0
   obtain⟨b',e',hu⟩:=hpt
   subst e'
   obtain⟨_,cur,cap,hrow,h1,h2,h3,h4⟩:=kx
   split at hl
   ·rename_i e he
    exact rowcase he hes hrow h4 hl (by simpa[AObj.z]using hu)
   ·cases hl
  ·rename_i ps hcs
   rw[hcs]at hob;cases hob
   split at hl
   ·rename_i hi
    subst hi
    obtain⟨b,cur,e,hm,hrow,hlen,hrd⟩:=k.objs o _ r0 hcs hr0
    obtain⟨b',e',hu⟩:=hpt
    rw[e]at e';cases e'
    simp[AObj.z]at hu
    refine fin (us:=cur.toList) (o0:=0) (b:=b) hl ⟨by simp[hlen],fun i' l u' hl' hu'=> ?_⟩ (fun i u' hi=>by rw[hrow.cell];simpa using hi) (by simpa using hu)
    simp only[Zp,Zj]at hl'
    obtain⟨p,hp,rfl⟩:=hl'
    obtain⟨v',hv',hr⟩:=hrd i' p hp
    have:cur[i']? =some u':=by simpa using hu'
    rw[hv']at this
    cases this
    exact hr
   ·cases hl
  ·cases hl
 ·rename_i e j
  obtain⟨b,o,hu,hb,hlt,hrd⟩:=r
  have us:∃us:List Value,us.length=e.length∧∀i' u',us[i']? =some u'→w.cell? ⟨b,o+i',none⟩=some u':=by
   refine⟨(List.range e.length).map fun i'=>(w.cell? ⟨b,o+i',none⟩).getD undef,by simp,fun i' u' hu'=> ?_⟩
   simp only[Zp,Zj]at hu'
   obtain⟨x,hx,rfl⟩:=hu'
   obtain⟨h1,h2⟩:=Zb.1 hx
   simp at h1 h2
   subst h2
   obtain⟨v,hv,_⟩:=hrd.at (j:=i') (p:=e[i']) (by simp[h1])
   simp[hv]
  obtain⟨us,hl1,hl2⟩:=us
  refine fin (us:=us) (o0:=o) (b:=b) hl ⟨by simp[hl1],fun i' l u' hl hu'=> ?_⟩ hl2 hu
  simp only[Zp,Zj]at hl
  obtain⟨p,hp,rfl⟩:=hl
  obtain⟨v',hv',hr⟩:=hrd.at hp
  have:=hl2 i' u' hu'
  rw[hv']at this
  cases this
  exact hr
 ·cases hl
end
end Gi
