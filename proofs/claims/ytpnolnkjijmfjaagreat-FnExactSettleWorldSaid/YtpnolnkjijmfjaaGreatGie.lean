/- Of this proof. -/
import Derived.Test.YtpnolnkjijmfjaaGreatGic
import Derived.Orders
set_option linter.all false
namespace Gi
open Go
def cvL :Value->Option L
 | .int k n=>some (.pv (.int k n))
 | .bool b=>some (.pv (.bool b))
 | .string s=>some (.pv (.str s.data.toList))
 | .slice none 0 0=>some .nil
 |_=>none
def cvP :Value->Option PV
 | .int k n=>some (.int k n)
 | .bool b=>some (.bool b)
 | .string s=>some (.str s.data.toList)
 | .slice none 0 0=>some (.lst [])
 |_=>none
def kw :Operand->Option Opd
 | .tmp t=>some (.tmp t)
 | .const (.int k n)=>some (.pv (.int k n))
 | .const (.bool b)=>some (.pv (.bool b))
 | .const (.string s)=>some (.pv (.str s.data.toList))
 | .const (.slice none 0 0)=>some .nil
 |_=>none
def ql (kf:FuncId->Option Nat):Operand->Option Opd
 | .func f=>(kf f).map .fn
 |x=>kw x
def j5 {α β:Type}(f:α->Option β):List α->Option (List β)
 |[]=>some []
 |x::xs=>match f x,j5 f xs with
  |some y,some ys=>some (y::ys)
  |_,_=>none
def oh (P:Program)(t:TypeId):Option Bool:=
 match P.underlying t with
 |some (.struct _)=>some true
 |some (.array _ _)=>some true
 |some _=>some false
 |none=>none
def vX (P:Program)(t:TypeId):Option Nat:=(P.info? t).map (·.size)
def S9 (P:Program)(t:TypeId):Option Nat:=(P.info? t).map (·.bytes)
def si (P:Program)(t:TypeId):Option Value:=(P.info? t).bind (·.zero)
def lR (P:Program)(t:TypeId):Option TypeId:=
 match P.underlying t with
 |some (.slice e)=>some e
 |_=>none
def NI (P:Program)(t:TypeId)(f:Nat):Option Field:=
 match P.underlying t with
 |some (.struct fs)=>fs[f]?
 |_=>none
def TN (P:Program):Nat->TypeId->Bool
 |0,_=>false
 |n+1,t=>match P.underlying t with
  |some .bool=>true
  |some (.int _)=>true
  |some .string=>true
  |some (.struct fs)=>fs.toList.all fun f=>TN P n f.type
  |_=>false
def V7 (P:Program)(g:TypeId->Option (List EK)):List Field->Nat->Option (List EK)
 |[],_=>some []
 |f::fs,off=>if f.name≠ "_" /\ f.offset=off then(match g f.type with
  |some m=>if vX P f.type=some m.length/\ 0<m.length then(match V7 P g fs (off+m.length)with
   |some ks=>some (m++ks)
   |none=>none)else none
  |none=>none)else none
def eqT (P:Program):Nat->TypeId->Option (List EK)
 |0,_=>none
 |n+1,t=>match P.underlying t with
  |some .bool=>some [.b]
  |some (.int _)=>some [.i]
  |some .string=>some [.s]
  |some (.struct fs)=>if P.stoodInHeld t then none else V7 P (eqT P n) fs.toList 0
  |_=>none
structure Md where
 draw:Bool
 dt:Bool
 st:Bool
 sb:Bool
 dp:Bool
 zn:Bool
 zl:List Nat
 tr:List Nat
 nb:Option Nat
def jm (P:Program)(kf:FuncId->Option Nat)(md:Md):Op->Option AOp
 | .move x=>(kw x).map .mv
 | .assign x=>(kw x).map .mv
 | .pick c a b=>match kw c,kw a,kw b with
  |some c,some a,some b=>some (.pick c a b)
  |_,_,_=>none
 | .alloc t=>match si P t with
  |some v=>match j5 cvL v.cells.toList with
   |some cs=>some (.alloc cs)
   |none=>none
  |none=>none
 | .box _ x=>(kw x).map .box
 | .build t parts=>match P.underlying t,si P t,j5 (fun x=>match NI P t x.1,kw x.2 with
  |some f,some y=>(vX P f.type).map fun n=>(f.offset,n,y)
  |_,_=>none) parts.toList with
  |some (.struct fs),some v,some ps=>match j5 cvL v.cells.toList with
   |some cs=>if fs.toList.all (fun f=>(vX P f.type).isSome)then some (.build cs ps)else none
   |none=>none
  |some (.array _ e),some v,some []=>match j5 cvL v.cells.toList,vX P e with
   |some cs,some _=>some (.build cs [])
   |_,_=>none
  |_,_,_=>none
 | .buildSlice t n parts=>match lR P t,j5 (fun x=>kw x.2) parts.toList with
  |some e,some ps=>match vX P e,si P e with
   |some z,some v=>if(parts.toList.map (·.1)==List.range n)&&v.cells.size==z then some (if md.st&&(ps.isEmpty|| !md.dp)then .bc z ps else .bO z ps)else none
   |_,_=>none
  |_,_=>none
 | .load t a=>match oh P t,vX P t,kw a with
  |some g,some n,some a=>some (if md.st then .c7 g n a else .load g n a)
  |_,_,_=>none
 | .store t a v=>match vX P t,kw a,kw v with
  |some n,some a,some v=>some (.store n a v)
  |_,_,_=>none
 | .binOp op t x y _=>match P.underlying t,kw x,kw y with
  |some .bool,some x,some y=>match op with
   | .eql=>some (.cX false x y)
   | .neq=>some (.cX true x y)
   |_=>none
  |some (.int _),some x,some y=>some (.bin op x y)
  |some .string,some x,some y=>some (.bin op x y)
  |some (.struct _),some x,some y=>match eqT P 6 t,P.eqGuardType P.depth t with
   |some n,false=>match op with
    | .eql=>some (.cY false n x y)
    | .neq=>some (.cY true n x y)
    |_=>none
   |_,_=>none
  |_,_,_=>none
 | .unOp op _ x=>(kw x).map (.un op)
 | .convert s d x=>match P.underlying s,P.underlying d,kw x with
  |some (.int _),some (.int k),some x=>some (.conv k x)
  |some (.slice e),some .string,some x=>match P.underlying e with
   |some (.int .u8)=>some (.cS x)
   |_=>none
  |some .string,some (.slice e),some x=>match P.underlying e,vX P e with
   |some (.int .u8),some 1=>some (.cM x)
   |_,_=>none
  |_,_,_=>none
 | .makeSlice t n m=>match lR P t,kw n,kw m with
  |some e,some (.tmp a),some (.tmp b)=>if a=b then(match S9 P e,vX P e,si P e with
   |some ay,some z,some v=>match j5 cvP v.cells.toList with
    |some zs=>if zs.length=z then some (.make ay zs (.tmp a))else none
    |none=>none
   |_,_,_=>none)else none
  |_,_,_=>none
 | .slice t x lo hi mx=>match P.underlying t,kw x,j5 kw lo.toList,j5 kw hi.toList,mx with
  |some (.slice e),some x,some lo,some hi,none=>match vX P e with
   |some z=>if z=0 then none else some (if md.st then .c8 z x lo.head? hi.head? else .c2 z x lo.head? hi.head?)
   |none=>none
  |_,_,_,_,_=>none
 | .nilCheck x=>(kw x).map (.bo · 0)
 | .fieldAddr t x f=>match NI P t f,kw x with
  |some fd,some x=>match vX P fd.type with
   |some n=>if n=0 then none else some (.bo x fd.offset)
   |none=>none
  |_,_=>none
 | .indexAddr t x i=>match lR P t,kw x,kw i with
  |some e,some x,some i=>match vX P e with
   |some z=>some (.bH z x i)
   |none=>none
  |_,_,_=>none
 | .index t x i=>match P.underlying t,kw x,kw i with
  |some .string,some x,some i=>some (.cD x i)
  |_,_,_=>none
 | .extract x i=>(kw x).map (.extract · i)
 | .call c=>match c.callee with
  | .value (.func f)=>match kf f,j5 (ql kf) c.args.toList,P.funcs[f]? with
   |some k,some xz,some fn=>if fn.origin== "slices.Insert" then(match xz,fn.params.toList with
    |[x,i,v],t::_=>match lR P t with
     |some e=>match vX P e,S9 P e with
      |some z,some b=>some (.insert k z b x i v)
      |_,_=>none
     |none=>none
    |_,_=>none)else if fn.origin== "slices.DeleteFunc" then(match xz,fn.params.toList with
    |[x,g],t::_=>match lR P t with
     |some e=>match vX P e with
      |some z=>some (.c9 k z x g)
      |none=>none
     |none=>none
    |_,_=>none)else if fn.origin== "slices.Delete" then none else some (if md.dt&& !md.draw&& !(fn.resultTypes.toList.all (TN P 6))then .bS k xz else .call k xz (fn.resultTypes.toList.all (TN P 6)) md.draw)
   |_,_,_=>none
  | .value (.tmp t)=>match j5 kw c.args.toList with
   |some xz=>some (.bp (.tmp t) xz)
   |none=>none
  | .builtin .len=>match c.args.toList,c.argTypes.toList with
   |[x],[t]=>match P.underlying t,kw x with
    |some .string,some x=>some (.cN x)
    |some (.slice _),some x=>some (.len x)
    |_,_=>none
   |_,_=>none
  | .builtin .append=>match c.args.toList,c.argTypes.toList with
   |[x,y],[t,u]=>match lR P t,P.underlying u,kw x,kw y with
    |some e,some (.slice _),some x,some y=>match vX P e,S9 P e,si P e with
     |some z,some b,some v=>if v.cells.size=z/\ t=u then some (.append z b x y)else none
     |_,_,_=>none
    |some e,some .string,some x,some y=>match P.underlying e,vX P e,S9 P e,si P e with
     |some (.int .u8),some 1,some b,some (.int .u8 0)=>some (.bT b x y)
     |_,_,_,_=>none
    |_,_,_,_=>none
   |_,_=>none
  | .builtin .min=>match c.args.toList with
   |[x,y]=>match kw x,kw y with
    |some x,some y=>some (.mm false x y)
    |_,_=>none
   |_=>none
  | .builtin .max=>match c.args.toList with
   |[x,y]=>match kw x,kw y with
    |some x,some y=>some (.mm true x y)
    |_,_=>none
   |_=>none
  |_=>none
 | .makeFunc (.func f) first caps=>match kf f,j5 kw caps.toList with
  |some k,some cs=>if first.isEmpty then some (.cE k cs)else none
  |_,_=>none
 |_=>none
def AOp.isF :AOp->Bool
 | .alloc _=>false
 | .box _=>false
 | .bO _ _=>false
 | .store _ _ _=>false
 | .storeD _ _ _=>false
 | .bZ _ _=>false
 | .bJ _ _ _ _=>false
 | .bP _ _=>false
 | .bY _ _ _=>false
 | .bg _ _=>false
 | .bh _ _ _=>false
 | .make _ _ _=>false
 | .append _ _ _ _=>false
 | .bT _ _ _=>false
 | .bS _ _=>false
 | .c2 _ _ _ _=>false
 | .cE _ _=>false
 | .insert _ _ _ _ _ _=>false
 | .c9 _ _ _ _=>false
 | .bR _ _ _=>false
 | .bX _=>false
 | .storeT _ _ _=>false
 | .bd _=>false
 | .bK _ _=>false
 | .c5 _ _=>false
 | .bt _ _=>false
 | .storeAt _ _ _ _=>false
 | .call _ _ fl fz=>fl||fz
 |_=>true
def Nl (ops:Array Oper):Option (Nat×Bool)->Option (Option (Nat×Bool))
 |none=>some none
 |some (j,w)=>match ops[j]? with
  |some o=>match o.dst with
   |some t=>some (some (t,w))
   |none=>none
  |none=>none
def af1 :List Nat:=[653]
def U5 (zl:List Nat)(mk:Bool)(dst:Option Nat):AOp->AOp
 | .load g n a=> .bq g n a
 | .store n a v=> .bY n a v
 | .bH z x i=> .bN z x i
 | .len x=> .c3 x
 | .call f xz fl fz=>match xz with
  |[x,k]=>if mk then .bh f x k else if(dst.map zl.contains).getD false then .bg f [x,k]else if fl then .bf f [x,k]else if fz then .call f [x,k] fl fz else .bS f [x,k]
  |xz=>if(dst.map zl.contains).getD false then .bg f xz else if fl then .bf f xz else if fz then .call f xz fl fz else .bS f xz
 |op=>op
def BA (md:Md)(dst:Option Nat):AOp->AOp
 | .alloc zero=>match dst with
  |some t=>if md.tr.contains t then .bX zero.length else if md.tr.contains (t+1000000)then .bd zero else match md.tr.find? (fun x=>x/1000000==t+2)with
   |some x=> .bK (x%1000000) zero
   |none=> .alloc zero
  |none=> .alloc zero
 | .box x=>match dst with
  |some t=>match md.tr.find? (fun y=>y%1000000000==t&&Nat.ble 1000000000 y)with
   |some y=> .c5 (y/1000000000) x
   |none=> .box x
  |none=> .box x
 | .store n a v=>match a with
  | .tmp t=>if md.tr.contains t then .storeT n (.tmp t) v else match(if md.tr.contains 4999998 then md.tr.find? (fun x=>x/1000000==t+2)else none)with
   |some x=> .storeAt (x%1000000) n (.tmp t) v
   |none=>if md.sb||md.nb==some t then .bR n (.tmp t) v else if md.dp then .storeD n (.tmp t) v else .store n (.tmp t) v
  |a=> .store n a v
 | .load g n a=>if md.sb then(match md.tr.find? (fun x=>Nat.ble 3000000000000 x)with
  |some x=> .bj g n a (x-3000000000000)
  |none=> .bs g n a)else match md.nb with
  |some r=> .bj g n a r
  |none=> .load g n a
 | .append z b x y=>if md.dp then .bJ z b x y else .append z b x y
 | .bO z ps=>if md.dp then .bZ z ps else .bO z ps
 | .call f xz fl fz=>if md.dp&& !fl&& !md.dt then(if af1.contains f then .bt f xz else .bP f xz)else .call f xz fl fz
 |op=>op
def Nm (P:Program)(kf:FuncId->Option Nat)(md:Md)(ops:Array Oper)(o:Oper):Option X2:=
 match jm P kf md o.op,Nl ops o.guard with
 |some op,some g=>some ⟨o.dst,op,g⟩
 |_,_=>none
def mkK :List Nat:=[474,444,475,447,539,472,473,421,443,485,471,442,427,449,448,445,428,446,429,441,426,430,431,420]
def afc (kf:FuncId->Option Nat):Op->Bool
 | .call c=>match c.callee with
  | .value (.func f)=>match kf f with
   |some k=>mkK.contains k
   |none=>false
  |_=>false
 |_=>false
def Bo (P:Program)(kf:FuncId->Option Nat)(md:Md)(ops:Array Oper)(o:Oper):Option X2:=
 match Nm P kf md ops o with
 |some x=>some ⟨x.dst,if md.zn then U5 md.zl (afc kf o.op) o.dst x.op else BA md o.dst x.op,x.guard⟩
 |none=>none
def AOp.bx :AOp->List Opd
 | .mv x=>[x]
 | .pick c a b=>[c,a,b]
 | .alloc _=>[]
 | .box x=>[x]
 | .build _ ps=>ps.map (·.2.2)
 | .bO _ ps=>ps
 | .load _ _ a=>[a]
 | .store _ a v=>[a,v]
 | .bin _ x y=>[x,y]
 | .cX _ x y=>[x,y]
 | .un _ x=>[x]
 | .conv _ x=>[x]
 | .cS x=>[x]
 | .make _ _ n=>[n]
 | .bo x _=>[x]
 | .bH _ x i=>[x,i]
 | .cD x i=>[x,i]
 | .extract x _=>[x]
 | .len x=>[x]
 | .cN x=>[x]
 | .append _ _ x y=>[x,y]
 | .bT _ x y=>[x,y]
 | .call _ xz _ _=>xz
 | .mm _ x y=>[x,y]
 | .cE _ cs=>cs
 | .bp x xz=>x::xz
 | .cY _ _ x y=>[x,y]
 | .c2 _ x lo hi=>x::(lo.toList++hi.toList)
 | .cM x=>[x]
 | .bS _ xz=>xz
 | .insert _ _ _ x i v=>[x,i,v]
 | .c9 _ _ x f=>[x,f]
 | .c7 _ _ a=>[a]
 | .c8 _ x lo hi=>x::(lo.toList++hi.toList)
 | .bc _ ps=>ps
 | .bs _ _ a=>[a]
 | .bj _ _ a r=>[a, .tmp (r%65536), .tmp (r/65536)]
 | .bR _ a v=>[a,v]
 | .bX _=>[]
 | .storeT _ a v=>[a,v]
 | .storeD _ a v=>[a,v]
 | .bZ _ ps=>ps
 | .bJ _ _ x y=>[x,y]
 | .bP _ xz=>xz
 | .c3 x=>[x]
 | .bN _ x i=>[x,i]
 | .bq _ _ a=>[a]
 | .bY _ a v=>[a,v]
 | .bf _ xz=>xz
 | .bg _ xz=>xz
 | .bh _ x k=>[x,k]
 | .bd _=>[]
 | .bK _ _=>[]
 | .c5 _ x=>[x]
 | .bt _ xz=>xz
 | .storeAt _ _ a v=>[a,v]
def Opd.tmps :Opd->List Nat
 | .tmp n=>[n]
 |_=>[]
def X2.reads (o:X2):List Nat:=o.op.bx.flatMap Opd.tmps++(match o.guard with|some (g,_)=>[g]|none=>[])
def zc (x y:X2):Bool:=
 (match x.dst with
  |some d=> !(y.reads).contains d&&y.dst !=some d
  |none=>true)&&
 (match y.dst with
  |some d=> !(x.reads).contains d
  |none=>true)
def AOp.cls :AOp->Nat
 | .load _ _ _=>1
 | .c7 _ _ _=>1
 | .bs _ _ _=>1
 | .bj _ _ _ _=>1
 | .bR _ _ _=>3
 | .bX _=>2
 | .storeT _ _ _=>3
 | .cS _=>1
 | .bH _ _ _=>1
 | .len _=>1
 | .c3 _=>1
 | .bN _ _ _=>1
 | .bq _ _ _=>1
 | .bf _ _=>1
 | .bY _ _ _=>3
 | .bg _ _=>3
 | .bh _ _ _=>3
 | .bd _=>2
 | .bK _ _=>2
 | .c5 _ _=>2
 | .bt _ _=>3
 | .storeAt _ _ _ _=>3
 | .bp _ _=>1
 | .insert _ _ _ _ _ _=>3
 | .c9 _ _ _ _=>3
 | .call _ _ fl fz=>if fl||fz then 1 else 3
 | .alloc _=>2
 | .box _=>2
 | .bO _ _=>2
 | .make _ _ _=>2
 | .c2 _ _ _ _=>2
 | .store _ _ _=>3
 | .storeD _ _ _=>3
 | .bZ _ _=>3
 | .bJ _ _ _ _=>3
 | .bP _ _=>3
 | .append _ _ _ _=>3
 | .bT _ _ _=>3
 | .bS _ _=>3
 | .cE _ _=>3
 |_=>0
def AOp.cU :AOp->Bool
 | .append _ _ _ _=>true
 | .bT _ _ _=>true
 | .bO _ _=>true
 | .make _ _ _=>true
 | .c2 _ _ _ _=>true
 | .bP _ _=>true
 | .bZ _ _=>true
 | .bJ _ _ _ _=>true
 |_=>false
def AOp.cc :AOp->Bool
 | .c7 _ _ _=>true
 |_=>false
def AOp.cZ (nb:Bool):AOp->Bool
 | .bs _ _ _=>true
 | .bH _ _ _=>true
 | .len _=>nb
 |_=>false
def AOp.cd :AOp->Bool
 | .bR _ _ _=>true
 |_=>false
def AOp.cf :AOp->Bool
 | .storeT _ _ _=>true
 |_=>false
def adM :AOp->AOp->Bool
 | .bK _ _, .bJ _ _ _ _=>true
 | .bJ _ _ _ _, .bK _ _=>true
 | .bK _ _, .bP _ _=>true
 | .bP _ _, .bK _ _=>true
 |_,_=>false
def abK :AOp->AOp->Bool
 | .bX n, .bX m=>n==m
 |_,_=>false
def lnR (r t:Nat):Bool:=r%65536==t||(!(r/65536==0)&&r/65536==t)
def aff :AOp->AOp->Bool
 | .bj _ _ _ r, .bR _ (.tmp t) _=>lnR r t
 | .bR _ (.tmp t) _, .bj _ _ _ r=>lnR r t
 |_,_=>false
def af5 (os:List X2):Option Nat:=os.findSome? fun o=>match o.op with
 | .store _ (.tmp t) _=>some t
 |_=>none
def AOp.place :AOp->Option Nat
 | .bK i _=>some i
 | .storeAt i _ _ _=>some i
 |_=>none
def afk (x y:AOp):Bool:=match x.place,y.place with
 |some i,some j=>i !=j
 |_,_=>false
def PO (nb:Bool)(x y:X2):Bool:=zc x y&&(x.op.cls==0||y.op.cls==0||(x.op.cls==1&&Nat.ble y.op.cls 2)||(x.op.cc&&y.op.cU)||(x.op.cU&&y.op.cc)||(x.op.cZ nb&&y.op.cd)||(x.op.cd&&y.op.cZ nb)||x.op.cf||y.op.cf||abK x.op y.op||adM x.op y.op||aff x.op y.op||afk x.op y.op)
def VC (listed:Array Bool)(k:Nat):List Oper->Array Bool->Array Bool
 |[],acc=>acc
 |o::r,acc=>VC listed k r (acc.push (o.after.any fun e=>Region.binds .any e&& !(listed.getD e.on true)&&(e.on==k||acc.getD e.on false)))
def abb (nb:Bool)(ops:Array Oper)(ae:List X2)(listed:Array Bool)(k:Nat):Bool:=
 let an:=VC listed k ops.toList #[]
 (List.range ae.length).all fun j=>j==k||listed.getD j true||an.getD j false||(match ae[k]?,ae[j]? with
  |some x,some y=>PO nb x y
  |_,_=>false)
def rh (nb:Bool)(ops:Array Oper)(ae:List X2):Nat->Nat->Array Bool->Bool
 |0,_,listed=>(Region.ready .any ops listed).isEmpty
 |fuel+1,k,listed=>(Region.ready .any ops listed).contains k&&abb nb ops ae listed k&&rh nb ops ae fuel (k+1) (listed.setIfInBounds k true)
def wb (P:Program)(kf:FuncId->Option Nat)(dt dp zn:Bool)(zl tr:List Nat):Code->Option Q7
 | .skip=>some .skip
 | .region _ ops draw=>match j5 (Bo P kf ⟨draw,dt,false,false,dp,zn,zl,tr,none⟩ ops) ops.toList with
  |some os=>if draw then(if rh false ops os ops.size 0 (Array.replicate ops.size false)then some (.region os)else(match j5 (Bo P kf ⟨draw,dt,true,false,dp,zn,zl,tr,none⟩ ops) ops.toList,j5 (Bo P kf ⟨draw,dt,false,true,dp,zn,zl,tr,none⟩ ops) ops.toList with
   |some aq,some ar=>if rh false ops aq ops.size 0 (Array.replicate ops.size false)then some (.region aq)else if rh false ops ar ops.size 0 (Array.replicate ops.size false)then some (.region ar)else(match j5 (Bo P kf ⟨draw,dt,false,false,dp,zn,zl,tr,af5 os⟩ ops) ops.toList with
    |some au=>if rh true ops au ops.size 0 (Array.replicate ops.size false)then some (.region au)else none
    |none=>none)
   |_,_=>none))else some (.region os)
  |none=>none
 | .seq a b=>match wb P kf dt dp zn zl tr a,wb P kf dt dp zn zl tr b with
  |some a,some b=>some (.seq a b)
  |_,_=>none
 | .cond c a b=>match kw c,wb P kf dt dp zn zl tr a,wb P kf dt dp zn zl tr b with
  |some c,some a,some b=>some (.cond c a b)
  |_,_,_=>none
 | .block id c=>(wb P kf dt dp zn zl tr c).map (.block id)
 | .loop c=>(wb P kf dt dp zn zl tr c).map .loop
 | .exit id=>some (.exit id)
 | .ret=>some .ret
 |_=>none
def VN (P:Program):ResultVar->Option Z9
 | .tmp t=>some (.tmp t)
 | .cell t ty=>match oh P ty,vX P ty with
  |some true,some n=>some (.cell t n)
  |_,_=>none
def dtK :List Nat:=[226,222,313,311,323,309,308,299,298,301,300,303,632,302,564,561,597,594,603,604,601,548,547,542,541,562,559,563,560,582,592,600,575,581,591,583,576,551,549,536,535,580,574,649,646,651]
def dpK :List Nat:=[255,75,34,89,66,35,7,53,22,60,274,266,254,85,59,27,233,93,74,43,281,204,170,278,273,265,253,232,231,73,42,12,134,81,49,267,80,48,17,256,234,202,168,135,203,169,136,201,167,133,137,138,106,113,261,242,218,191,498,491,334,490,501,499,492,478,456,493,479,457,458,459,460,461,434,424,496,239,187,487,477,329,454,486,451,500,455,497,488,452,453,476,450,433,214,489,495,538,537,619,621,635,623,639,662,627,650,674,629,653,631,633,625,542,643,640,645,644,342,326,680,652]
def trK :List (Nat×List Nat):=[(397,[8,9]),(393,[6,7]),(498,[1000002,5000002]),(496,[1000002,5000002]),(627,[2000000003,13000001,15000002]),(640,[4999999]),(629,[2000000004,15000001,16000002,4999998]),(628,[2000000004,15000001,16000002,4999998]),(652,[3000000589832]),(651,[3000000589832])]
def zK :List (Nat×List Nat):=[(416,[32,36]),(417,[23,26]),(502,[11]),(610,[38,43]),(611,[29,33]),(612,[29,33]),(614,[38,43]),(615,[41,47]),(616,[32,36]),(617,[20,22]),(613,[28,30,33]),(534,[32,36]),(533,[32,36]),(532,[38,40])]
def UL {α:Type}(b:Bool)(f:Bool->α):α:=match b with
 |true=>f true
 |false=>f false
def NK {α:Type}(l:List Nat)(f:List Nat->α):α:=match l with
 |[]=>f []
 |[a]=>f [a]
 |[a,b]=>f [a,b]
 |l=>f l
def aba {α:Type}(b:Bool)(f:Bool->α):UL b f=f b:=by cases b<;>rfl
def Wk {α:Type}(l:List Nat)(f:List Nat->α):NK l f=f l:=by unfold NK;split<;>rfl
def cFn (P:Program)(kf:FuncId->Option Nat)(k:Nat)(fn:Func):Option AFn:=
 match fn.body with
 |some c=>UL (dtK.contains k) fun dt=>UL (dpK.contains k) fun dp=>UL (mkK.contains k||(zK.lookup k).isSome) fun zn=>NK ((zK.lookup k).getD []) fun zl=>NK ((trK.lookup k).getD []) fun tr=>
  match wb P kf dt dp zn zl tr c,j5 (VN P) fn.results.toList with
  |some b,some rs=>if fn.name== "runtime.NumGoroutine" then none else some ⟨fn.ntmps,rs,b⟩
  |_,_=>none
 |none=>none
def Iv (P:Program)(kf:FuncId->Option Nat)(k:Nat)(fn:Func):cFn P kf k fn=
 match fn.body with
 |some c=>match wb P kf (dtK.contains k) (dpK.contains k) (mkK.contains k||(zK.lookup k).isSome) ((zK.lookup k).getD []) ((trK.lookup k).getD []) c,j5 (VN P) fn.results.toList with
  |some b,some rs=>if fn.name== "runtime.NumGoroutine" then none else some ⟨fn.ntmps,rs,b⟩
  |_,_=>none
 |none=>none:=by
 unfold cFn;cases fn.body with
 |none=>rfl
 |some c=>simp only[aba,Wk]
variable {KI:KF}
section
variable {Γ:Ctx}{P:Program}{M0:Nat->Prop}{base:Nat}{Z:St}{a:Act}{w:World}{J:List (Option Nat)}
def cR (s:SR Γ M0 base Z a w J){x:Operand}{y:Opd}(h:kw x=some y):VR (Mu M0 J Z.h) w J Z.h (y.ev Z) (a.eval x):=by unfold kw at h;split at h<;>cases h;exact s.fr.eval _;simp[Opd.ev,VR,LR,cG,Act.eval];simp[Opd.ev,VR,LR,cG,Act.eval];simp[Opd.ev,VR,LR,cG,Act.eval];simp[Opd.ev,VR,LR,Act.eval]
def VR.int {M:Nat->Prop}{h:List Q0}{x:V}{u:Value}{k:IntKind}{n:Int}(r:VR M w J h x u)(e:isInt x=some (k,n)):u= .int k n:=by unfold isInt at e;split at e<;>simp at e;obtain⟨rfl,rfl⟩:=e;simpa[VR,LR,cG]using r
def VR.bool {M:Nat->Prop}{h:List Q0}{x:V}{u:Value}{b:Bool}(r:VR M w J h x u)(e:isBool x=some b):u= .bool b:=by unfold isBool at e;split at e<;>simp at e;subst e;simpa[VR,LR,cG]using r
def VR.str {M:Nat->Prop}{h:List Q0}{x:V}{u:Value}{s:List UInt8}(r:VR M w J h x u)(e:isStr x=some s):u= .string ⟨s.toArray⟩:=by unfold isStr at e;split at e<;>simp at e;subst e;simpa[VR,LR,cG]using r
def VR.mkInt {M:Nat->Prop}{h:List Q0}(k:IntKind)(n:Int):VR M w J h (ce k n) (.int k n):=by simp[VR,LR,cG]
def VR.cA {M:Nat->Prop}{h:List Q0}(b:Bool):VR M w J h (cL b) (.bool b):=by simp[VR,LR,cG]
def VR.mkStr {M:Nat->Prop}{h:List Q0}(s:List UInt8):VR M w J h (fZ s) (.string ⟨s.toArray⟩):=by simp[VR,LR,cG]
def AT (l:List UInt8):(⟨l.toArray⟩:ByteArray).toList=l:=by
 have:(⟨l.toArray⟩:ByteArray).toList=l:=by simp[ByteArray.toList_eq]
 exact this
def P5 (op:BinOp)(t:TypeId)(x y:Operand)(k k':IntKind)(m n:Int):(eqGuard op t x y (.int k m) (.int k' n)).run P w= .ok () w:=by unfold eqGuard;split<;>simp
def P6 (op:BinOp)(t:TypeId)(x y:Operand)(m n:ByteArray):(eqGuard op t x y (.string m) (.string n)).run P w= .ok () w:=by unfold eqGuard;split<;>simp
def CY (op:BinOp)(t:TypeId)(x y:Operand)(m n:Bool):(eqGuard op t x y (.bool m) (.bool n)).run P w= .ok () w:=by unfold eqGuard;split<;>simp
def Lb {op:BinOp}{k:IntKind}{m n:Int}{t:TypeId}{v:V}(h:ft op k m n=some v)(hs:op≠ .shl/\ op≠ .shr):∃u,(binOp op t (.int k m) (.int k n)).run P w= .ok u w/\ ∀M h',VR M w J h' v u:=by
 cases op<;>simp[ft]at h hs<;>(try subst h);case quo=>
  obtain⟨h0,rfl⟩:=h
  exact⟨_,by simp[binOp,Op.intDiv,h0],fun _ _=>VR.mkInt _ _⟩
 case rem=>
  obtain⟨h0,rfl⟩:=h
  exact⟨_,by simp[binOp,Op.intDiv,h0],fun _ _=>VR.mkInt _ _⟩
 case and=>exact⟨_,by simp[binOp,Op.intBits],fun _ _=>VR.mkInt _ _⟩
 case or=>exact⟨_,by simp[binOp,Op.intBits],fun _ _=>VR.mkInt _ _⟩
 case add=>exact⟨_,by simp[binOp,Op.intArith],fun _ _=>VR.mkInt _ _⟩
 case sub=>exact⟨_,by simp[binOp,Op.intArith],fun _ _=>VR.mkInt _ _⟩
 case mul=>exact⟨_,by simp[binOp,Op.intArith],fun _ _=>VR.mkInt _ _⟩
 all_goals exact⟨_,by simp[binOp,Op.intCmp],fun _ _=>VR.cA _⟩
def yC {op:BinOp}{k k':IntKind}{m n:Int}{t:TypeId}{v:V}(h:qw op k m n=some v)(hs:op= .shl \/op= .shr):∃u,(binOp op t (.int k m) (.int k' n)).run P w= .ok u w/\ ∀M h',VR M w J h' v u:=by unfold qw at h;split at h;cases h;rename_i hn;rcases hs with rfl|rfl<;>simp at h<;>subst h;exact⟨_,by simp[binOp,Op.shift,hn],fun _ _=>VR.mkInt _ _⟩;exact⟨_,by simp[binOp,Op.shift,hn],fun _ _=>VR.mkInt _ _⟩
def Lc {op:BinOp}{x y:List UInt8}{t:TypeId}{v:V}(h:mJ op x y=some v):∃u,(binOp op t (.string ⟨x.toArray⟩) (.string ⟨y.toArray⟩)).run P w= .ok u w/\ ∀M h',VR M w J h' v u:=by
 have e1:=AT x;have e2:=AT y;cases op<;>simp[mJ]at h<;>(try subst h);case add=>
  obtain⟨hl,rfl⟩:=h
  refine⟨.string ⟨(x++y).toArray⟩,?_,fun _ _=>VR.mkStr _⟩
  have h1:¬(((⟨x.toArray⟩:ByteArray).size+(⟨y.toArray⟩:ByteArray).size:Nat):Int)>IntKind.i64.max:=by
   have a1:(⟨x.toArray⟩:ByteArray).size=x.length:=by simp[ByteArray.size]
   have a2:(⟨y.toArray⟩:ByteArray).size=y.length:=by simp[ByteArray.size]
   rw[a1,a2];have:IntKind.i64.max=9223372036854775807:=by decide
   rw[this];omega
  have h2:((⟨x.toArray⟩:ByteArray)++(⟨y.toArray⟩:ByteArray))=⟨(x++y).toArray⟩:=by apply ByteArray.ext;simp
  simp only[binOp,Op.stringOp,if_neg h1,h2]
  simp
 all_goals exact⟨_,by simp[binOp,Op.stringOp,e1,e2],fun _ _=>VR.cA _⟩
def Mj {op:BinOp}{x y v:V}{u1 u2:Value}{t:TypeId}{ox oy:Operand}{M:Nat->Prop}{h:List Q0}(hb:bin op x y=some v)(r1:VR M w J h x u1)(r2:VR M w J h y u2):
 ∃u,(do eqGuard op t ox oy u1 u2;binOp op t u1 u2:Sem Value).run P w= .ok u w/\ VR M w J h v u:=by
 unfold bin at hb;split at hb;rename_i k m k' n;obtain rfl:u1= .int k m:=by simpa[VR,LR,cG]using r1
 obtain rfl:u2= .int k' n:=by simpa[VR,LR,cG]using r2
 have step:∀{v':V},(∃u,(binOp op t (.int k m) (.int k' n)).run P w= .ok u w/\ ∀M h',VR M w J h' v' u)->∃u,(do eqGuard op t ox oy (.int k m) (.int k' n);binOp op t (.int k m) (.int k' n):Sem Value).run P w= .ok u w/\ VR M w J h v' u:=by rintro v' ⟨u,hu,hr⟩;exact⟨u,by rw[Sem.run_bind,P5,Result.andThen_ok];exact hu,hr _ _⟩
 split at hb;exact step (yC hb (.inl rfl));exact step (yC hb (.inr rfl));rename_i h1 h2;split at hb;rename_i e;subst e;exact step (Lb hb ⟨h1,h2⟩);cases hb;rename_i m n;obtain rfl:u1= .string ⟨m.toArray⟩:=by simpa[VR,LR,cG]using r1
 obtain rfl:u2= .string ⟨n.toArray⟩:=by simpa[VR,LR,cG]using r2
 obtain⟨u,hu,hr⟩:=Lc (P:=P) (w:=w) (J:=J) (t:=t) hb;exact⟨u,by rw[Sem.run_bind,P6,Result.andThen_ok];exact hu,hr _ _⟩;cases hb
def ab7 {op:UnOp}{x v:V}{u1:Value}{M:Nat->Prop}{h:List Q0}(hb:un op x=some v)(r1:VR M w J h x u1):∃u,(Op.unary op u1).run P w= .ok u w/\ VR M w J h v u:=by
 unfold un at hb;split at hb;rename_i b;obtain rfl:u1= .bool b:=by simpa[VR,LR,cG]using r1
 cases hb;exact⟨_,by simp[Op.unary],VR.cA _⟩;rename_i k n;obtain rfl:u1= .int k n:=by simpa[VR,LR,cG]using r1
 cases hb;exact⟨_,by simp[Op.unary,Op.intArith],VR.mkInt _ _⟩;cases hb
def V.cF {x:V}(h:x.cells.all plain=true):∀xs,x≠ .b8 xs:=by rintro xs rfl;simp[V.cells,plain]at h
def VR.cells {M:Nat->Prop}{h:List Q0}{x:V}{u:Value}(r:VR M w J h x u)(hx:∀xs,x≠ .b8 xs):xc M w J h x.cells u.cells.toList:=by
 cases x with
 |one l=>
  have h1:u.oneCell'=true:=LR.one r;have:u.cells= #[u]:=by cases u<;>first|rfl|cases h1
  rw[this];exact⟨rfl,fun i l' v hl hv=>by
   cases i with
   |zero=>simp[V.cells]at hl hv;subst hl;subst hv;exact r
   |succ i=>simp[V.cells]at hl⟩
 |agg ls=>obtain⟨cs,rfl,hl⟩:=r;exact hl
 |b8 xs=>exact absurd rfl (hx xs)
def Mp {g:Bool}{n j:Nat}{cs:List L}{v:V}{us:List Value}{M:Nat->Prop}{h:List Q0}(hc:ja g n j cs=some v)(r:xc M w J h cs us):
 (g=true/\ j+n<=us.length/\ VR M w J h v (.agg ((us.drop j).take n).toArray)) \/(g=false/\ n=1/\ ∃u,us[j]? =some u/\ VR M w J h v u):=by
 unfold ja at hc;split at hc;rename_i hle;split at hc;rename_i hg;cases hc;refine .inl ⟨hg,by rw[<-r.1];exact hle,_,rfl,?_,fun i l u hl hu=> ?_⟩;simp[r.1];simp only[ZL,YO]at hl hu;split at hl;rename_i hi;simp only[hi,if_true]at hu;exact r.2 _ l u hl hu;cases hl;rename_i hg;split at hc;rename_i hn;split at hc;rename_i l hl;cases hc;have hj:j<us.length:=by rw[<-r.1];omega
 exact .inr ⟨by simpa using hg,hn,us[j],by simp[hj],r.2 j l _ hl (by simp[hj])⟩;cases hc;cases hc;cases hc
def TD {h:List Q0}{g:Bool}{n:Nat}{x v:V}{u:Value}(k:HR M0 base w J h)(hl:dP h g n x=some v)(r:VR (Mu M0 J h) w J h x u):
 ∃b o,u= .pointer (some ⟨b,o,none⟩)/\
  ((g=true/\ ∃us:List Value,us.length=n/\ w.rangeAt b o us/\ VR (Mu M0 J h) w J h v (.agg us.toArray)) \/(g=false/\ n=1/\ ∃u',w.cell? ⟨b,o,none⟩=some u'/\ VR (Mu M0 J h) w J h v u')):=by
 have fin:∀{cs:List L}{us:List Value}{j b o0:Nat},ja g n j cs=some v->xc (Mu M0 J h) w J h cs us->(∀i u',us[i]? =some u'->w.cell? ⟨b,o0+i,none⟩=some u')->u= .pointer (some ⟨b,o0+j,none⟩)->
  ∃b o,u= .pointer (some ⟨b,o,none⟩)/\
  ((g=true/\ ∃us:List Value,us.length=n/\ w.rangeAt b o us/\ VR (Mu M0 J h) w J h v (.agg us.toArray)) \/(g=false/\ n=1/\ ∃u',w.cell? ⟨b,o,none⟩=some u'/\ VR (Mu M0 J h) w J h v u')):=by intro cs us j b o0 hc al ad hu;refine⟨b,o0+j,hu,?_⟩;rcases Mp hc al with⟨hg,hle,hv⟩|⟨hg,hn,u',a7,hv⟩;refine .inl ⟨hg,(us.drop j).take n,by simp;omega,fun i u' hi=> ?_,hv⟩;simp only[ZL,YO]at hi;split at hi;have:=ad _ u' hi;rwa[show o0+j+i=o0+(j+i) by omega];cases hi;exact .inr ⟨hg,hn,u',ad j u' a7,hv⟩
 have a6:∀{z:Nat}{es:List (List PV)}{e:List PV}{i j b:Nat}{cur:Array Value},es[i]? =some e->(∀e∈es,e.length=z)->jb w b cur->
  (∀(i:Nat)(e:List PV)(j:Nat)(p:PV),es[i]? =some e->e[j]? =some p->∃v,cur[i*z+j]? =some v/\ cG (Mu M0 J h) w p v)->ja g n j (e.map .pv)=some v->u= .pointer (some ⟨b,i*z+j,none⟩)->
  ∃b o,u= .pointer (some ⟨b,o,none⟩)/\
  ((g=true/\ ∃us:List Value,us.length=n/\ w.rangeAt b o us/\ VR (Mu M0 J h) w J h v (.agg us.toArray)) \/(g=false/\ n=1/\ ∃u',w.cell? ⟨b,o,none⟩=some u'/\ VR (Mu M0 J h) w J h v u')):=by
  intro z es e i j b cur he hz a5 aa hc hu;have hlen:∀j',j'<e.length->∃v,cur[i*z+j']? =some v/\ cG (Mu M0 J h) w (e[j']?.getD (.bool false)) v:=fun j' av=>by obtain⟨v,hv,hr⟩:=aa i e j' (e[j']) he (by simp[av]);exact⟨v,hv,by simpa[av]using hr⟩
  have us:∃us:List Value,us.length=e.length/\ ∀i' u',us[i']? =some u'->cur[i*z+i']? =some u':=by refine⟨(List.range e.length).map fun i'=>cur[i*z+i']?.getD undef,by simp,fun i' u' a7=> ?_⟩;simp only[Zp,Zl]at a7;obtain⟨x,hx,rfl⟩:=a7;obtain⟨h1,h2⟩:=Zb.1 hx;simp at h1 h2;subst h2;obtain⟨v,hv,_⟩:=hlen i' h1;simp[hv]
  obtain⟨us,ao,af⟩:=us;refine fin (us:=us) (o0:=i*z) (b:=b) hc ⟨by simp[ao],fun i' l u' hl a7=> ?_⟩ (fun i' u' a7=>by rw[a5.cell];exact af i' u' a7) hu;simp only[Zp,Zl]at hl;obtain⟨p,hp,rfl⟩:=hl;obtain⟨v',ag,hr⟩:=aa i e i' p he hp;have:=af i' u' a7;rw[ag]at this;cases this;exact hr
 unfold dP at hl;split at hl;rename_i o i j;obtain⟨r0,ob,ah,ab,ai⟩:=r;split at hl;rename_i cs a8;rw[a8]at ab;cases ab;split at hl;rename_i hi;subst hi;obtain⟨b,cur,e,aw,a5,al⟩:=k.objs o _ r0 a8 ah;obtain⟨b',e',hu⟩:=ai;rw[e]at e';cases e';simp[Q0.z]at hu;exact fin (o0:=0) (b:=b) hl al (fun i u' hi=>by rw[a5.cell];simpa using hi) (by simpa using hu);cases hl;rename_i z es a8;rw[a8]at ab;cases ab;obtain⟨hz,aj,kx⟩:=k.objs o _ r0 a8 ah;obtain⟨b',e',hu⟩:=ai;subst e';obtain⟨_,cur,cap,a5,h1,h2,h3,h4⟩:=kx;split at hl;rename_i e he;exact a6 he aj a5 h4 hl (by simpa[Q0.z]using hu);cases hl;rename_i z es a8;rw[a8]at ab;cases ab;obtain⟨hz,aj,kx⟩:=k.objs o _ r0 a8 ah;obtain⟨b',e',hu⟩:=ai;subst e';obtain⟨_,cur,cap,a5,h1,h2,h3,h4⟩:=kx;split at hl;rename_i e he;exact a6 he aj a5 h4 hl (by simpa[Q0.z]using hu);cases hl;rename_i z es a8;rw[a8]at ab;cases ab;obtain⟨hz,aj,kx⟩:=k.objs o _ r0 a8 ah;obtain⟨b',e',hu⟩:=ai;subst e';obtain⟨_,cur,cap,a5,h1,h2,h3,h4⟩:=kx;split at hl;rename_i e he;exact a6 he aj a5 h4 hl (by simpa[Q0.z]using hu);cases hl;rename_i ps a8;rw[a8]at ab;cases ab;split at hl;rename_i hi;subst hi;obtain⟨b,cur,e,hm,a5,hlen,ak⟩:=k.objs o _ r0 a8 ah;obtain⟨b',e',hu⟩:=ai;rw[e]at e';cases e';simp[Q0.z]at hu;refine fin (us:=cur.toList) (o0:=0) (b:=b) hl ⟨by simp[hlen],fun i' l u' ax a7=> ?_⟩ (fun i u' hi=>by rw[a5.cell];simpa using hi) (by simpa using hu);simp only[Zp,Zl]at ax;obtain⟨p,hp,rfl⟩:=ax;obtain⟨v',ag,hr⟩:=ak i' p hp;have:cur[i']? =some u':=by simpa using a7
 rw[ag]at this;cases this;exact hr;cases hl;cases hl;rename_i e j;obtain⟨b,o,hu,hb,hlt,ak⟩:=r;have us:∃us:List Value,us.length=e.length/\ ∀i' u',us[i']? =some u'->w.cell? ⟨b,o+i',none⟩=some u':=by refine⟨(List.range e.length).map fun i'=>(w.cell? ⟨b,o+i',none⟩).getD undef,by simp,fun i' u' a7=> ?_⟩;simp only[Zp,Zl]at a7;obtain⟨x,hx,rfl⟩:=a7;obtain⟨h1,h2⟩:=Zb.1 hx;simp at h1 h2;subst h2;obtain⟨v,hv,_⟩:=ak.at (j:=i') (p:=e[i']) (by simp[h1]);simp[hv]
 obtain⟨us,ao,af⟩:=us;refine fin (us:=us) (o0:=o) (b:=b) hl ⟨by simp[ao],fun i' l u' hl a7=> ?_⟩ af hu;simp only[Zp,Zl]at hl;obtain⟨p,hp,rfl⟩:=hl;obtain⟨v',ag,hr⟩:=ak.at hp;have:=af i' u' a7;rw[ag]at this;cases this;exact hr;cases hl
end
end Gi
