/- Of this proof. -/
import Derived.Test.YtgmnakghjemjlaaGreatGic
import Derived.Orders
set_option linter.unusedSimpArgs false
set_option linter.unusedVariables false
namespace Gi
open Go
def P3 :Value→Option L
 | .int k n=>some (.pv (.int k n))
 | .bool b=>some (.pv (.bool b))
 | .string s=>some (.pv (.str s.data.toList))
 | .slice none 0 0=>some .nil
 |_=>none
def QG :Value→Option PV
 | .int k n=>some (.int k n)
 | .bool b=>some (.bool b)
 | .string s=>some (.str s.data.toList)
 | .slice none 0 0=>some (.lst [])
 |_=>none
def fk :Operand→Option Opd
 | .tmp t=>some (.tmp t)
 | .const (.int k n)=>some (.pv (.int k n))
 | .const (.bool b)=>some (.pv (.bool b))
 | .const (.string s)=>some (.pv (.str s.data.toList))
 | .const (.slice none 0 0)=>some .nil
 |_=>none
def nb (kf:FuncId→Option Nat):Operand→Option Opd
 | .func f=>(kf f).map .fn
 |x=>fk x
def fK {α β:Type}(f:α→Option β):List α→Option (List β)
 |[]=>some []
 |x::xs=>match f x,fK f xs with
  |some y,some ys=>some (y::ys)
  |_,_=>none
def iL (P:Program)(t:TypeId):Option Bool:=
 match P.underlying t with
 |some (.struct _)=>some true
 |some (.array _ _)=>some true
 |some _=>some false
 |none=>none
def qT (P:Program)(t:TypeId):Option Nat:=(P.info? t).map (·.size)
def Lg (P:Program)(t:TypeId):Option Nat:=(P.info? t).map (·.bytes)
def lJ (P:Program)(t:TypeId):Option Value:=(P.info? t).bind (·.zero)
def kR (P:Program)(t:TypeId):Option TypeId:=
 match P.underlying t with
 |some (.slice e)=>some e
 |_=>none
def yd (P:Program)(t:TypeId)(f:Nat):Option Field:=
 match P.underlying t with
 |some (.struct fs)=>fs[f]?
 |_=>none
def JD (P:Program):Nat→TypeId→Bool
 |0,_=>false
 |n+1,t=>match P.underlying t with
  |some .bool=>true
  |some (.int _)=>true
  |some .string=>true
  |some (.struct fs)=>fs.toList.all fun f=>JD P n f.type
  |_=>false
def LA (P:Program)(g:TypeId→Option (List EK)):List Field→Nat→Option (List EK)
 |[],_=>some []
 |f::fs,off=>if f.name≠ "_" ∧f.offset=off then(match g f.type with
  |some m=>if qT P f.type=some m.length∧0<m.length then(match LA P g fs (off+m.length)with
   |some ks=>some (m++ks)
   |none=>none)else none
  |none=>none)else none
def Ot (P:Program):Nat→TypeId→Option (List EK)
 |0,_=>none
 |n+1,t=>match P.underlying t with
  |some .bool=>some [.b]
  |some (.int _)=>some [.i]
  |some .string=>some [.s]
  |some (.struct fs)=>if P.stoodInHeld t then none else LA P (Ot P n) fs.toList 0
  |_=>none
structure Md where
 draw:Bool
 dt:Bool
 st:Bool
 sb:Bool
 dp:Bool
 zn:Bool
 zl:List Nat
 tr:List Nat
def eV (P:Program)(kf:FuncId→Option Nat)(md:Md):Op→Option AOp
 | .move x=>(fk x).map .mv
 | .assign x=>(fk x).map .mv
 | .pick c a b=>match fk c,fk a,fk b with
  |some c,some a,some b=>some (.pick c a b)
  |_,_,_=>none
 | .alloc t=>match lJ P t with
  |some v=>match fK P3 v.cells.toList with
   |some cs=>some (.alloc cs)
   |none=>none
  |none=>none
 | .box _ x=>(fk x).map .box
 | .build t parts=>match P.underlying t,lJ P t,fK (fun x=>match yd P t x.1,fk x.2 with
  |some f,some y=>(qT P f.type).map fun n=>(f.offset,n,y)
  |_,_=>none) parts.toList with
  |some (.struct fs),some v,some ps=>match fK P3 v.cells.toList with
   |some cs=>if fs.toList.all (fun f=>(qT P f.type).isSome)then some (.build cs ps)else none
   |none=>none
  |_,_,_=>none
 | .buildSlice t n parts=>match kR P t,fK (fun x=>fk x.2) parts.toList with
  |some e,some ps=>match qT P e,lJ P e with
   |some z,some v=>if(parts.toList.map (·.1)==List.range n)&&v.cells.size==z then some (if md.st&&(ps.isEmpty|| !md.dp)then .buildF z ps else .buildS z ps)else none
   |_,_=>none
  |_,_=>none
 | .load t a=>match iL P t,qT P t,fk a with
  |some g,some n,some a=>some (if md.st then .loadB g n a else .load g n a)
  |_,_,_=>none
 | .store t a v=>match qT P t,fk a,fk v with
  |some n,some a,some v=>some (.store n a v)
  |_,_,_=>none
 | .binOp op t x y _=>match P.underlying t,fk x,fk y with
  |some .bool,some x,some y=>match op with
   | .eql=>some (.eqB false x y)
   | .neq=>some (.eqB true x y)
   |_=>none
  |some (.int _),some x,some y=>some (.bin op x y)
  |some .string,some x,some y=>some (.bin op x y)
  |some (.struct _),some x,some y=>match Ot P 6 t,P.eqGuardType P.depth t with
   |some n,false=>match op with
    | .eql=>some (.eqS false n x y)
    | .neq=>some (.eqS true n x y)
    |_=>none
   |_,_=>none
  |_,_,_=>none
 | .unOp op _ x=>(fk x).map (.un op)
 | .convert s d x=>match P.underlying s,P.underlying d,fk x with
  |some (.int _),some (.int k),some x=>some (.conv k x)
  |some (.slice e),some .string,some x=>match P.underlying e with
   |some (.int .u8)=>some (.b2s x)
   |_=>none
  |some .string,some (.slice e),some x=>match P.underlying e,qT P e with
   |some (.int .u8),some 1=>some (.s2b x)
   |_,_=>none
  |_,_,_=>none
 | .makeSlice t n m=>match kR P t,fk n,fk m with
  |some e,some (.tmp a),some (.tmp b)=>if a=b then(match Lg P e,qT P e,lJ P e with
   |some by',some z,some v=>match fK QG v.cells.toList with
    |some zs=>if zs.length=z then some (.make by' zs (.tmp a))else none
    |none=>none
   |_,_,_=>none)else none
  |_,_,_=>none
 | .slice t x lo hi mx=>match P.underlying t,fk x,fK fk lo.toList,fK fk hi.toList,mx with
  |some .string,some x,some lo,some hi,none=>some (.slcS x lo.head? hi.head?)
  |some (.slice e),some x,some lo,some hi,none=>match qT P e with
   |some z=>if z=0 then none else some (if md.st then .slcF z x lo.head? hi.head? else .slcL z x lo.head? hi.head?)
   |none=>none
  |_,_,_,_,_=>none
 | .fieldAddr t x f=>match yd P t f,fk x with
  |some fd,some x=>match qT P fd.type with
   |some n=>if n=0 then none else some (.fieldA x fd.offset)
   |none=>none
  |_,_=>none
 | .field t x f=>match yd P t f,fk x with
  |some fd,some x=>match iL P fd.type,qT P fd.type with
   |some g,some n=>some (.field x g fd.offset n)
   |_,_=>none
  |_,_=>none
 | .indexAddr t x i=>match kR P t,fk x,fk i with
  |some e,some x,some i=>match qT P e with
   |some z=>some (.indexA z x i)
   |none=>none
  |_,_,_=>none
 | .index t x i=>match P.underlying t,fk x,fk i with
  |some .string,some x,some i=>some (.indexS x i)
  |_,_,_=>none
 | .extract x i=>(fk x).map (.extract · i)
 | .call c=>match c.callee with
  | .value (.func f)=>match kf f,fK (nb kf) c.args.toList,P.funcs[f]? with
   |some k,some xz,some fn=>if fn.origin== "slices.Insert" then(match xz,fn.params.toList with
    |[x,i,v],t::_=>match kR P t with
     |some e=>match qT P e,Lg P e with
      |some z,some b=>some (.insert k z b x i v)
      |_,_=>none
     |none=>none
    |_,_=>none)else some (if md.dt&& !md.draw&& !(fn.resultTypes.toList.all (JD P 6))then .callD k xz else .call k xz (fn.resultTypes.toList.all (JD P 6)) md.draw)
   |_,_,_=>none
  | .value (.tmp t)=>match fK fk c.args.toList with
   |some xz=>some (.callV (.tmp t) xz)
   |none=>none
  | .builtin .len=>match c.args.toList,c.argTypes.toList with
   |[x],[t]=>match P.underlying t,fk x with
    |some .string,some x=>some (.lenS x)
    |some (.slice _),some x=>some (.len x)
    |_,_=>none
   |_,_=>none
  | .builtin .append=>match c.args.toList,c.argTypes.toList with
   |[x,y],[t,u]=>match kR P t,P.underlying u,fk x,fk y with
    |some e,some (.slice _),some x,some y=>match qT P e,Lg P e,lJ P e with
     |some z,some b,some v=>if v.cells.size=z∧t=u then some (.append z b x y)else none
     |_,_,_=>none
    |some e,some .string,some x,some y=>match P.underlying e,qT P e,Lg P e,lJ P e with
     |some (.int .u8),some 1,some b,some (.int .u8 0)=>some (.appendS b x y)
     |_,_,_,_=>none
    |_,_,_,_=>none
   |_,_=>none
  | .builtin .min=>match c.args.toList with
   |[x,y]=>match fk x,fk y with
    |some x,some y=>some (.mm false x y)
    |_,_=>none
   |_=>none
  | .builtin .max=>match c.args.toList with
   |[x,y]=>match fk x,fk y with
    |some x,some y=>some (.mm true x y)
    |_,_=>none
   |_=>none
  |_=>none
 | .makeMap t r=>match r with
  |none=>if ND P=some t then some .mkmap else none
  |some _=>none
 | .lookup t x i c=>if c then none else match fk x,fk i,ou P t with
  |some x,some i,some (_,e)=>match lJ P e with
   |some (.int .i64 0)=>if ND P=some t then some (.mget x i)else none
   |_=>none
  |_,_,_=>none
 | .mapUpdate t m k v=>match fk m,fk k,fk v with
  |some m,some k,some v=>if ND P=some t then some (.mset m k v)else none
  |_,_,_=>none
 | .makeFunc (.func f) first caps=>match kf f,fK fk caps.toList with
  |some k,some cs=>if first.isEmpty then some (.mkfn k cs)else none
  |_,_=>none
 |_=>none
def AOp.isF :AOp→Bool
 | .alloc _=>false
 | .box _=>false
 | .buildS _ _=>false
 | .store _ _ _=>false
 | .storeD _ _ _=>false
 | .buildD _ _=>false
 | .appendD _ _ _ _=>false
 | .callC _ _=>false
 | .storeZ _ _ _=>false
 | .callZ _ _=>false
 | .callM _ _ _=>false
 | .make _ _ _=>false
 | .append _ _ _ _=>false
 | .appendS _ _ _=>false
 | .callD _ _=>false
 | .slcL _ _ _ _=>false
 | .mkfn _ _=>false
 | .mkmap=>false
 | .mset _ _ _=>false
 | .insert _ _ _ _ _ _=>false
 | .storeB _ _ _=>false
 | .allocT _=>false
 | .storeT _ _ _=>false
 | .allocW _=>false
 | .allocAt _ _=>false
 | .call _ _ fl fz=>fl||fz
 |_=>true
def Fm (ops:Array Oper):Option (Nat×Bool)→Option (Option (Nat×Bool))
 |none=>some none
 |some (j,w)=>match ops[j]? with
  |some o=>match o.dst with
   |some t=>some (some (t,w))
   |none=>none
  |none=>none
def KK (zl:List Nat)(mk:Bool)(dst:Option Nat):AOp→AOp
 | .load g n a=> .loadZ g n a
 | .store n a v=> .storeZ n a v
 | .indexA z x i=> .indexZ z x i
 | .len x=> .lenZ x
 | .call f xz fl fz=>match xz with
  |[x,k]=>if mk then .callM f x k else if(dst.map zl.contains).getD false then .callZ f [x,k]else if fl then .callF f [x,k]else if fz then .call f [x,k] fl fz else .callD f [x,k]
  |xz=>if(dst.map zl.contains).getD false then .callZ f xz else if fl then .callF f xz else if fz then .call f xz fl fz else .callD f xz
 |op=>op
def wC (md:Md)(dst:Option Nat):AOp→AOp
 | .alloc zero=>match dst with
  |some t=>if md.tr.contains t then .allocT zero.length else if md.tr.contains (t+1000000)then .allocW zero else match md.tr.find? (fun x=>x/1000000==t+2)with
   |some x=> .allocAt (x%1000000) zero
   |none=> .alloc zero
  |none=> .alloc zero
 | .store n a v=>match a with
  | .tmp t=>if md.tr.contains t then .storeT n (.tmp t) v else if md.sb then .storeB n (.tmp t) v else if md.dp then .storeD n (.tmp t) v else .store n (.tmp t) v
  |a=> .store n a v
 | .load g n a=>if md.sb then .loadA g n a else .load g n a
 | .append z b x y=>if md.dp then .appendD z b x y else .append z b x y
 | .buildS z ps=>if md.dp then .buildD z ps else .buildS z ps
 | .call f xz fl fz=>if md.dp&& !fl then .callC f xz else .call f xz fl fz
 |op=>op
def Fo (P:Program)(kf:FuncId→Option Nat)(md:Md)(ops:Array Oper)(o:Oper):Option AOper:=
 match eV P kf md o.op,Fm ops o.guard with
 |some op,some g=>some ⟨o.dst,op,g⟩
 |_,_=>none
def F6 :List String:=["loop.example/g00583/laws.markByteS", "loop.example/g00583/laws.markIntS", "loop.example/g00583/laws.markFieldS", "loop.example/g00583/laws.markRecord", "loop.example/g00583/laws.markItemS", "loop.example/g00583/laws.markStore", "loop.example/g00583/laws.markItem", "loop.example/g00583/laws.markStoreS", "loop.example/g00583/laws.markIndexDefS", "loop.example/g00583/laws.markDatabase", "loop.example/g00583/laws.markUpgradeS", "loop.example/g00583/laws.markOp", "loop.example/g00583/laws.markOpS", "loop.example/g00583/laws.markStringS", "loop.example/g00583/laws.markTxS", "loop.example/g00583/laws.markTxQueue", "loop.example/g00583/laws.markByteSS", "loop.example/g00583/laws.markDisk", "loop.example/g00583/laws.markInstrS", "loop.example/g00583/laws.markMachine", "loop.example/g00583/laws.markLoop", "loop.example/g00583/laws.markResponse", "loop.example/g00583/laws.markSite", "loop.example/g00583/laws.markCachedS", "loop.example/g00583/laws.markCacheS", "loop.example/g00583/laws.markCacheSet", "loop.example/g00583/laws.markLoadedS", "loop.example/g00583/laws.markPage", "loop.example/g00583/laws.markPageS", "loop.example/g00583/laws.markWriteS", "loop.example/g00583/laws.markOutbox", "loop.example/g00583/laws.markAppliedS", "loop.example/g00583/laws.markServer", "loop.example/g00583/laws.markSync", "loop.example/g00583/laws.markReplica", "loop.example/g00583/laws.markPush", "loop.example/g00583/laws.markPushS", "loop.example/g00583/laws.markLockS", "loop.example/g00583/laws.markLockTable", "loop.example/g00583/laws.markMailS", "loop.example/g00583/laws.markChannel", "loop.example/g00583/laws.markBucket", "loop.example/g00583/laws.markBucketS", "loop.example/g00583/laws.markStorage", "loop.example/g00583/laws.markSiteS", "loop.example/g00583/laws.markServerS", "loop.example/g00583/laws.markWorld", "loop.example/g00583/laws.markEventS", "loop.example/g00583/laws.markBoolS"]
def Qh (P:Program):Op→Bool
 | .call c=>match c.callee with
  | .value (.func f)=>match P.funcs[f]? with
   |some fn=>F6.contains fn.name
   |none=>false
  |_=>false
 |_=>false
def vm (P:Program)(kf:FuncId→Option Nat)(md:Md)(ops:Array Oper)(o:Oper):Option AOper:=
 match Fo P kf md ops o with
 |some x=>some ⟨x.dst,if md.zn then KK md.zl (Qh P o.op) o.dst x.op else wC md o.dst x.op,x.guard⟩
 |none=>none
def AOp.opds :AOp→List Opd
 | .mv x=>[x]
 | .pick c a b=>[c,a,b]
 | .alloc _=>[]
 | .box x=>[x]
 | .build _ ps=>ps.map (·.2.2)
 | .buildS _ ps=>ps
 | .load _ _ a=>[a]
 | .store _ a v=>[a,v]
 | .bin _ x y=>[x,y]
 | .eqB _ x y=>[x,y]
 | .un _ x=>[x]
 | .conv _ x=>[x]
 | .b2s x=>[x]
 | .make _ _ n=>[n]
 | .slcS x lo hi=>x::(lo.toList++hi.toList)
 | .fieldA x _=>[x]
 | .field x _ _ _=>[x]
 | .indexA _ x i=>[x,i]
 | .indexS x i=>[x,i]
 | .extract x _=>[x]
 | .len x=>[x]
 | .lenS x=>[x]
 | .append _ _ x y=>[x,y]
 | .appendS _ x y=>[x,y]
 | .call _ xz _ _=>xz
 | .mm _ x y=>[x,y]
 | .mkfn _ cs=>cs
 | .callV x xz=>x::xz
 | .eqS _ _ x y=>[x,y]
 | .slcL _ x lo hi=>x::(lo.toList++hi.toList)
 | .s2b x=>[x]
 | .callD _ xz=>xz
 | .mkmap=>[]
 | .mget x k=>[x,k]
 | .mset x k v=>[x,k,v]
 | .insert _ _ _ x i v=>[x,i,v]
 | .loadB _ _ a=>[a]
 | .slcF _ x lo hi=>x::(lo.toList++hi.toList)
 | .buildF _ ps=>ps
 | .loadA _ _ a=>[a]
 | .storeB _ a v=>[a,v]
 | .allocT _=>[]
 | .storeT _ a v=>[a,v]
 | .storeD _ a v=>[a,v]
 | .buildD _ ps=>ps
 | .appendD _ _ x y=>[x,y]
 | .callC _ xz=>xz
 | .lenZ x=>[x]
 | .indexZ _ x i=>[x,i]
 | .loadZ _ _ a=>[a]
 | .storeZ _ a v=>[a,v]
 | .callF _ xz=>xz
 | .callZ _ xz=>xz
 | .callM _ x k=>[x,k]
 | .allocW _=>[]
 | .allocAt _ _=>[]
def Opd.tmps :Opd→List Nat
 | .tmp n=>[n]
 |_=>[]
def AOper.reads (o:AOper):List Nat:=o.op.opds.flatMap Opd.tmps++(match o.guard with|some (g,_)=>[g]|none=>[])
def qU (x y:AOper):Bool:=
 (match x.dst with
  |some d=> !(y.reads).contains d&&y.dst !=some d
  |none=>true)&&
 (match y.dst with
  |some d=> !(x.reads).contains d
  |none=>true)
def AOp.cls :AOp→Nat
 | .load _ _ _=>1
 | .loadB _ _ _=>1
 | .loadA _ _ _=>1
 | .storeB _ _ _=>3
 | .allocT _=>2
 | .storeT _ _ _=>3
 | .b2s _=>1
 | .indexA _ _ _=>1
 | .len _=>1
 | .lenZ _=>1
 | .indexZ _ _ _=>1
 | .loadZ _ _ _=>1
 | .callF _ _=>1
 | .storeZ _ _ _=>3
 | .callZ _ _=>3
 | .callM _ _ _=>3
 | .allocW _=>2
 | .allocAt _ _=>2
 | .callV _ _=>1
 | .mget _ _=>1
 | .mkmap=>2
 | .mset _ _ _=>3
 | .insert _ _ _ _ _ _=>3
 | .call _ _ fl fz=>if fl||fz then 1 else 3
 | .alloc _=>2
 | .box _=>2
 | .buildS _ _=>2
 | .make _ _ _=>2
 | .slcL _ _ _ _=>2
 | .store _ _ _=>3
 | .storeD _ _ _=>3
 | .buildD _ _=>3
 | .appendD _ _ _ _=>3
 | .callC _ _=>3
 | .append _ _ _ _=>3
 | .appendS _ _ _=>3
 | .callD _ _=>3
 | .mkfn _ _=>3
 |_=>0
def AOp.arrT :AOp→Bool
 | .append _ _ _ _=>true
 | .appendS _ _ _=>true
 | .buildS _ _=>true
 | .make _ _ _=>true
 | .slcL _ _ _ _=>true
 | .callC _ _=>true
 | .buildD _ _=>true
 | .appendD _ _ _ _=>true
 |_=>false
def AOp.isLB :AOp→Bool
 | .loadB _ _ _=>true
 |_=>false
def AOp.isAR :AOp→Bool
 | .loadA _ _ _=>true
 | .indexA _ _ _=>true
 |_=>false
def AOp.isSB :AOp→Bool
 | .storeB _ _ _=>true
 |_=>false
def AOp.isST :AOp→Bool
 | .storeT _ _ _=>true
 |_=>false
def Pb :AOp→AOp→Bool
 | .allocAt _ _, .appendD _ _ _ _=>true
 | .appendD _ _ _ _, .allocAt _ _=>true
 |_,_=>false
def NQ :AOp→AOp→Bool
 | .allocT n, .allocT m=>n==m
 |_,_=>false
def Hc (x y:AOper):Bool:=qU x y&&(x.op.cls==0||y.op.cls==0||(x.op.cls==1&&Nat.ble y.op.cls 2)||(x.op.isLB&&y.op.arrT)||(x.op.arrT&&y.op.isLB)||(x.op.isAR&&y.op.isSB)||(x.op.isSB&&y.op.isAR)||x.op.isST||y.op.isST||NQ x.op y.op||Pb x.op y.op)
def K6 (listed:Array Bool)(k:Nat):List Oper→Array Bool→Array Bool
 |[],acc=>acc
 |o::r,acc=>K6 listed k r (acc.push (o.after.any fun e=>Region.binds .any e&& !(listed.getD e.on true)&&(e.on==k||acc.getD e.on false)))
def Nm (ops:Array Oper)(oos:List AOper)(listed:Array Bool)(k:Nat):Bool:=
 let an:=K6 listed k ops.toList #[]
 (List.range oos.length).all fun j=>j==k||listed.getD j true||an.getD j false||(match oos[k]?,oos[j]? with
  |some x,some y=>Hc x y
  |_,_=>false)
def mF (ops:Array Oper)(oos:List AOper):Nat→Nat→Array Bool→Bool
 |0,_,listed=>(Region.ready .any ops listed).isEmpty
 |fuel+1,k,listed=>(Region.ready .any ops listed).contains k&&Nm ops oos listed k&&mF ops oos fuel (k+1) (listed.setIfInBounds k true)
def oZ (P:Program)(kf:FuncId→Option Nat)(dt dp zn:Bool)(zl tr:List Nat):Code→Option ACode
 | .skip=>some .skip
 | .region _ ops draw=>match fK (vm P kf ⟨draw,dt,false,false,dp,zn,zl,tr⟩ ops) ops.toList with
  |some os=>if draw then(if mF ops os ops.size 0 (Array.replicate ops.size false)then some (.region os)else(match fK (vm P kf ⟨draw,dt,true,false,dp,zn,zl,tr⟩ ops) ops.toList,fK (vm P kf ⟨draw,dt,false,true,dp,zn,zl,tr⟩ ops) ops.toList with
   |some os',some os2=>if mF ops os' ops.size 0 (Array.replicate ops.size false)then some (.region os')else if mF ops os2 ops.size 0 (Array.replicate ops.size false)then some (.region os2)else none
   |_,_=>none))else some (.region os)
  |none=>none
 | .seq a b=>match oZ P kf dt dp zn zl tr a,oZ P kf dt dp zn zl tr b with
  |some a,some b=>some (.seq a b)
  |_,_=>none
 | .cond c a b=>match fk c,oZ P kf dt dp zn zl tr a,oZ P kf dt dp zn zl tr b with
  |some c,some a,some b=>some (.cond c a b)
  |_,_,_=>none
 | .block id c=>(oZ P kf dt dp zn zl tr c).map (.block id)
 | .loop c=>(oZ P kf dt dp zn zl tr c).map .loop
 | .exit id=>some (.exit id)
 | .ret=>some .ret
 |_=>none
def Lh (P:Program):ResultVar→Option ARes
 | .tmp t=>some (.tmp t)
 | .cell t ty=>match iL P ty,qT P ty with
  |some true,some n=>some (.cell t n)
  |_,_=>none
def Kd :List String:=["loop.example/g00583/impl.EncodeRecord", "loop.example/g00583/spec.EncodeRecord", "loop.example/g00583/impl.applied", "loop.example/g00583/spec.l23Apply", "loop.example/g00583/impl.SetItemField", "loop.example/g00583/spec.SetItemField", "loop.example/g00583/impl.LocalStore", "loop.example/g00583/spec.LocalStore", "loop.example/g00583/impl.DeviceHas", "loop.example/g00583/spec.DeviceHas", "loop.example/g00583/impl.ReplicasAgree", "loop.example/g00583/spec.ReplicasAgree", "loop.example/g00583/impl.IsSettled", "loop.example/g00583/spec.IsSettled", "loop.example/g00583/impl.RunOps", "loop.example/g00583/spec.RunOps", "loop.example/g00583/impl.opOn", "loop.example/g00583/spec.l9Store", "loop.example/g00583/spec.l9Inc", "loop.example/g00583/impl.AddItem", "loop.example/g00583/spec.AddItem", "loop.example/g00583/impl.OpenDisk", "loop.example/g00583/spec.OpenDisk", "loop.example/g00583/impl.ViewOf", "loop.example/g00583/spec.ViewOf", "loop.example/g00583/impl.ReadLog", "loop.example/g00583/spec.ReadLog", "loop.example/g00583/impl.DecodeOps", "loop.example/g00583/spec.DecodeOps", "loop.example/g00583/impl.DecodeRecord", "loop.example/g00583/spec.DecodeRecord", "loop.example/g00583/spec.l5Read", "loop.example/g00583/spec.l9Read", "loop.example/g00583/impl.DecodeKey", "loop.example/g00583/spec.DecodeKey", "loop.example/g00583/impl.EncodeOps", "loop.example/g00583/spec.EncodeOps", "loop.example/g00583/impl.PagesOf", "loop.example/g00583/spec.PagesOf", "loop.example/g00583/impl.SameView", "loop.example/g00583/spec.SameView", "loop.example/g00583/impl.CheckSum", "loop.example/g00583/spec.CheckSum"]
def Kc :List String:=["loop.example/g00583/laws.toByteS", "loop.example/g00583/laws.toIntS", "loop.example/g00583/laws.toKey", "loop.example/g00583/laws.toKeyRange", "loop.example/g00583/laws.toField", "loop.example/g00583/laws.toFieldS", "loop.example/g00583/laws.toRecord", "loop.example/g00583/laws.toItem", "loop.example/g00583/laws.toItemS", "loop.example/g00583/laws.toStore", "loop.example/g00583/laws.toCursor", "loop.example/g00583/laws.toStoreS", "loop.example/g00583/laws.toIndexDef", "loop.example/g00583/laws.toIndexDefS", "loop.example/g00583/laws.toDatabase", "loop.example/g00583/laws.toUpgrade", "loop.example/g00583/laws.toUpgradeS", "loop.example/g00583/laws.toOp", "loop.example/g00583/laws.toOpS", "loop.example/g00583/laws.toTx", "loop.example/g00583/laws.toTxS", "loop.example/g00583/laws.toTxQueue", "loop.example/g00583/laws.toDisk", "loop.example/g00583/laws.toInstr", "loop.example/g00583/laws.toInstrS", "loop.example/g00583/laws.toMachine", "loop.example/g00583/laws.toLoop", "loop.example/g00583/laws.toRequest", "loop.example/g00583/laws.toResponse", "loop.example/g00583/laws.toStringS", "loop.example/g00583/laws.toSite", "loop.example/g00583/laws.toCached", "loop.example/g00583/laws.toCachedS", "loop.example/g00583/laws.toCache", "loop.example/g00583/laws.toCacheS", "loop.example/g00583/laws.toCacheSet", "loop.example/g00583/laws.toRegistration", "loop.example/g00583/laws.toLoaded", "loop.example/g00583/laws.toLoadedS", "loop.example/g00583/laws.toPage", "loop.example/g00583/laws.toPageS", "loop.example/g00583/laws.toWrite", "loop.example/g00583/laws.toWriteS", "loop.example/g00583/laws.toOutbox", "loop.example/g00583/laws.toApplied", "loop.example/g00583/laws.toAppliedS", "loop.example/g00583/laws.toServer", "loop.example/g00583/laws.toSync", "loop.example/g00583/laws.toReplica", "loop.example/g00583/laws.toSubscription", "loop.example/g00583/laws.toPush", "loop.example/g00583/laws.toPushS", "loop.example/g00583/laws.toLock", "loop.example/g00583/laws.toLockS", "loop.example/g00583/laws.toLockTable", "loop.example/g00583/laws.toMail", "loop.example/g00583/laws.toMailS", "loop.example/g00583/laws.toChannel", "loop.example/g00583/laws.toBucket", "loop.example/g00583/laws.toBucketS", "loop.example/g00583/laws.toStorage", "loop.example/g00583/laws.toSiteS", "loop.example/g00583/laws.toServerS", "loop.example/g00583/laws.toWorld", "loop.example/g00583/laws.toEvent", "loop.example/g00583/laws.toEventS", "loop.example/g00583/impl.copyBytes", "loop.example/g00583/impl.copyRecord", "loop.example/g00583/impl.copyItem", "loop.example/g00583/impl.copyStore", "loop.example/g00583/impl.copyDatabase", "loop.example/g00583/impl.copyDisk", "loop.example/g00583/impl.copyResponse", "loop.example/g00583/impl.copyCacheSet", "loop.example/g00583/impl.copyOutbox", "loop.example/g00583/impl.copySync", "loop.example/g00583/impl.copyReplica", "loop.example/g00583/impl.copyBucket", "loop.example/g00583/impl.copyStorage", "loop.example/g00583/impl.copyMachine", "loop.example/g00583/impl.copyPage", "loop.example/g00583/impl.copyPages", "loop.example/g00583/impl.copyLocks", "loop.example/g00583/impl.copyChannel", "loop.example/g00583/impl.copySite", "loop.example/g00583/impl.copyServer", "loop.example/g00583/impl.copyWorld", "loop.example/g00583/impl.SetOnline", "loop.example/g00583/spec.l8Copy", "loop.example/g00583/spec.l5Copy", "loop.example/g00583/spec.l6Copy", "loop.example/g00583/spec.l12Copy", "loop.example/g00583/spec.l14Copy", "loop.example/g00583/spec.l15Copy", "loop.example/g00583/spec.l16Copy", "loop.example/g00583/spec.l17Copy", "loop.example/g00583/spec.l19Copy", "loop.example/g00583/spec.l20Copy", "loop.example/g00583/spec.l21Copy", "loop.example/g00583/spec.l22Copy", "loop.example/g00583/spec.l23Copy", "loop.example/g00583/spec.l25Copy", "loop.example/g00583/spec.l26Copy", "loop.example/g00583/spec.l27Copy", "loop.example/g00583/spec.l28Copy", "loop.example/g00583/spec.l29Copy", "loop.example/g00583/spec.l6Item", "loop.example/g00583/spec.l14Script", "loop.example/g00583/spec.l17Cache", "loop.example/g00583/spec.SetOnline", "loop.example/g00583/impl.DurableNotes", "loop.example/g00583/spec.DurableNotes", "loop.example/g00583/impl.SetPersistent", "loop.example/g00583/impl.TickWorld", "loop.example/g00583/impl.EvictOld", "loop.example/g00583/impl.KillPage", "loop.example/g00583/impl.ReleaseLocks", "loop.example/g00583/impl.GrantLocks", "loop.example/g00583/impl.PullBucket", "loop.example/g00583/impl.ReplaceReplica", "loop.example/g00583/impl.changedBucket", "loop.example/g00583/impl.SyncBucket", "loop.example/g00583/impl.withReplica", "loop.example/g00583/impl.DrainBucket", "loop.example/g00583/impl.SettleWorld", "loop.example/g00583/impl.CrashWorld"]
def OY :List (String×List Nat):=[("loop.example/g00583/impl.IsDatabase",[8,9]),("loop.example/g00583/spec.IsDatabase",[6,7]),("loop.example/g00583/impl.copyDatabase",[1000002,5000002]),("loop.example/g00583/spec.l8Copy",[1000002,5000002])]
def Qo (s:String):List Nat:=match OY.find? (fun x=>x.1==s)with
 |some x=>x.2
 |none=>[]
def PM :List (String×List Nat):=[("loop.example/g00583/laws.FnExactOthersOf",[32,36]),("loop.example/g00583/laws.FnExactSetOnline",[23,26]),("loop.example/g00583/laws.FnExactScriptOf",[11]),("loop.example/g00583/laws.FnExactSetPersistent",[38,43]),("loop.example/g00583/laws.FnExactTickWorld",[29,33]),("loop.example/g00583/laws.FnExactKillPage",[29,33]),("loop.example/g00583/laws.FnExactPullBucket",[38,43]),("loop.example/g00583/laws.FnExactSyncBucket",[41,47]),("loop.example/g00583/laws.FnExactDrainBucket",[32,36]),("loop.example/g00583/laws.FnExactSettleWorld",[20,22]),("loop.example/g00583/laws.FnExactCrashWorld",[28,30,33])]
def QC (s:String):Option (List Nat):=match PM.find? (fun x=>x.1==s)with
 |some x=>some x.2
 |none=>none
def Ko {α:Type}(b:Bool)(f:Bool→α):α:=match b with
 |true=>f true
 |false=>f false
def FI {α:Type}(l:List Nat)(f:List Nat→α):α:=match l with
 |[]=>f []
 |[a]=>f [a]
 |[a,b]=>f [a,b]
 |l=>f l
theorem Nl {α:Type}(b:Bool)(f:Bool→α):Ko b f=f b:=by cases b<;>rfl
theorem LO {α:Type}(l:List Nat)(f:List Nat→α):FI l f=f l:=by
 unfold FI;split<;>rfl
def P2 (P:Program)(kf:FuncId→Option Nat)(fn:Func):Option AFn:=
 match fn.body with
 |some c=>Ko (Kd.contains fn.name) fun dt=>Ko (Kc.contains fn.name) fun dp=>Ko (F6.contains fn.name||(QC fn.name).isSome) fun zn=>FI ((QC fn.name).getD []) fun zl=>FI (Qo fn.name) fun tr=>
  match oZ P kf dt dp zn zl tr c,fK (Lh P) fn.results.toList with
  |some b,some rs=>if fn.name== "runtime.NumGoroutine" then none else some ⟨fn.ntmps,rs,b⟩
  |_,_=>none
 |none=>none
theorem Fl (P:Program)(kf:FuncId→Option Nat)(fn:Func):P2 P kf fn=
 match fn.body with
 |some c=>match oZ P kf (Kd.contains fn.name) (Kc.contains fn.name) (F6.contains fn.name||(QC fn.name).isSome) ((QC fn.name).getD []) (Qo fn.name) c,fK (Lh P) fn.results.toList with
  |some b,some rs=>if fn.name== "runtime.NumGoroutine" then none else some ⟨fn.ntmps,rs,b⟩
  |_,_=>none
 |none=>none:=by
 unfold P2
 cases fn.body with
 |none=>rfl
 |some c=>simp only[Nl,LO]
end Gi
