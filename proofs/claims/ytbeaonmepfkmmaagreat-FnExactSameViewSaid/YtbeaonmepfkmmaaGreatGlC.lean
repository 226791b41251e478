/- Of this proof. -/
import Derived.Test.YtbeaonmepfkmmaaGreatGkd
set_option linter.unusedSimpArgs false
set_option linter.unusedVariables false
namespace Gi
open Go Go.RowKit
set_option maxHeartbeats 4000000
def Fe :Nat→Nat→List UInt8
 |0,_=>[]
 |f+1,n=>if n<128 then [UInt8.ofNat n]else UInt8.ofNat (n%128+128)::Fe f (n/128)
def jZ (n:Nat):List UInt8:=Fe 6 n
def Le :Nat→Bool→List UInt8→Option (Nat×Nat)
 |0,_,_=>none
 |_+1,_,[]=>none
 |f+1,z,b::l=>if b.toNat<128 then(if z=true∧b.toNat=0 then none else some (b.toNat,1))else
  match Le f true l with
  |none=>none
  |some (n,k)=>some (b.toNat%128+128*n,k+1)
def oJ :List UInt8→Nat
 |[]=>0
 |b::l=>b.toNat%128+128*oJ l
theorem xR :∀l:List UInt8,oJ l<128^l.length
 |[]=>by simp[oJ]
 |b::l=>by
  have:=xR l
  have h:b.toNat%128<128:=Nat.mod_lt _ (by decide)
  simp only[oJ,List.length_cons,Nat.pow_succ]
  omega
theorem Gh :∀(l:List UInt8)(b:UInt8),oJ (l++[b])=oJ l+b.toNat%128*128^l.length
 |[],b=>by simp[oJ]
 |a::l,b=>by
  simp only[List.cons_append,oJ,Gh l b,List.length_cons,Nat.pow_succ]
  rw[Nat.mul_add,←Nat.mul_assoc,Nat.mul_comm 128 (b.toNat%128),Nat.mul_assoc,Nat.mul_comm 128 (128^l.length),Nat.add_assoc]
theorem Nu :∀(f k:Nat)(z:Bool)(l:List UInt8)(hk:k<l.length),k<f→(∀j(hj:j<l.length),j<k→128≤l[j].toNat)→l[k].toNat<128→Le f z l=if(z=true∨0<k)∧l[k].toNat=0 then none else some (oJ (l.take (k+1)),k+1)
 |0,k,z,l,hk,hf,h1,h2=>by omega
 |f+1,0,z,b::l,hk,hf,h1,h2=>by
  simp only[List.getElem_cons_zero]at h2
  have:b.toNat%128=b.toNat:=Nat.mod_eq_of_lt h2
  simp[Le,h2,oJ,this]
 |f+1,k+1,z,b::l,hk,hf,h1,h2=>by
  have h3:¬b.toNat<128:=by
   have:=h1 0 (by simp) (by omega)
   simp only[List.getElem_cons_zero]at this
   omega
  have hk':k<l.length:=by simpa using hk
  simp only[List.getElem_cons_succ]at h2⊢
  have ih:=Nu f k true l hk' (by omega) (fun j hj hjk=>by
   have:=h1 (j+1) (by simp;omega) (by omega)
   simpa using this) h2
  simp only[Le,h3,if_false,ih]
  by_cases h4:l[k].toNat=0
  ·simp[h4]
  ·simp[h4,oJ]
theorem Km :∀(f:Nat)(z:Bool)(l:List UInt8),(∀j(hj:j<l.length),j<f→128≤l[j].toNat)→Le f z l=none
 |0,z,l,h=>rfl
 |f+1,z,[],h=>rfl
 |f+1,z,b::l,h=>by
  have h3:¬b.toNat<128:=by
   have:=h 0 (by simp) (by omega)
   simp only[List.getElem_cons_zero]at this
   omega
  have ih:=Km f true l (fun j hj hjk=>by
   have:=h (j+1) (by simp;omega) (by omega)
   simpa using this)
  simp[Le,h3,ih]
theorem Nv :∀(f n:Nat)(z:Bool)(t:List UInt8),n<128^f→0<f→(z=true→n≠0)→Le f z (Fe f n++t)=some (n,(Fe f n).length)
 |0,n,z,t,h,h0,hz=>by omega
 |f+1,n,z,t,h,h0,hz=>by
  by_cases c:n<128
  ·have e:(UInt8.ofNat n).toNat=n:=by simp;omega
   simp only[Fe,c,if_true,List.cons_append,List.nil_append,Le,e,List.length_cons,List.length_nil]
   rw[if_neg (fun q=>hz q.1 q.2)]
  ·have e:(UInt8.ofNat (n%128+128)).toNat=n%128+128:=by simp;omega
   have e2:¬(n%128+128<128):=by omega
   have hf:0<f:=by
    rcases Nat.eq_zero_or_pos f with rfl|q
    ·simp at h;omega
    ·exact q
   have ih:=Nv f (n/128) true t (by rw[Nat.pow_succ]at h;omega) hf (fun _=>by omega)
   simp only[Fe,c,if_false,List.cons_append,Le,e,e2,ih,List.length_cons,Option.some.injEq,Prod.mk.injEq,and_true]
   omega
theorem GF :∀(f n k:Nat)(z:Bool)(l:List UInt8),Le f z l=some (n,k)→(∃t,l=Fe f n++t)∧k=(Fe f n).length∧(z=true→n≠0)
 |0,n,k,z,l,h=>by simp[Le]at h
 |f+1,n,k,z,[],h=>by simp[Le]at h
 |f+1,n,k,z,b::l,h=>by
  by_cases c:b.toNat<128
  ·simp only[Le,c,if_true]at h
   split at h
   ·cases h
   ·rename_i q
    simp only[Option.some.injEq,Prod.mk.injEq]at h
    obtain⟨rfl,rfl⟩:=h
    simp only[Fe,c,if_true,UInt8.ofNat_toNat]
    exact⟨⟨l,rfl⟩,rfl,fun z1 z2=>q ⟨z1,z2⟩⟩
  ·simp only[Le,c,if_false]at h
   cases e:Le f true l with
   |none=>rw[e]at h;cases h
   |some p=>
    obtain⟨m,i⟩:=p
    rw[e]at h
    simp only[Option.some.injEq,Prod.mk.injEq]at h
    obtain⟨rfl,rfl⟩:=h
    obtain⟨⟨t,rfl⟩,rfl,hz⟩:=GF f m i true l e
    have hm:=hz rfl
    have hb:=b.toNat_lt
    have c2:¬(b.toNat%128+128*m<128):=by omega
    have e3:(b.toNat%128+128*m)/128=m:=by omega
    have e4:(b.toNat%128+128*m)%128+128=b.toNat:=by omega
    simp only[Fe,c2,if_false,e3,e4,UInt8.ofNat_toNat]
    exact⟨⟨t,rfl⟩,rfl,fun _ q=>c2 (by omega)⟩
def te (b:List UInt8):Option (Nat×Nat):=
 match Le 6 false b with
 |none=>none
 |some (n,k)=>if n≤1000000000000 then some (n,k)else none
theorem Nx {n:Nat}{t:List UInt8}(h:n≤1000000000000):te (jZ n++t)=some (n,(jZ n).length):=by
 simp[te,jZ,Nv 6 n false t (by omega) (by decide) (by simp),h]
theorem sK {b:List UInt8}{n k:Nat}(h:te b=some (n,k)):(∃t,b=jZ n++t)∧k=(jZ n).length∧n≤1000000000000:=by
 unfold te at h
 split at h
 ·cases h
 ·rename_i m i e
  split at h
  ·rename_i q
   simp only[Option.some.injEq,Prod.mk.injEq]at h
   obtain⟨rfl,rfl⟩:=h
   obtain⟨a,c,_⟩:=GF _ _ _ _ _ e
   exact⟨a,c,q⟩
  ·cases h
theorem NN :∀(f n:Nat),(Fe f n).length≤f
 |0,n=>by simp[Fe]
 |f+1,n=>by
  have:=NN f (n/128)
  unfold Fe
  split<;>simp<;>omega
theorem jY (n:Nat):(jZ n).length≤6:=NN 6 n
theorem CM (n:Nat):0<(jZ n).length:=by unfold jZ Fe;split<;>simp
theorem GV {n:Nat}(h:n<128):(jZ n).length=1:=by simp[jZ,Fe,h]
theorem lG {b:List UInt8}{n k:Nat}(h:te b=some (n,k)):0<k∧k≤b.length∧n≤1000000000000:=by
 obtain⟨⟨t,rfl⟩,rfl,q⟩:=sK h
 have:=CM n
 simp;omega
def ny (s:List UInt8):List UInt8:=jZ s.length++s
def QW (b:List UInt8):Option (List UInt8×Nat):=
 match te b with
 |none=>none
 |some (n,k)=>if n≤b.length-k then some ((b.drop k).take n,k+n)else none
def Cm (m:Nat)(b:List UInt8):Option (List UInt8×Nat):=
 match QW b with
 |none=>none
 |some (s,k)=>if s.length≤m then some (s,k)else none
theorem CE {s t:List UInt8}(h:s.length≤1000000000000):QW (ny s++t)=some (s,(ny s).length):=by
 simp[QW,ny,Nx h]
theorem GE {b s:List UInt8}{k:Nat}(h:QW b=some (s,k)):(∃t,b=ny s++t)∧k=(ny s).length∧s.length≤1000000000000:=by
 unfold QW at h
 split at h
 ·cases h
 ·rename_i n i e
  split at h
  ·rename_i q
   simp only[Option.some.injEq,Prod.mk.injEq]at h
   obtain⟨rfl,rfl⟩:=h
   obtain⟨⟨t,rfl⟩,rfl,hn⟩:=sK e
   simp only[List.length_append,Nat.add_sub_cancel_left]at q
   have e2:(t.take n).length=n:=by simp;omega
   simp only[List.drop_left,ny,e2]
   exact⟨⟨t.drop n,by simp⟩,by simp;omega,hn⟩
  ·cases h
theorem jW {b s:List UInt8}{k:Nat}(h:QW b=some (s,k)):s.length<k∧k≤b.length∧s.length≤1000000000000:=by
 obtain⟨⟨t,rfl⟩,rfl,q⟩:=GE h
 have:=CM s.length
 simp[ny];omega
theorem fi {m:Nat}{b s:List UInt8}{k:Nat}(h:Cm m b=some (s,k)):QW b=some (s,k)∧s.length≤m:=by
 unfold Cm at h
 split at h
 ·cases h
 ·rename_i x y e
  split at h
  ·rename_i q
   simp only[Option.some.injEq,Prod.mk.injEq]at h
   obtain⟨rfl,rfl⟩:=h
   exact⟨e,q⟩
  ·cases h
theorem uU {m:Nat}{b s:List UInt8}{k:Nat}(h:QW b=some (s,k))(hm:s.length≤m):Cm m b=some (s,k):=by
 simp[Cm,h,hm]
def SH (x:Nat):List UInt8:=[UInt8.ofNat (x/1099511627776),UInt8.ofNat (x/4294967296),UInt8.ofNat (x/16777216),UInt8.ofNat (x/65536),UInt8.ofNat (x/256),UInt8.ofNat x]
def Td (a b c d e f:UInt8):Nat:=((((a.toNat*256+b.toNat)*256+c.toNat)*256+d.toNat)*256+e.toNat)*256+f.toNat
theorem RJ (a b c d e f:UInt8):SH (Td a b c d e f)=[a,b,c,d,e,f]:=by
 have:=a.toNat_lt;have:=b.toNat_lt;have:=c.toNat_lt;have:=d.toNat_lt;have:=e.toNat_lt;have:=f.toNat_lt
 simp only[SH,Td,List.cons.injEq,←UInt8.toNat_inj,UInt8.toNat_ofNat',and_true]
 refine⟨?_,?_,?_,?_,?_,?_⟩<;>omega
def iH (k:XKey):List UInt8:=if fA k=true then UInt8.ofNat k.kind.toNat::((if k.kind=2 then []else SH (k.n+1000000000000).toNat)++k.text)else []
def nB :List UInt8→Option XKey
 |[]=>none
 |c::l=>if(c.toNat:Int)=2 then some ⟨2,0,l⟩else
  match l with
  |a::b::d::e::f::g::t=>some ⟨c.toNat,(Td a b d e f g:Int)-1000000000000,t⟩
  |_=>none
theorem tN {n a b:Int}:rg n a b=true↔a≤n∧n≤b:=by simp[rg,cw]
theorem sE {k:XKey}(h:fA k=true):1≤k.kind∧k.kind≤3∧-1000000000000≤k.n∧k.n≤1000000000000∧(k.kind=2→k.n=0)∧k.text.length≤12:=by
 unfold fA uO at h
 simp only[Bool.and_eq_true,tN,Bool.or_eq_true,Bool.not_eq_true',beq_eq_false_iff_ne,beq_iff_eq]at h
 obtain⟨⟨⟨⟨⟨h1,h2⟩,h3,h4⟩,h5⟩,_,h6⟩,_⟩:=h
 have:=of_decide_eq_false h6
 exact⟨h1,h2,h3,h4,fun q=>h5.resolve_left (fun z=>z q),by omega⟩
theorem Qd {b:List UInt8}{k:XKey}(h:nB b=some k):iH k=b↔fA k=true:=by
 constructor
 ·intro q
  by_cases c:fA k=true
  ·exact c
  ·rw[iH,if_neg c]at q
   subst q
   cases h
 ·intro q
  rw[iH,if_pos q]
  match b,h with
  |[],h=>cases h
  |c::l,h=>
   by_cases e:(c.toNat:Int)=2
   ·simp only[nB,e,if_true,Option.some.injEq]at h
    subst h
    have:UInt8.ofNat (2:Int).toNat=c:=by
     rw[←UInt8.toNat_inj]
     simp
     omega
    simp only[this,if_true,List.nil_append]
   ·simp only[nB,e,if_false]at h
    match l,h with
    |a::b::d::e'::f::g::t,h=>
     simp only[Option.some.injEq]at h
     subst h
     have e1:(((Td a b d e' f g:Nat):Int)-1000000000000+1000000000000).toNat=Td a b d e' f g:=by omega
     have e2:UInt8.ofNat ((c.toNat:Int)).toNat=c:=by simp
     simp only[e,if_false,e1,RJ,e2]
     rfl
def uA (b:List UInt8):XKey×Bool:=
 match nB b with
 |none=>(⟨0,0,[]⟩,false)
 |some k=>if fA k=true then(k,true)else(⟨0,0,[]⟩,false)
theorem sv (k:XKey):(iH k).length≤19:=by
 unfold iH
 split
 ·rename_i h
  have:=(sE h).2.2.2.2.2
  split<;>simp[SH]<;>omega
 ·simp
def Og (f:XField):List UInt8:=ny f.name++jZ f.n.toNat
def gJ (l:List XField):List UInt8:=l.flatMap Og
def kY (r:XRecord):List UInt8:=if db r.fs=true then jZ r.fs.length++gJ r.fs else []
def tM :Nat→List UInt8→Option (List XField×Nat)
 |0,_=>some ([],0)
 |m+1,b=>
  match Cm 8 b with
  |none=>none
  |some (s,k)=>
   match te (b.drop k)with
   |none=>none
   |some (x,k2)=>
    match tM m (b.drop (k+k2))with
    |none=>none
    |some (fs,k3)=>some (⟨s,x⟩::fs,k+k2+k3)
def Ut (f:XField):Prop:=f.name.length≤8∧0≤f.n∧f.n≤1000000000000
theorem xy :∀(m:Nat)(b:List UInt8)(l:List XField)(k:Nat),tM m b=some (l,k)→(∃t,b=gJ l++t)∧k=(gJ l).length∧l.length=m∧∀f∈l,Ut f
 |0,b,l,k,h=>by
  simp only[tM,Option.some.injEq,Prod.mk.injEq]at h
  obtain⟨rfl,rfl⟩:=h
  exact⟨⟨b,rfl⟩,rfl,rfl,by simp⟩
 |m+1,b,l,k,h=>by
  unfold tM at h
  split at h
  ·cases h
  ·rename_i s i e1
   split at h
   ·cases h
   ·rename_i x j e2
    split at h
    ·cases h
    ·rename_i fs q e3
     simp only[Option.some.injEq,Prod.mk.injEq]at h
     obtain⟨rfl,rfl⟩:=h
     obtain⟨e1,hs⟩:=fi e1
     obtain⟨⟨t1,rfl⟩,rfl,_⟩:=GE e1
     rw[List.drop_left]at e2
     obtain⟨⟨t2,rfl⟩,rfl,hx⟩:=sK e2
     rw[←List.append_assoc,←List.length_append,List.drop_left]at e3
     obtain⟨⟨t3,rfl⟩,rfl,hl,hf⟩:=xy m t2 fs q e3
     refine⟨⟨t3,by simp[gJ,Og]⟩,by simp[gJ,Og];omega,by simp[hl],fun f hm=> ?_⟩
     rcases List.mem_cons.1 hm with rfl|hm
     ·exact⟨hs,by simp,by simp;omega⟩
     ·exact hf f hm
def Kp (b:List UInt8):Option (XRecord×Nat):=
 match te b with
 |none=>none
 |some (n,k)=>if n≤6 then
  match tM n (b.drop k)with
  |none=>none
  |some (fs,k2)=>some (⟨fs⟩,k+k2)
  else none
theorem xl {s:List UInt8}(h:iG s=true):1≤s.length∧s.length≤8:=by
 simp only[iG,xm,Bool.and_eq_true,tN]at h
 omega
theorem pU {r:XRecord}(h:db r.fs=true):r.fs.length≤6∧∀f∈r.fs,Ut f:=by
 simp only[db,Bool.and_eq_true,Bool.not_eq_true']at h
 have hl:=of_decide_eq_false h.2
 refine⟨by omega,fun f m=> ?_⟩
 obtain⟨j,hj,rfl⟩:=List.mem_iff_getElem.1 m
 have:=wL h.1 hj
 simp only[Ll,hj,show j-1<r.fs.length by omega,List.getElem?_eq_getElem,Bool.or_eq_false_iff,Bool.not_eq_false',tN]at this
 have q:=xl this.1
 exact⟨q.2,this.2.1.1,by omega⟩
theorem O6 {b:List UInt8}{r:XRecord}{k:Nat}(h:Kp b=some (r,k)):(∃t,b=jZ r.fs.length++gJ r.fs++t)∧k=(jZ r.fs.length++gJ r.fs).length∧r.fs.length≤6∧∀f∈r.fs,Ut f:=by
 unfold Kp at h
 split at h
 ·cases h
 ·rename_i n i e1
  split at h
  ·rename_i hn
   split at h
   ·cases h
   ·rename_i fs j e2
    simp only[Option.some.injEq,Prod.mk.injEq]at h
    obtain⟨rfl,rfl⟩:=h
    obtain⟨⟨t1,rfl⟩,rfl,_⟩:=sK e1
    rw[List.drop_left]at e2
    obtain⟨⟨t2,rfl⟩,rfl,rfl,hf⟩:=xy _ _ _ _ e2
    exact⟨⟨t2,by simp⟩,by simp,hn,hf⟩
  ·cases h
theorem Qe {b:List UInt8}{r:XRecord}{k:Nat}(h:Kp b=some (r,k)):kY r=b↔db r.fs=true∧k=b.length:=by
 obtain⟨⟨t,e⟩,rfl,_,_⟩:=O6 h
 constructor
 ·intro q
  by_cases c:db r.fs=true
  ·refine⟨c,?_⟩
   rw[kY,if_pos c]at q
   rw[q]
  ·rw[kY,if_neg c]at q
   have:=CM r.fs.length
   have:=congrArg List.length e
   rw[←q]at this
   simp at this
   omega
 ·rintro⟨c,q⟩
  have:=congrArg List.length e
  rw[←q,List.length_append]at this
  have ht:t=[]:=List.length_eq_zero_iff.1 (by simp only[List.length_append]at this;omega)
  rw[kY,if_pos c,e,ht,List.append_nil]
def v5 (b:List UInt8):XRecord×Bool:=
 match Kp b with
 |none=>(⟨[]⟩,false)
 |some (r,k)=>if k=b.length∧db r.fs=true then(r,true)else(⟨[]⟩,false)
theorem vJ :∀(l:List XField),(∀f∈l,Ut f)→(gJ l).length≤15*l.length
 |[],h=>by simp[gJ]
 |f::l,h=>by
  have ih:=vJ l (fun g m=>h g (by simp[m]))
  have h1:=(h f (by simp)).1
  have h2:=GV (n:=f.name.length) (by omega)
  have h3:=jY f.n.toNat
  simp only[gJ,List.flatMap_cons,Og,ny,List.length_append,List.length_cons]at ih⊢
  omega
theorem uB (r:XRecord):(kY r).length≤91:=by
 unfold kY
 split
 ·rename_i h
  obtain⟨h1,h2⟩:=pU h
  have:=vJ r.fs h2
  have:=GV (n:=r.fs.length) (by omega)
  simp only[List.length_append]
  omega
 ·simp
structure Raw where
 kind:Nat
 a:List UInt8
 b:List UInt8
 c:List UInt8
 d:List UInt8
def um (m:Nat×Nat×Nat×Nat)(b:List UInt8):Option (Raw×Nat):=
 match te b with
 |none=>none
 |some (n,k)=>
  match Cm m.1 (b.drop k)with
  |none=>none
  |some (p,k1)=>
   match Cm m.2.1 (b.drop (k+k1))with
   |none=>none
   |some (q,k2)=>
    match Cm m.2.2.1 (b.drop (k+k1+k2))with
    |none=>none
    |some (r,k3)=>
     match Cm m.2.2.2 (b.drop (k+k1+k2+k3))with
     |none=>none
     |some (s,k4)=>some (⟨n,p,q,r,s⟩,k+k1+k2+k3+k4)
structure XOp where
 kind:Int
 store:List UInt8
 key:XKey
 rcd:XRecord
 field:List UInt8
def XOp.e (x:XOp):List PV:=[.int .i64 x.kind, .str x.store, .int .i64 x.key.kind, .int .i64 x.key.n, .str x.key.text, .lst (x.rcd.fs.map XField.e), .str x.field]
theorem xQ (x:XOp):x.e=[.int .i64 x.kind, .str x.store, .int .i64 x.key.kind, .int .i64 x.key.n, .str x.key.text, .lst (x.rcd.fs.map XField.e), .str x.field]:=rfl
abbrev XOp.v (x:XOp):V:= .agg [.pv (.int .i64 x.kind), .pv (.str x.store), .pv (.int .i64 x.key.kind), .pv (.int .i64 x.key.n), .pv (.str x.key.text), .pv (.lst (x.rcd.fs.map XField.e)), .pv (.str x.field)]
def XOp.Ok (B:Nat)(x:XOp):Prop:=jt x.kind∧x.store.length≤B∧x.key.Ok B∧x.rcd.Ok B∧x.field.length≤B
def kR (r:Raw):XOp:=⟨r.kind,r.a,(uA r.b).1,(v5 r.c).1,r.d⟩
def jU (o:XOp):Bool:=rg o.kind 1 6&&(iG o.store&&((o.kind==5||fA o.key)&&(db o.rcd.fs&&(bif o.kind==6 then iG o.field else o.field==[]))))
def wC (o:XOp):Raw:=⟨o.kind.toNat,o.store,iH o.key,kY o.rcd,o.field⟩
def JJ (m:Nat×Nat×Nat×Nat)(r:Raw):Prop:=r.a.length≤m.1∧r.b.length≤m.2.1∧r.c.length≤m.2.2.1∧r.d.length≤m.2.2.2
def FZ (r:Raw):List UInt8:=jZ r.kind++(ny r.a++(ny r.b++(ny r.c++ny r.d)))
def UU (r:Raw):Prop:=r.kind≤1000000000000∧r.a.length≤1000000000000∧r.b.length≤1000000000000∧r.c.length≤1000000000000∧r.d.length≤1000000000000
theorem Sq {m:Nat×Nat×Nat×Nat}{r:Raw}{t:List UInt8}(h:JJ m r)(w:UU r):um m (FZ r++t)=some (r,(FZ r).length):=by
 obtain⟨k,a,b,c,d⟩:=r
 obtain⟨h1,h2,h3,h4⟩:=h
 obtain⟨w0,w1,w2,w3,w4⟩:=w
 simp only at h1 h2 h3 h4 w0 w1 w2 w3 w4
 have g0:FZ ⟨k,a,b,c,d⟩++t=jZ k++(ny a++(ny b++(ny c++(ny d++t)))):=by simp[FZ]
 rw[g0]
 simp only[um,Nx (n:=k) (t:=ny a++(ny b++(ny c++(ny d++t)))) w0,List.drop_left,uU (CE (s:=a) (t:=ny b++(ny c++(ny d++t))) w1) h1]
 rw[←List.append_assoc,←List.length_append,List.drop_left]
 simp only[uU (CE (s:=b) (t:=ny c++(ny d++t)) w2) h2]
 rw[←List.append_assoc,←List.length_append,List.drop_left]
 simp only[uU (CE (s:=c) (t:=ny d++t) w3) h3]
 rw[←List.append_assoc,←List.length_append,List.drop_left]
 simp only[uU (CE (s:=d) (t:=t) w4) h4]
 simp[FZ,Nat.add_assoc]
theorem Sr {m:Nat×Nat×Nat×Nat}{b:List UInt8}{r:Raw}{k:Nat}(h:um m b=some (r,k)):JJ m r∧∀m',JJ m' r→um m' b=some (r,k):=by
 unfold um at h
 split at h
 ·cases h
 ·rename_i e0
  split at h
  ·cases h
  ·rename_i e1
   split at h
   ·cases h
   ·rename_i e2
    split at h
    ·cases h
    ·rename_i e3
     split at h
     ·cases h
     ·rename_i e4
      simp only[Option.some.injEq,Prod.mk.injEq]at h
      obtain⟨rfl,rfl⟩:=h
      refine⟨⟨(fi e1).2,(fi e2).2,(fi e3).2,(fi e4).2⟩,fun m'⟨f1,f2,f3,f4⟩=> ?_⟩
      simp only at f1 f2 f3 f4
      simp only[um,e0,uU (fi e1).1 f1,uU (fi e2).1 f2,uU (fi e3).1 f3,uU (fi e4).1 f4]
def nf (m:Nat×Nat×Nat×Nat):Nat→List UInt8→Option (List Raw)
 |0,_=>some []
 |n+1,b=>
  match um m b with
  |none=>none
  |some (r,k)=>
   match nf m n (b.drop k)with
   |none=>none
   |some l=>some (r::l)
theorem Ko {m:Nat×Nat×Nat×Nat}:∀(l:List Raw),(∀r∈l,JJ m r∧UU r)→nf m l.length (l.flatMap FZ)=some l
 |[],h=>rfl
 |r::l,h=>by
  have ih:=Ko l (fun x q=>h x (by simp[q]))
  simp only[List.length_cons,List.flatMap_cons,nf,Sq (t:=l.flatMap FZ) (h r (by simp)).1 (h r (by simp)).2,List.drop_left,ih]
theorem yU {m:Nat×Nat×Nat×Nat}:∀(n:Nat)(b:List UInt8)(l:List Raw),nf m n b=some l→l.length=n∧(∀r∈l,JJ m r)∧∀m',(∀r∈l,JJ m' r)→nf m' n b=some l
 |0,b,l,h=>by
  simp only[nf,Option.some.injEq]at h
  subst h
  exact⟨rfl,by simp,fun _ _=>rfl⟩
 |n+1,b,l,h=>by
  unfold nf at h
  split at h
  ·cases h
  ·rename_i r k e
   split at h
   ·cases h
   ·rename_i l' e2
    simp only[Option.some.injEq]at h
    subst h
    obtain⟨h1,h2,h3⟩:=yU n _ _ e2
    obtain⟨g1,g2⟩:=Sr e
    refine⟨by simp[h1],fun x q=> ?_,fun m' q=> ?_⟩
    ·rcases List.mem_cons.1 q with rfl|q
     ·exact g1
     ·exact h2 x q
    ·simp only[nf,g2 m' (q r (by simp)),h3 m' (fun x p=>q x (by simp[p]))]
def tq (o:XOp):List UInt8:=FZ (wC o)
def xU (l:List XOp):Bool:=l.all jU&&decide ((l.length:Int)≤6)
def kV (l:List XOp):List UInt8:=if xU l=true then jZ l.length++l.flatMap tq else []
def kw (m:Nat×Nat×Nat×Nat)(b:List UInt8):Option (List XOp):=
 match te b with
 |none=>none
 |some (n,k)=>if n≤6 then
  match nf m n (b.drop k)with
  |none=>none
  |some l=>some (l.map kR)
  else none
def lM (m:Nat×Nat×Nat×Nat)(b:List UInt8):List XOp×Bool:=
 match kw m b with
 |none=>([],false)
 |some l=>if kV l=b then(l,true)else([],false)
theorem Em {o:XOp}(h:jU o=true):JJ (100,100,200,100) (wC o)∧UU (wC o):=by
 unfold jU at h
 simp only[Bool.and_eq_true,tN]at h
 obtain⟨⟨h1,h2⟩,h3,_,_,h4⟩:=h
 have l3:=xl h3
 have l1:=sv o.key
 have l2:=uB o.rcd
 have l4:o.field.length≤8:=by
  cases q:(o.kind==6)<;>rw[q]at h4<;>simp only[cond_true,cond_false]at h4
  ·simp only[beq_iff_eq]at h4
   simp[h4]
  ·exact(xl h4).2
 refine⟨⟨?_,?_,?_,?_⟩,⟨?_,?_,?_,?_,?_⟩⟩<;>simp only[wC]<;>omega
theorem Tt {m:Nat×Nat×Nat×Nat}{b:List UInt8}{r:Raw}{k:Nat}(h:um m b=some (r,k)):r.a.length≤b.length∧r.b.length≤b.length∧r.c.length≤b.length∧r.d.length≤b.length∧k≤b.length∧0<k:=by
 unfold um at h
 split at h
 ·cases h
 ·rename_i e0
  split at h
  ·cases h
  ·rename_i e1
   split at h
   ·cases h
   ·rename_i e2
    split at h
    ·cases h
    ·rename_i e3
     split at h
     ·cases h
     ·rename_i e4
      simp only[Option.some.injEq,Prod.mk.injEq]at h
      obtain⟨rfl,rfl⟩:=h
      have a0:=lG e0
      have a1:=jW (fi e1).1
      have a2:=jW (fi e2).1
      have a3:=jW (fi e3).1
      have a4:=jW (fi e4).1
      simp only[List.length_drop]at a1 a2 a3 a4
      simp only
      omega
theorem Nw {m:Nat×Nat×Nat×Nat}:∀(n:Nat)(b:List UInt8)(l:List Raw),nf m n b=some l→∀r∈l,r.a.length≤b.length∧r.b.length≤b.length∧r.c.length≤b.length∧r.d.length≤b.length
 |0,b,l,h=>by
  simp only[nf,Option.some.injEq]at h
  subst h
  simp
 |n+1,b,l,h=>by
  unfold nf at h
  split at h
  ·cases h
  ·rename_i r k e
   split at h
   ·cases h
   ·rename_i l' e2
    simp only[Option.some.injEq]at h
    subst h
    intro x q
    rcases List.mem_cons.1 q with rfl|q
    ·have:=Tt e
     omega
    ·have:=Nw n _ _ e2 x q
     simp only[List.length_drop]at this
     omega
theorem Kl {m m0:Nat×Nat×Nat×Nat}{b:List UInt8}{l:List XOp}(h1:b.length≤m.1)(h2:b.length≤m.2.1)(h3:b.length≤m.2.2.1)(h4:b.length≤m.2.2.2)(h:kw m0 b=some l):kw m b=some l:=by
 unfold kw at h⊢
 split at h
 ·cases h
 ·rename_i n k e0
  split at h
  ·rename_i hn
   split at h
   ·cases h
   ·rename_i rs e1
    have:=(yU _ _ _ e1).2.2 m (fun r hr=>by
     have:=Nw _ _ _ e1 r hr
     simp only[List.length_drop]at this
     refine⟨?_,?_,?_,?_⟩<;>omega)
    simp only[hn,if_true,this]
    exact h
  ·cases h
theorem Mc {m m0:Nat×Nat×Nat×Nat}{b:List UInt8}{l:List XOp}(h1:b.length≤m.1)(h2:b.length≤m.2.1)(h3:b.length≤m.2.2.1)(h4:b.length≤m.2.2.2)(hm:∀o,jU o=true→JJ m0 (wC o))(h:kw m b=some l)(q:kV l=b):kw m0 b=some l:=by
 have hs:=h
 unfold kw at h
 split at h
 ·cases h
 ·rename_i n k e0
  split at h
  ·rename_i hn
   split at h
   ·cases h
   ·rename_i rs e1
    simp only[Option.some.injEq]at h
    obtain⟨⟨t,e2⟩,e3,_⟩:=sK e0
    have l1:l.length=n:=by rw[←h,List.length_map];exact(yU _ _ _ e1).1
    unfold kV at q
    split at q
    ·rename_i ha
     unfold xU at ha
     simp only[Bool.and_eq_true,List.all_eq_true]at ha
     rw[l1]at q
     have q2:b.drop k=(l.map wC).flatMap FZ:=by
      rw[←q,e3,List.drop_left,List.flatMap_map];rfl
     have e4:=Ko (m:=m0) (l.map wC) (fun r hr=>by
      obtain⟨o,ho,rfl⟩:=List.mem_map.1 hr
      exact⟨hm o (ha.1 o ho),(Em (ha.1 o ho)).2⟩)
     rw[List.length_map,l1,←q2]at e4
     have e5:kw m0 b=some ((l.map wC).map kR):=by simp only[kw,e0,hn,if_true,e4]
     have e6:=Kl h1 h2 h3 h4 e5
     rw[hs]at e6
     rw[e5]
     exact e6.symm
    ·exfalso
     have:=CM n
     rw[e2]at q
     have:=congrArg List.length q
     simp at this
     omega
  ·cases h
theorem RP {m:Nat×Nat×Nat×Nat}{b:List UInt8}(h1:b.length≤m.1)(h2:b.length≤m.2.1)(h3:b.length≤m.2.2.1)(h4:b.length≤m.2.2.2):lM m b=lM (100,100,200,100) b:=by
 have up:=fun l=>Kl (m0:=(100,100,200,100)) (l:=l) h1 h2 h3 h4
 have dn:=fun l=>Mc (m0:=(100,100,200,100)) (l:=l) h1 h2 h3 h4 (fun o ho=>(Em ho).1)
 unfold lM
 cases e:kw m b with
 |none=>
  cases e2:kw (100,100,200,100) b with
  |none=>rfl
  |some l=>have:=up l e2;rw[e]at this;cases this
 |some l=>
  by_cases q:kV l=b
  ·rw[dn l e q]
  ·simp only[q,if_false]
   cases e2:kw (100,100,200,100) b with
   |none=>rfl
   |some l'=>
    have:=up l' e2
    rw[e]at this
    simp only[Option.some.injEq]at this
    subst this
    simp only[q,if_false]
end Gi
namespace Gi
open Go Go.RowKit
set_option maxHeartbeats 8000000
set_option maxRecDepth 4000
attribute [local simp] start nx bZ cJ cB dB cA dA dG dF og oA oh oB ol oC om oD oq oE ot oF ou oG ov oH oz oI V.cells plain bt gD isInt isStr isBool bin bM fF bN fG dC un asList L.view au V.view viewL aT az bQ bd b6 comp aN bU cy bI aY aW aX ar aj aE ah aq aO am aR bw aA aZ a9 V.flat L.flat cZ cV br putAt thaw thawL thawT V.ow dE cD cE bO dD bP cC freezeVs freezeLs freezeL V.mut L.mut aH cd eW bg bF aP dN cu bK cH L.ren aJ cS bX cY bW bE wp_seq wp_block aM cG bR bf bS wp_skip wp_exit wp_ret b9 b8 cj ca cr ct cq bH aF L.notArr bq bo bp cF b7 storeD aS eB ba bY aQ kX L.mov L.closed V.closed PV.bare PV.flat
theorem UZ (m:Int):m.tmod 2147483647=if 0≤m then m%2147483647 else-((-m)%2147483647):=by
 split
 ·rw[Int.tmod_eq_emod_of_nonneg (by omega)]
 ·obtain⟨n,rfl⟩:∃n,m= -n:=⟨-m,by omega⟩
  rw[Int.neg_tmod,Int.tmod_eq_emod_of_nonneg (by omega),Int.neg_neg]
theorem DZ {α β:Type}{g:β→α→β}{a:β}{ns:List α}{k:Nat}(h:k<ns.length):(ns.take (k+1)).foldl g a=g ((ns.take k).foldl g a) ns[k]:=by
 rw[List.take_succ_eq_append_getElem h,List.foldl_append];rfl
theorem Vh (v:Int):v.tmod 2147483647<0→IntKind.i64.wrap (v.tmod 2147483647+2147483647)=v%2147483647:=fun c=>by
 have h:=UZ v
 rw[IntKind.wrap_i64];omega
theorem Vi (v:Int):¬v.tmod 2147483647<0→v.tmod 2147483647=v%2147483647:=fun c=>by
 have h:=UZ v
 omega
theorem UR (v M q:Int)(hw:v.tmod M<0→IntKind.i64.wrap (v.tmod M+M)=q)(hw2:¬v.tmod M<0→v.tmod M=q)(m1:1≤M)(m2:M≤1000000000000)(m3:¬M=0):ag Ph aC 358 [ai .i64 v,ai .i64 M]=some (ai .i64 q):=by
 have e1:=fy M 1 1000000000000
 rw[tN.2 ⟨m1,m2⟩]at e1
 refine aa (fn:=tx) rfl ?_
 by_cases c:v.tmod M<0
 ·simp(maxSteps:=9999999) [tx,e1,m3,eJ c,hw c]
 ·have hq:cw q 0=false:=by rw[←hw2 c];exact fB (Int.not_lt.1 c)
  simp(maxSteps:=9999999) [tx,e1,m3,hq,hw2 c]
theorem HO (v:Int):ag Ph aC 358 [ai .i64 v,ai .i64 2147483647]=some (ai .i64 (v%2147483647)):=UR v _ _ (Vh v) (Vi v) (by omega) (by omega) (by omega)
theorem US (v M q:Int)(hw:(IntKind.i64.wrap (v.tmod M+M)).tmod M=q)(m1:1≤M)(m2:M≤1000000000000)(m3:¬M=0):ag Ph aC 357 [ai .i64 v,ai .i64 M]=some (ai .i64 q):=by
 have e1:=gI M 1 1000000000000
 rw[tN.2 ⟨m1,m2⟩]at e1
 refine aa (fn:=wZ) rfl ?_
 simp(maxSteps:=9999999) [wZ,e1,m3,hw]
theorem Ii (v:Int):ag Ph aC 357 [ai .i64 v,ai .i64 2147483647]=some (ai .i64 (v%2147483647)):=US v _ _ (by
 have h1:=UZ v
 have h2: -2147483647<v.tmod 2147483647∧v.tmod 2147483647<2147483647:=by rw[h1];split<;>omega
 have h3:IntKind.i64.wrap (v.tmod 2147483647+2147483647)=v.tmod 2147483647+2147483647:=by rw[IntKind.wrap_i64];omega
 rw[h3,Int.tmod_eq_emod_of_nonneg (by omega),h1]
 split<;>omega) (by omega) (by omega) (by omega)
def yy (acc v:Int):Int:=(acc*1000003+v%2147483647+13)%2147483647
def kW (ns:List Int):Int:=ns.foldl yy 11
theorem D9 :∀(ns:List Int)(a:Int),0≤a→a<2147483647→0≤ns.foldl yy a∧ns.foldl yy a<2147483647
 |[],a,h0,h1=>⟨h0,h1⟩
 |n::ns,a,h0,h1=>by
  refine D9 ns (yy a n) ?_ ?_<;>(unfold yy;omega)
theorem Bh (ns:List Int):0≤kW ns∧kW ns<2147483647:=D9 ns 11 (by omega) (by omega)
theorem HM {ns:List Int}(hl:ns.length≤maxLen):ag Ph aC 348 [bi (ns.map jS)]=some (ai .i64 (kW ns)):=by
 refine aa (fn:=uC) rfl ?_
 simp +contextual (maxSteps:=9999999) [uC]
 refine aL bG Cl.fin [.f,.f,.f,.t,.f,.f,.t,.t,.t,.f,.f,.f,.f,.f,.f,.f,.f,.f,.f,.f,.f] (fun k=>[(3,ai .i64 (kW (ns.take k))),(8,ai .i64 k)]) ns.length (fun _=>false) rfl (by simp[kW]) (fun k hk _=> ?_) (fun _ _=> ?_)
 ·have e1:=HO ns[k]
  have hx:jS ns[k]=[.int .i64 ns[k]]:=rfl
  have ht:kW (ns.take (k+1))=yy (kW (ns.take k)) ns[k]:=DZ hk
  have hr:=Bh (ns.take k)
  rw[ht]
  generalize kW (ns.take k)=A at hr⊢
  have hm:=Int.emod_nonneg ns[k] (show(2147483647:Int)≠0 by decide)
  have hm2:=Int.emod_lt_of_pos ns[k] (show(0:Int)<2147483647 by decide)
  unfold yy
  generalize ns[k]%2147483647=v at e1 hm hm2⊢
  have w1:IntKind.i64.wrap (A*1000003)=A*1000003:=by rw[IntKind.wrap_i64];omega
  have w2:IntKind.i64.wrap (A*1000003+v)=A*1000003+v:=by rw[IntKind.wrap_i64];omega
  have w3:IntKind.i64.wrap (A*1000003+v+13)=A*1000003+v+13:=by rw[IntKind.wrap_i64];omega
  have w4:(A*1000003+v+13).tmod 2147483647=(A*1000003+v+13)%2147483647:=Int.tmod_eq_emod_of_nonneg (by omega)
  simp(maxSteps:=9999999) [n6,hk,hx,e1,w1,w2,w3,w4,aU hl hk,a8 hk]
 ·rw[List.take_length]
  simp(maxSteps:=9999999) [n6]
theorem Ih {ns:List Int}(hl:ns.length≤maxLen):ag Ph aC 343 [bi (ns.map jS)]=some (ai .i64 (kW ns)):=by
 refine aa (fn:=uD) rfl ?_
 simp +contextual (maxSteps:=9999999) [uD]
 refine aL bG Cl.fin [.t,.f,.f,.t,.t,.f,.f,.f,.f,.f,.f,.f,.f,.f,.f,.f,.f,.f,.f,.f,.f,.f] (fun k=>[(3,ai .i64 (kW (ns.take k))),(4,ai .i64 k)]) ns.length (fun _=>false) rfl (by simp[kW]) (fun k hk _=> ?_) (fun _ _=> ?_)
 ·have e1:=Ii ns[k]
  have hx:jS ns[k]=[.int .i64 ns[k]]:=rfl
  have ht:kW (ns.take (k+1))=yy (kW (ns.take k)) ns[k]:=DZ hk
  have hr:=Bh (ns.take k)
  rw[ht]
  generalize kW (ns.take k)=A at hr⊢
  have hm:=Int.emod_nonneg ns[k] (show(2147483647:Int)≠0 by decide)
  have hm2:=Int.emod_lt_of_pos ns[k] (show(0:Int)<2147483647 by decide)
  unfold yy
  generalize ns[k]%2147483647=v at e1 hm hm2⊢
  have w1:IntKind.i64.wrap (A*1000003)=A*1000003:=by rw[IntKind.wrap_i64];omega
  have w2:IntKind.i64.wrap (A*1000003+v)=A*1000003+v:=by rw[IntKind.wrap_i64];omega
  have w3:IntKind.i64.wrap (A*1000003+v+13)=A*1000003+v+13:=by rw[IntKind.wrap_i64];omega
  have w4:(A*1000003+v+13).tmod 2147483647=(A*1000003+v+13)%2147483647:=Int.tmod_eq_emod_of_nonneg (by omega)
  simp(maxSteps:=9999999) [n7,hk,hx,e1,w1,w2,w3,w4,aU hl hk,a8 hk]
 ·rw[List.take_length]
  simp(maxSteps:=9999999) [n7]
end Gi
