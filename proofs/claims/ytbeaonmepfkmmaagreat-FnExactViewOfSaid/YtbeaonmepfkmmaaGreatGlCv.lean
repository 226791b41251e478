/- Of this proof. -/
import Derived.Test.YtbeaonmepfkmmaaGreatGkdv
set_option linter.unusedSimpArgs false
set_option linter.unusedVariables false
namespace Gi
open Go Go.RowKit
set_option maxHeartbeats 4000000
def Fb :Nat→Nat→List UInt8
 |0,_=>[]
 |f+1,n=>if n<128 then [UInt8.ofNat n]else UInt8.ofNat (n%128+128)::Fb f (n/128)
def jG (n:Nat):List UInt8:=Fb 6 n
def LC :Nat→Bool→List UInt8→Option (Nat×Nat)
 |0,_,_=>none
 |_+1,_,[]=>none
 |f+1,z,b::l=>if b.toNat<128 then(if z=true∧b.toNat=0 then none else some (b.toNat,1))else
  match LC f true l with
  |none=>none
  |some (n,k)=>some (b.toNat%128+128*n,k+1)
def nK :List UInt8→Nat
 |[]=>0
 |b::l=>b.toNat%128+128*nK l
theorem wV :∀l:List UInt8,nK l<128^l.length
 |[]=>by simp[nK]
 |b::l=>by
  have:=wV l
  have h:b.toNat%128<128:=Nat.mod_lt _ (by decide)
  simp only[nK,Zo,Nat.pow_succ]
  omega
theorem Gn :∀(l:List UInt8)(b:UInt8),nK (l++[b])=nK l+b.toNat%128*128^l.length
 |[],b=>by simp[nK]
 |a::l,b=>by
  simp only[Zr,nK,Gn l b,Zo,Nat.pow_succ]
  rw[Nat.mul_add,←Nat.mul_assoc,Nat.mul_comm 128 (b.toNat%128),Nat.mul_assoc,Nat.mul_comm 128 (128^l.length),Nat.add_assoc]
theorem N6 :∀(f k:Nat)(z:Bool)(l:List UInt8)(hk:k<l.length),k<f→(∀j(hj:j<l.length),j<k→128≤l[j].toNat)→l[k].toNat<128→LC f z l=if(z=true∨0<k)∧l[k].toNat=0 then none else some (nK (l.take (k+1)),k+1)
 |0,k,z,l,hk,hf,h1,h2=>by omega
 |f+1,0,z,b::l,hk,hf,h1,h2=>by
  simp only[List.getElem_cons_zero]at h2
  have:b.toNat%128=b.toNat:=Nat.mod_eq_of_lt h2
  simp[LC,h2,nK,this]
 |f+1,k+1,z,b::l,hk,hf,h1,h2=>by
  have h3:¬b.toNat<128:=by
   have:=h1 0 (by simp) (by omega)
   simp only[List.getElem_cons_zero]at this
   omega
  have hk':k<l.length:=by simpa using hk
  simp only[List.getElem_cons_succ]at h2⊢
  have ih:=N6 f k true l hk' (by omega) (fun j hj hjk=>by
   have:=h1 (j+1) (by simp;omega) (by omega)
   simpa using this) h2
  simp only[LC,h3,if_false,ih]
  by_cases h4:l[k].toNat=0
  ·simp[h4]
  ·simp[h4,nK]
theorem KK :∀(f:Nat)(z:Bool)(l:List UInt8),(∀j(hj:j<l.length),j<f→128≤l[j].toNat)→LC f z l=none
 |0,z,l,h=>rfl
 |f+1,z,[],h=>rfl
 |f+1,z,b::l,h=>by
  have h3:¬b.toNat<128:=by
   have:=h 0 (by simp) (by omega)
   simp only[List.getElem_cons_zero]at this
   omega
  have ih:=KK f true l (fun j hj hjk=>by
   have:=h (j+1) (by simp;omega) (by omega)
   simpa using this)
  simp[LC,h3,ih]
theorem N7 :∀(f n:Nat)(z:Bool)(t:List UInt8),n<128^f→0<f→(z=true→n≠0)→LC f z (Fb f n++t)=some (n,(Fb f n).length)
 |0,n,z,t,h,h0,hz=>by omega
 |f+1,n,z,t,h,h0,hz=>by
  by_cases c:n<128
  ·have e:(UInt8.ofNat n).toNat=n:=by simp;omega
   simp only[Fb,c,if_true,Zr,Zt,LC,e,Zo,List.length_nil]
   rw[if_neg (fun q=>hz q.1 q.2)]
  ·have e:(UInt8.ofNat (n%128+128)).toNat=n%128+128:=by simp;omega
   have e2:¬(n%128+128<128):=by omega
   have hf:0<f:=by
    rcases Nat.eq_zero_or_pos f with rfl|q
    ·simp at h;omega
    ·exact q
   have ih:=N7 f (n/128) true t (by rw[Nat.pow_succ]at h;omega) hf (fun _=>by omega)
   simp only[Fb,c,if_false,Zr,LC,e,e2,ih,Zo,Option.some.injEq,Prod.mk.injEq,and_true]
   omega
theorem GK :∀(f n k:Nat)(z:Bool)(l:List UInt8),LC f z l=some (n,k)→(∃t,l=Fb f n++t)∧k=(Fb f n).length∧(z=true→n≠0)
 |0,n,k,z,l,h=>by simp[LC]at h
 |f+1,n,k,z,[],h=>by simp[LC]at h
 |f+1,n,k,z,b::l,h=>by
  by_cases c:b.toNat<128
  ·simp only[LC,c,if_true]at h
   split at h
   ·cases h
   ·rename_i q
    simp only[Option.some.injEq,Prod.mk.injEq]at h
    obtain⟨rfl,rfl⟩:=h
    simp only[Fb,c,if_true,UInt8.ofNat_toNat]
    exact⟨⟨l,rfl⟩,rfl,fun z1 z2=>q ⟨z1,z2⟩⟩
  ·simp only[LC,c,if_false]at h
   cases e:LC f true l with
   |none=>rw[e]at h;cases h
   |some p=>
    obtain⟨m,i⟩:=p
    rw[e]at h
    simp only[Option.some.injEq,Prod.mk.injEq]at h
    obtain⟨rfl,rfl⟩:=h
    obtain⟨⟨t,rfl⟩,rfl,hz⟩:=GK f m i true l e
    have hm:=hz rfl
    have hb:=b.toNat_lt
    have c2:¬(b.toNat%128+128*m<128):=by omega
    have e3:(b.toNat%128+128*m)/128=m:=by omega
    have e4:(b.toNat%128+128*m)%128+128=b.toNat:=by omega
    simp only[Fb,c2,if_false,e3,e4,UInt8.ofNat_toNat]
    exact⟨⟨t,rfl⟩,rfl,fun _ q=>c2 (by omega)⟩
def sB (b:List UInt8):Option (Nat×Nat):=
 match LC 6 false b with
 |none=>none
 |some (n,k)=>if n≤1000000000000 then some (n,k)else none
theorem N9 {n:Nat}{t:List UInt8}(h:n≤1000000000000):sB (jG n++t)=some (n,(jG n).length):=by
 simp[sB,jG,N7 6 n false t (by omega) (by decide) (by simp),h]
theorem sd {b:List UInt8}{n k:Nat}(h:sB b=some (n,k)):(∃t,b=jG n++t)∧k=(jG n).length∧n≤1000000000000:=by
 unfold sB at h
 split at h
 ·cases h
 ·rename_i m i e
  split at h
  ·rename_i q
   simp only[Option.some.injEq,Prod.mk.injEq]at h
   obtain⟨rfl,rfl⟩:=h
   obtain⟨a,c,_⟩:=GK _ _ _ _ _ e
   exact⟨a,c,q⟩
  ·cases h
theorem Ou :∀(f n:Nat),(Fb f n).length≤f
 |0,n=>by simp[Fb]
 |f+1,n=>by
  have:=Ou f (n/128)
  unfold Fb
  split<;>simp<;>omega
theorem jF (n:Nat):(jG n).length≤6:=Ou 6 n
theorem Cs (n:Nat):0<(jG n).length:=by unfold jG Fb;split<;>simp
theorem G0 {n:Nat}(h:n<128):(jG n).length=1:=by simp[jG,Fb,h]
theorem kZ {b:List UInt8}{n k:Nat}(h:sB b=some (n,k)):0<k∧k≤b.length∧n≤1000000000000:=by
 obtain⟨⟨t,rfl⟩,rfl,q⟩:=sd h
 have:=Cs n
 simp;omega
def mU (s:List UInt8):List UInt8:=jG s.length++s
def RK (b:List UInt8):Option (List UInt8×Nat):=
 match sB b with
 |none=>none
 |some (n,k)=>if n≤b.length-k then some ((b.drop k).take n,k+n)else none
def BY (m:Nat)(b:List UInt8):Option (List UInt8×Nat):=
 match RK b with
 |none=>none
 |some (s,k)=>if s.length≤m then some (s,k)else none
theorem Cn {s t:List UInt8}(h:s.length≤1000000000000):RK (mU s++t)=some (s,(mU s).length):=by
 simp[RK,mU,N9 h]
theorem GJ {b s:List UInt8}{k:Nat}(h:RK b=some (s,k)):(∃t,b=mU s++t)∧k=(mU s).length∧s.length≤1000000000000:=by
 unfold RK at h
 split at h
 ·cases h
 ·rename_i n i e
  split at h
  ·rename_i q
   simp only[Option.some.injEq,Prod.mk.injEq]at h
   obtain⟨rfl,rfl⟩:=h
   obtain⟨⟨t,rfl⟩,rfl,hn⟩:=sd e
   simp only[Zp,Nat.add_sub_cancel_left]at q
   have e2:(t.take n).length=n:=by simp;omega
   simp only[List.drop_left,mU,e2]
   exact⟨⟨t.drop n,by simp⟩,by simp;omega,hn⟩
  ·cases h
theorem jD {b s:List UInt8}{k:Nat}(h:RK b=some (s,k)):s.length<k∧k≤b.length∧s.length≤1000000000000:=by
 obtain⟨⟨t,rfl⟩,rfl,q⟩:=GJ h
 have:=Cs s.length
 simp[mU];omega
theorem eL {m:Nat}{b s:List UInt8}{k:Nat}(h:BY m b=some (s,k)):RK b=some (s,k)∧s.length≤m:=by
 unfold BY at h
 split at h
 ·cases h
 ·rename_i x y e
  split at h
  ·rename_i q
   simp only[Option.some.injEq,Prod.mk.injEq]at h
   obtain⟨rfl,rfl⟩:=h
   exact⟨e,q⟩
  ·cases h
theorem t9 {m:Nat}{b s:List UInt8}{k:Nat}(h:RK b=some (s,k))(hm:s.length≤m):BY m b=some (s,k):=by
 simp[BY,h,hm]
def TL (x:Nat):List UInt8:=[UInt8.ofNat (x/1099511627776),UInt8.ofNat (x/4294967296),UInt8.ofNat (x/16777216),UInt8.ofNat (x/65536),UInt8.ofNat (x/256),UInt8.ofNat x]
def Uc (a b c d e f:UInt8):Nat:=((((a.toNat*256+b.toNat)*256+c.toNat)*256+d.toNat)*256+e.toNat)*256+f.toNat
theorem SC (a b c d e f:UInt8):TL (Uc a b c d e f)=[a,b,c,d,e,f]:=by
 have:=a.toNat_lt;have:=b.toNat_lt;have:=c.toNat_lt;have:=d.toNat_lt;have:=e.toNat_lt;have:=f.toNat_lt
 simp only[TL,Uc,List.cons.injEq,←UInt8.toNat_inj,UInt8.toNat_ofNat',and_true]
 refine⟨?_,?_,?_,?_,?_,?_⟩<;>omega
def ik (k:XKey):List UInt8:=if eW k=true then UInt8.ofNat k.kind.toNat::((if k.kind=2 then []else TL (k.n+1000000000000).toNat)++k.text)else []
def mW :List UInt8→Option XKey
 |[]=>none
 |c::l=>if(c.toNat:Int)=2 then some ⟨2,0,l⟩else
  match l with
  |a::b::d::e::f::g::t=>some ⟨c.toNat,(Uc a b d e f g:Int)-1000000000000,t⟩
  |_=>none
theorem sX {n a b:Int}:rg n a b=true↔a≤n∧n≤b:=by simp[rg,b9]
theorem rY {k:XKey}(h:eW k=true):1≤k.kind∧k.kind≤3∧-1000000000000≤k.n∧k.n≤1000000000000∧(k.kind=2→k.n=0)∧k.text.length≤12:=by
 unfold eW tV at h
 simp only[Zg,sX,Bool.or_eq_true,Bool.not_eq_true',beq_eq_false_iff_ne,beq_iff_eq]at h
 obtain⟨⟨⟨⟨⟨h1,h2⟩,h3,h4⟩,h5⟩,_,h6⟩,_⟩:=h
 have:=of_decide_eq_false h6
 exact⟨h1,h2,h3,h4,fun q=>h5.resolve_left (fun z=>z q),by omega⟩
theorem QY {b:List UInt8}{k:XKey}(h:mW b=some k):ik k=b↔eW k=true:=by
 constructor
 ·intro q
  by_cases c:eW k=true
  ·exact c
  ·rw[ik,if_neg c]at q
   subst q
   cases h
 ·intro q
  rw[ik,if_pos q]
  match b,h with
  |[],h=>cases h
  |c::l,h=>
   by_cases e:(c.toNat:Int)=2
   ·simp only[mW,e,if_true,Option.some.injEq]at h
    subst h
    have:UInt8.ofNat (2:Int).toNat=c:=by
     rw[←UInt8.toNat_inj]
     simp
     omega
    simp only[this,if_true,Zt]
   ·simp only[mW,e,if_false]at h
    match l,h with
    |a::b::d::e'::f::g::t,h=>
     simp only[Option.some.injEq]at h
     subst h
     have e1:(((Uc a b d e' f g:Nat):Int)-1000000000000+1000000000000).toNat=Uc a b d e' f g:=by omega
     have e2:UInt8.ofNat ((c.toNat:Int)).toNat=c:=by simp
     simp only[e,if_false,e1,SC,e2]
     rfl
def tG (b:List UInt8):XKey×Bool:=
 match mW b with
 |none=>(⟨0,0,[]⟩,false)
 |some k=>if eW k=true then(k,true)else(⟨0,0,[]⟩,false)
theorem rI (k:XKey):(ik k).length≤19:=by
 unfold ik
 split
 ·rename_i h
  have:=(rY h).2.2.2.2.2
  split<;>simp[TL]<;>omega
 ·simp
def O4 (f:XField):List UInt8:=mU f.name++jG f.n.toNat
def fZ (l:List XField):List UInt8:=l.flatMap O4
def kA (r:XRecord):List UInt8:=if cP r.fs=true then jG r.fs.length++fZ r.fs else []
def sW :Nat→List UInt8→Option (List XField×Nat)
 |0,_=>some ([],0)
 |m+1,b=>
  match BY 8 b with
  |none=>none
  |some (s,k)=>
   match sB (b.drop k)with
   |none=>none
   |some (x,k2)=>
    match sW m (b.drop (k+k2))with
    |none=>none
    |some (fs,k3)=>some (⟨s,x⟩::fs,k+k2+k3)
def Vo (f:XField):Prop:=f.name.length≤8∧0≤f.n∧f.n≤1000000000000
theorem wE :∀(m:Nat)(b:List UInt8)(l:List XField)(k:Nat),sW m b=some (l,k)→(∃t,b=fZ l++t)∧k=(fZ l).length∧l.length=m∧∀f∈l,Vo f
 |0,b,l,k,h=>by
  simp only[sW,Option.some.injEq,Prod.mk.injEq]at h
  obtain⟨rfl,rfl⟩:=h
  exact⟨⟨b,rfl⟩,rfl,rfl,by simp⟩
 |m+1,b,l,k,h=>by
  unfold sW at h
  split at h
  ·cases h
  ·rename_i s i e1
   split at h
   ·cases h
   ·rename_i x j e2
    split at h
    ·cases h
    ·rename_i fs q e3
     simp only[Option.some.injEq,Prod.mk.injEq]at h
     obtain⟨rfl,rfl⟩:=h
     obtain⟨e1,hs⟩:=eL e1
     obtain⟨⟨t1,rfl⟩,rfl,_⟩:=GJ e1
     rw[List.drop_left]at e2
     obtain⟨⟨t2,rfl⟩,rfl,hx⟩:=sd e2
     rw[←Zn,←Zp,List.drop_left]at e3
     obtain⟨⟨t3,rfl⟩,rfl,hl,hf⟩:=wE m t2 fs q e3
     refine⟨⟨t3,by simp[fZ,O4]⟩,by simp[fZ,O4];omega,by simp[hl],fun f hm=> ?_⟩
     rcases Z6.1 hm with rfl|hm
     ·exact⟨hs,by simp,by simp;omega⟩
     ·exact hf f hm
def KN (b:List UInt8):Option (XRecord×Nat):=
 match sB b with
 |none=>none
 |some (n,k)=>if n≤6 then
  match sW n (b.drop k)with
  |none=>none
  |some (fs,k2)=>some (⟨fs⟩,k+k2)
  else none
theorem wu {s:List UInt8}(h:ie s=true):1≤s.length∧s.length≤8:=by
 simp only[ie,wv,Zg,sX]at h
 omega
theorem o9 {r:XRecord}(h:cP r.fs=true):r.fs.length≤6∧∀f∈r.fs,Vo f:=by
 simp only[cP,Zg,Bool.not_eq_true']at h
 have hl:=of_decide_eq_false h.2
 refine⟨by omega,fun f m=> ?_⟩
 obtain⟨j,hj,rfl⟩:=List.mem_iff_getElem.1 m
 have:=yH h.1 hj
 simp only[LL,hj,show j-1<r.fs.length by omega,Zl,Bool.or_eq_false_iff,Bool.not_eq_false',sX]at this
 have q:=wu this.1
 exact⟨q.2,this.2.1.1,by omega⟩
theorem PW {b:List UInt8}{r:XRecord}{k:Nat}(h:KN b=some (r,k)):(∃t,b=jG r.fs.length++fZ r.fs++t)∧k=(jG r.fs.length++fZ r.fs).length∧r.fs.length≤6∧∀f∈r.fs,Vo f:=by
 unfold KN at h
 split at h
 ·cases h
 ·rename_i n i e1
  split at h
  ·rename_i hn
   split at h
   ·cases h
   ·rename_i fs j e2
    simp only[Option.some.injEq,Prod.mk.injEq]at h
    obtain⟨rfl,rfl⟩:=h
    obtain⟨⟨t1,rfl⟩,rfl,_⟩:=sd e1
    rw[List.drop_left]at e2
    obtain⟨⟨t2,rfl⟩,rfl,rfl,hf⟩:=wE _ _ _ _ e2
    exact⟨⟨t2,by simp⟩,by simp,hn,hf⟩
  ·cases h
theorem QZ {b:List UInt8}{r:XRecord}{k:Nat}(h:KN b=some (r,k)):kA r=b↔cP r.fs=true∧k=b.length:=by
 obtain⟨⟨t,e⟩,rfl,_,_⟩:=PW h
 constructor
 ·intro q
  by_cases c:cP r.fs=true
  ·refine⟨c,?_⟩
   rw[kA,if_pos c]at q
   rw[q]
  ·rw[kA,if_neg c]at q
   have:=Cs r.fs.length
   have:=congrArg List.length e
   rw[←q]at this
   simp at this
   omega
 ·rintro⟨c,q⟩
  have:=congrArg List.length e
  rw[←q,Zp]at this
  have ht:t=[]:=List.length_eq_zero_iff.1 (by simp only[Zp]at this;omega)
  rw[kA,if_pos c,e,ht,Z3]
def u0 (b:List UInt8):XRecord×Bool:=
 match KN b with
 |none=>(⟨[]⟩,false)
 |some (r,k)=>if k=b.length∧cP r.fs=true then(r,true)else(⟨[]⟩,false)
theorem uL :∀(l:List XField),(∀f∈l,Vo f)→(fZ l).length≤15*l.length
 |[],h=>by simp[fZ]
 |f::l,h=>by
  have ih:=uL l (fun g m=>h g (by simp[m]))
  have h1:=(h f (by simp)).1
  have h2:=G0 (n:=f.name.length) (by omega)
  have h3:=jF f.n.toNat
  simp only[fZ,List.flatMap_cons,O4,mU,Zp,Zo]at ih⊢
  omega
theorem tH (r:XRecord):(kA r).length≤91:=by
 unfold kA
 split
 ·rename_i h
  obtain⟨h1,h2⟩:=o9 h
  have:=uL r.fs h2
  have:=G0 (n:=r.fs.length) (by omega)
  simp only[Zp]
  omega
 ·simp
structure Raw where
 kind:Nat
 a:List UInt8
 b:List UInt8
 c:List UInt8
 d:List UInt8
def tx (m:Nat×Nat×Nat×Nat)(b:List UInt8):Option (Raw×Nat):=
 match sB b with
 |none=>none
 |some (n,k)=>
  match BY m.1 (b.drop k)with
  |none=>none
  |some (p,k1)=>
   match BY m.2.1 (b.drop (k+k1))with
   |none=>none
   |some (q,k2)=>
    match BY m.2.2.1 (b.drop (k+k1+k2))with
    |none=>none
    |some (r,k3)=>
     match BY m.2.2.2 (b.drop (k+k1+k2+k3))with
     |none=>none
     |some (s,k4)=>some (⟨n,p,q,r,s⟩,k+k1+k2+k3+k4)
structure XOp where
 kind:Int
 store:List UInt8
 key:XKey
 rcd:XRecord
 field:List UInt8
def XOp.e (x:XOp):List PV:=[.int .i64 x.kind, .str x.store, .int .i64 x.key.kind, .int .i64 x.key.n, .str x.key.text, .lst (x.rcd.fs.map XField.e), .str x.field]
theorem wU (x:XOp):x.e=[.int .i64 x.kind, .str x.store, .int .i64 x.key.kind, .int .i64 x.key.n, .str x.key.text, .lst (x.rcd.fs.map XField.e), .str x.field]:=rfl
abbrev XOp.v (x:XOp):V:= .agg [.pv (.int .i64 x.kind), .pv (.str x.store), .pv (.int .i64 x.key.kind), .pv (.int .i64 x.key.n), .pv (.str x.key.text), .pv (.lst (x.rcd.fs.map XField.e)), .pv (.str x.field)]
def XOp.Ok (B:Nat)(x:XOp):Prop:=ii x.kind∧x.store.length≤B∧x.key.Ok B∧x.rcd.Ok B∧x.field.length≤B
def kh (r:Raw):XOp:=⟨r.kind,r.a,(tG r.b).1,(u0 r.c).1,r.d⟩
def jB (o:XOp):Bool:=rg o.kind 1 6&&(ie o.store&&((o.kind==5||eW o.key)&&(cP o.rcd.fs&&(bif o.kind==6 then ie o.field else o.field==[]))))
def vF (o:XOp):Raw:=⟨o.kind.toNat,o.store,ik o.key,kA o.rcd,o.field⟩
def J2 (m:Nat×Nat×Nat×Nat)(r:Raw):Prop:=r.a.length≤m.1∧r.b.length≤m.2.1∧r.c.length≤m.2.2.1∧r.d.length≤m.2.2.2
def F3 (r:Raw):List UInt8:=jG r.kind++(mU r.a++(mU r.b++(mU r.c++mU r.d)))
def VM (r:Raw):Prop:=r.kind≤1000000000000∧r.a.length≤1000000000000∧r.b.length≤1000000000000∧r.c.length≤1000000000000∧r.d.length≤1000000000000
theorem Tq {m:Nat×Nat×Nat×Nat}{r:Raw}{t:List UInt8}(h:J2 m r)(w:VM r):tx m (F3 r++t)=some (r,(F3 r).length):=by
 obtain⟨k,a,b,c,d⟩:=r
 obtain⟨h1,h2,h3,h4⟩:=h
 obtain⟨w0,w1,w2,w3,w4⟩:=w
 simp only at h1 h2 h3 h4 w0 w1 w2 w3 w4
 have g0:F3 ⟨k,a,b,c,d⟩++t=jG k++(mU a++(mU b++(mU c++(mU d++t)))):=by simp[F3]
 rw[g0]
 simp only[tx,N9 (n:=k) (t:=mU a++(mU b++(mU c++(mU d++t)))) w0,List.drop_left,t9 (Cn (s:=a) (t:=mU b++(mU c++(mU d++t))) w1) h1]
 rw[←Zn,←Zp,List.drop_left]
 simp only[t9 (Cn (s:=b) (t:=mU c++(mU d++t)) w2) h2]
 rw[←Zn,←Zp,List.drop_left]
 simp only[t9 (Cn (s:=c) (t:=mU d++t) w3) h3]
 rw[←Zn,←Zp,List.drop_left]
 simp only[t9 (Cn (s:=d) (t:=t) w4) h4]
 simp[F3,Nat.add_assoc]
theorem Tr {m:Nat×Nat×Nat×Nat}{b:List UInt8}{r:Raw}{k:Nat}(h:tx m b=some (r,k)):J2 m r∧∀m',J2 m' r→tx m' b=some (r,k):=by
 unfold tx at h
 split at h
 ·cases h
 ·rename_i e0
  split at h
  ·cases h
  ·rename_i e1
   split at h
   ·cases h
   ·rename_i e2
    split at h
    ·cases h
    ·rename_i e3
     split at h
     ·cases h
     ·rename_i e4
      simp only[Option.some.injEq,Prod.mk.injEq]at h
      obtain⟨rfl,rfl⟩:=h
      refine⟨⟨(eL e1).2,(eL e2).2,(eL e3).2,(eL e4).2⟩,fun m'⟨f1,f2,f3,f4⟩=> ?_⟩
      simp only at f1 f2 f3 f4
      simp only[tx,e0,t9 (eL e1).1 f1,t9 (eL e2).1 f2,t9 (eL e3).1 f3,t9 (eL e4).1 f4]
def mG (m:Nat×Nat×Nat×Nat):Nat→List UInt8→Option (List Raw)
 |0,_=>some []
 |n+1,b=>
  match tx m b with
  |none=>none
  |some (r,k)=>
   match mG m n (b.drop k)with
   |none=>none
   |some l=>some (r::l)
theorem KL {m:Nat×Nat×Nat×Nat}:∀(l:List Raw),(∀r∈l,J2 m r∧VM r)→mG m l.length (l.flatMap F3)=some l
 |[],h=>rfl
 |r::l,h=>by
  have ih:=KL l (fun x q=>h x (by simp[q]))
  simp only[Zo,List.flatMap_cons,mG,Tq (t:=l.flatMap F3) (h r (by simp)).1 (h r (by simp)).2,List.drop_left,ih]
theorem yf {m:Nat×Nat×Nat×Nat}:∀(n:Nat)(b:List UInt8)(l:List Raw),mG m n b=some l→l.length=n∧(∀r∈l,J2 m r)∧∀m',(∀r∈l,J2 m' r)→mG m' n b=some l
 |0,b,l,h=>by
  simp only[mG,Option.some.injEq]at h
  subst h
  exact⟨rfl,by simp,fun _ _=>rfl⟩
 |n+1,b,l,h=>by
  unfold mG at h
  split at h
  ·cases h
  ·rename_i r k e
   split at h
   ·cases h
   ·rename_i l' e2
    simp only[Option.some.injEq]at h
    subst h
    obtain⟨h1,h2,h3⟩:=yf n _ _ e2
    obtain⟨g1,g2⟩:=Tr e
    refine⟨by simp[h1],fun x q=> ?_,fun m' q=> ?_⟩
    ·rcases Z6.1 q with rfl|q
     ·exact g1
     ·exact h2 x q
    ·simp only[mG,g2 m' (q r (by simp)),h3 m' (fun x p=>q x (by simp[p]))]
def sH (o:XOp):List UInt8:=F3 (vF o)
def wY (l:List XOp):Bool:=l.all jB&&decide ((l.length:Int)≤6)
def ku (l:List XOp):List UInt8:=if wY l=true then jG l.length++l.flatMap sH else []
def jS (m:Nat×Nat×Nat×Nat)(b:List UInt8):Option (List XOp):=
 match sB b with
 |none=>none
 |some (n,k)=>if n≤6 then
  match mG m n (b.drop k)with
  |none=>none
  |some l=>some (l.map kh)
  else none
def lh (m:Nat×Nat×Nat×Nat)(b:List UInt8):List XOp×Bool:=
 match jS m b with
 |none=>([],false)
 |some l=>if ku l=b then(l,true)else([],false)
theorem Ek {o:XOp}(h:jB o=true):J2 (100,100,200,100) (vF o)∧VM (vF o):=by
 unfold jB at h
 simp only[Zg,sX]at h
 obtain⟨⟨h1,h2⟩,h3,_,_,h4⟩:=h
 have l3:=wu h3
 have l1:=rI o.key
 have l2:=tH o.rcd
 have l4:o.field.length≤8:=by
  cases q:(o.kind==6)<;>rw[q]at h4<;>simp only[cond_true,cond_false]at h4
  ·simp only[beq_iff_eq]at h4
   simp[h4]
  ·exact(wu h4).2
 refine⟨⟨?_,?_,?_,?_⟩,⟨?_,?_,?_,?_,?_⟩⟩<;>simp only[vF]<;>omega
theorem Uu {m:Nat×Nat×Nat×Nat}{b:List UInt8}{r:Raw}{k:Nat}(h:tx m b=some (r,k)):r.a.length≤b.length∧r.b.length≤b.length∧r.c.length≤b.length∧r.d.length≤b.length∧k≤b.length∧0<k:=by
 unfold tx at h
 split at h
 ·cases h
 ·rename_i e0
  split at h
  ·cases h
  ·rename_i e1
   split at h
   ·cases h
   ·rename_i e2
    split at h
    ·cases h
    ·rename_i e3
     split at h
     ·cases h
     ·rename_i e4
      simp only[Option.some.injEq,Prod.mk.injEq]at h
      obtain⟨rfl,rfl⟩:=h
      have a0:=kZ e0
      have a1:=jD (eL e1).1
      have a2:=jD (eL e2).1
      have a3:=jD (eL e3).1
      have a4:=jD (eL e4).1
      simp only[List.length_drop]at a1 a2 a3 a4
      simp only
      omega
theorem N8 {m:Nat×Nat×Nat×Nat}:∀(n:Nat)(b:List UInt8)(l:List Raw),mG m n b=some l→∀r∈l,r.a.length≤b.length∧r.b.length≤b.length∧r.c.length≤b.length∧r.d.length≤b.length
 |0,b,l,h=>by
  simp only[mG,Option.some.injEq]at h
  subst h
  simp
 |n+1,b,l,h=>by
  unfold mG at h
  split at h
  ·cases h
  ·rename_i r k e
   split at h
   ·cases h
   ·rename_i l' e2
    simp only[Option.some.injEq]at h
    subst h
    intro x q
    rcases Z6.1 q with rfl|q
    ·have:=Uu e
     omega
    ·have:=N8 n _ _ e2 x q
     simp only[List.length_drop]at this
     omega
theorem KJ {m m0:Nat×Nat×Nat×Nat}{b:List UInt8}{l:List XOp}(h1:b.length≤m.1)(h2:b.length≤m.2.1)(h3:b.length≤m.2.2.1)(h4:b.length≤m.2.2.2)(h:jS m0 b=some l):jS m b=some l:=by
 unfold jS at h⊢
 split at h
 ·cases h
 ·rename_i n k e0
  split at h
  ·rename_i hn
   split at h
   ·cases h
   ·rename_i rs e1
    have:=(yf _ _ _ e1).2.2 m (fun r hr=>by
     have:=N8 _ _ _ e1 r hr
     simp only[List.length_drop]at this
     refine⟨?_,?_,?_,?_⟩<;>omega)
    simp only[hn,if_true,this]
    exact h
  ·cases h
theorem ME {m m0:Nat×Nat×Nat×Nat}{b:List UInt8}{l:List XOp}(h1:b.length≤m.1)(h2:b.length≤m.2.1)(h3:b.length≤m.2.2.1)(h4:b.length≤m.2.2.2)(hm:∀o,jB o=true→J2 m0 (vF o))(h:jS m b=some l)(q:ku l=b):jS m0 b=some l:=by
 have hs:=h
 unfold jS at h
 split at h
 ·cases h
 ·rename_i n k e0
  split at h
  ·rename_i hn
   split at h
   ·cases h
   ·rename_i rs e1
    simp only[Option.some.injEq]at h
    obtain⟨⟨t,e2⟩,e3,_⟩:=sd e0
    have l1:l.length=n:=by rw[←h,Zv];exact(yf _ _ _ e1).1
    unfold ku at q
    split at q
    ·rename_i ha
     unfold wY at ha
     simp only[Zg,Zs]at ha
     rw[l1]at q
     have q2:b.drop k=(l.map vF).flatMap F3:=by
      rw[←q,e3,List.drop_left,List.flatMap_map];rfl
     have e4:=KL (m:=m0) (l.map vF) (fun r hr=>by
      obtain⟨o,ho,rfl⟩:=List.mem_map.1 hr
      exact⟨hm o (ha.1 o ho),(Ek (ha.1 o ho)).2⟩)
     rw[Zv,l1,←q2]at e4
     have e5:jS m0 b=some ((l.map vF).map kh):=by simp only[jS,e0,hn,if_true,e4]
     have e6:=KJ h1 h2 h3 h4 e5
     rw[hs]at e6
     rw[e5]
     exact e6.symm
    ·exfalso
     have:=Cs n
     rw[e2]at q
     have:=congrArg List.length q
     simp at this
     omega
  ·cases h
theorem SI {m:Nat×Nat×Nat×Nat}{b:List UInt8}(h1:b.length≤m.1)(h2:b.length≤m.2.1)(h3:b.length≤m.2.2.1)(h4:b.length≤m.2.2.2):lh m b=lh (100,100,200,100) b:=by
 have up:=fun l=>KJ (m0:=(100,100,200,100)) (l:=l) h1 h2 h3 h4
 have dn:=fun l=>ME (m0:=(100,100,200,100)) (l:=l) h1 h2 h3 h4 (fun o ho=>(Ek ho).1)
 unfold lh
 cases e:jS m b with
 |none=>
  cases e2:jS (100,100,200,100) b with
  |none=>rfl
  |some l=>have:=up l e2;rw[e]at this;cases this
 |some l=>
  by_cases q:ku l=b
  ·rw[dn l e q]
  ·simp only[q,if_false]
   cases e2:jS (100,100,200,100) b with
   |none=>rfl
   |some l'=>
    have:=up l' e2
    rw[e]at this
    simp only[Option.some.injEq]at this
    subst this
    simp only[q,if_false]
end Gi
namespace Gi
open Go Go.RowKit
set_option maxHeartbeats 8000000
set_option maxRecDepth 4000
attribute [local simp] start nY bo cj cE dE cD dD dJ dI pa pp pd pq pe pt pf pw pg px ph py pj pz pk pA pm pB V.cells plain bi fT isInt isStr isBool bin bK fR bL fS dF un asList L.view az V.view viewL aS aA bO bg bJ comp aM bA cz bI bc a9 ba av aj aE ai au aQ aq aY bC aD bd bf V.flat L.flat cT cS bq putAt thaw thawL thawT V.ow dH cG cH bM dG bN cF freezeVs freezeLs freezeL V.mut L.mut aI bY fu aZ bB aP dL cf bE cy L.ren aO cX bR cZ bG bD wp_seq wp_block aT cJ bP bh bQ wp_skip wp_exit wp_ret ca b7 ce cd cr ct cq bH aL L.notArr bu br bt cI b6 storeD aV ep a8 bW aU lV L.mov L.closed V.closed PV.bare PV.flat
theorem VT (m:Int):m.tmod 2147483647=if 0≤m then m%2147483647 else-((-m)%2147483647):=by
 split
 ·rw[Int.tmod_eq_emod_of_nonneg (by omega)]
 ·obtain⟨n,rfl⟩:∃n,m= -n:=⟨-m,by omega⟩
  rw[Int.neg_tmod,Int.tmod_eq_emod_of_nonneg (by omega),Int.neg_neg]
theorem DN {α β:Type}{g:β→α→β}{a:β}{ns:List α}{k:Nat}(h:k<ns.length):(ns.take (k+1)).foldl g a=g ((ns.take k).foldl g a) ns[k]:=by
 rw[Zx h,List.foldl_append];rfl
theorem Wb (v:Int):v.tmod 2147483647<0→IntKind.i64.wrap (v.tmod 2147483647+2147483647)=v%2147483647:=fun c=>by
 have h:=VT v
 rw[IntKind.wrap_i64];omega
theorem Wc (v:Int):¬v.tmod 2147483647<0→v.tmod 2147483647=v%2147483647:=fun c=>by
 have h:=VT v
 omega
theorem VJ (v M q:Int)(hw:v.tmod M<0→IntKind.i64.wrap (v.tmod M+M)=q)(hw2:¬v.tmod M<0→v.tmod M=q)(m1:1≤M)(m2:M≤1000000000000)(m3:¬M=0):ah Ph aH 358 [ae .i64 v,ae .i64 M]=some (ae .i64 q):=by
 have e1:=eV M 1 1000000000000
 rw[sX.2 ⟨m1,m2⟩]at e1
 refine aa (fn:=sK) rfl ?_
 by_cases c:v.tmod M<0
 ·simp(maxSteps:=9999999) [sK,e1,m3,d6 c,hw c]
 ·have hq:b9 q 0=false:=by rw[←hw2 c];exact fG (Int.not_lt.1 c)
  simp(maxSteps:=9999999) [sK,e1,m3,hq,hw2 c]
theorem H0 (v:Int):ah Ph aH 358 [ae .i64 v,ae .i64 2147483647]=some (ae .i64 (v%2147483647)):=VJ v _ _ (Wb v) (Wc v) (by omega) (by omega) (by omega)
theorem VK (v M q:Int)(hw:(IntKind.i64.wrap (v.tmod M+M)).tmod M=q)(m1:1≤M)(m2:M≤1000000000000)(m3:¬M=0):ah Ph aH 357 [ae .i64 v,ae .i64 M]=some (ae .i64 q):=by
 have e1:=fY M 1 1000000000000
 rw[sX.2 ⟨m1,m2⟩]at e1
 refine aa (fn:=wc) rfl ?_
 simp(maxSteps:=9999999) [wc,e1,m3,hw]
theorem Iw (v:Int):ah Ph aH 357 [ae .i64 v,ae .i64 2147483647]=some (ae .i64 (v%2147483647)):=VK v _ _ (by
 have h1:=VT v
 have h2: -2147483647<v.tmod 2147483647∧v.tmod 2147483647<2147483647:=by rw[h1];split<;>omega
 have h3:IntKind.i64.wrap (v.tmod 2147483647+2147483647)=v.tmod 2147483647+2147483647:=by rw[IntKind.wrap_i64];omega
 rw[h3,Int.tmod_eq_emod_of_nonneg (by omega),h1]
 split<;>omega) (by omega) (by omega) (by omega)
def xI (acc v:Int):Int:=(acc*1000003+v%2147483647+13)%2147483647
def kw (ns:List Int):Int:=ns.foldl xI 11
theorem DU :∀(ns:List Int)(a:Int),0≤a→a<2147483647→0≤ns.foldl xI a∧ns.foldl xI a<2147483647
 |[],a,h0,h1=>⟨h0,h1⟩
 |n::ns,a,h0,h1=>by
  refine DU ns (xI a n) ?_ ?_<;>(unfold xI;omega)
theorem AM (ns:List Int):0≤kw ns∧kw ns<2147483647:=DU ns 11 (by omega) (by omega)
theorem HZ {ns:List Int}(hl:ns.length≤maxLen):ah Ph aH 348 [aR (ns.map kM)]=some (ae .i64 (kw ns)):=by
 refine aa (fn:=tJ) rfl ?_
 simp +contextual (maxSteps:=9999999) [tJ]
 refine bm bX Cl.fin [.f,.f,.f,.t,.f,.f,.t,.t,.t,.f,.f,.f,.f,.f,.f,.f,.f,.f,.f,.f,.f] (fun k=>[(3,ae .i64 (kw (ns.take k))),(8,ae .i64 k)]) ns.length (fun _=>false) rfl (by simp[kw]) (fun k hk _=> ?_) (fun _ _=> ?_)
 ·have e1:=H0 ns[k]
  have hx:kM ns[k]=[.int .i64 ns[k]]:=rfl
  have ht:kw (ns.take (k+1))=xI (kw (ns.take k)) ns[k]:=DN hk
  have hr:=AM (ns.take k)
  rw[ht]
  generalize kw (ns.take k)=A at hr⊢
  have hm:=Int.emod_nonneg ns[k] (show(2147483647:Int)≠0 by decide)
  have hm2:=Int.emod_lt_of_pos ns[k] (show(0:Int)<2147483647 by decide)
  unfold xI
  generalize ns[k]%2147483647=v at e1 hm hm2⊢
  have w1:IntKind.i64.wrap (A*1000003)=A*1000003:=by rw[IntKind.wrap_i64];omega
  have w2:IntKind.i64.wrap (A*1000003+v)=A*1000003+v:=by rw[IntKind.wrap_i64];omega
  have w3:IntKind.i64.wrap (A*1000003+v+13)=A*1000003+v+13:=by rw[IntKind.wrap_i64];omega
  have w4:(A*1000003+v+13).tmod 2147483647=(A*1000003+v+13)%2147483647:=Int.tmod_eq_emod_of_nonneg (by omega)
  simp(maxSteps:=9999999) [nC,hk,hx,e1,w1,w2,w3,w4,bw hl hk,bU hk]
 ·rw[List.take_length]
  simp(maxSteps:=9999999) [nC]
theorem Iv {ns:List Int}(hl:ns.length≤maxLen):ah Ph aH 343 [aR (ns.map kM)]=some (ae .i64 (kw ns)):=by
 refine aa (fn:=tM) rfl ?_
 simp +contextual (maxSteps:=9999999) [tM]
 refine bm bX Cl.fin [.t,.f,.f,.t,.t,.f,.f,.f,.f,.f,.f,.f,.f,.f,.f,.f,.f,.f,.f,.f,.f,.f] (fun k=>[(3,ae .i64 (kw (ns.take k))),(4,ae .i64 k)]) ns.length (fun _=>false) rfl (by simp[kw]) (fun k hk _=> ?_) (fun _ _=> ?_)
 ·have e1:=Iw ns[k]
  have hx:kM ns[k]=[.int .i64 ns[k]]:=rfl
  have ht:kw (ns.take (k+1))=xI (kw (ns.take k)) ns[k]:=DN hk
  have hr:=AM (ns.take k)
  rw[ht]
  generalize kw (ns.take k)=A at hr⊢
  have hm:=Int.emod_nonneg ns[k] (show(2147483647:Int)≠0 by decide)
  have hm2:=Int.emod_lt_of_pos ns[k] (show(0:Int)<2147483647 by decide)
  unfold xI
  generalize ns[k]%2147483647=v at e1 hm hm2⊢
  have w1:IntKind.i64.wrap (A*1000003)=A*1000003:=by rw[IntKind.wrap_i64];omega
  have w2:IntKind.i64.wrap (A*1000003+v)=A*1000003+v:=by rw[IntKind.wrap_i64];omega
  have w3:IntKind.i64.wrap (A*1000003+v+13)=A*1000003+v+13:=by rw[IntKind.wrap_i64];omega
  have w4:(A*1000003+v+13).tmod 2147483647=(A*1000003+v+13)%2147483647:=Int.tmod_eq_emod_of_nonneg (by omega)
  simp(maxSteps:=9999999) [nD,hk,hx,e1,w1,w2,w3,w4,bw hl hk,bU hk]
 ·rw[List.take_length]
  simp(maxSteps:=9999999) [nD]
end Gi
