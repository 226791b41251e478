/- Of this proof. -/
import Derived.Test.YtbeaonmepfkmmaaGreatGkdd
set_option linter.unusedSimpArgs false
set_option linter.unusedVariables false
namespace Gi
open Go Go.RowKit
set_option maxHeartbeats 4000000
def Dz :Nat→Nat→List UInt8
 |0,_=>[]
 |f+1,n=>if n<128 then [UInt8.ofNat n]else UInt8.ofNat (n%128+128)::Dz f (n/128)
def jo (n:Nat):List UInt8:=Dz 6 n
def J8 :Nat→Bool→List UInt8→Option (Nat×Nat)
 |0,_,_=>none
 |_+1,_,[]=>none
 |f+1,z,b::l=>if b.toNat<128 then(if z=true∧b.toNat=0 then none else some (b.toNat,1))else
  match J8 f true l with
  |none=>none
  |some (n,k)=>some (b.toNat%128+128*n,k+1)
def m5 :List UInt8→Nat
 |[]=>0
 |b::l=>b.toNat%128+128*m5 l
theorem vy :∀l:List UInt8,m5 l<128^l.length
 |[]=>by simp[m5]
 |b::l=>by
  have:=vy l
  have h:b.toNat%128<128:=Nat.mod_lt _ (by decide)
  simp only[m5,List.length_cons,Nat.pow_succ]
  omega
theorem ED :∀(l:List UInt8)(b:UInt8),m5 (l++[b])=m5 l+b.toNat%128*128^l.length
 |[],b=>by simp[m5]
 |a::l,b=>by
  simp only[List.cons_append,m5,ED l b,List.length_cons,Nat.pow_succ]
  rw[Nat.mul_add,←Nat.mul_assoc,Nat.mul_comm 128 (b.toNat%128),Nat.mul_assoc,Nat.mul_comm 128 (128^l.length),Nat.add_assoc]
theorem ML :∀(f k:Nat)(z:Bool)(l:List UInt8)(hk:k<l.length),k<f→(∀j(hj:j<l.length),j<k→128≤l[j].toNat)→l[k].toNat<128→J8 f z l=if(z=true∨0<k)∧l[k].toNat=0 then none else some (m5 (l.take (k+1)),k+1)
 |0,k,z,l,hk,hf,h1,h2=>by omega
 |f+1,0,z,b::l,hk,hf,h1,h2=>by
  simp only[List.getElem_cons_zero]at h2
  have:b.toNat%128=b.toNat:=Nat.mod_eq_of_lt h2
  simp[J8,h2,m5,this]
 |f+1,k+1,z,b::l,hk,hf,h1,h2=>by
  have h3:¬b.toNat<128:=by
   have:=h1 0 (by simp) (by omega)
   simp only[List.getElem_cons_zero]at this
   omega
  have hk':k<l.length:=by simpa using hk
  simp only[List.getElem_cons_succ]at h2⊢
  have ih:=ML f k true l hk' (by omega) (fun j hj hjk=>by
   have:=h1 (j+1) (by simp;omega) (by omega)
   simpa using this) h2
  simp only[J8,h3,if_false,ih]
  by_cases h4:l[k].toNat=0
  ·simp[h4]
  ·simp[h4,m5]
theorem Jj :∀(f:Nat)(z:Bool)(l:List UInt8),(∀j(hj:j<l.length),j<f→128≤l[j].toNat)→J8 f z l=none
 |0,z,l,h=>rfl
 |f+1,z,[],h=>rfl
 |f+1,z,b::l,h=>by
  have h3:¬b.toNat<128:=by
   have:=h 0 (by simp) (by omega)
   simp only[List.getElem_cons_zero]at this
   omega
  have ih:=Jj f true l (fun j hj hjk=>by
   have:=h (j+1) (by simp;omega) (by omega)
   simpa using this)
  simp[J8,h3,ih]
theorem MM :∀(f n:Nat)(z:Bool)(t:List UInt8),n<128^f→0<f→(z=true→n≠0)→J8 f z (Dz f n++t)=some (n,(Dz f n).length)
 |0,n,z,t,h,h0,hz=>by omega
 |f+1,n,z,t,h,h0,hz=>by
  by_cases c:n<128
  ·have e:(UInt8.ofNat n).toNat=n:=by simp;omega
   simp only[Dz,c,if_true,List.cons_append,List.nil_append,J8,e,List.length_cons,List.length_nil]
   rw[if_neg (fun q=>hz q.1 q.2)]
  ·have e:(UInt8.ofNat (n%128+128)).toNat=n%128+128:=by simp;omega
   have e2:¬(n%128+128<128):=by omega
   have hf:0<f:=by
    rcases Nat.eq_zero_or_pos f with rfl|q
    ·simp at h;omega
    ·exact q
   have ih:=MM f (n/128) true t (by rw[Nat.pow_succ]at h;omega) hf (fun _=>by omega)
   simp only[Dz,c,if_false,List.cons_append,J8,e,e2,ih,List.length_cons,Option.some.injEq,Prod.mk.injEq,and_true]
   omega
theorem E4 :∀(f n k:Nat)(z:Bool)(l:List UInt8),J8 f z l=some (n,k)→(∃t,l=Dz f n++t)∧k=(Dz f n).length∧(z=true→n≠0)
 |0,n,k,z,l,h=>by simp[J8]at h
 |f+1,n,k,z,[],h=>by simp[J8]at h
 |f+1,n,k,z,b::l,h=>by
  by_cases c:b.toNat<128
  ·simp only[J8,c,if_true]at h
   split at h
   ·cases h
   ·rename_i q
    simp only[Option.some.injEq,Prod.mk.injEq]at h
    obtain⟨rfl,rfl⟩:=h
    simp only[Dz,c,if_true,UInt8.ofNat_toNat]
    exact⟨⟨l,rfl⟩,rfl,fun z1 z2=>q ⟨z1,z2⟩⟩
  ·simp only[J8,c,if_false]at h
   cases e:J8 f true l with
   |none=>rw[e]at h;cases h
   |some p=>
    obtain⟨m,i⟩:=p
    rw[e]at h
    simp only[Option.some.injEq,Prod.mk.injEq]at h
    obtain⟨rfl,rfl⟩:=h
    obtain⟨⟨t,rfl⟩,rfl,hz⟩:=E4 f m i true l e
    have hm:=hz rfl
    have hb:=b.toNat_lt
    have c2:¬(b.toNat%128+128*m<128):=by omega
    have e3:(b.toNat%128+128*m)/128=m:=by omega
    have e4:(b.toNat%128+128*m)%128+128=b.toNat:=by omega
    simp only[Dz,c2,if_false,e3,e4,UInt8.ofNat_toNat]
    exact⟨⟨t,rfl⟩,rfl,fun _ q=>c2 (by omega)⟩
def qS (b:List UInt8):Option (Nat×Nat):=
 match J8 6 false b with
 |none=>none
 |some (n,k)=>if n≤1000000000000 then some (n,k)else none
theorem MO {n:Nat}{t:List UInt8}(h:n≤1000000000000):qS (jo n++t)=some (n,(jo n).length):=by
 simp[qS,jo,MM 6 n false t (by omega) (by decide) (by simp),h]
theorem qD {b:List UInt8}{n k:Nat}(h:qS b=some (n,k)):(∃t,b=jo n++t)∧k=(jo n).length∧n≤1000000000000:=by
 unfold qS at h
 split at h
 ·cases h
 ·rename_i m i e
  split at h
  ·rename_i q
   simp only[Option.some.injEq,Prod.mk.injEq]at h
   obtain⟨rfl,rfl⟩:=h
   obtain⟨a,c,_⟩:=E4 _ _ _ _ _ e
   exact⟨a,c,q⟩
  ·cases h
theorem M9 :∀(f n:Nat),(Dz f n).length≤f
 |0,n=>by simp[Dz]
 |f+1,n=>by
  have:=M9 f (n/128)
  unfold Dz
  split<;>simp<;>omega
theorem jn (n:Nat):(jo n).length≤6:=M9 6 n
theorem A4 (n:Nat):0<(jo n).length:=by unfold jo Dz;split<;>simp
theorem Fj {n:Nat}(h:n<128):(jo n).length=1:=by simp[jo,Dz,h]
theorem kC {b:List UInt8}{n k:Nat}(h:qS b=some (n,k)):0<k∧k≤b.length∧n≤1000000000000:=by
 obtain⟨⟨t,rfl⟩,rfl,q⟩:=qD h
 have:=A4 n
 simp;omega
def mc (s:List UInt8):List UInt8:=jo s.length++s
def Qu (b:List UInt8):Option (List UInt8×Nat):=
 match qS b with
 |none=>none
 |some (n,k)=>if n≤b.length-k then some ((b.drop k).take n,k+n)else none
def AH (m:Nat)(b:List UInt8):Option (List UInt8×Nat):=
 match Qu b with
 |none=>none
 |some (s,k)=>if s.length≤m then some (s,k)else none
theorem AZ {s t:List UInt8}(h:s.length≤1000000000000):Qu (mc s++t)=some (s,(mc s).length):=by
 simp[Qu,mc,MO h]
theorem EZ {b s:List UInt8}{k:Nat}(h:Qu b=some (s,k)):(∃t,b=mc s++t)∧k=(mc s).length∧s.length≤1000000000000:=by
 unfold Qu at h
 split at h
 ·cases h
 ·rename_i n i e
  split at h
  ·rename_i q
   simp only[Option.some.injEq,Prod.mk.injEq]at h
   obtain⟨rfl,rfl⟩:=h
   obtain⟨⟨t,rfl⟩,rfl,hn⟩:=qD e
   simp only[List.length_append,Nat.add_sub_cancel_left]at q
   have e2:(t.take n).length=n:=by simp;omega
   simp only[List.drop_left,mc,e2]
   exact⟨⟨t.drop n,by simp⟩,by simp;omega,hn⟩
  ·cases h
theorem jk {b s:List UInt8}{k:Nat}(h:Qu b=some (s,k)):s.length<k∧k≤b.length∧s.length≤1000000000000:=by
 obtain⟨⟨t,rfl⟩,rfl,q⟩:=EZ h
 have:=A4 s.length
 simp[mc];omega
theorem eH {m:Nat}{b s:List UInt8}{k:Nat}(h:AH m b=some (s,k)):Qu b=some (s,k)∧s.length≤m:=by
 unfold AH at h
 split at h
 ·cases h
 ·rename_i x y e
  split at h
  ·rename_i q
   simp only[Option.some.injEq,Prod.mk.injEq]at h
   obtain⟨rfl,rfl⟩:=h
   exact⟨e,q⟩
  ·cases h
theorem sS {m:Nat}{b s:List UInt8}{k:Nat}(h:Qu b=some (s,k))(hm:s.length≤m):AH m b=some (s,k):=by
 simp[AH,h,hm]
def So (x:Nat):List UInt8:=[UInt8.ofNat (x/1099511627776),UInt8.ofNat (x/4294967296),UInt8.ofNat (x/16777216),UInt8.ofNat (x/65536),UInt8.ofNat (x/256),UInt8.ofNat x]
def SW (a b c d e f:UInt8):Nat:=((((a.toNat*256+b.toNat)*256+c.toNat)*256+d.toNat)*256+e.toNat)*256+f.toNat
theorem Rg (a b c d e f:UInt8):So (SW a b c d e f)=[a,b,c,d,e,f]:=by
 have:=a.toNat_lt;have:=b.toNat_lt;have:=c.toNat_lt;have:=d.toNat_lt;have:=e.toNat_lt;have:=f.toNat_lt
 simp only[So,SW,List.cons.injEq,←UInt8.toNat_inj,UInt8.toNat_ofNat',and_true]
 refine⟨?_,?_,?_,?_,?_,?_⟩<;>omega
def j3 (k:XKey):List UInt8:=if eZ k=true then UInt8.ofNat k.kind.toNat::((if k.kind=2 then []else So (k.n+1000000000000).toNat)++k.text)else []
def mh :List UInt8→Option XKey
 |[]=>none
 |c::l=>if(c.toNat:Int)=2 then some ⟨2,0,l⟩else
  match l with
  |a::b::d::e::f::g::t=>some ⟨c.toNat,(SW a b d e f g:Int)-1000000000000,t⟩
  |_=>none
theorem rH {n a b:Int}:rg n a b=true↔a≤n∧n≤b:=by simp[rg,bX]
theorem oh {k:XKey}(h:eZ k=true):1≤k.kind∧k.kind≤3∧-1000000000000≤k.n∧k.n≤1000000000000∧(k.kind=2→k.n=0)∧k.text.length≤12:=by
 unfold eZ sJ at h
 simp only[Bool.and_eq_true,rH,Bool.or_eq_true,Bool.not_eq_true',beq_eq_false_iff_ne,beq_iff_eq]at h
 obtain⟨⟨⟨⟨⟨h1,h2⟩,h3,h4⟩,h5⟩,_,h6⟩,_⟩:=h
 have:=of_decide_eq_false h6
 exact⟨h1,h2,h3,h4,fun q=>h5.resolve_left (fun z=>z q),by omega⟩
theorem PI {b:List UInt8}{k:XKey}(h:mh b=some k):j3 k=b↔eZ k=true:=by
 constructor
 ·intro q
  by_cases c:eZ k=true
  ·exact c
  ·rw[j3,if_neg c]at q
   subst q
   cases h
 ·intro q
  rw[j3,if_pos q]
  match b,h with
  |[],h=>cases h
  |c::l,h=>
   by_cases e:(c.toNat:Int)=2
   ·simp only[mh,e,if_true,Option.some.injEq]at h
    subst h
    have:UInt8.ofNat (2:Int).toNat=c:=by
     rw[←UInt8.toNat_inj]
     simp
     omega
    simp only[this,if_true,List.nil_append]
   ·simp only[mh,e,if_false]at h
    match l,h with
    |a::b::d::e'::f::g::t,h=>
     simp only[Option.some.injEq]at h
     subst h
     have e1:(((SW a b d e' f g:Nat):Int)-1000000000000+1000000000000).toNat=SW a b d e' f g:=by omega
     have e2:UInt8.ofNat ((c.toNat:Int)).toNat=c:=by simp
     simp only[e,if_false,e1,Rg,e2]
     rfl
def sx (b:List UInt8):XKey×Bool:=
 match mh b with
 |none=>(⟨0,0,[]⟩,false)
 |some k=>if eZ k=true then(k,true)else(⟨0,0,[]⟩,false)
theorem Bt (k:XKey):(j3 k).length≤19:=by
 unfold j3
 split
 ·rename_i h
  have:=(oh h).2.2.2.2.2
  split<;>simp[So]<;>omega
 ·simp
def NI (f:XField):List UInt8:=mc f.name++jo f.n.toNat
def fR (l:List XField):List UInt8:=l.flatMap NI
def nT (r:XRecord):List UInt8:=if cI r.fs=true then jo r.fs.length++fR r.fs else []
def rE :Nat→List UInt8→Option (List XField×Nat)
 |0,_=>some ([],0)
 |m+1,b=>
  match AH 8 b with
  |none=>none
  |some (s,k)=>
   match qS (b.drop k)with
   |none=>none
   |some (x,k2)=>
    match rE m (b.drop (k+k2))with
    |none=>none
    |some (fs,k3)=>some (⟨s,x⟩::fs,k+k2+k3)
def Uf (f:XField):Prop:=f.name.length≤8∧0≤f.n∧f.n≤1000000000000
theorem vh :∀(m:Nat)(b:List UInt8)(l:List XField)(k:Nat),rE m b=some (l,k)→(∃t,b=fR l++t)∧k=(fR l).length∧l.length=m∧∀f∈l,Uf f
 |0,b,l,k,h=>by
  simp only[rE,Option.some.injEq,Prod.mk.injEq]at h
  obtain⟨rfl,rfl⟩:=h
  exact⟨⟨b,rfl⟩,rfl,rfl,by simp⟩
 |m+1,b,l,k,h=>by
  unfold rE at h
  split at h
  ·cases h
  ·rename_i s i e1
   split at h
   ·cases h
   ·rename_i x j e2
    split at h
    ·cases h
    ·rename_i fs q e3
     simp only[Option.some.injEq,Prod.mk.injEq]at h
     obtain⟨rfl,rfl⟩:=h
     obtain⟨e1,hs⟩:=eH e1
     obtain⟨⟨t1,rfl⟩,rfl,_⟩:=EZ e1
     rw[List.drop_left]at e2
     obtain⟨⟨t2,rfl⟩,rfl,hx⟩:=qD e2
     rw[←List.append_assoc,←List.length_append,List.drop_left]at e3
     obtain⟨⟨t3,rfl⟩,rfl,hl,hf⟩:=vh m t2 fs q e3
     refine⟨⟨t3,by simp[fR,NI]⟩,by simp[fR,NI];omega,by simp[hl],fun f hm=> ?_⟩
     rcases List.mem_cons.1 hm with rfl|hm
     ·exact⟨hs,by simp,by simp;omega⟩
     ·exact hf f hm
def Jl (b:List UInt8):Option (XRecord×Nat):=
 match qS b with
 |none=>none
 |some (n,k)=>if n≤6 then
  match rE n (b.drop k)with
  |none=>none
  |some (fs,k2)=>some (⟨fs⟩,k+k2)
  else none
theorem rq {s:List UInt8}(h:gY s=true):1≤s.length∧s.length≤8:=by
 simp only[gY,uX,Bool.and_eq_true,rH]at h
 omega
theorem mP {r:XRecord}(h:cI r.fs=true):r.fs.length≤6∧∀f∈r.fs,Uf f:=by
 simp only[cI,Bool.and_eq_true,Bool.not_eq_true']at h
 have hl:=of_decide_eq_false h.2
 refine⟨by omega,fun f m=> ?_⟩
 obtain⟨j,hj,rfl⟩:=List.mem_iff_getElem.1 m
 have:=sn h.1 hj
 simp only[Kg,hj,show j-1<r.fs.length by omega,List.getElem?_eq_getElem,Bool.or_eq_false_iff,Bool.not_eq_false',rH]at this
 have q:=rq this.1
 exact⟨q.2,this.2.1.1,by omega⟩
theorem OD {b:List UInt8}{r:XRecord}{k:Nat}(h:Jl b=some (r,k)):(∃t,b=jo r.fs.length++fR r.fs++t)∧k=(jo r.fs.length++fR r.fs).length∧r.fs.length≤6∧∀f∈r.fs,Uf f:=by
 unfold Jl at h
 split at h
 ·cases h
 ·rename_i n i e1
  split at h
  ·rename_i hn
   split at h
   ·cases h
   ·rename_i fs j e2
    simp only[Option.some.injEq,Prod.mk.injEq]at h
    obtain⟨rfl,rfl⟩:=h
    obtain⟨⟨t1,rfl⟩,rfl,_⟩:=qD e1
    rw[List.drop_left]at e2
    obtain⟨⟨t2,rfl⟩,rfl,rfl,hf⟩:=vh _ _ _ _ e2
    exact⟨⟨t2,by simp⟩,by simp,hn,hf⟩
  ·cases h
theorem PK {b:List UInt8}{r:XRecord}{k:Nat}(h:Jl b=some (r,k)):nT r=b↔cI r.fs=true∧k=b.length:=by
 obtain⟨⟨t,e⟩,rfl,_,_⟩:=OD h
 constructor
 ·intro q
  by_cases c:cI r.fs=true
  ·refine⟨c,?_⟩
   rw[nT,if_pos c]at q
   rw[q]
  ·rw[nT,if_neg c]at q
   have:=A4 r.fs.length
   have:=congrArg List.length e
   rw[←q]at this
   simp at this
   omega
 ·rintro⟨c,q⟩
  have:=congrArg List.length e
  rw[←q,List.length_append]at this
  have ht:t=[]:=List.length_eq_zero_iff.1 (by simp only[List.length_append]at this;omega)
  rw[nT,if_pos c,e,ht,List.append_nil]
def tP (b:List UInt8):XRecord×Bool:=
 match Jl b with
 |none=>(⟨[]⟩,false)
 |some (r,k)=>if k=b.length∧cI r.fs=true then(r,true)else(⟨[]⟩,false)
theorem tA :∀(l:List XField),(∀f∈l,Uf f)→(fR l).length≤15*l.length
 |[],h=>by simp[fR]
 |f::l,h=>by
  have ih:=tA l (fun g m=>h g (by simp[m]))
  have h1:=(h f (by simp)).1
  have h2:=Fj (n:=f.name.length) (by omega)
  have h3:=jn f.n.toNat
  simp only[fR,List.flatMap_cons,NI,mc,List.length_append,List.length_cons]at ih⊢
  omega
theorem Ij (r:XRecord):(nT r).length≤91:=by
 unfold nT
 split
 ·rename_i h
  obtain⟨h1,h2⟩:=mP h
  have:=tA r.fs h2
  have:=Fj (n:=r.fs.length) (by omega)
  simp only[List.length_append]
  omega
 ·simp
structure Raw where
 kind:Nat
 a:List UInt8
 b:List UInt8
 c:List UInt8
 d:List UInt8
def sh (m:Nat×Nat×Nat×Nat)(b:List UInt8):Option (Raw×Nat):=
 match qS b with
 |none=>none
 |some (n,k)=>
  match AH m.1 (b.drop k)with
  |none=>none
  |some (p,k1)=>
   match AH m.2.1 (b.drop (k+k1))with
   |none=>none
   |some (q,k2)=>
    match AH m.2.2.1 (b.drop (k+k1+k2))with
    |none=>none
    |some (r,k3)=>
     match AH m.2.2.2 (b.drop (k+k1+k2+k3))with
     |none=>none
     |some (s,k4)=>some (⟨n,p,q,r,s⟩,k+k1+k2+k3+k4)
structure XOp where
 kind:Int
 store:List UInt8
 key:XKey
 rcd:XRecord
 field:List UInt8
def XOp.e (x:XOp):List PV:=[.int .i64 x.kind, .str x.store, .int .i64 x.key.kind, .int .i64 x.key.n, .str x.key.text, .lst (x.rcd.fs.map XField.e), .str x.field]
theorem vx (x:XOp):x.e=[.int .i64 x.kind, .str x.store, .int .i64 x.key.kind, .int .i64 x.key.n, .str x.key.text, .lst (x.rcd.fs.map XField.e), .str x.field]:=rfl
abbrev XOp.v (x:XOp):V:= .agg [.pv (.int .i64 x.kind), .pv (.str x.store), .pv (.int .i64 x.key.kind), .pv (.int .i64 x.key.n), .pv (.str x.key.text), .pv (.lst (x.rcd.fs.map XField.e)), .pv (.str x.field)]
def XOp.Ok (B:Nat)(x:XOp):Prop:=iy x.kind∧x.store.length≤B∧x.key.Ok B∧x.rcd.Ok B∧x.field.length≤B
def jP (r:Raw):XOp:=⟨r.kind,r.a,(sx r.b).1,(tP r.c).1,r.d⟩
def ji (o:XOp):Bool:=rg o.kind 1 6&&(gY o.store&&((o.kind==5||eZ o.key)&&(cI o.rcd.fs&&(bif o.kind==6 then gY o.field else o.field==[]))))
def uo (o:XOp):Raw:=⟨o.kind.toNat,o.store,j3 o.key,nT o.rcd,o.field⟩
def ID (m:Nat×Nat×Nat×Nat)(r:Raw):Prop:=r.a.length≤m.1∧r.b.length≤m.2.1∧r.c.length≤m.2.2.1∧r.d.length≤m.2.2.2
def Ek (r:Raw):List UInt8:=jo r.kind++(mc r.a++(mc r.b++(mc r.c++mc r.d)))
def UD (r:Raw):Prop:=r.kind≤1000000000000∧r.a.length≤1000000000000∧r.b.length≤1000000000000∧r.c.length≤1000000000000∧r.d.length≤1000000000000
theorem R6 {m:Nat×Nat×Nat×Nat}{r:Raw}{t:List UInt8}(h:ID m r)(w:UD r):sh m (Ek r++t)=some (r,(Ek r).length):=by
 obtain⟨k,a,b,c,d⟩:=r
 obtain⟨h1,h2,h3,h4⟩:=h
 obtain⟨w0,w1,w2,w3,w4⟩:=w
 simp only at h1 h2 h3 h4 w0 w1 w2 w3 w4
 have g0:Ek ⟨k,a,b,c,d⟩++t=jo k++(mc a++(mc b++(mc c++(mc d++t)))):=by simp[Ek]
 rw[g0]
 simp only[sh,MO (n:=k) (t:=mc a++(mc b++(mc c++(mc d++t)))) w0,List.drop_left,sS (AZ (s:=a) (t:=mc b++(mc c++(mc d++t))) w1) h1]
 rw[←List.append_assoc,←List.length_append,List.drop_left]
 simp only[sS (AZ (s:=b) (t:=mc c++(mc d++t)) w2) h2]
 rw[←List.append_assoc,←List.length_append,List.drop_left]
 simp only[sS (AZ (s:=c) (t:=mc d++t) w3) h3]
 rw[←List.append_assoc,←List.length_append,List.drop_left]
 simp only[sS (AZ (s:=d) (t:=t) w4) h4]
 simp[Ek,Nat.add_assoc]
theorem R7 {m:Nat×Nat×Nat×Nat}{b:List UInt8}{r:Raw}{k:Nat}(h:sh m b=some (r,k)):ID m r∧∀m',ID m' r→sh m' b=some (r,k):=by
 unfold sh at h
 split at h
 ·cases h
 ·rename_i e0
  split at h
  ·cases h
  ·rename_i e1
   split at h
   ·cases h
   ·rename_i e2
    split at h
    ·cases h
    ·rename_i e3
     split at h
     ·cases h
     ·rename_i e4
      simp only[Option.some.injEq,Prod.mk.injEq]at h
      obtain⟨rfl,rfl⟩:=h
      refine⟨⟨(eH e1).2,(eH e2).2,(eH e3).2,(eH e4).2⟩,fun m'⟨f1,f2,f3,f4⟩=> ?_⟩
      simp only at f1 f2 f3 f4
      simp only[sh,e0,sS (eH e1).1 f1,sS (eH e2).1 f2,sS (eH e3).1 f3,sS (eH e4).1 f4]
def lQ (m:Nat×Nat×Nat×Nat):Nat→List UInt8→Option (List Raw)
 |0,_=>some []
 |n+1,b=>
  match sh m b with
  |none=>none
  |some (r,k)=>
   match lQ m n (b.drop k)with
   |none=>none
   |some l=>some (r::l)
theorem Jk {m:Nat×Nat×Nat×Nat}:∀(l:List Raw),(∀r∈l,ID m r∧UD r)→lQ m l.length (l.flatMap Ek)=some l
 |[],h=>rfl
 |r::l,h=>by
  have ih:=Jk l (fun x q=>h x (by simp[q]))
  simp only[List.length_cons,List.flatMap_cons,lQ,R6 (t:=l.flatMap Ek) (h r (by simp)).1 (h r (by simp)).2,List.drop_left,ih]
theorem wL {m:Nat×Nat×Nat×Nat}:∀(n:Nat)(b:List UInt8)(l:List Raw),lQ m n b=some l→l.length=n∧(∀r∈l,ID m r)∧∀m',(∀r∈l,ID m' r)→lQ m' n b=some l
 |0,b,l,h=>by
  simp only[lQ,Option.some.injEq]at h
  subst h
  exact⟨rfl,by simp,fun _ _=>rfl⟩
 |n+1,b,l,h=>by
  unfold lQ at h
  split at h
  ·cases h
  ·rename_i r k e
   split at h
   ·cases h
   ·rename_i l' e2
    simp only[Option.some.injEq]at h
    subst h
    obtain⟨h1,h2,h3⟩:=wL n _ _ e2
    obtain⟨g1,g2⟩:=R7 e
    refine⟨by simp[h1],fun x q=> ?_,fun m' q=> ?_⟩
    ·rcases List.mem_cons.1 q with rfl|q
     ·exact g1
     ·exact h2 x q
    ·simp only[lQ,g2 m' (q r (by simp)),h3 m' (fun x p=>q x (by simp[p]))]
def qY (o:XOp):List UInt8:=Ek (uo o)
def vB (l:List XOp):Bool:=l.all ji&&decide ((l.length:Int)≤6)
def jX (l:List XOp):List UInt8:=if vB l=true then jo l.length++l.flatMap qY else []
def jA (m:Nat×Nat×Nat×Nat)(b:List UInt8):Option (List XOp):=
 match qS b with
 |none=>none
 |some (n,k)=>if n≤6 then
  match lQ m n (b.drop k)with
  |none=>none
  |some l=>some (l.map jP)
  else none
def jK (m:Nat×Nat×Nat×Nat)(b:List UInt8):List XOp×Bool:=
 match jA m b with
 |none=>([],false)
 |some l=>if jX l=b then(l,true)else([],false)
theorem CP {o:XOp}(h:ji o=true):ID (100,100,200,100) (uo o)∧UD (uo o):=by
 unfold ji at h
 simp only[Bool.and_eq_true,rH]at h
 obtain⟨⟨h1,h2⟩,h3,_,_,h4⟩:=h
 have l3:=rq h3
 have l1:=Bt o.key
 have l2:=Ij o.rcd
 have l4:o.field.length≤8:=by
  cases q:(o.kind==6)<;>rw[q]at h4<;>simp only[cond_true,cond_false]at h4
  ·simp only[beq_iff_eq]at h4
   simp[h4]
  ·exact(rq h4).2
 refine⟨⟨?_,?_,?_,?_⟩,⟨?_,?_,?_,?_,?_⟩⟩<;>simp only[uo]<;>omega
theorem Tf {m:Nat×Nat×Nat×Nat}{b:List UInt8}{r:Raw}{k:Nat}(h:sh m b=some (r,k)):r.a.length≤b.length∧r.b.length≤b.length∧r.c.length≤b.length∧r.d.length≤b.length∧k≤b.length∧0<k:=by
 unfold sh at h
 split at h
 ·cases h
 ·rename_i e0
  split at h
  ·cases h
  ·rename_i e1
   split at h
   ·cases h
   ·rename_i e2
    split at h
    ·cases h
    ·rename_i e3
     split at h
     ·cases h
     ·rename_i e4
      simp only[Option.some.injEq,Prod.mk.injEq]at h
      obtain⟨rfl,rfl⟩:=h
      have a0:=kC e0
      have a1:=jk (eH e1).1
      have a2:=jk (eH e2).1
      have a3:=jk (eH e3).1
      have a4:=jk (eH e4).1
      simp only[List.length_drop]at a1 a2 a3 a4
      simp only
      omega
theorem MN {m:Nat×Nat×Nat×Nat}:∀(n:Nat)(b:List UInt8)(l:List Raw),lQ m n b=some l→∀r∈l,r.a.length≤b.length∧r.b.length≤b.length∧r.c.length≤b.length∧r.d.length≤b.length
 |0,b,l,h=>by
  simp only[lQ,Option.some.injEq]at h
  subst h
  simp
 |n+1,b,l,h=>by
  unfold lQ at h
  split at h
  ·cases h
  ·rename_i r k e
   split at h
   ·cases h
   ·rename_i l' e2
    simp only[Option.some.injEq]at h
    subst h
    intro x q
    rcases List.mem_cons.1 q with rfl|q
    ·have:=Tf e
     omega
    ·have:=MN n _ _ e2 x q
     simp only[List.length_drop]at this
     omega
theorem Ji {m m0:Nat×Nat×Nat×Nat}{b:List UInt8}{l:List XOp}(h1:b.length≤m.1)(h2:b.length≤m.2.1)(h3:b.length≤m.2.2.1)(h4:b.length≤m.2.2.2)(h:jA m0 b=some l):jA m b=some l:=by
 unfold jA at h⊢
 split at h
 ·cases h
 ·rename_i n k e0
  split at h
  ·rename_i hn
   split at h
   ·cases h
   ·rename_i rs e1
    have:=(wL _ _ _ e1).2.2 m (fun r hr=>by
     have:=MN _ _ _ e1 r hr
     simp only[List.length_drop]at this
     refine⟨?_,?_,?_,?_⟩<;>omega)
    simp only[hn,if_true,this]
    exact h
  ·cases h
theorem Lc {m m0:Nat×Nat×Nat×Nat}{b:List UInt8}{l:List XOp}(h1:b.length≤m.1)(h2:b.length≤m.2.1)(h3:b.length≤m.2.2.1)(h4:b.length≤m.2.2.2)(hm:∀o,ji o=true→ID m0 (uo o))(h:jA m b=some l)(q:jX l=b):jA m0 b=some l:=by
 have hs:=h
 unfold jA at h
 split at h
 ·cases h
 ·rename_i n k e0
  split at h
  ·rename_i hn
   split at h
   ·cases h
   ·rename_i rs e1
    simp only[Option.some.injEq]at h
    obtain⟨⟨t,e2⟩,e3,_⟩:=qD e0
    have l1:l.length=n:=by rw[←h,List.length_map];exact(wL _ _ _ e1).1
    unfold jX at q
    split at q
    ·rename_i ha
     unfold vB at ha
     simp only[Bool.and_eq_true,List.all_eq_true]at ha
     rw[l1]at q
     have q2:b.drop k=(l.map uo).flatMap Ek:=by
      rw[←q,e3,List.drop_left,List.flatMap_map];rfl
     have e4:=Jk (m:=m0) (l.map uo) (fun r hr=>by
      obtain⟨o,ho,rfl⟩:=List.mem_map.1 hr
      exact⟨hm o (ha.1 o ho),(CP (ha.1 o ho)).2⟩)
     rw[List.length_map,l1,←q2]at e4
     have e5:jA m0 b=some ((l.map uo).map jP):=by simp only[jA,e0,hn,if_true,e4]
     have e6:=Ji h1 h2 h3 h4 e5
     rw[hs]at e6
     rw[e5]
     exact e6.symm
    ·exfalso
     have:=A4 n
     rw[e2]at q
     have:=congrArg List.length q
     simp at this
     omega
  ·cases h
theorem Rl {m:Nat×Nat×Nat×Nat}{b:List UInt8}(h1:b.length≤m.1)(h2:b.length≤m.2.1)(h3:b.length≤m.2.2.1)(h4:b.length≤m.2.2.2):jK m b=jK (100,100,200,100) b:=by
 have up:=fun l=>Ji (m0:=(100,100,200,100)) (l:=l) h1 h2 h3 h4
 have dn:=fun l=>Lc (m0:=(100,100,200,100)) (l:=l) h1 h2 h3 h4 (fun o ho=>(CP ho).1)
 unfold jK
 cases e:jA m b with
 |none=>
  cases e2:jA (100,100,200,100) b with
  |none=>rfl
  |some l=>have:=up l e2;rw[e]at this;cases this
 |some l=>
  by_cases q:jX l=b
  ·rw[dn l e q]
  ·simp only[q,if_false]
   cases e2:jA (100,100,200,100) b with
   |none=>rfl
   |some l'=>
    have:=up l' e2
    rw[e]at this
    simp only[Option.some.injEq]at this
    subst this
    simp only[q,if_false]
end Gi
namespace Gi
open Go Go.RowKit
set_option maxHeartbeats 8000000
set_option maxRecDepth 4000
attribute [local simp] start pa a9 b6 cP dS cO dR d5 dZ pR p5 pS p6 pT p7 pU p8 pV p9 pW qa pX qb pY qc pZ qd V.cells plain bf fO isInt isStr isBool bin bN gA bO gB dV un asList L.view av V.view viewL aR aw bS bq bE comp aK bv cL bK bj bh bi aB aq aH am az aW ap aY bH aI bm bo V.flat L.flat cX cN br putAt thaw thawL thawT V.ow dY cR cS bQ dX bR cQ freezeVs freezeLs freezeL V.mut L.mut aJ cy fQ aX bu aP dN co bG cJ L.ren aM dd bP dq bF bB wp_seq wp_block aV cV bT bt bU wp_skip wp_exit wp_ret ce b9 ct cf cF cG cE bJ aL L.notArr bA bw bz cT b8 storeD aT eS bc bZ aU mf L.mov L.closed V.closed PV.bare PV.flat
theorem UJ (m:Int):m.tmod 2147483647=if 0≤m then m%2147483647 else-((-m)%2147483647):=by
 split
 ·rw[Int.tmod_eq_emod_of_nonneg (by omega)]
 ·obtain⟨n,rfl⟩:∃n,m= -n:=⟨-m,by omega⟩
  rw[Int.neg_tmod,Int.tmod_eq_emod_of_nonneg (by omega),Int.neg_neg]
theorem Cg {α β:Type}{g:β→α→β}{a:β}{ns:List α}{k:Nat}(h:k<ns.length):(ns.take (k+1)).foldl g a=g ((ns.take k).foldl g a) ns[k]:=by
 rw[List.take_succ_eq_append_getElem h,List.foldl_append];rfl
theorem U1 (v:Int):v.tmod 2147483647<0→IntKind.i64.wrap (v.tmod 2147483647+2147483647)=v%2147483647:=fun c=>by
 have h:=UJ v
 rw[IntKind.wrap_i64];omega
theorem U2 (v:Int):¬v.tmod 2147483647<0→v.tmod 2147483647=v%2147483647:=fun c=>by
 have h:=UJ v
 omega
theorem UA (v M q:Int)(hw:v.tmod M<0→IntKind.i64.wrap (v.tmod M+M)=q)(hw2:¬v.tmod M<0→v.tmod M=q)(m1:1≤M)(m2:M≤1000000000000)(m3:¬M=0):ah Ph aN 358 [aa .i64 v,aa .i64 M]=some (aa .i64 q):=by
 have e1:=eR M 1 1000000000000
 rw[rH.2 ⟨m1,m2⟩]at e1
 refine ae (fn:=rh) rfl ?_
 by_cases c:v.tmod M<0
 ·simp(maxSteps:=9999999) [rh,e1,m3,dW c,hw c]
 ·have hq:bX q 0=false:=by rw[←hw2 c];exact fK (Int.not_lt.1 c)
  simp(maxSteps:=9999999) [rh,e1,m3,hq,hw2 c]
theorem Gk (v:Int):ah Ph aN 358 [aa .i64 v,aa .i64 2147483647]=some (aa .i64 (v%2147483647)):=UA v _ _ (U1 v) (U2 v) (by omega) (by omega) (by omega)
theorem UB (v M q:Int)(hw:(IntKind.i64.wrap (v.tmod M+M)).tmod M=q)(m1:1≤M)(m2:M≤1000000000000)(m3:¬M=0):ah Ph aN 357 [aa .i64 v,aa .i64 M]=some (aa .i64 q):=by
 have e1:=fP M 1 1000000000000
 rw[rH.2 ⟨m1,m2⟩]at e1
 refine ae (fn:=uQ) rfl ?_
 simp(maxSteps:=9999999) [uQ,e1,m3,hw]
theorem GX (v:Int):ah Ph aN 357 [aa .i64 v,aa .i64 2147483647]=some (aa .i64 (v%2147483647)):=UB v _ _ (by
 have h1:=UJ v
 have h2: -2147483647<v.tmod 2147483647∧v.tmod 2147483647<2147483647:=by rw[h1];split<;>omega
 have h3:IntKind.i64.wrap (v.tmod 2147483647+2147483647)=v.tmod 2147483647+2147483647:=by rw[IntKind.wrap_i64];omega
 rw[h3,Int.tmod_eq_emod_of_nonneg (by omega),h1]
 split<;>omega) (by omega) (by omega) (by omega)
def wi (acc v:Int):Int:=(acc*1000003+v%2147483647+13)%2147483647
def jY (ns:List Int):Int:=ns.foldl wi 11
theorem Cp :∀(ns:List Int)(a:Int),0≤a→a<2147483647→0≤ns.foldl wi a∧ns.foldl wi a<2147483647
 |[],a,h0,h1=>⟨h0,h1⟩
 |n::ns,a,h0,h1=>by
  refine Cp ns (wi a n) ?_ ?_<;>(unfold wi;omega)
theorem zr (ns:List Int):0≤jY ns∧jY ns<2147483647:=Cp ns 11 (by omega) (by omega)
theorem Gj {ns:List Int}(hl:ns.length≤maxLen):ah Ph aN 348 [aQ (ns.map sj)]=some (aa .i64 (jY ns)):=by
 refine ae (fn:=sA) rfl ?_
 simp +contextual (maxSteps:=9999999) [sA]
 refine bD cC Cl.fin [.f,.f,.f,.t,.f,.f,.t,.t,.t,.f,.f,.f,.f,.f,.f,.f,.f,.f,.f,.f,.f] (fun k=>[(3,aa .i64 (jY (ns.take k))),(8,aa .i64 k)]) ns.length (fun _=>false) rfl (by simp[jY]) (fun k hk _=> ?_) (fun _ _=> ?_)
 ·have e1:=Gk ns[k]
  have hx:sj ns[k]=[.int .i64 ns[k]]:=rfl
  have ht:jY (ns.take (k+1))=wi (jY (ns.take k)) ns[k]:=Cg hk
  have hr:=zr (ns.take k)
  rw[ht]
  generalize jY (ns.take k)=A at hr⊢
  have hm:=Int.emod_nonneg ns[k] (show(2147483647:Int)≠0 by decide)
  have hm2:=Int.emod_lt_of_pos ns[k] (show(0:Int)<2147483647 by decide)
  unfold wi
  generalize ns[k]%2147483647=v at e1 hm hm2⊢
  have w1:IntKind.i64.wrap (A*1000003)=A*1000003:=by rw[IntKind.wrap_i64];omega
  have w2:IntKind.i64.wrap (A*1000003+v)=A*1000003+v:=by rw[IntKind.wrap_i64];omega
  have w3:IntKind.i64.wrap (A*1000003+v+13)=A*1000003+v+13:=by rw[IntKind.wrap_i64];omega
  have w4:(A*1000003+v+13).tmod 2147483647=(A*1000003+v+13)%2147483647:=Int.tmod_eq_emod_of_nonneg (by omega)
  simp(maxSteps:=9999999) [mW,hk,hx,e1,w1,w2,w3,w4,bW hl hk,cB hk]
 ·rw[List.take_length]
  simp(maxSteps:=9999999) [mW]
theorem GW {ns:List Int}(hl:ns.length≤maxLen):ah Ph aN 343 [aQ (ns.map sj)]=some (aa .i64 (jY ns)):=by
 refine ae (fn:=sD) rfl ?_
 simp +contextual (maxSteps:=9999999) [sD]
 refine bD cC Cl.fin [.t,.f,.f,.t,.t,.f,.f,.f,.f,.f,.f,.f,.f,.f,.f,.f,.f,.f,.f,.f,.f,.f] (fun k=>[(3,aa .i64 (jY (ns.take k))),(4,aa .i64 k)]) ns.length (fun _=>false) rfl (by simp[jY]) (fun k hk _=> ?_) (fun _ _=> ?_)
 ·have e1:=GX ns[k]
  have hx:sj ns[k]=[.int .i64 ns[k]]:=rfl
  have ht:jY (ns.take (k+1))=wi (jY (ns.take k)) ns[k]:=Cg hk
  have hr:=zr (ns.take k)
  rw[ht]
  generalize jY (ns.take k)=A at hr⊢
  have hm:=Int.emod_nonneg ns[k] (show(2147483647:Int)≠0 by decide)
  have hm2:=Int.emod_lt_of_pos ns[k] (show(0:Int)<2147483647 by decide)
  unfold wi
  generalize ns[k]%2147483647=v at e1 hm hm2⊢
  have w1:IntKind.i64.wrap (A*1000003)=A*1000003:=by rw[IntKind.wrap_i64];omega
  have w2:IntKind.i64.wrap (A*1000003+v)=A*1000003+v:=by rw[IntKind.wrap_i64];omega
  have w3:IntKind.i64.wrap (A*1000003+v+13)=A*1000003+v+13:=by rw[IntKind.wrap_i64];omega
  have w4:(A*1000003+v+13).tmod 2147483647=(A*1000003+v+13)%2147483647:=Int.tmod_eq_emod_of_nonneg (by omega)
  simp(maxSteps:=9999999) [mX,hk,hx,e1,w1,w2,w3,w4,bW hl hk,cB hk]
 ·rw[List.take_length]
  simp(maxSteps:=9999999) [mX]
end Gi
