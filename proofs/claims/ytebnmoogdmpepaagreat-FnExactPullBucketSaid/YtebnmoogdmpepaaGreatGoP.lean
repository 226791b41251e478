/- Of this proof. -/
import Derived.Test.YtebnmoogdmpepaaGreatGoB
import Derived.Test.YtebnmoogdmpepaaGreatGki
set_option linter.unusedSimpArgs false
set_option linter.unusedVariables false
namespace Gi
open Go Go.RowKit
set_option maxHeartbeats 8000000
set_option maxRecDepth 4000
attribute [local simp] start oH bJ cI cS ed cR dZ eu ep pz pI pA pJ pB pK pC pL pD pM pE pO pF pP pG pQ pH pR V.cells plain bA fR isInt isStr isBool bin bY gj bZ gl ee un asList L.view aj V.view viewL aW am ce bD bS comp aQ bI cH bP bq bo bp aC aq aY al aB aI au bi bF aE br bt V.flat L.flat db da bB putAt thaw thawL thawT V.ow ej cV cW ca eh cd cU freezeVs freezeLs freezeL V.mut L.mut aH dE fK aZ bC aN dv bR bj bV L.ren aP dg bW dq bU bH wp_seq wp_block bg cZ cf bE cj wp_skip wp_exit wp_ret ct cr cz cu cC cD cB bO aF L.notArr aU aS aT cY bz storeD bc eP bu co ba k8 L.mov L.closed V.closed PV.bare PV.flat
def B6 (r:XRecord):V:=cond (eA r.fs) (cA (ar (uI r))) (.one (.own 1 []))
theorem F6 (r:XRecord):db (B6 r)=cA (ar (uI r)):=by
 unfold B6
 cases c:eA r.fs
 ·simp[uI,c,db,da,ar]
 ·rfl
theorem ve {r:XRecord}(h:r.Ok maxLen):ag Ph aM 226 [r.v]=some (B6 r):=by
 have e1:=kT h
 unfold B6
 refine ae (fn:=iL) rfl ?_
 cases c1:eA r.fs<;>rw[c1]at e1
 ·simp(maxSteps:=9999999) [iL,e1]
 obtain⟨hf,ho⟩:=tu (r:=r) c1
 have e2:=jV (b:=[]) (by simp) (n:=r.fs.length) (by omega)
 rw[Zi,show ar []=[]from rfl]at e2
 simp(maxSteps:=9999999) [iL,e1,e2]
 refine aG bm Cl.fin [.f,.f,.f,.t,.f,.f,.f,.f,.f,.f,.f,.f,.f,.f,.f,.t,.t,.t,.f,.f,.f,.f,.f,.f,.f,.f,.f,.f,.f,.f,.f] (fun k=>[(3,cA (ar (tM r.fs.length++jn (r.fs.take k)))),(17,aa .i64 k)]) r.fs.length (fun _=>false) rfl (by simp[jn]) (fun k hk _=> ?_) (fun _ _=> ?_)
 ·have hx:=XField.e.eq_1 r.fs[k]
  have hq:=ho _ (Zf hk)
  have l1:=ut r.fs.length
  have l2:=wc (r.fs.take k) (fun f hf=>ho f (Z3 hf))
  have l3:(r.fs.take k).length≤6:=by rw[Yd];omega
  have l4:=ut r.fs[k].name.length
  have e3:=wE (b:=tM r.fs.length++jn (r.fs.take k)) (s:=r.fs[k].name) (by rw[Zw];omega) (by have:=hq.1;omega)
  have e4:=jV (b:=tM r.fs.length++jn (r.fs.take k)++Kl r.fs[k].name) (by simp only[Zw,Kl];have:=hq.1;omega) (n:=r.fs[k].n.toNat) (by have:=hq.2.2;omega)
  rw[show((r.fs[k].n.toNat:Nat):Int)=r.fs[k].n by have:=hq.2.1;omega]at e4
  have ht:jn (r.fs.take (k+1))=jn (r.fs.take k)++(Kl r.fs[k].name++tM r.fs[k].n.toNat):=by
   unfold jn;rw[Yf hk,List.flatMap_append];simp[Tm]
  have ha:tM r.fs.length++jn (r.fs.take (k+1))=tM r.fs.length++jn (r.fs.take k)++Kl r.fs[k].name++tM r.fs[k].n.toNat:=by rw[ht];simp
  rw[ha]
  generalize tM r.fs.length++jn (r.fs.take k)=W at e3 e4⊢
  generalize W++Kl r.fs[k].name=W2 at e3 e4⊢
  generalize W2++tM r.fs[k].n.toNat=W3 at e4⊢
  simp(maxSteps:=9999999) [hJ,hk,hx,e3,e4,aR h.1 hk,bd hk]
 ·have he:uI r=tM r.fs.length++jn r.fs:=by simp[uI,c1]
  rw[he]
  simp(maxSteps:=9999999) [hJ]
theorem vG {r:XRecord}(h:r.Ok maxLen):ag Ph aM 222 [r.v]=some (B6 r):=by
 have e1:=jg h
 unfold B6
 refine ae (fn:=iM) rfl ?_
 cases c1:eA r.fs<;>rw[c1]at e1
 ·simp(maxSteps:=9999999) [iM,e1]
 obtain⟨hf,ho⟩:=tu (r:=r) c1
 have e2:=jZ (b:=[]) (by simp) (n:=r.fs.length) (by omega)
 rw[Zi,show ar []=[]from rfl]at e2
 simp(maxSteps:=9999999) [iM,e1,e2]
 refine aG bm Cl.fin [.f,.t,.f,.t,.t,.f,.f,.f,.f,.f,.f,.f,.f,.f,.f,.f,.f,.f,.f,.f,.f,.f,.f,.f,.f,.f,.f,.f,.f,.f,.f,.f,.f,.f,.f,.f,.f,.f] (fun k=>[(3,cA (ar (tM r.fs.length++jn (r.fs.take k)))),(4,aa .i64 k)]) r.fs.length (fun _=>false) rfl (by simp[jn]) (fun k hk _=> ?_) (fun _ _=> ?_)
 ·have hx:=XField.e.eq_1 r.fs[k]
  have hq:=ho _ (Zf hk)
  have l1:=ut r.fs.length
  have l2:=wc (r.fs.take k) (fun f hf=>ho f (Z3 hf))
  have l3:(r.fs.take k).length≤6:=by rw[Yd];omega
  have l4:=ut r.fs[k].name.length
  have e3:=wT (b:=tM r.fs.length++jn (r.fs.take k)) (s:=r.fs[k].name) (by rw[Zw];omega) (by have:=hq.1;omega)
  have e4:=jZ (b:=tM r.fs.length++jn (r.fs.take k)++Kl r.fs[k].name) (by simp only[Zw,Kl];have:=hq.1;omega) (n:=r.fs[k].n.toNat) (by have:=hq.2.2;omega)
  rw[show((r.fs[k].n.toNat:Nat):Int)=r.fs[k].n by have:=hq.2.1;omega]at e4
  have ht:jn (r.fs.take (k+1))=jn (r.fs.take k)++(Kl r.fs[k].name++tM r.fs[k].n.toNat):=by
   unfold jn;rw[Yf hk,List.flatMap_append];simp[Tm]
  have ha:tM r.fs.length++jn (r.fs.take (k+1))=tM r.fs.length++jn (r.fs.take k)++Kl r.fs[k].name++tM r.fs[k].n.toNat:=by rw[ht];simp
  rw[ha]
  generalize tM r.fs.length++jn (r.fs.take k)=W at e3 e4⊢
  generalize W++Kl r.fs[k].name=W2 at e3 e4⊢
  generalize W2++tM r.fs[k].n.toNat=W3 at e4⊢
  simp(maxSteps:=9999999) [hY,hk,hx,e3,e4,aR h.1 hk,bd hk]
 ·have he:uI r=tM r.fs.length++jn r.fs:=by simp[uI,c1]
  rw[he]
  simp(maxSteps:=9999999) [hY]
theorem Pr {n:Int}(h1: -9223372036854775808≤n)(h2:n≤9223372036854775807):IntKind.i64.wrap n=n:=by rw[IntKind.wrap_i64];omega
theorem wrap_u8 (n:Int):IntKind.u8.wrap n=n%256:=by simp[IntKind.wrap,IntKind.signed,IntKind.bits]
theorem Dv {x:Nat}{b:Int}{k:Nat}(hk:k≤63)(h:b=(k:Int)):mQ .shr .i64 (x:Int) b=some (aa .i64 ((x/2^k:Nat):Int)):=by
 subst h
 simp only[mQ]
 rw[if_neg (by omega),show min (Int.toNat (k:Int)) IntKind.i64.bits=k by rw[Int.toNat_natCast];exact Nat.min_eq_left (Nat.le_succ_of_le hk)]
 rw[Int.fdiv_eq_ediv_of_nonneg _ (Int.le_of_lt (Int.pow_pos (by decide)))]
 norm_cast
theorem zD {k:XKey}(h:k.Ok maxLen):ag Ph aM 225 [k.v]=some (.one (.own 1 (ar (mV k)))):=by
 have e1:=lD h
 refine ae (fn:=iW) rfl ?_
 cases c1:kD k<;>rw[c1]at e1
 ·rw[show mV k=[] by simp[mV,c1]]
  simp(maxSteps:=9999999) [iW,e1,show ar []=[]from rfl]
 obtain⟨h1,h2,h3,h4,h5,h6⟩:=wl c1
 have m1:1+k.text.length≤140737488355328∧1+k.text.length≤9223372036854775807∧7+k.text.length≤140737488355328∧7+k.text.length≤9223372036854775807∧k.text.length+7≤140737488355328∧k.text.length+7≤9223372036854775807:=by omega
 have hk:k.kind%256=k.kind:=by omega
 obtain⟨x,hx⟩:∃x:Nat,k.n+1000000000000=(x:Int):=⟨(k.n+1000000000000).toNat,by omega⟩
 have hw:IntKind.i64.wrap (k.n+1000000000000)=(x:Int):=by rw[hx,IntKind.wrap_i64];omega
 have s0:=Dv (x:=x) (b:=0) (k:=0) (by decide) rfl
 have s1:=Dv (x:=x) (b:=8) (k:=8) (by decide) rfl
 have s2:=Dv (x:=x) (b:=16) (k:=16) (by decide) rfl
 have s3:=Dv (x:=x) (b:=24) (k:=24) (by decide) rfl
 have s4:=Dv (x:=x) (b:=32) (k:=32) (by decide) rfl
 have s5:=Dv (x:=x) (b:=40) (k:=40) (by decide) rfl
 have lt:cT 5 0=false∧cT 4 0=false∧cT 3 0=false∧cT 2 0=false∧cT 1 0=false∧cT 0 0=false∧cT (-1) 0=true:=by decide
 have hkb:(UInt8.ofNat k.kind.toNat).toNat=k.kind.toNat:=by simp;omega
 have hkt:((k.kind.toNat:Nat):Int)=k.kind:=by omega
 have w1:=jM k.text
 by_cases hq:k.kind=2
 ·have he:ar (mV k)=[.int .u8 k.kind]::ar k.text:=by
   rw[show mV k=UInt8.ofNat k.kind.toNat::k.text by simp[mV,c1,hq]]
   simp only[ar,Zv,hkb,hkt]
  rw[he]
  have hb:(k.kind==2)=true:=by simp[hq]
  simp(maxSteps:=9999999) [iW,e1,hb,hk,wrap_u8,m1,w1,cy,tK,jq,lt]
 ·have he:ar (mV k)=[.int .u8 k.kind]::([.int .u8 ((x/2^40:Nat)%256:Int)]::[.int .u8 ((x/2^32:Nat)%256:Int)]::[.int .u8 ((x/2^24:Nat)%256:Int)]::[.int .u8 ((x/2^16:Nat)%256:Int)]::[.int .u8 ((x/2^8:Nat)%256:Int)]::[.int .u8 ((x/2^0:Nat)%256:Int)]::ar k.text):=by
   rw[show mV k=UInt8.ofNat k.kind.toNat::(US x++k.text) by simp[mV,c1,hq,hx]]
   simp[ar,US,hkb,hkt]
  rw[he]
  have hb:(k.kind==2)=false:=by simp[hq]
  simp(maxSteps:=9999999) [iW,e1,hb,hk,hw,wrap_u8,Pr,s0,s1,s2,s3,s4,s5,m1,w1,cy,lt,tK,jq]
theorem Us {n:Nat}:IntKind.i64.wrap ((BitVec.ofInt IntKind.i64.bits (n:Int)&&&BitVec.ofInt IntKind.i64.bits 255).toNat:Int)=(n:Int)%256:=by
 have e1:(BitVec.ofInt IntKind.i64.bits (n:Int)).toNat=n%2^64:=by
  show(BitVec.ofInt 64 (n:Int)).toNat=n%2^64
  simp[BitVec.toNat_ofInt]
 have e2:(BitVec.ofInt IntKind.i64.bits 255).toNat=255:=by decide
 rw[BitVec.toNat_and,e1,e2,show(255:Nat)=2^8-1 from rfl,Nat.and_two_pow_sub_one_eq_mod]
 rw[IntKind.wrap_i64];omega
theorem vV (y:Nat):IntKind.i64.wrap (((((y:Int)%2^IntKind.i64.bits).toNat&&&255%2^IntKind.i64.bits:Nat)):Int)%256=(y:Int)%256:=by
 have h:=Us (n:=y)
 rw[BitVec.toNat_and,BitVec.toNat_ofInt,BitVec.toNat_ofInt]at h
 have e:(255%((2^IntKind.i64.bits:Nat):Int)).toNat=255%2^IntKind.i64.bits:=by decide
 rw[e]at h
 have e3:((2^IntKind.i64.bits:Nat):Int)=(2:Int)^IntKind.i64.bits:=by decide
 rw[e3]at h
 rw[h];omega
theorem Ad {k:XKey}(h:k.Ok maxLen):ag Ph aM 221 [k.v]=some (.one (.own 1 (ar (mV k)))):=by
 have e1:=lF h
 refine ae (fn:=i9) rfl ?_
 cases c1:kD k<;>rw[c1]at e1
 ·rw[show mV k=[] by simp[mV,c1]]
  simp(maxSteps:=9999999) [i9,e1,show ar []=[]from rfl]
 obtain⟨h1,h2,h3,h4,h5,h6⟩:=wl c1
 have m1:1+k.text.length≤140737488355328∧1+k.text.length≤9223372036854775807∧7+k.text.length≤140737488355328∧7+k.text.length≤9223372036854775807∧k.text.length+7≤140737488355328∧k.text.length+7≤9223372036854775807:=by omega
 have hk:k.kind%256=k.kind:=by omega
 obtain⟨x,hx⟩:∃x:Nat,k.n+1000000000000=(x:Int):=⟨(k.n+1000000000000).toNat,by omega⟩
 have hw:IntKind.i64.wrap (k.n+1000000000000)=(x:Int):=by rw[hx,IntKind.wrap_i64];omega
 have s0:=Dv (x:=x) (b:=0) (k:=0) (by decide) rfl
 have s1:=Dv (x:=x) (b:=8) (k:=8) (by decide) rfl
 have s2:=Dv (x:=x) (b:=16) (k:=16) (by decide) rfl
 have s3:=Dv (x:=x) (b:=24) (k:=24) (by decide) rfl
 have s4:=Dv (x:=x) (b:=32) (k:=32) (by decide) rfl
 have s5:=Dv (x:=x) (b:=40) (k:=40) (by decide) rfl
 have lt:cT 5 0=false∧cT 4 0=false∧cT 3 0=false∧cT 2 0=false∧cT 1 0=false∧cT 0 0=false∧cT (-1) 0=true:=by decide
 have hkb:(UInt8.ofNat k.kind.toNat).toNat=k.kind.toNat:=by simp;omega
 have hkt:((k.kind.toNat:Nat):Int)=k.kind:=by omega
 have w1:=jM k.text
 by_cases hq:k.kind=2
 ·have he:ar (mV k)=[.int .u8 k.kind]::ar k.text:=by
   rw[show mV k=UInt8.ofNat k.kind.toNat::k.text by simp[mV,c1,hq]]
   simp only[ar,Zv,hkb,hkt]
  rw[he]
  have hb:(k.kind==2)=true:=by simp[hq]
  simp(maxSteps:=9999999) [i9,e1,hb,hk,wrap_u8,m1,w1,cy,tK,jt,lt]
 ·have he:ar (mV k)=[.int .u8 k.kind]::([.int .u8 ((x/2^40:Nat)%256:Int)]::[.int .u8 ((x/2^32:Nat)%256:Int)]::[.int .u8 ((x/2^24:Nat)%256:Int)]::[.int .u8 ((x/2^16:Nat)%256:Int)]::[.int .u8 ((x/2^8:Nat)%256:Int)]::[.int .u8 ((x/2^0:Nat)%256:Int)]::ar k.text):=by
   rw[show mV k=UInt8.ofNat k.kind.toNat::(US x++k.text) by simp[mV,c1,hq,hx]]
   simp[ar,US,hkb,hkt]
  rw[he]
  have hb:(k.kind==2)=false:=by simp[hq]
  simp(maxSteps:=9999999) [i9,e1,hb,hk,hw,wrap_u8,Pr,s0,s1,s2,s3,s4,s5,m1,w1,cy,lt,tK,jt]
  have k5:=vV (x/1099511627776)
  have k4:=vV (x/4294967296)
  have k3:=vV (x/16777216)
  have k2:=vV (x/65536)
  have k1:=vV (x/256)
  simp only[Int.natCast_ediv,Int.cast_ofNat_Int]at k5 k4 k3 k2 k1
  have k0:=vV x
  rw[show(x:Int)%2^IntKind.i64.bits=((x%2^IntKind.i64.bits:Nat):Int) by norm_cast,Int.toNat_natCast]at k0
  exact⟨k5,k4,k3,k2,k1,k0⟩
def be (l:List UInt8):Nat:=l.foldl (fun a b=>a*256+b.toNat) 0
def GJ (s:XStore):List L:=[.pv (.str s.name),oI (s.items.map XItem.e), .pv (.int .i64 s.auto)]
theorem L4 (x:XStore×Bool):db (yi x)= .tup [(true,GJ x.1),(false,[.pv (.bool x.2)])]:=by simp[db, ↓bi,da,GJ]
theorem DV (s:XStore):db (.agg [.pv (.str s.name),nd 4 (s.items.map XItem.e), .pv (.int .i64 s.auto)])= .agg (GJ s):=by simp[db, ↓bF,da,GJ]
def gL (s:XStore)(k:XKey):XRecord:=match s.items[(dR (Ce k) s.items).toNat]? with
 |some x=>if 0≤dR (Ce k) s.items then x.rcd else⟨[]⟩
 |none=>⟨[]⟩
theorem OA {α:Type}{p:α→Bool}{xs:List α}(h:0≤dR p xs):(dR p xs).toNat<xs.length:=by
 rcases zo p xs with e|⟨k,hk,e,_⟩
 ·rw[e]at h;omega
 ·rw[e];simpa using hk
theorem O8 {s:XStore}{k:XKey}(h:0≤dR (Ce k) s.items):∃x,s.items[(dR (Ce k) s.items).toNat]? =some x∧gL s k=x.rcd:=by
 refine⟨_,Zn (OA h),?_⟩
 unfold gL;rw[Zn (OA h)];simp only[if_pos h]
theorem O7 {s:XStore}{k:XKey}(h:¬0≤dR (Ce k) s.items):gL s k=⟨[]⟩:=by
 unfold gL;split<;>simp[h]
theorem FY {B:Nat}{s:XStore}(h:s.Ok B)(k:XKey):(gL s k).Ok B:=by
 unfold gL
 split
 ·rename_i x e
  split
  ·exact(h.2.1.2 x (Zl e)).2
  ·exact⟨Nat.zero_le _,fun f m=>by simp at m⟩
 ·exact⟨Nat.zero_le _,fun f m=>by simp at m⟩
theorem Sb {B:Nat}(hB:16≤B){fs:List XField}(h:eA fs=true):(⟨fs⟩:XRecord).Ok B:=by
 obtain⟨h1,h2⟩:=tu (r:=⟨fs⟩) h
 simp only at h1 h2
 refine⟨by simp only;omega,fun f m=> ?_⟩
 obtain⟨q1,q2,q3⟩:=h2 f m
 exact⟨by omega,by unfold ou;omega⟩
theorem JG {B:Nat}(hB:16≤B){r:XRecord}(h:r.Ok B)(nm:List UInt8)(n:Int):(⟨(setR r.fs nm n).1⟩:XRecord).Ok B:=by
 unfold setR
 cases c:eA r.fs&&eA (ul r.fs nm n)with
 |false=>exact h
 |true=>
  rw[Zh]at c
  exact Sb hB c.2
theorem TS {B:Nat}(hB:17≤B){s:XStore}(h:s.Ok B){k:XKey}(hk:k.Ok B){r:XRecord}(hr:r.Ok B):(wR s k r).1.Ok B:=by
 unfold wR
 cases eO s&&(kD k&&eA r.fs)with
 |false=>exact h
 |true=>
  simp only[cond_true]
  split
  ·exact⟨h.1,JH h hk hr _,h.2.2⟩
  ·split
   ·exact h
   ·rename_i hl
    have hin:=Jr h hk hr
    have hlen:(pU s k r).length=s.items.length+1:=by
     have:=zU s.items k
     simp[pU];omega
    refine⟨h.1,⟨by simp only;omega,fun x m=> ?_⟩,KB h.2.2 hk.2.1⟩
    simp only[pU,Yy,Z8]at m
    rcases m with m|rfl|m
    ·exact h.2.1.2 x (Z3 m)
    ·exact⟨hk,hr⟩
    ·exact h.2.1.2 x (Yw m)
def ym (s:XStore)(w:XWrite):XStore×Bool:=cond (setR (gL s w.key).fs w.field w.n).2 (wR s w.key ⟨(setR (gL s w.key).fs w.field w.n).1⟩) (s,false)
theorem TV {B:Nat}(hB:17≤B){s:XStore}(h:s.Ok B){w:XWrite}(hw:w.Ok B):(ym s w).1.Ok B:=by
 unfold ym
 cases(setR (gL s w.key).fs w.field w.n).2 with
 |false=>exact h
 |true=>exact TS hB h hw.2.2.1 (JG (by omega) (FY h _) _ _)
theorem SE {s:XStore}{w:XWrite}(h:(ym s w).2=false):(ym s w).1=s:=by
 unfold ym at h⊢
 cases c:(setR (gL s w.key).fs w.field w.n).2 with
 |false=>rfl
 |true=>
  rw[c]at h
  simp only[cond_true]at h⊢
  unfold wR at h⊢
  cases d:eO s&&(kD w.key&&eA (setR (gL s w.key).fs w.field w.n).1)with
  |false=>rw[cond_false]
  |true=>
   rw[d]at h
   simp only[cond_true]at h⊢
   split at h
   ·cases h
   ·split at h
    ·rename_i h1 h2;rw[if_neg h1,if_pos h2]
    ·cases h
theorem L5 (x:List XField×Bool):db (yj x)= .tup [(true,[.pv (.lst (x.1.map XField.e))]),(false,[.pv (.bool x.2)])]:=by simp[db,da]
theorem vg {B:Nat}(hB0:17≤B)(hB:B≤1048576){s:XStore}(h:s.Ok B){w:XWrite}(hw:w.Ok B):ag Ph aM 326 [s.v, .agg (w.e.map .pv)]=some (.tup [(true,GJ (ym s w).1),(false,[.pv (.bool (ym s w).2)])]):=by
 have hl:s.items.length≤1048576:=Zc h.2.1.1 hB
 have hrc:=FY h w.key
 have e1:=gu hB h
 have e2:=td (s:=s) (by unfold maxLen;omega) w.key
 have e3:ag Ph aM 341 [.agg [.pv (.lst ((gL s w.key).fs.map XField.e))],eB w.field,aa .i64 w.n]=some (yj (setR (gL s w.key).fs w.field w.n)):=Bv hB hrc hw.2.2.2.1 hw.2.2.2.2
 have e4:ag Ph aM 342 [s.v,w.key.v, .agg [.pv (.lst ((setR (gL s w.key).fs w.field w.n).1.map XField.e))]]=some (yi (wR s w.key ⟨(setR (gL s w.key).fs w.field w.n).1⟩)):=Dq hB h hw.2.2.1 (JG (by omega) hrc _ _)
 have e5:=L4 (wR s w.key ⟨(setR (gL s w.key).fs w.field w.n).1⟩)
 have e6:=DV s
 have e7:=L5 (setR (gL s w.key).fs w.field w.n)
 have b1:(!(cT (dR (Ce w.key) s.items) 0))=decide (0≤dR (Ce w.key) s.items):=by unfold cT;by_cases q:0≤dR (Ce w.key) s.items<;>simp[q];omega
 have ht:=O8 (s:=s) (k:=w.key)
 have hf:=O7 (s:=s) (k:=w.key)
 unfold ym
 generalize yi (wR s w.key ⟨(setR (gL s w.key).fs w.field w.n).1⟩)=pr at*
 generalize wR s w.key ⟨(setR (gL s w.key).fs w.field w.n).1⟩=p at*
 generalize yj (setR (gL s w.key).fs w.field w.n)=rr at*
 generalize setR (gL s w.key).fs w.field w.n=sr at*
 generalize hn:(V.agg [.pv (.str s.name),nd 4 (s.items.map XItem.e), .pv (.int .i64 s.auto)])=nv at*
 generalize gL s w.key=rc at*
 generalize dR (Ce w.key) s.items=i at*
 simp only[GJ]at e5 e6⊢
 clear hn
 obtain⟨fs1,b⟩:=sr
 simp only at e3 e4 e7
 by_cases q:0≤i
 ·obtain⟨x,hi,hx⟩:=ht q
  have hw0:=XItem.e.eq_1 x
  rw[←hx]at hw0
  have hm:(s.items.map XItem.e)[i.toNat]? =some x.e:=by rw[Zq,hi];rfl
  refine ae (fn:=gJ) rfl ?_
  cases b<;>simp(maxSteps:=9999999) [gJ,XWrite.e.eq_1,e1,e2,e3,e4,b1,q,hm,hw0, ↓e5, ↓e6, ↓e7, ↓aB, ↓aq, ↓aC, ↓al]
 ·have hx:=hf q
  rw[hx]at e3
  simp only[Z5]at e3
  refine ae (fn:=gJ) rfl ?_
  cases b<;>simp(maxSteps:=9999999) [gJ,XWrite.e.eq_1,e1,e2,e3,e4,b1,q, ↓e5, ↓e6, ↓e7, ↓aB, ↓aq, ↓aC, ↓al]
theorem vI {B:Nat}(hB0:17≤B)(hB:B≤1048576){s:XStore}(h:s.Ok B){w:XWrite}(hw:w.Ok B):ag Ph aM 323 [s.v, .agg (w.e.map .pv)]=some (.tup [(true,GJ (ym s w).1),(false,[.pv (.bool (ym s w).2)])]):=by
 have hl:s.items.length≤1048576:=Zc h.2.1.1 hB
 have hrc:=FY h w.key
 have e1:=jh hB h
 have e2:=tx (s:=s) (by unfold maxLen;omega) w.key
 have e3:ag Ph aM 338 [.agg [.pv (.lst ((gL s w.key).fs.map XField.e))],eB w.field,aa .i64 w.n]=some (yj (setR (gL s w.key).fs w.field w.n)):=BQ hB hrc hw.2.2.2.1 hw.2.2.2.2
 have e4:ag Ph aM 339 [s.v,w.key.v, .agg [.pv (.lst ((setR (gL s w.key).fs w.field w.n).1.map XField.e))]]=some (yi (wR s w.key ⟨(setR (gL s w.key).fs w.field w.n).1⟩)):=Dy hB h hw.2.2.1 (JG (by omega) hrc _ _)
 have e5:=L4 (wR s w.key ⟨(setR (gL s w.key).fs w.field w.n).1⟩)
 have e6:=DV s
 have e7:=L5 (setR (gL s w.key).fs w.field w.n)
 have b1:(!(cT (dR (Ce w.key) s.items) 0))=decide (0≤dR (Ce w.key) s.items):=by unfold cT;by_cases q:0≤dR (Ce w.key) s.items<;>simp[q];omega
 have ht:=O8 (s:=s) (k:=w.key)
 have hf:=O7 (s:=s) (k:=w.key)
 unfold ym
 generalize yi (wR s w.key ⟨(setR (gL s w.key).fs w.field w.n).1⟩)=pr at*
 generalize wR s w.key ⟨(setR (gL s w.key).fs w.field w.n).1⟩=p at*
 generalize yj (setR (gL s w.key).fs w.field w.n)=rr at*
 generalize setR (gL s w.key).fs w.field w.n=sr at*
 generalize hn:(V.agg [.pv (.str s.name),nd 4 (s.items.map XItem.e), .pv (.int .i64 s.auto)])=nv at*
 generalize gL s w.key=rc at*
 generalize dR (Ce w.key) s.items=i at*
 simp only[GJ]at e5 e6⊢
 clear hn
 obtain⟨fs1,b⟩:=sr
 simp only at e3 e4 e7
 by_cases q:0≤i
 ·obtain⟨x,hi,hx⟩:=ht q
  have hw0:=XItem.e.eq_1 x
  rw[←hx]at hw0
  have hm:(s.items.map XItem.e)[i.toNat]? =some x.e:=by rw[Zq,hi];rfl
  refine ae (fn:=gK) rfl ?_
  cases b<;>simp(maxSteps:=9999999) [gK,XWrite.e.eq_1,e1,e2,e3,e4,b1,q,hm,hw0, ↓e5, ↓e6, ↓e7, ↓aB, ↓aq, ↓aC, ↓al]
 ·have hx:=hf q
  rw[hx]at e3
  simp only[Z5]at e3
  refine ae (fn:=gK) rfl ?_
  cases b<;>simp(maxSteps:=9999999) [gK,XWrite.e.eq_1,e1,e2,e3,e4,b1,q, ↓e5, ↓e6, ↓e7, ↓aB, ↓aq, ↓aC, ↓al]
def Kr (s:XStore)(ws:List XWrite):XStore:=ws.foldl (fun s w=>(ym s w).1) s
theorem Kt {s:XStore}{ws:List XWrite}{k:Nat}(h:k<ws.length):Kr s (ws.take (k+1))=(ym (Kr s (ws.take k)) ws[k]).1:=by
 unfold Kr;rw[Yf h,List.foldl_append];rfl
theorem MR {B:Nat}(hB:17≤B){s:XStore}(h:s.Ok B):∀{ws:List XWrite},(∀w∈ws,w.Ok B)→(Kr s ws).Ok B:=by
 intro ws
 induction ws generalizing s with
 |nil=>exact fun _=>h
 |cons w ws ih=>exact fun hw=>ih (TV hB h (hw w (by simp))) fun x m=>hw x (by simp[m])
theorem Ds {B:Nat}(hB0:17≤B)(hB:B≤1048576){s:XStore}(h:s.Ok B){ws:List XWrite}(hw:∀w∈ws,w.Ok B)(hl:ws.length≤maxLen):ag Ph aM 313 [s.v,cA (ws.map XWrite.e)]=some (.agg (GJ (Kr s ws))):=by
 have e1:=gu hB h
 have e2:=DV s
 generalize hn:(V.agg [.pv (.str s.name),nd 4 (s.items.map XItem.e), .pv (.int .i64 s.auto)])=nv at*
 simp only[GJ]at e2⊢
 refine ae (fn:=qp) rfl ?_
 simp(maxSteps:=9999999) [qp,e1, ↓e2, ↓aq, ↓aB]
 refine dD bm Cl.fin ws.length [.f,.f,.f,.f,.t,.t,.f,.f,.f,.f,.t,.t,.t,.f,.f,.f,.f,.f,.f,.f,.f,.f,.f,.f] (fun k=>[(12,aa .i64 k)]) (fun k=>[.box [.pv (.str s.name), .pv (.lst (s.items.map XItem.e)), .pv (.int .i64 s.auto)], .box [.pv (.str []), .nil, .pv (.int .i64 0)], .box (GJ (Kr s (ws.take k)))]) rfl (Kn.of [0,1,2] (by decide) (by simp[Kr,GJ, ↓aI]) (by simp)) (fun k hk=> ?_) ?_
 ·have hx:=XWrite.e.eq_1 ws[k]
  have hk0:=MR hB0 h (ws:=ws.take k) fun w m=>hw w (Z3 m)
  have e3:=vg hB0 hB hk0 (hw _ (Zf hk))
  rw[XWrite.e.eq_1]at e3
  have e4:=SE (s:=Kr s (ws.take k)) (w:=ws[k])
  rw[Kt hk]
  generalize Kr s (ws.take k)=a at*
  generalize hsx:ym a ws[k]=sx at*
  obtain⟨a',b⟩:=sx
  simp only[GJ,Zv,Z5]at e3 e4⊢
  cases b
  ·obtain rfl:=e4 rfl
   simp(maxSteps:=9999999) [iR,hk,hx,e3,aR hl hk,bd hk, ↓aE, ↓aq, ↓aC, ↓al, ↓aY,-dE]
   exact Kn.of [0,1,2] (by decide) (by simp[↓aI]) (by simp)
  ·simp(maxSteps:=9999999) [iR,hk,hx,e3,aR hl hk,bd hk, ↓aE, ↓aq, ↓aC, ↓al, ↓aY,-dE]
   exact Kn.of [0,1,2] (by decide) (by simp[↓aI]) (by simp)
 ·rw[Yq]
  simp only[GJ]
  simp(maxSteps:=9999999) [iR, ↓aq, ↓aB]
theorem BU {B:Nat}(hB0:17≤B)(hB:B≤1048576){s:XStore}(h:s.Ok B){ws:List XWrite}(hw:∀w∈ws,w.Ok B)(hl:ws.length≤maxLen):ag Ph aM 311 [s.v,cA (ws.map XWrite.e)]=some (.agg (GJ (Kr s ws))):=by
 have e1:=jh hB h
 have e2:=DV s
 generalize hn:(V.agg [.pv (.str s.name),nd 4 (s.items.map XItem.e), .pv (.int .i64 s.auto)])=nv at*
 simp only[GJ]at e2⊢
 refine ae (fn:=pn) rfl ?_
 simp(maxSteps:=9999999) [pn,e1, ↓e2, ↓aq, ↓aB]
 refine dD bm Cl.fin ws.length [.f,.t,.f,.f,.t,.t,.t,.f,.f,.f,.f,.f,.f,.f,.f,.f,.f,.f,.f,.f,.f,.f,.f,.f,.f,.f,.f,.f,.f] (fun k=>[(6,aa .i64 k)]) (fun k=>[.box [.pv (.str s.name), .pv (.lst (s.items.map XItem.e)), .pv (.int .i64 s.auto)], .box [.pv (.str []), .nil, .pv (.int .i64 0)], .box (GJ (Kr s (ws.take k)))]) rfl (Kn.of [0,1,2] (by decide) (by simp[Kr,GJ, ↓aI]) (by simp)) (fun k hk=> ?_) ?_
 ·have hx:=XWrite.e.eq_1 ws[k]
  have hk0:=MR hB0 h (ws:=ws.take k) fun w m=>hw w (Z3 m)
  have e3:=vI hB0 hB hk0 (hw _ (Zf hk))
  rw[XWrite.e.eq_1]at e3
  have e4:=SE (s:=Kr s (ws.take k)) (w:=ws[k])
  rw[Kt hk]
  generalize Kr s (ws.take k)=a at*
  generalize hsx:ym a ws[k]=sx at*
  obtain⟨a',b⟩:=sx
  simp only[GJ,Zv,Z5]at e3 e4⊢
  cases b
  ·obtain rfl:=e4 rfl
   simp(maxSteps:=9999999) [iv,hk,hx,e3,aR hl hk,bd hk, ↓aE, ↓aq, ↓aC, ↓al, ↓aY,-dE]
   exact Kn.of [0,1,2] (by decide) (by simp[↓aI]) (by simp)
  ·simp(maxSteps:=9999999) [iv,hk,hx,e3,aR hl hk,bd hk, ↓aE, ↓aq, ↓aC, ↓al, ↓aY,-dE]
   exact Kn.of [0,1,2] (by decide) (by simp[↓aI]) (by simp)
 ·rw[Yq]
  simp only[GJ]
  simp(maxSteps:=9999999) [iv, ↓aq, ↓aB]
end Gi
