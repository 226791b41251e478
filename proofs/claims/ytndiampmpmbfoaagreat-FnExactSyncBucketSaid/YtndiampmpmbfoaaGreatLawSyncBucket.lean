/- A part. -/
import Derived.Test.YtndiampmpmbfoaaGreatGtfz
import Derived.Test.YtndiampmpmbfoaaGreatGfacts
import Derived.Test.YtndiampmpmbfoaaGreatGrQ
import Derived.ProofKit
import Derived.OpenShut
import Derived.Carry
import Derived.Deep.DeepHandedRow
set_option linter.all false
namespace Go.Proofs.YtndiampmpmbfoaaGreat.fnExactSyncBucket
open Go.ChangeShapes Go.WideShapes Go.ChangeAt Go.RowKit Gi
theorem own :ownKnob Tryz.prog.godebug=none:=by kernel_rfl
theorem EH :laidOutB Tryz.prog=true:=by kernel_rfl
set_option maxRecDepth 100000 in
theorem key :Gi.kf 3=some 615:=by kernel_rfl
set_option maxRecDepth 100000 in
theorem Tc (H:Type)(enc:TypeId×Value->H)(W:World)(base:Nat)(args:Array Value)(ds gs:List (DataW H))(before:List MemPlace)
 (a1:∀(j:Nat)t v,Tryz.f3.params[j]? =some t->args[j]? =some v->Value.okWide Tryz.prog W .any base t v)
 (hW:DataW.Whole enc Tryz.prog Tryz.f3.params.toList Rows.fnExactSyncBucketSpec.vars false W args.toList ds gs before):
 Calls Tryz.prog 3 args W fun e W'=>∃v,e= .returned v/\ Rows.fnExactSyncBucketSpec.post enc Tryz.prog Tryz.f3 false true false false W args v W':=by
 have ah:=hW
 obtain⟨p,q,ab,hV,rfl,aC,aD⟩:=hW
 have hA:DataW.TrodAll enc Tryz.prog W 0 (fun _=>true) true Tryz.f3.params.toList args.toList ds p:=ab
 rw[Tryz.params3]at hA a1
 obtain⟨v0,aE,d0,aF,p0,q0,a6,rfl,rfl,h0,r0⟩:=trodAll_cons hA
 obtain⟨v1,aG,d1,aH,p1,q1,a7,rfl,rfl,h1,r1⟩:=trodAll_cons r0
 obtain⟨v2,aI,d2,aJ,p2,q2,a8,rfl,rfl,h2,r2⟩:=trodAll_cons r1
 obtain⟨v3,aK,d3,aL,p3,q3,aa,rfl,rfl,h3,r3⟩:=trodAll_cons r2
 obtain⟨rfl,rfl,rfl⟩:=trodAll_nil r3
 obtain rfl:args= #[v0,v1,v2,v3]:=by cases args;simp_all
 obtain⟨rfl,rfl⟩:=trodVars_none hV
 have k0:=h0
 have ai:∀x∈p0,x.block<W.heap.size:=by obtain⟨m,hm⟩:=k0;exact DataW.trod_lt m _ _ _ hm
 obtain⟨ad,rfl,_⟩:=okWide_struct Tryz.underlying35 (a1 0 35 v0 rfl rfl)
 obtain⟨aM,aj,ak⟩:=wy (KI:=kfI) (g:=true) (n:=20) (ts:=fS) h0 (by kernel_rfl) (Or.inl ⟨rfl,ad,rfl⟩)
 have k1:=h1
 have al:∀x∈p1,x.block<W.heap.size:=by obtain⟨m,hm⟩:=k1;exact DataW.trod_lt m _ _ _ hm
 obtain⟨s1,rfl⟩:=okWide_string Tryz.underlying9 (a1 1 9 v1 rfl rfl)
 obtain⟨aN,an,ao⟩:=wy (KI:=kfI) (g:=false) (n:=20) (ts:=[.str]) h1 (by kernel_rfl) (Or.inr ⟨rfl,rfl,fun _=>by simp⟩)
 obtain⟨y1,aO,rfl,ae,aq⟩:=ee an
 obtain rfl:=fv aq
 obtain⟨c1,rfl⟩:=lu ae
 have k2:=h2
 have ar:∀x∈p2,x.block<W.heap.size:=by obtain⟨m,hm⟩:=k2;exact DataW.trod_lt m _ _ _ hm
 obtain⟨s2,rfl⟩:=okWide_string Tryz.underlying9 (a1 2 9 v2 rfl rfl)
 obtain⟨aP,au,av⟩:=wy (KI:=kfI) (g:=false) (n:=20) (ts:=[.str]) h2 (by kernel_rfl) (Or.inr ⟨rfl,rfl,fun _=>by simp⟩)
 obtain⟨y2,aQ,rfl,af,aw⟩:=ee au
 obtain rfl:=fv aw
 obtain⟨c2,rfl⟩:=lu af
 have k3:=h3
 have ax:∀x∈p3,x.block<W.heap.size:=by obtain⟨m,hm⟩:=k3;exact DataW.trod_lt m _ _ _ hm
 obtain⟨s3,rfl⟩:=okWide_int Tryz.underlying3 (a1 3 3 v3 rfl rfl)
 obtain⟨aR,ay,az⟩:=wy (KI:=kfI) (g:=false) (n:=20) (ts:=[.int .i64]) h3 (by kernel_rfl) (Or.inr ⟨rfl,rfl,fun _=>by simp⟩)
 obtain⟨y3,aS,rfl,ag,aA⟩:=ee ay
 obtain rfl:=fv aA
 obtain⟨c3,rfl⟩:=mp ag
 clear ab
 have call:=RL X3 (f:=3) (k:=615) key (GK aj ae af ag) (W:=W) (args:= #[.agg ad, .string s1, .string s2, .int .i64 s3]) trivial ⟨rfl,fun i x u hx hu=>by
  match i,hx,hu with
  |0,hx,hu=>simp at hx hu;subst hx;subst hu;exact ak
  |1,hx,hu=>simp at hx hu;subst hx;subst hu;exact ao
  |2,hx,hu=>simp at hx hu;subst hx;subst hu;exact av
  |3,hx,hu=>simp at hx hu;subst hx;subst hu;exact az
  |i+4,hx,hu=>simp at hx⟩
 refine call.mono fun e W'⟨he,a2⟩=> ?_
 subst he
 exact⟨_,rfl,_,_,_,[],_,[],ah,trodAll_mk1 (shut_bool Tryz.underlying4 _),trodAll_cons_mk (Below.trod EH (by kernel_rfl) (of_decide_eq_true (by kernel_rfl)) k0 a2 ai) (trodAll_cons_mk (Below.trod EH (by kernel_rfl) (of_decide_eq_true (by kernel_rfl)) k1 a2 al) (trodAll_cons_mk (Below.trod EH (by kernel_rfl) (of_decide_eq_true (by kernel_rfl)) k2 a2 ar) (trodAll_cons_mk (Below.trod EH (by kernel_rfl) (of_decide_eq_true (by kernel_rfl)) k3 a2 ax) (trodAll_mk0)))),rfl,a2.frame _,fun h=>by cases h⟩
set_option maxRecDepth 100000 in
theorem lifted (os:Os)(started:os.Started)(H:Type)(enc:TypeId×Value->H):
 ReturnsInHanded {} Tryz.checked os 3 .any (Rows.fnExactSyncBucketSpec.pre6 enc Tryz.prog Tryz.f3 Rows.fnExactSyncBucketRow.domain false) (Rows.fnExactSyncBucketSpec.post enc Tryz.prog Tryz.f3 false true false false):=by
 refine returnsInHanded_of_change (C:=Tryz.checked) own started (by kernel_rfl) Tryz.func3
  (ChangeSpec.witness6 (enc:=enc) (C:=Tryz.checked) false ⟨#[], #[.agg #[.int .i64 0, .bool false, .int .i64 0, .slice none 0 0, .slice none 0 0, .int .i64 0, .slice none 0 0, .slice none 0 0, .slice none 0 0, .slice none 0 0], .string ⟨#[]⟩, .string ⟨#[]⟩, .int .i64 0],[]⟩ 12 (by kernel_rfl) (by kernel_rfl) (by kernel_rfl) (by kernel_rfl)) ?_
 intro W base args ds gs before a5 hW aB _
 exact Tc H enc W base args ds gs before a5 hW
set_option maxHeartbeats 8000000 in
theorem closed :joinedFacts Tryz.prog 3 Tryz.f3 Rows.fnExactSyncBucketSpec Rows.fnExactSyncBucketRow=true:=by
 unfold joinedFacts
 exact mK (mK (mK (mK (mK (mK (mK (mK (mK (mK (mK (mK (mK (mK (mK (mK (mK (mK (mK (mK (mK (mK (mK (mK (mK (mK (mK (mK (mK (mK (mK ((by as_aux_lemma=>kernel_rfl)) Xb) Xe) (by as_aux_lemma=>kernel_rfl)) (by as_aux_lemma=>kernel_rfl)) (by as_aux_lemma=>kernel_rfl)) (by as_aux_lemma=>kernel_rfl)) (by as_aux_lemma=>kernel_rfl)) (by as_aux_lemma=>kernel_rfl)) (by as_aux_lemma=>kernel_rfl)) (by as_aux_lemma=>kernel_rfl)) (by as_aux_lemma=>kernel_rfl)) (by as_aux_lemma=>kernel_rfl)) (by as_aux_lemma=>kernel_rfl)) (by as_aux_lemma=>kernel_rfl)) (by as_aux_lemma=>kernel_rfl)) (by as_aux_lemma=>kernel_rfl)) (by as_aux_lemma=>kernel_rfl)) (by as_aux_lemma=>kernel_rfl)) (by as_aux_lemma=>kernel_rfl)) (by as_aux_lemma=>kernel_rfl)) (by as_aux_lemma=>kernel_rfl)) Xa) (by as_aux_lemma=>kernel_rfl)) Wd) Wc) Xc) Xd) (by as_aux_lemma=>kernel_rfl)) (by as_aux_lemma=>kernel_rfl)) (by as_aux_lemma=>kernel_rfl)) (by as_aux_lemma=>kernel_rfl)
end Go.Proofs.YtndiampmpmbfoaaGreat.fnExactSyncBucket
namespace Go.Proofs.YtndiampmpmbfoaaGreat
theorem fnExactSyncBucket_holds :Rows.FnExactSyncBucketSaid:=
 OpenClaim.holds_of_wide 3 Tryz.f3 rfl rfl rfl rfl rfl rfl rfl ⟨rfl,rfl,rfl,rfl,rfl⟩ rfl rfl rfl rfl rfl (by as_aux_lemma=>kernel_rfl) Tryz.func3 fnExactSyncBucket.closed
  (of_decide_eq_true (by as_aux_lemma=>kernel_rfl)) (by unfold Func.isWrapper;first|(rw[if_pos (by decide+kernel)];kernel_rfl)|(rw[if_neg (by decide+kernel)];exact⟨rfl,rfl⟩))
  (fun os started H enc _=>fnExactSyncBucket.lifted os started H enc)
end Go.Proofs.YtndiampmpmbfoaaGreat
