/- Of this proof. -/
import Derived.Test.YtlmhdkdolfpedaaGreatGtfz
import Derived.Test.YtlmhdkdolfpedaaGreatGfacts
import Derived.Test.YtlmhdkdolfpedaaGreatGrZ
import Derived.ProofKit
import Derived.OpenShut
import Derived.Carry
import Derived.Deep.DeepHandedRow
set_option linter.all false
namespace Go.Proofs.YtlmhdkdolfpedaaGreat.fnExactDrainBucket
open Go.ChangeShapes Go.WideShapes Go.ChangeAt Go.RowKit Gi
theorem own :ownKnob Tryz.prog.godebug=none:=by kernel_rfl
theorem NG :laidOutB Tryz.prog=true:=by kernel_rfl
set_option maxRecDepth 100000 in
theorem key :Gi.kf 3=some 616:=by kernel_rfl
set_option maxRecDepth 100000 in
theorem aar (H:Type)(enc:TypeId×Value->H)(W:World)(base:Nat)(args:Array Value)(ds gs:List (DataW H))(before:List MemPlace)
 (a1:∀(j:Nat)t v,Tryz.f3.params[j]? =some t->args[j]? =some v->Value.okWide Tryz.prog W .any base t v)
 (hW:DataW.Whole enc Tryz.prog Tryz.f3.params.toList Rows.fnExactDrainBucketSpec.vars false W args.toList ds gs before):
 Calls Tryz.prog 3 args W fun e W'=>∃v,e= .returned v/\ Rows.fnExactDrainBucketSpec.post enc Tryz.prog Tryz.f3 false true false false W args v W':=by
 have af:=hW;obtain⟨p,q,aa,hV,rfl,aw,ax⟩:=hW;have hA:DataW.TrodAll enc Tryz.prog W 0 (fun _=>true) true Tryz.f3.params.toList args.toList ds p:=aa;rw[Tryz.params3]at hA a1;obtain⟨v0,ay,d0,az,p0,q0,a6,rfl,rfl,h0,r0⟩:=trodAll_cons hA;obtain⟨v1,aA,d1,aB,p1,q1,a7,rfl,rfl,h1,r1⟩:=trodAll_cons r0;obtain⟨v2,aC,d2,aD,p2,q2,a8,rfl,rfl,h2,r2⟩:=trodAll_cons r1;obtain⟨rfl,rfl,rfl⟩:=trodAll_nil r2;obtain rfl:args= #[v0,v1,v2]:=by cases args;simp_all
 obtain⟨rfl,rfl⟩:=trodVars_none hV;have k0:=h0;have ag:∀x∈p0,x.block<W.heap.size:=by obtain⟨m,hm⟩:=k0;exact DataW.trod_lt m _ _ _ hm
 obtain⟨ab,rfl,_⟩:=okWide_struct Tryz.underlying35 (a1 0 35 v0 rfl rfl);obtain⟨aE,ah,ai⟩:=D2 (KI:=kfI) (g:=true) (n:=20) (ts:=i9) h0 (by kernel_rfl) (Or.inl ⟨rfl,ab,rfl⟩);have k1:=h1;have aj:∀x∈p1,x.block<W.heap.size:=by obtain⟨m,hm⟩:=k1;exact DataW.trod_lt m _ _ _ hm
 obtain⟨s1,rfl⟩:=okWide_string Tryz.underlying9 (a1 1 9 v1 rfl rfl);obtain⟨aF,ak,al⟩:=D2 (KI:=kfI) (g:=false) (n:=20) (ts:=[.str]) h1 (by kernel_rfl) (Or.inr ⟨rfl,rfl,fun _=>by simp⟩);obtain⟨y1,aG,rfl,ad,an⟩:=gY ak;obtain rfl:=ja an;obtain⟨c1,rfl⟩:=oh ad;have k2:=h2;have ao:∀x∈p2,x.block<W.heap.size:=by obtain⟨m,hm⟩:=k2;exact DataW.trod_lt m _ _ _ hm
 obtain⟨s2,rfl⟩:=okWide_string Tryz.underlying9 (a1 2 9 v2 rfl rfl);obtain⟨aH,aq,ar⟩:=D2 (KI:=kfI) (g:=false) (n:=20) (ts:=[.str]) h2 (by kernel_rfl) (Or.inr ⟨rfl,rfl,fun _=>by simp⟩);obtain⟨y2,aI,rfl,ae,au⟩:=gY aq;obtain rfl:=ja au;obtain⟨c2,rfl⟩:=oh ae;clear aa;have call:=V3 afo (f:=3) (k:=616) key (Hi ah ad ae) (W:=W) (args:= #[.agg ab, .string s1, .string s2]) trivial ⟨rfl,fun i x u hx hu=>by
  match i,hx,hu with
  |0,hx,hu=>simp at hx hu;subst hx;subst hu;exact ai
  |1,hx,hu=>simp at hx hu;subst hx;subst hu;exact al
  |2,hx,hu=>simp at hx hu;subst hx;subst hu;exact ar
  |i+3,hx,hu=>simp at hx⟩
 refine call.mono fun e W'⟨he,a5⟩=> ?_;subst he;exact⟨_,rfl,_,_,_,[],_,[],af,trodAll_mk1 (shut_bool Tryz.underlying4 _),trodAll_cons_mk (Below.trod NG (by kernel_rfl) (of_decide_eq_true (by kernel_rfl)) k0 a5 ag) (trodAll_cons_mk (Below.trod NG (by kernel_rfl) (of_decide_eq_true (by kernel_rfl)) k1 a5 aj) (trodAll_cons_mk (Below.trod NG (by kernel_rfl) (of_decide_eq_true (by kernel_rfl)) k2 a5 ao) (trodAll_mk0))),rfl,a5.frame _,fun h=>by cases h⟩
set_option maxRecDepth 100000 in
theorem lifted (os:Os)(started:os.Started)(H:Type)(enc:TypeId×Value->H):
 ReturnsInHanded {} Tryz.checked os 3 .any (Rows.fnExactDrainBucketSpec.pre6 enc Tryz.prog Tryz.f3 Rows.fnExactDrainBucketRow.domain false) (Rows.fnExactDrainBucketSpec.post enc Tryz.prog Tryz.f3 false true false false):=by
 refine returnsInHanded_of_change (C:=Tryz.checked) own started (by kernel_rfl) Tryz.func3
  (ChangeSpec.witness6 (enc:=enc) (C:=Tryz.checked) false ⟨#[], #[.agg #[.int .i64 0, .bool false, .int .i64 0, .slice none 0 0, .slice none 0 0, .int .i64 0, .slice none 0 0, .slice none 0 0, .slice none 0 0, .slice none 0 0], .string ⟨#[]⟩, .string ⟨#[]⟩],[]⟩ 12 (by kernel_rfl) (by kernel_rfl) (by kernel_rfl) (by kernel_rfl)) ?_
 intro W base args ds gs before a2 hW av _;exact aar H enc W base args ds gs before a2 hW
set_option maxHeartbeats 8000000 in
theorem closed :joinedFacts Tryz.prog 3 Tryz.f3 Rows.fnExactDrainBucketSpec Rows.fnExactDrainBucketRow=true:=by unfold joinedFacts;exact pG (pG (pG (pG (pG (pG (pG (pG (pG (pG (pG (pG (pG (pG (pG (pG (pG (pG (pG (pG (pG (pG (pG (pG (pG (pG (pG (pG (pG (pG (pG ((by as_aux_lemma=>kernel_rfl)) aet) aew) (by as_aux_lemma=>kernel_rfl)) (by as_aux_lemma=>kernel_rfl)) (by as_aux_lemma=>kernel_rfl)) (by as_aux_lemma=>kernel_rfl)) (by as_aux_lemma=>kernel_rfl)) (by as_aux_lemma=>kernel_rfl)) (by as_aux_lemma=>kernel_rfl)) (by as_aux_lemma=>kernel_rfl)) (by as_aux_lemma=>kernel_rfl)) (by as_aux_lemma=>kernel_rfl)) (by as_aux_lemma=>kernel_rfl)) (by as_aux_lemma=>kernel_rfl)) (by as_aux_lemma=>kernel_rfl)) (by as_aux_lemma=>kernel_rfl)) (by as_aux_lemma=>kernel_rfl)) (by as_aux_lemma=>kernel_rfl)) (by as_aux_lemma=>kernel_rfl)) (by as_aux_lemma=>kernel_rfl)) (by as_aux_lemma=>kernel_rfl)) aes) (by as_aux_lemma=>kernel_rfl)) adB) adA) aeu) aev) (by as_aux_lemma=>kernel_rfl)) (by as_aux_lemma=>kernel_rfl)) (by as_aux_lemma=>kernel_rfl)) (by as_aux_lemma=>kernel_rfl)
end Go.Proofs.YtlmhdkdolfpedaaGreat.fnExactDrainBucket
namespace Go.Proofs.YtlmhdkdolfpedaaGreat
theorem fnExactDrainBucket_holds :Rows.FnExactDrainBucketSaid:=
 OpenClaim.holds_of_wide 3 Tryz.f3 rfl rfl rfl rfl rfl rfl rfl ⟨rfl,rfl,rfl,rfl,rfl⟩ rfl rfl rfl rfl rfl (by as_aux_lemma=>kernel_rfl) Tryz.func3 fnExactDrainBucket.closed
  (of_decide_eq_true (by as_aux_lemma=>kernel_rfl)) (by unfold Func.isWrapper;first|(rw[if_pos (by decide+kernel)];kernel_rfl)|(rw[if_neg (by decide+kernel)];exact⟨rfl,rfl⟩))
  (fun os started H enc _=>fnExactDrainBucket.lifted os started H enc)
end Go.Proofs.YtlmhdkdolfpedaaGreat
