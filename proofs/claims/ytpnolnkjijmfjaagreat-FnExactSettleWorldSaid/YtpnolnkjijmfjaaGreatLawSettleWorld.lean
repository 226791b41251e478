/- Of this proof. -/
import Derived.Test.YtpnolnkjijmfjaaGreatGtfz
import Derived.Test.YtpnolnkjijmfjaaGreatGfacts
import Derived.Test.YtpnolnkjijmfjaaGreatGuE
import Derived.ProofKit
import Derived.OpenShut
import Derived.Carry
import Derived.Deep.DeepHandedRow
set_option linter.all false
namespace Go.Proofs.YtpnolnkjijmfjaaGreat.fnExactSettleWorld
open Go.ChangeShapes Go.WideShapes Go.ChangeAt Go.RowKit Gi
theorem own :ownKnob Tryz.prog.godebug=none:=by kernel_rfl
theorem acQ :laidOutB Tryz.prog=true:=by kernel_rfl
set_option maxRecDepth 100000 in
theorem key :Gi.kf 3=some 617:=by kernel_rfl
set_option maxRecDepth 100000 in
theorem aaV (H:Type)(enc:TypeId×Value->H)(W:World)(base:Nat)(args:Array Value)(ds gs:List (DataW H))(before:List MemPlace)
 (a1:∀(j:Nat)t v,Tryz.f3.params[j]? =some t->args[j]? =some v->Value.okWide Tryz.prog W .any base t v)
 (hW:DataW.Whole enc Tryz.prog Tryz.f3.params.toList Rows.fnExactSettleWorldSpec.vars false W args.toList ds gs before):
 Calls Tryz.prog 3 args W fun e W'=>∃v,e= .returned v/\ Rows.fnExactSettleWorldSpec.post enc Tryz.prog Tryz.f3 false true false false W args v W':=by
 have aa:=hW;obtain⟨p,q,a6,hV,rfl,ag,ah⟩:=hW;have hA:DataW.TrodAll enc Tryz.prog W 0 (fun _=>true) true Tryz.f3.params.toList args.toList ds p:=a6;rw[Tryz.params3]at hA a1;obtain⟨v0,ai,d0,aj,p0,q0,a5,rfl,rfl,h0,r0⟩:=trodAll_cons hA;obtain⟨rfl,rfl,rfl⟩:=trodAll_nil r0;obtain rfl:args= #[v0]:=by cases args;simp_all
 obtain⟨rfl,rfl⟩:=trodVars_none hV;have k0:=h0;have ab:∀x∈p0,x.block<W.heap.size:=by obtain⟨m,hm⟩:=k0;exact DataW.trod_lt m _ _ _ hm
 obtain⟨a7,rfl,_⟩:=okWide_struct Tryz.underlying35 (a1 0 35 v0 rfl rfl);obtain⟨ak,ad,ae⟩:=VE (KI:=kfI) (g:=true) (n:=20) (ts:=jh) h0 (by kernel_rfl) (Or.inl ⟨rfl,a7,rfl⟩);clear a6;have call:=Wx af0 (f:=3) (k:=617) key (HG ad) (W:=W) (args:= #[.agg a7]) trivial ⟨rfl,fun i x u hx hu=>by
  match i,hx,hu with
  |0,hx,hu=>simp at hx hu;subst hx;subst hu;exact ae
  |i+1,hx,hu=>simp at hx⟩
 refine call.mono fun e W'⟨he,a8⟩=> ?_;subst he;exact⟨_,rfl,_,_,_,[],_,[],aa,trodAll_mk1 (shut_bool Tryz.underlying4 _),trodAll_cons_mk (Below.trod acQ (by kernel_rfl) (of_decide_eq_true (by kernel_rfl)) k0 a8 ab) (trodAll_mk0),rfl,a8.frame _,fun h=>by cases h⟩
set_option maxRecDepth 100000 in
theorem lifted (os:Os)(started:os.Started)(H:Type)(enc:TypeId×Value->H):
 ReturnsInHanded {} Tryz.checked os 3 .any (Rows.fnExactSettleWorldSpec.pre6 enc Tryz.prog Tryz.f3 Rows.fnExactSettleWorldRow.domain false) (Rows.fnExactSettleWorldSpec.post enc Tryz.prog Tryz.f3 false true false false):=by
 refine returnsInHanded_of_change (C:=Tryz.checked) own started (by kernel_rfl) Tryz.func3
  (ChangeSpec.witness6 (enc:=enc) (C:=Tryz.checked) false ⟨#[], #[.agg #[.int .i64 0, .bool false, .int .i64 0, .slice none 0 0, .slice none 0 0, .int .i64 0, .slice none 0 0, .slice none 0 0, .slice none 0 0, .slice none 0 0]],[]⟩ 12 (by kernel_rfl) (by kernel_rfl) (by kernel_rfl) (by kernel_rfl)) ?_
 intro W base args ds gs before a2 hW af _;exact aaV H enc W base args ds gs before a2 hW
set_option maxHeartbeats 8000000 in
theorem closed :joinedFacts Tryz.prog 3 Tryz.f3 Rows.fnExactSettleWorldSpec Rows.fnExactSettleWorldRow=true:=by unfold joinedFacts;exact pQ (pQ (pQ (pQ (pQ (pQ (pQ (pQ (pQ (pQ (pQ (pQ (pQ (pQ (pQ (pQ (pQ (pQ (pQ (pQ (pQ (pQ (pQ (pQ (pQ (pQ (pQ (pQ (pQ (pQ (pQ ((by as_aux_lemma=>kernel_rfl)) ae4) ae7) (by as_aux_lemma=>kernel_rfl)) (by as_aux_lemma=>kernel_rfl)) (by as_aux_lemma=>kernel_rfl)) (by as_aux_lemma=>kernel_rfl)) (by as_aux_lemma=>kernel_rfl)) (by as_aux_lemma=>kernel_rfl)) (by as_aux_lemma=>kernel_rfl)) (by as_aux_lemma=>kernel_rfl)) (by as_aux_lemma=>kernel_rfl)) (by as_aux_lemma=>kernel_rfl)) (by as_aux_lemma=>kernel_rfl)) (by as_aux_lemma=>kernel_rfl)) (by as_aux_lemma=>kernel_rfl)) (by as_aux_lemma=>kernel_rfl)) (by as_aux_lemma=>kernel_rfl)) (by as_aux_lemma=>kernel_rfl)) (by as_aux_lemma=>kernel_rfl)) (by as_aux_lemma=>kernel_rfl)) (by as_aux_lemma=>kernel_rfl)) ae3) (by as_aux_lemma=>kernel_rfl)) aee) aed) ae5) ae6) (by as_aux_lemma=>kernel_rfl)) (by as_aux_lemma=>kernel_rfl)) (by as_aux_lemma=>kernel_rfl)) (by as_aux_lemma=>kernel_rfl)
end Go.Proofs.YtpnolnkjijmfjaaGreat.fnExactSettleWorld
namespace Go.Proofs.YtpnolnkjijmfjaaGreat
theorem fnExactSettleWorld_holds :Rows.FnExactSettleWorldSaid:=
 OpenClaim.holds_of_wide 3 Tryz.f3 rfl rfl rfl rfl rfl rfl rfl ⟨rfl,rfl,rfl,rfl,rfl⟩ rfl rfl rfl rfl rfl (by as_aux_lemma=>kernel_rfl) Tryz.func3 fnExactSettleWorld.closed
  (of_decide_eq_true (by as_aux_lemma=>kernel_rfl)) (by unfold Func.isWrapper;first|(rw[if_pos (by decide+kernel)];kernel_rfl)|(rw[if_neg (by decide+kernel)];exact⟨rfl,rfl⟩))
  (fun os started H enc _=>fnExactSettleWorld.lifted os started H enc)
end Go.Proofs.YtpnolnkjijmfjaaGreat
