/- FnExactFloDone holds for every input, of any length: it returns true, and its argument reads as it read before. -/
import Derived.Test.YtjebjgahkakepaaGreatRows
import Derived.Test.YtjebjgahkakepaaGreatPl1
import Derived.WalkKit
import Derived.ProofKit
import Derived.OpenShut
import Derived.ChangeOld
import Derived.Below
import Derived.SizedLaws
namespace Go.Proofs.YtjebjgahkakepaaGreat.fnExactFloDone
open Go.ChangeShapes Go.WideShapes Go.ChangeAt Go.RowKit
set_option linter.unusedVariables false
theorem own : ownKnob Tryz.prog.godebug = none := by kernel_rfl
theorem laidOut : laidOutB Tryz.prog = true := by kernel_rfl
theorem tyok : Go.Proofs.YtjebjgahkakepaaGreatA.AS.TyOk Tryz.prog Go.Proofs.YtjebjgahkakepaaGreatA.AS.yFlo 36 := Go.Proofs.YtjebjgahkakepaaGreatA.AS.tyB_ok 12 _ _ (by kernel_rfl)
theorem walk (xs : List Value) (w : World) (hr : ∀ (M : Nat → Prop) (X : Go.Proofs.YtjebjgahkakepaaGreatA.AS.Ctx), (∀ g, ¬ M g) → ∃ x : Go.Proofs.YtjebjgahkakepaaGreatA.AS.Den Go.Proofs.YtjebjgahkakepaaGreatA.AS.yFlo, Go.Proofs.YtjebjgahkakepaaGreatA.AS.bndT Go.Proofs.YtjebjgahkakepaaGreatA.AS.yFlo x ∧ Go.Proofs.YtjebjgahkakepaaGreatA.AS.Rd w M X Go.Proofs.YtjebjgahkakepaaGreatA.AS.yFlo x xs) :
    Calls Tryz.prog 4 #[.agg xs.toArray] w fun e w' => e = .returned (.bool true) ∧ Below w.heap.size w w' :=
  Go.Proofs.YtjebjgahkakepaaGreatA.AS.walk_ofT rfl Go.Proofs.YtjebjgahkakepaaGreatA.AS.n4 (fun x hb => Go.Proofs.YtjebjgahkakepaaGreatA.AS.FnExactFloDone_law x hb) w xs hr
set_option maxRecDepth 100000 in
theorem lifted (os : Os) (started : os.Started) (H : Type) (enc : TypeId × Value → H) :
    ReturnsInHanded {} Tryz.checked os 4 .any (Rows.fnExactFloDoneSpec.pre6 enc Tryz.prog Tryz.f4 Rows.fnExactFloDoneRow.domain false) (Rows.fnExactFloDoneSpec.post enc Tryz.prog Tryz.f4 false true false false) := by
  refine returnsInHanded_of_change_sized (C := Tryz.checked) own started (by kernel_rfl) Tryz.func4
    (ChangeSpec.witness6 (enc := enc) (C := Tryz.checked) false ⟨#[], #[.agg #[.int .i64 0, .int .i64 0, .int .i64 0, .int .i64 0, .int .i64 0, .int .i64 0, .int .i64 0, .bool false, .int .i64 0, .int .i64 0, .slice none 0 0, .slice none 0 0, .slice none 0 0, .slice none 0 0, .int .i64 0, .bool false, .slice none 0 0, .slice none 0 0, .slice none 0 0, .int .i64 0, .slice none 0 0, .slice none 0 0]], []⟩ 8 (by kernel_rfl) (by kernel_rfl) (by kernel_rfl) (by kernel_rfl)) ?_
  intro W base args ds gs before hval0 hW hcnd hsz0 _
  have hsz : (DataW.weightsEach Tryz.prog (Tryz.f4.params.toList ++ Rows.fnExactFloDoneSpec.plain.varTypes Tryz.prog) (ds ++ gs)).all (· ≤ reachBytes) = true := hsz0
  have hval : ∀ (j : Nat) t v, Tryz.f4.params[j]? = some t → args[j]? = some v → Value.okWide Tryz.prog W .any base t v := hval0
  have hW' := hW
  obtain ⟨p, q, hA0, hV, rfl, hfz, hnd⟩ := hW
  have hA : DataW.TrodAll enc Tryz.prog W 0 (fun _ => true) true Tryz.f4.params.toList args.toList ds p := hA0
  rw [Tryz.params4] at hA hval hsz
  obtain ⟨v0, vs0, d0, ds0, p0, q0, hargs, rfl, rfl, h0, r0⟩ := trodAll_cons hA
  obtain ⟨rfl, rfl, rfl⟩ := trodAll_nil r0
  obtain rfl : args = #[v0] := by cases args; simp_all
  obtain ⟨rfl, rfl⟩ := trodVars_none hV
  obtain ⟨cs, rfl⟩ := Go.Proofs.YtjebjgahkakepaaGreatA.AS.agg_of tyok (hval 0 36 v0 rfl rfl)
  have k0 := h0
  have lt0 : ∀ x ∈ p0, x.block < W.heap.size := by obtain ⟨m, hm⟩ := k0; exact DataW.trod_lt m _ _ _ hm
  have hw : ∀ k ∈ d0.weights Tryz.prog 36, k ≤ reachBytes := fun k hk => by
    have := List.all_eq_true.1 hsz k (by simp [DataW.weightsEach, hk])
    simpa using this
  clear hA0 hval0 hsz0
  refine (walk cs W fun M X hM => Go.Proofs.YtjebjgahkakepaaGreatA.AS.arg_of tyok h0 hw M X hM).mono fun e W' ⟨he, bel⟩ => ?_
  subst he
  exact ⟨_, rfl, _, _, _, [], _, [], hW', trodAll_mk1 (shut_bool Tryz.underlying4 _), (trodAll_cons_mk (Below.trod laidOut (by kernel_rfl) (of_decide_eq_true (by kernel_rfl)) k0 bel lt0) trodAll_mk0), rfl, bel.frame _, fun h => by cases h⟩
set_option maxHeartbeats 0 in
set_option maxRecDepth 100000 in
theorem closed : joinedFacts Tryz.pinned.checked.prog 4 Tryz.f4 Rows.fnExactFloDoneSpec Rows.fnExactFloDoneRow = true := by
  unfold joinedFacts
  simp only [Bool.and_eq_true]
  repeat' apply And.intro
  all_goals (as_aux_lemma => kernel_rfl)
theorem over : Rows.fnExactFloDoneRow.holds Tryz.pinned (OpenSpec.ofChange Rows.fnExactFloDoneSpec) :=
  OpenClaim.holds_of_wide 4 Tryz.f4 rfl rfl rfl rfl rfl rfl rfl ⟨rfl, rfl, rfl, rfl, rfl⟩ rfl rfl rfl rfl rfl (by kernel_rfl) Tryz.func4 closed
    (of_decide_eq_true (by kernel_rfl)) (by unfold Func.isWrapper; first | (rw [if_pos (by decide +kernel)]; kernel_rfl) | (rw [if_neg (by decide +kernel)]; exact ⟨rfl, rfl⟩))
    (fun os started H enc _ => lifted os started H enc)
theorem proved : Rows.FnExactFloDoneSaid := over
end Go.Proofs.YtjebjgahkakepaaGreat.fnExactFloDone
namespace Go.Proofs.YtjebjgahkakepaaGreat
/-- The law, under a short name, for the claim. -/
theorem fnExactFloDone_holds : Rows.FnExactFloDoneSaid := fnExactFloDone.proved
end Go.Proofs.YtjebjgahkakepaaGreat
