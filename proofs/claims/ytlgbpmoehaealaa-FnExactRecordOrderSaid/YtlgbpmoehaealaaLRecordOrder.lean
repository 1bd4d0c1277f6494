/-
  The law FnExactRecordOrder returns true for every input, and its argument reads afterwards as before. Conditions: none.
-/
import Derived.Test.YtlgbpmoehaealaaOrd
namespace Go.Proofs.Ytlgbpmoehaealaa
open Go.ChangeShapes Go.WideShapes Go.ChangeAt Go.RowKit Go.Deep Go.Joins
set_option linter.unusedVariables false

set_option maxHeartbeats 1600000 in
theorem w_RecordOrder (a b c d e a' b' c' d' e' : Int) (w : World) : Calls Try.prog 8 #[.agg #[.int .i64 a, .int .i64 b, .int .i64 c, .int .i64 d, .int .i64 e], .agg #[.int .i64 a', .int .i64 b', .int .i64 c', .int .i64 d', .int .i64 e']] w (Gives (.bool true) w) := by
  go_enter Try.func8, Try.ntmps8
  go_wp2_with (first | (go_at_call 24; refine (c_toRecord _ _ _ _ _ _).mono ?_; rintro _ _ ⟨rfl, p, rfl⟩) | (go_at_call 23; refine (c_sRecordOrder _ _ _ _ _ _ _ _ _ _ _).mono ?_; rintro _ _ ⟨rfl, p, rfl⟩) | (go_at_call 25; refine (c_iRecordOrder _ _ _ _ _ _ _ _ _ _ _).mono ?_; rintro _ _ ⟨rfl, p, rfl⟩) | (refine wp_region_later (by kernel_rfl) (by kernel_rfl) ?_; (repeat (quiet_step ((first | (go_at_call 24; first | exact calls_later (c_toRecord _ _ _ _ _ _) | exact calls_later2 (c_toRecord _ _ _ _ _ _)) | (go_at_call 23; first | exact calls_later (c_sRecordOrder _ _ _ _ _ _ _ _ _ _ _) | exact calls_later2 (c_sRecordOrder _ _ _ _ _ _ _ _ _ _ _)) | (go_at_call 25; first | exact calls_later (c_iRecordOrder _ _ _ _ _ _ _ _ _ _ _) | exact calls_later2 (c_iRecordOrder _ _ _ _ _ _ _ _ _ _ _)))))); refine wpQuiet_nil ?_; rintro _ ⟨p, rfl⟩))
  all_goals
    go_ret
    refine Gives.mk (by first | rfl | simp) ?_
    (repeat (first | exact Below.refl _ _ | assumption | refine Below.drew ?_ | refine below_drewN ?_ _ | refine below_then_later ?_ (by first | exact Nat.le_refl _ | (simp; done) | (simp; omega) | (simp [later_size]; done) | (simp [later_size]; omega)) _ | refine Below.setCell ?_ (by first | exact Nat.le_refl _ | (simp; done) | (simp; omega) | (simp [later_size]; done) | (simp [later_size]; omega)) _ | refine Below.alloc ?_ (by first | exact Nat.le_refl _ | (simp; done) | (simp; omega) | (simp [later_size]; done) | (simp [later_size]; omega)) _))


set_option maxRecDepth 100000 in
theorem liftedFnExactRecordOrder (os : Os) (started : os.Started) (H : Type) (enc : TypeId × Value → H) :
    ReturnsInHanded {} Try.checked os 8 .any (Rows.fnExactRecordOrderSpec.pre6 enc Try.prog Try.f8 Rows.fnExactRecordOrderRow.domain false) (Rows.fnExactRecordOrderSpec.post enc Try.prog Try.f8 false true false false) := by
  refine returnsInHanded_of_change (C := Try.checked) own started (by kernel_rfl) Try.func8
    (ChangeSpec.witness6 (enc := enc) (C := Try.checked) false ⟨#[], #[.agg #[.int .i64 0, .int .i64 0, .int .i64 0, .int .i64 0, .int .i64 0], .agg #[.int .i64 0, .int .i64 0, .int .i64 0, .int .i64 0, .int .i64 0]], []⟩ 8 (by as_aux_lemma => kernel_rfl) (by as_aux_lemma => kernel_rfl) (by as_aux_lemma => kernel_rfl) (by as_aux_lemma => kernel_rfl)) ?_
  intro W base args ds gs before hval0 hW0 _ _
  have hval : ∀ (j : Nat) t v, Try.f8.params[j]? = some t → args[j]? = some v → Value.okWide Try.prog W .any base t v := hval0
  have hW : DataW.Whole enc Try.prog Try.f8.params.toList Rows.fnExactRecordOrderSpec.vars false W args.toList ds gs before := hW0
  obtain ⟨p, q, hA0, hV, hpq, hfz, hnd⟩ := id hW
  have hA : DataW.TrodAll enc Try.prog W 0 (fun _ => true) true Try.f8.params.toList args.toList ds p := hA0
  rw [Try.params8] at hA hval
  obtain ⟨v0, vs0, d0, ds0, p0, q0, hargs, rfl, rfl, h0, r0⟩ := trodAll_cons hA
  obtain ⟨v1, vs1, d1, ds1, p1, q1, rfl, rfl, rfl, h1, r1⟩ := trodAll_cons r0
  obtain ⟨rfl, rfl, rfl⟩ := trodAll_nil r1
  obtain rfl : args = #[v0, v1] := by cases args; simp_all
  obtain ⟨rfl, rfl⟩ := trodVars_none hV
  obtain ⟨a0, b0, c0, k0, e0, rfl, wa0, wb0, wc0, wd0, we0⟩ := open_rec Try.underlying39 Try.underlying31 Try.underlying3 ⟨rfl, rfl, rfl, rfl, rfl, rfl⟩ ⟨rfl, rfl, rfl, rfl, rfl, rfl⟩ ⟨by kernel_rfl, by kernel_rfl, by kernel_rfl⟩ (hval 0 39 v0 rfl rfl) h0
  obtain ⟨a1, b1, c1, k1, e1, rfl, wa1, wb1, wc1, wd1, we1⟩ := open_rec Try.underlying39 Try.underlying31 Try.underlying3 ⟨rfl, rfl, rfl, rfl, rfl, rfl⟩ ⟨rfl, rfl, rfl, rfl, rfl, rfl⟩ ⟨by kernel_rfl, by kernel_rfl, by kernel_rfl⟩ (hval 1 39 v1 rfl rfl) h1
  refine (w_RecordOrder a0 b0 c0 k0 e0 a1 b1 c1 k1 e1 W).mono fun e W' hg => ?_
  obtain ⟨he, hb⟩ := hg.below
  exact ⟨_, he, law_post laidOut rfl (by kernel_rfl) Try.underlying4 (by kernel_rfl) hW rfl hb⟩

theorem closedFnExactRecordOrder : joinedFacts Try.checked.prog 8 Try.f8 Rows.fnExactRecordOrderSpec Rows.fnExactRecordOrderRow = true := by
  unfold joinedFacts
  repeat' (with_reducible refine and_mk ?_ ?_)
  all_goals (as_aux_lemma => kernel_rfl)
theorem namedFnExactRecordOrder : Try.checked.prog.funcNamed Rows.fnExactRecordOrderRow.func = some 8 := by as_aux_lemma => kernel_rfl
theorem instFnExactRecordOrder : Try.f8.isInstance Try.checked.prog Rows.fnExactRecordOrderRow.origin Rows.fnExactRecordOrderRow.targs := of_decide_eq_true (by as_aux_lemma => kernel_rfl)
theorem wrapFnExactRecordOrder : Try.f8.isWrapper Try.checked.prog Rows.fnExactRecordOrderRow.wrapper Rows.fnExactRecordOrderRow.mainSum := by unfold Func.isWrapper; first | (rw [if_pos (by decide +kernel)]; kernel_rfl) | (rw [if_neg (by decide +kernel)]; exact ⟨rfl, rfl⟩)
theorem holdsFnExactRecordOrder : Rows.FnExactRecordOrderSaid :=
  OpenClaim.holds_of_wide 8 Try.f8 rfl rfl rfl rfl rfl rfl rfl ⟨rfl, rfl, rfl, rfl, rfl⟩ rfl rfl rfl rfl rfl namedFnExactRecordOrder Try.func8 closedFnExactRecordOrder instFnExactRecordOrder wrapFnExactRecordOrder
    (fun os started H enc _ => liftedFnExactRecordOrder os started H enc)
end Go.Proofs.Ytlgbpmoehaealaa
