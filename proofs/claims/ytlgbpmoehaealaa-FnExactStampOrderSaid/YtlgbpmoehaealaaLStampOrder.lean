/-
  The law FnExactStampOrder returns true for every input, and its argument reads afterwards as before. Conditions: none.
-/
import Derived.Test.YtlgbpmoehaealaaOrd
namespace Go.Proofs.Ytlgbpmoehaealaa
open Go.ChangeShapes Go.WideShapes Go.ChangeAt Go.RowKit Go.Deep Go.Joins
set_option linter.unusedVariables false

set_option maxHeartbeats 800000 in
theorem w_StampOrder (a b c d : Int) (w : World) : Calls Try.prog 5 #[.agg #[.int .i64 a, .int .i64 b], .agg #[.int .i64 c, .int .i64 d]] w (Gives (.bool true) w) := by
  go_enter Try.func5, Try.ntmps5
  go_wp2_with (first | (go_at_call 17; refine (c_toStamp _ _ _).mono ?_; rintro _ _ ⟨rfl, p, rfl⟩) | (go_at_call 16; refine (c_sStampOrder _ _ _ _ _).mono ?_; rintro _ _ ⟨rfl, p, rfl⟩) | (go_at_call 18; refine (c_iStampOrder _ _ _ _ _).mono ?_; rintro _ _ ⟨rfl, p, rfl⟩) | (refine wp_region_later (by kernel_rfl) (by kernel_rfl) ?_; (repeat (quiet_step ((first | (go_at_call 17; first | exact calls_later (c_toStamp _ _ _) | exact calls_later2 (c_toStamp _ _ _)) | (go_at_call 16; first | exact calls_later (c_sStampOrder _ _ _ _ _) | exact calls_later2 (c_sStampOrder _ _ _ _ _)) | (go_at_call 18; first | exact calls_later (c_iStampOrder _ _ _ _ _) | exact calls_later2 (c_iStampOrder _ _ _ _ _)))))); refine wpQuiet_nil ?_; rintro _ ⟨p, rfl⟩))
  all_goals
    go_ret
    refine Gives.mk (by first | rfl | simp) ?_
    (repeat (first | exact Below.refl _ _ | assumption | refine Below.drew ?_ | refine below_drewN ?_ _ | refine below_then_later ?_ (by first | exact Nat.le_refl _ | (simp; done) | (simp; omega) | (simp [later_size]; done) | (simp [later_size]; omega)) _ | refine Below.setCell ?_ (by first | exact Nat.le_refl _ | (simp; done) | (simp; omega) | (simp [later_size]; done) | (simp [later_size]; omega)) _ | refine Below.alloc ?_ (by first | exact Nat.le_refl _ | (simp; done) | (simp; omega) | (simp [later_size]; done) | (simp [later_size]; omega)) _))


set_option maxRecDepth 100000 in
theorem liftedFnExactStampOrder (os : Os) (started : os.Started) (H : Type) (enc : TypeId × Value → H) :
    ReturnsInHanded {} Try.checked os 5 .any (Rows.fnExactStampOrderSpec.pre6 enc Try.prog Try.f5 Rows.fnExactStampOrderRow.domain false) (Rows.fnExactStampOrderSpec.post enc Try.prog Try.f5 false true false false) := by
  refine returnsInHanded_of_change (C := Try.checked) own started (by kernel_rfl) Try.func5
    (ChangeSpec.witness6 (enc := enc) (C := Try.checked) false ⟨#[], #[.agg #[.int .i64 0, .int .i64 0], .agg #[.int .i64 0, .int .i64 0]], []⟩ 8 (by as_aux_lemma => kernel_rfl) (by as_aux_lemma => kernel_rfl) (by as_aux_lemma => kernel_rfl) (by as_aux_lemma => kernel_rfl)) ?_
  intro W base args ds gs before hval0 hW0 _ _
  have hval : ∀ (j : Nat) t v, Try.f5.params[j]? = some t → args[j]? = some v → Value.okWide Try.prog W .any base t v := hval0
  have hW : DataW.Whole enc Try.prog Try.f5.params.toList Rows.fnExactStampOrderSpec.vars false W args.toList ds gs before := hW0
  obtain ⟨p, q, hA0, hV, hpq, hfz, hnd⟩ := id hW
  have hA : DataW.TrodAll enc Try.prog W 0 (fun _ => true) true Try.f5.params.toList args.toList ds p := hA0
  rw [Try.params5] at hA hval
  obtain ⟨v0, vs0, d0, ds0, p0, q0, hargs, rfl, rfl, h0, r0⟩ := trodAll_cons hA
  obtain ⟨v1, vs1, d1, ds1, p1, q1, rfl, rfl, rfl, h1, r1⟩ := trodAll_cons r0
  obtain ⟨rfl, rfl, rfl⟩ := trodAll_nil r1
  obtain rfl : args = #[v0, v1] := by cases args; simp_all
  obtain ⟨rfl, rfl⟩ := trodVars_none hV
  obtain ⟨a0, b0, rfl, wa0, wb0⟩ := open_two Try.underlying31 Try.underlying3 Try.underlying3 ⟨rfl, rfl, by kernel_rfl, by kernel_rfl, by kernel_rfl⟩ (hval 0 31 v0 rfl rfl) h0
  obtain ⟨a1, b1, rfl, wa1, wb1⟩ := open_two Try.underlying31 Try.underlying3 Try.underlying3 ⟨rfl, rfl, by kernel_rfl, by kernel_rfl, by kernel_rfl⟩ (hval 1 31 v1 rfl rfl) h1
  refine (w_StampOrder a0 b0 a1 b1 W).mono fun e W' hg => ?_
  obtain ⟨he, hb⟩ := hg.below
  exact ⟨_, he, law_post laidOut rfl (by kernel_rfl) Try.underlying4 (by kernel_rfl) hW rfl hb⟩

theorem closedFnExactStampOrder : joinedFacts Try.checked.prog 5 Try.f5 Rows.fnExactStampOrderSpec Rows.fnExactStampOrderRow = true := by
  unfold joinedFacts
  repeat' (with_reducible refine and_mk ?_ ?_)
  all_goals (as_aux_lemma => kernel_rfl)
theorem namedFnExactStampOrder : Try.checked.prog.funcNamed Rows.fnExactStampOrderRow.func = some 5 := by as_aux_lemma => kernel_rfl
theorem instFnExactStampOrder : Try.f5.isInstance Try.checked.prog Rows.fnExactStampOrderRow.origin Rows.fnExactStampOrderRow.targs := of_decide_eq_true (by as_aux_lemma => kernel_rfl)
theorem wrapFnExactStampOrder : Try.f5.isWrapper Try.checked.prog Rows.fnExactStampOrderRow.wrapper Rows.fnExactStampOrderRow.mainSum := by unfold Func.isWrapper; first | (rw [if_pos (by decide +kernel)]; kernel_rfl) | (rw [if_neg (by decide +kernel)]; exact ⟨rfl, rfl⟩)
theorem holdsFnExactStampOrder : Rows.FnExactStampOrderSaid :=
  OpenClaim.holds_of_wide 5 Try.f5 rfl rfl rfl rfl rfl rfl rfl ⟨rfl, rfl, rfl, rfl, rfl⟩ rfl rfl rfl rfl rfl namedFnExactStampOrder Try.func5 closedFnExactStampOrder instFnExactStampOrder wrapFnExactStampOrder
    (fun os started H enc _ => liftedFnExactStampOrder os started H enc)
end Go.Proofs.Ytlgbpmoehaealaa
