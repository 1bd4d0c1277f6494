/-
  The law FnExactNextTurn returns true for every input, and its argument reads afterwards as before. Conditions: none.
-/
import Derived.Test.YtadiicaggdkboaaNext
import Derived.Test.YtadiicaggdkboaaOpen
namespace Go.Proofs.Ytadiicaggdkboaa
open Go.ChangeShapes Go.WideShapes Go.ChangeAt Go.RowKit Go.Deep Go.Joins
set_option linter.unusedVariables false

set_option maxHeartbeats 800000 in
theorem w_NextTurn (a b : Int) (w : World) : Calls Try.prog 14 #[.agg #[.int .i64 a, .int .i64 b]] w (Gives (.bool true) w) := by
  go_enter Try.func14, Try.ntmps14
  go_wp2_with (first | (go_at_call 18; refine (c_toStamp _ _ _).mono ?_; rintro _ _ ⟨rfl, p, rfl⟩) | (go_at_call 38; refine (c_sNextTurn _ _ _).mono ?_; rintro _ _ ⟨rfl, p, rfl⟩) | (go_at_call 39; refine (c_iNextTurn _ _ _).mono ?_; rintro _ _ ⟨rfl, p, rfl⟩) | (go_at_call 32; refine (c_eqStamp _ _ _ _ _).mono ?_; rintro _ _ ⟨rfl, p, rfl⟩) | (refine wp_region_later (by kernel_rfl) (by kernel_rfl) ?_; (repeat (quiet_step ((first | (go_at_call 18; first | exact calls_later (c_toStamp _ _ _) | exact calls_later2 (c_toStamp _ _ _)) | (go_at_call 38; first | exact calls_later (c_sNextTurn _ _ _) | exact calls_later2 (c_sNextTurn _ _ _)) | (go_at_call 39; first | exact calls_later (c_iNextTurn _ _ _) | exact calls_later2 (c_iNextTurn _ _ _)) | (go_at_call 32; first | exact calls_later (c_eqStamp _ _ _ _ _) | exact calls_later2 (c_eqStamp _ _ _ _ _)))))); refine wpQuiet_nil ?_; rintro _ ⟨p, rfl⟩))
  all_goals
    go_ret
    refine Gives.mk (by first | rfl | simp) ?_
    (repeat (first | exact Below.refl _ _ | assumption | refine Below.drew ?_ | refine below_drewN ?_ _ | refine below_then_later ?_ (by first | exact Nat.le_refl _ | (simp; done) | (simp; omega) | (simp [later_size]; done) | (simp [later_size]; omega)) _ | refine Below.setCell ?_ (by first | exact Nat.le_refl _ | (simp; done) | (simp; omega) | (simp [later_size]; done) | (simp [later_size]; omega)) _ | refine Below.alloc ?_ (by first | exact Nat.le_refl _ | (simp; done) | (simp; omega) | (simp [later_size]; done) | (simp [later_size]; omega)) _))


set_option maxRecDepth 100000 in
theorem liftedFnExactNextTurn (os : Os) (started : os.Started) (H : Type) (enc : TypeId × Value → H) :
    ReturnsInHanded {} Try.checked os 14 .any (Rows.fnExactNextTurnSpec.pre6 enc Try.prog Try.f14 Rows.fnExactNextTurnRow.domain false) (Rows.fnExactNextTurnSpec.post enc Try.prog Try.f14 false true false false) := by
  refine returnsInHanded_of_change (C := Try.checked) own started (by kernel_rfl) Try.func14
    (ChangeSpec.witness6 (enc := enc) (C := Try.checked) false ⟨#[], #[.agg #[.int .i64 0, .int .i64 0]], []⟩ 8 (by as_aux_lemma => kernel_rfl) (by as_aux_lemma => kernel_rfl) (by as_aux_lemma => kernel_rfl) (by as_aux_lemma => kernel_rfl)) ?_
  intro W base args ds gs before hval0 hW0 _ _
  have hval : ∀ (j : Nat) t v, Try.f14.params[j]? = some t → args[j]? = some v → Value.okWide Try.prog W .any base t v := hval0
  have hW : DataW.Whole enc Try.prog Try.f14.params.toList Rows.fnExactNextTurnSpec.vars false W args.toList ds gs before := hW0
  obtain ⟨p, q, hA0, hV, hpq, hfz, hnd⟩ := id hW
  have hA : DataW.TrodAll enc Try.prog W 0 (fun _ => true) true Try.f14.params.toList args.toList ds p := hA0
  rw [Try.params14] at hA hval
  obtain ⟨v0, vs0, d0, ds0, p0, q0, hargs, rfl, rfl, h0, r0⟩ := trodAll_cons hA
  obtain ⟨rfl, rfl, rfl⟩ := trodAll_nil r0
  obtain rfl : args = #[v0] := by cases args; simp_all
  obtain ⟨rfl, rfl⟩ := trodVars_none hV
  obtain ⟨a0, b0, rfl, wa0, wb0⟩ := open_two Try.underlying25 Try.underlying3 Try.underlying3 ⟨rfl, rfl, by kernel_rfl, by kernel_rfl, by kernel_rfl⟩ (hval 0 25 v0 rfl rfl) h0
  refine (w_NextTurn a0 b0 W).mono fun e W' hg => ?_
  obtain ⟨he, hb⟩ := hg.below
  exact ⟨_, he, law_post laidOut rfl (by kernel_rfl) Try.underlying4 (by kernel_rfl) hW rfl hb⟩

set_option maxHeartbeats 3200000 in
theorem closedFnExactNextTurn : joinedFacts Try.checked.prog 14 Try.f14 Rows.fnExactNextTurnSpec Rows.fnExactNextTurnRow = true := by
  unfold joinedFacts
  repeat' (with_reducible refine and_mk ?_ ?_)
  all_goals (as_aux_lemma => kernel_rfl)
theorem namedFnExactNextTurn : Try.checked.prog.funcNamed Rows.fnExactNextTurnRow.func = some 14 := by as_aux_lemma => kernel_rfl
theorem instFnExactNextTurn : Try.f14.isInstance Try.checked.prog Rows.fnExactNextTurnRow.origin Rows.fnExactNextTurnRow.targs := of_decide_eq_true (by as_aux_lemma => kernel_rfl)
theorem wrapFnExactNextTurn : Try.f14.isWrapper Try.checked.prog Rows.fnExactNextTurnRow.wrapper Rows.fnExactNextTurnRow.mainSum := by unfold Func.isWrapper; first | (rw [if_pos (by decide +kernel)]; kernel_rfl) | (rw [if_neg (by decide +kernel)]; exact ⟨rfl, rfl⟩)
theorem holdsFnExactNextTurn : Rows.FnExactNextTurnSaid :=
  OpenClaim.holds_of_wide 14 Try.f14 rfl rfl rfl rfl rfl rfl rfl ⟨rfl, rfl, rfl, rfl, rfl⟩ rfl rfl rfl rfl rfl namedFnExactNextTurn Try.func14 closedFnExactNextTurn instFnExactNextTurn wrapFnExactNextTurn
    (fun os started H enc _ => liftedFnExactNextTurn os started H enc)
end Go.Proofs.Ytadiicaggdkboaa
