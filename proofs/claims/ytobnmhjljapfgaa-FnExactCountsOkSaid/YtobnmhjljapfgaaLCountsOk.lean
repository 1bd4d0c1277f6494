/-
  The law FnExactCountsOk returns true for every input, and its argument reads afterwards as before. Conditions: none.
-/
import Derived.Test.YtobnmhjljapfgaaFn
import Derived.Test.YtobnmhjljapfgaaTo
import Derived.Test.YtobnmhjljapfgaaCokI
import Derived.Test.YtobnmhjljapfgaaCokS
namespace Go.Proofs.Ytobnmhjljapfgaa
open Go.ChangeShapes Go.WideShapes Go.ChangeAt Go.RowKit Go.Deep Go.Joins
set_option linter.unusedVariables false

set_option maxHeartbeats 1600000 in
theorem w_CountsOk (A0 : Option Addr) (n0 c0 : Nat) (x0 : List ((Int × Int) × Int))  (hn0 : x0.length = n0) (hm0 : n0 ≤ 9223372036854775807) (w : World) (ha0 : Row encC 3 w A0 x0) : Calls Try.prog 6 #[.slice A0 n0 c0] w (Gives (.bool true) w) := by
  have HA0 := Lib.hid ha0
  have HN0 := Lib.hid hn0
  clear ha0 hn0
  by_cases hle : n0 ≤ 1048576
  · go_enter Try.func6, Try.ntmps6
    go_wp2_with (first | (go_at_call 9; (refine (c_szCountS_ok _ _ _ _ _ (by omega) (by omega)).mono ?_); rintro _ _ ⟨rfl, p, rfl⟩) | (go_at_call 11; (refine (c_toCountS _ _ _ x0 _ HN0.out hle (by (repeat (first | with_reducible exact HA0.out | with_reducible exact row_newS _ _ _ | with_reducible exact row_newC _ _ _ | with_reducible exact row_newR _ _ _ | with_reducible refine Row.later ?_ _ | with_reducible refine Row.alloc ?_ _)); done)).mono ?_); rintro _ _ ⟨rfl, p, rfl⟩) | (go_at_call 19; (refine (c_sCountsOk _ _ _ x0 _ HN0.out hm0 (by (repeat (first | with_reducible exact HA0.out | with_reducible exact row_newS _ _ _ | with_reducible exact row_newC _ _ _ | with_reducible exact row_newR _ _ _ | with_reducible refine Row.later ?_ _ | with_reducible refine Row.alloc ?_ _)); done)).mono ?_); rintro _ _ ⟨rfl, p, rfl⟩) | (go_at_call 20; (refine (c_iCountsOk _ _ _ x0 _ HN0.out hm0 (by (repeat (first | with_reducible exact HA0.out | with_reducible exact row_newS _ _ _ | with_reducible exact row_newC _ _ _ | with_reducible exact row_newR _ _ _ | with_reducible refine Row.later ?_ _ | with_reducible refine Row.alloc ?_ _)); done)).mono ?_); rintro _ _ ⟨rfl, p, rfl⟩) | (go_at_call 13; (refine (c_eqCountS _ _ _ _ _ _ x0 x0 _ HN0.out HN0.out hm0 hm0 (by (repeat (first | with_reducible exact HA0.out | with_reducible exact row_newS _ _ _ | with_reducible exact row_newC _ _ _ | with_reducible exact row_newR _ _ _ | with_reducible refine Row.later ?_ _ | with_reducible refine Row.alloc ?_ _)); done) (by (repeat (first | with_reducible exact HA0.out | with_reducible exact row_newS _ _ _ | with_reducible exact row_newC _ _ _ | with_reducible exact row_newR _ _ _ | with_reducible refine Row.later ?_ _ | with_reducible refine Row.alloc ?_ _)); done)).mono ?_); rintro _ _ ⟨rfl, p, rfl⟩) | (refine wp_region_later (by kernel_rfl) (by kernel_rfl) ?_; (repeat (first | go_big_quiet_skip | quiet_step ((first | (go_at_call 9; first | exact calls_later (c_szCountS_ok _ _ _ _ _ (by omega) (by omega)) | exact calls_later2 (c_szCountS_ok _ _ _ _ _ (by omega) (by omega))) | (go_at_call 11; first | exact calls_later (c_toCountS _ _ _ x0 _ HN0.out hle (by (repeat (first | with_reducible exact HA0.out | with_reducible exact row_newS _ _ _ | with_reducible exact row_newC _ _ _ | with_reducible exact row_newR _ _ _ | with_reducible refine Row.later ?_ _ | with_reducible refine Row.alloc ?_ _)); done)) | exact calls_later2 (c_toCountS _ _ _ x0 _ HN0.out hle (by (repeat (first | with_reducible exact HA0.out | with_reducible exact row_newS _ _ _ | with_reducible exact row_newC _ _ _ | with_reducible exact row_newR _ _ _ | with_reducible refine Row.later ?_ _ | with_reducible refine Row.alloc ?_ _)); done))) | (go_at_call 19; first | exact calls_later (c_sCountsOk _ _ _ x0 _ HN0.out hm0 (by (repeat (first | with_reducible exact HA0.out | with_reducible exact row_newS _ _ _ | with_reducible exact row_newC _ _ _ | with_reducible exact row_newR _ _ _ | with_reducible refine Row.later ?_ _ | with_reducible refine Row.alloc ?_ _)); done)) | exact calls_later2 (c_sCountsOk _ _ _ x0 _ HN0.out hm0 (by (repeat (first | with_reducible exact HA0.out | with_reducible exact row_newS _ _ _ | with_reducible exact row_newC _ _ _ | with_reducible exact row_newR _ _ _ | with_reducible refine Row.later ?_ _ | with_reducible refine Row.alloc ?_ _)); done))) | (go_at_call 20; first | exact calls_later (c_iCountsOk _ _ _ x0 _ HN0.out hm0 (by (repeat (first | with_reducible exact HA0.out | with_reducible exact row_newS _ _ _ | with_reducible exact row_newC _ _ _ | with_reducible exact row_newR _ _ _ | with_reducible refine Row.later ?_ _ | with_reducible refine Row.alloc ?_ _)); done)) | exact calls_later2 (c_iCountsOk _ _ _ x0 _ HN0.out hm0 (by (repeat (first | with_reducible exact HA0.out | with_reducible exact row_newS _ _ _ | with_reducible exact row_newC _ _ _ | with_reducible exact row_newR _ _ _ | with_reducible refine Row.later ?_ _ | with_reducible refine Row.alloc ?_ _)); done))) | (go_at_call 13; first | exact calls_later (c_eqCountS _ _ _ _ _ _ x0 x0 _ HN0.out HN0.out hm0 hm0 (by (repeat (first | with_reducible exact HA0.out | with_reducible exact row_newS _ _ _ | with_reducible exact row_newC _ _ _ | with_reducible exact row_newR _ _ _ | with_reducible refine Row.later ?_ _ | with_reducible refine Row.alloc ?_ _)); done) (by (repeat (first | with_reducible exact HA0.out | with_reducible exact row_newS _ _ _ | with_reducible exact row_newC _ _ _ | with_reducible exact row_newR _ _ _ | with_reducible refine Row.later ?_ _ | with_reducible refine Row.alloc ?_ _)); done)) | exact calls_later2 (c_eqCountS _ _ _ _ _ _ x0 x0 _ HN0.out HN0.out hm0 hm0 (by (repeat (first | with_reducible exact HA0.out | with_reducible exact row_newS _ _ _ | with_reducible exact row_newC _ _ _ | with_reducible exact row_newR _ _ _ | with_reducible refine Row.later ?_ _ | with_reducible refine Row.alloc ?_ _)); done) (by (repeat (first | with_reducible exact HA0.out | with_reducible exact row_newS _ _ _ | with_reducible exact row_newC _ _ _ | with_reducible exact row_newR _ _ _ | with_reducible refine Row.later ?_ _ | with_reducible refine Row.alloc ?_ _)); done))))))); refine wpQuiet_nil ?_; rintro _ ⟨p, rfl⟩))
    all_goals
      go_ret
      exact Gives.mk (by first | rfl | simp) (by (repeat (first | with_reducible exact Below.refl _ _ | with_reducible assumption | with_reducible refine Below.drew ?_ | with_reducible refine below_drewN ?_ _ | with_reducible refine below_then_later ?_ (by first | with_reducible exact Nat.le_refl _ | (simp; done) | (simp; omega) | (simp [later_size]; done) | (simp [later_size]; omega)) _ | with_reducible refine Below.setCell ?_ (by first | with_reducible exact Nat.le_refl _ | (simp; done) | (simp; omega) | (simp [later_size]; done) | (simp [later_size]; omega)) _ | with_reducible refine Below.alloc ?_ (by first | with_reducible exact Nat.le_refl _ | (simp; done) | (simp; omega) | (simp [later_size]; done) | (simp [later_size]; omega)) _)))
  · go_enter Try.func6, Try.ntmps6
    go_wp2_with (first | (go_at_call 9; (refine (c_szCountS_big _ _ _ _ _ (by omega) (by omega) (by omega) hm0).mono ?_); rintro _ _ ⟨rfl, p, rfl⟩) | (refine wp_region_later (by kernel_rfl) (by kernel_rfl) ?_; (repeat (first | go_big_quiet_skip | quiet_step ((first | (go_at_call 9; first | exact calls_later (c_szCountS_big _ _ _ _ _ (by omega) (by omega) (by omega) hm0) | exact calls_later2 (c_szCountS_big _ _ _ _ _ (by omega) (by omega) (by omega) hm0)))))); refine wpQuiet_nil ?_; rintro _ ⟨p, rfl⟩))
    all_goals
      go_ret
      exact Gives.mk (by first | rfl | simp) (by (repeat (first | with_reducible exact Below.refl _ _ | with_reducible assumption | with_reducible refine Below.drew ?_ | with_reducible refine below_drewN ?_ _ | with_reducible refine below_then_later ?_ (by first | with_reducible exact Nat.le_refl _ | (simp; done) | (simp; omega) | (simp [later_size]; done) | (simp [later_size]; omega)) _ | with_reducible refine Below.setCell ?_ (by first | with_reducible exact Nat.le_refl _ | (simp; done) | (simp; omega) | (simp [later_size]; done) | (simp [later_size]; omega)) _ | with_reducible refine Below.alloc ?_ (by first | with_reducible exact Nat.le_refl _ | (simp; done) | (simp; omega) | (simp [later_size]; done) | (simp [later_size]; omega)) _)))


set_option maxRecDepth 100000 in
theorem liftedFnExactCountsOk (os : Os) (started : os.Started) (H : Type) (enc : TypeId × Value → H) :
    ReturnsInHanded {} Try.checked os 6 .any (Rows.fnExactCountsOkSpec.pre6 enc Try.prog Try.f6 Rows.fnExactCountsOkRow.domain false) (Rows.fnExactCountsOkSpec.post enc Try.prog Try.f6 false true false false) := by
  refine returnsInHanded_of_change (C := Try.checked) own started (by kernel_rfl) Try.func6
    (ChangeSpec.witness6 (enc := enc) (C := Try.checked) false ⟨#[], #[.slice Option.none 0 0], []⟩ 8 (by as_aux_lemma => kernel_rfl) (by as_aux_lemma => kernel_rfl) (by as_aux_lemma => kernel_rfl) (by as_aux_lemma => kernel_rfl)) ?_
  intro W base args ds gs before hval0 hW0 _ _
  have hval : ∀ (j : Nat) t v, Try.f6.params[j]? = some t → args[j]? = some v → Value.okWide Try.prog W .any base t v := hval0
  have hW : DataW.Whole enc Try.prog Try.f6.params.toList Rows.fnExactCountsOkSpec.vars false W args.toList ds gs before := hW0
  obtain ⟨p, q, hA0, hV, hpq, hfz, hnd⟩ := id hW
  have hA : DataW.TrodAll enc Try.prog W 0 (fun _ => true) true Try.f6.params.toList args.toList ds p := hA0
  rw [Try.params6] at hA hval
  obtain ⟨v0, vs0, d0, ds0, p0, q0, hargs, rfl, rfl, h0, r0⟩ := trodAll_cons hA
  obtain ⟨rfl, rfl, rfl⟩ := trodAll_nil r0
  obtain rfl : args = #[v0] := by cases args; simp_all
  obtain ⟨rfl, rfl⟩ := trodVars_none hV
  obtain ⟨A0, n0, cap0, x0, rfl, hn0, hc0, hm0, hr0, hw0⟩ := open_counts Try.underlying22 Try.underlying47 Try.underlying30 Try.underlying3 ⟨rfl, rfl, rfl, rfl⟩ ⟨rfl, rfl, rfl, rfl⟩ ⟨by kernel_rfl, by kernel_rfl, by kernel_rfl⟩ (hval 0 22 v0 rfl rfl) h0
  refine (w_CountsOk A0 n0 cap0 x0  hn0 (by unfold maxLen at hm0; omega) W hr0).mono fun e W' hg => ?_
  obtain ⟨he, hb⟩ := hg.below
  exact ⟨_, he, law_post laidOut rfl (by kernel_rfl) Try.underlying4 (by kernel_rfl) hW rfl hb⟩

set_option maxHeartbeats 3200000 in
theorem closedFnExactCountsOk : joinedFacts Try.checked.prog 6 Try.f6 Rows.fnExactCountsOkSpec Rows.fnExactCountsOkRow = true := by
  unfold joinedFacts
  repeat' (with_reducible refine and_mk ?_ ?_)
  all_goals (as_aux_lemma => kernel_rfl)
theorem namedFnExactCountsOk : Try.checked.prog.funcNamed Rows.fnExactCountsOkRow.func = some 6 := by as_aux_lemma => kernel_rfl
theorem instFnExactCountsOk : Try.f6.isInstance Try.checked.prog Rows.fnExactCountsOkRow.origin Rows.fnExactCountsOkRow.targs := of_decide_eq_true (by as_aux_lemma => kernel_rfl)
theorem wrapFnExactCountsOk : Try.f6.isWrapper Try.checked.prog Rows.fnExactCountsOkRow.wrapper Rows.fnExactCountsOkRow.mainSum := by unfold Func.isWrapper; first | (rw [if_pos (by decide +kernel)]; kernel_rfl) | (rw [if_neg (by decide +kernel)]; exact ⟨rfl, rfl⟩)
theorem holdsFnExactCountsOk : Rows.FnExactCountsOkSaid :=
  OpenClaim.holds_of_wide 6 Try.f6 rfl rfl rfl rfl rfl rfl rfl ⟨rfl, rfl, rfl, rfl, rfl⟩ rfl rfl rfl rfl rfl namedFnExactCountsOk Try.func6 closedFnExactCountsOk instFnExactCountsOk wrapFnExactCountsOk
    (fun os started H enc _ => liftedFnExactCountsOk os started H enc)
end Go.Proofs.Ytobnmhjljapfgaa
