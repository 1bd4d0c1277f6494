/-
  The law FnExactRecordOk returns true for every input, and its argument reads afterwards as before. Conditions: none.
-/
import Derived.Test.YtadiicaggdkboaaScal
import Derived.Test.YtadiicaggdkboaaOpen
namespace Go.Proofs.Ytadiicaggdkboaa
open Go.ChangeShapes Go.WideShapes Go.ChangeAt Go.RowKit Go.Deep Go.Joins
set_option linter.unusedVariables false

set_option maxHeartbeats 400000 in
theorem w_RecordOk (a b c d e : Int) (w : World) : Calls Try.prog 13 #[.agg #[.int .i64 a, .int .i64 b, .int .i64 c, .int .i64 d, .int .i64 e]] w (Gives (.bool true) w) := by
  go_enter Try.func13, Try.ntmps13
  go_wp2_with (first | (go_at_call 36; refine (c_toRecord _ _ _ _ _ _).mono ?_; rintro _ _ ⟨rfl, p, rfl⟩) | (go_at_call 35; refine (c_sRecordOk _ _ _ _ _ _).mono ?_; rintro _ _ ⟨rfl, p, rfl⟩) | (go_at_call 37; refine (c_iRecordOk _ _ _ _ _ _).mono ?_; rintro _ _ ⟨rfl, p, rfl⟩) | (refine wp_region_later (by kernel_rfl) (by kernel_rfl) ?_; (repeat (quiet_step ((first | (go_at_call 36; first | exact calls_later (c_toRecord _ _ _ _ _ _) | exact calls_later2 (c_toRecord _ _ _ _ _ _)) | (go_at_call 35; first | exact calls_later (c_sRecordOk _ _ _ _ _ _) | exact calls_later2 (c_sRecordOk _ _ _ _ _ _)) | (go_at_call 37; first | exact calls_later (c_iRecordOk _ _ _ _ _ _) | exact calls_later2 (c_iRecordOk _ _ _ _ _ _)))))); refine wpQuiet_nil ?_; rintro _ ⟨p, rfl⟩))
  all_goals
    go_ret
    refine Gives.mk (by first | rfl | simp) ?_
    (repeat (first | exact Below.refl _ _ | assumption | refine Below.drew ?_ | refine below_drewN ?_ _ | refine below_then_later ?_ (by first | exact Nat.le_refl _ | (simp; done) | (simp; omega) | (simp [later_size]; done) | (simp [later_size]; omega)) _ | refine Below.setCell ?_ (by first | exact Nat.le_refl _ | (simp; done) | (simp; omega) | (simp [later_size]; done) | (simp [later_size]; omega)) _ | refine Below.alloc ?_ (by first | exact Nat.le_refl _ | (simp; done) | (simp; omega) | (simp [later_size]; done) | (simp [later_size]; omega)) _))


set_option maxRecDepth 100000 in
theorem liftedFnExactRecordOk (os : Os) (started : os.Started) (H : Type) (enc : TypeId × Value → H) :
    ReturnsInHanded {} Try.checked os 13 .any (Rows.fnExactRecordOkSpec.pre6 enc Try.prog Try.f13 Rows.fnExactRecordOkRow.domain false) (Rows.fnExactRecordOkSpec.post enc Try.prog Try.f13 false true false false) := by
  refine returnsInHanded_of_change (C := Try.checked) own started (by kernel_rfl) Try.func13
    (ChangeSpec.witness6 (enc := enc) (C := Try.checked) false ⟨#[], #[.agg #[.int .i64 0, .int .i64 0, .int .i64 0, .int .i64 0, .int .i64 0]], []⟩ 8 (by kernel_rfl) (by kernel_rfl) (by kernel_rfl) (by kernel_rfl)) ?_
  intro W base args ds gs before hval0 hW0 _ _
  have hval : ∀ (j : Nat) t v, Try.f13.params[j]? = some t → args[j]? = some v → Value.okWide Try.prog W .any base t v := hval0
  have hW : DataW.Whole enc Try.prog Try.f13.params.toList Rows.fnExactRecordOkSpec.vars false W args.toList ds gs before := hW0
  obtain ⟨p, q, hA0, hV, hpq, hfz, hnd⟩ := id hW
  have hA : DataW.TrodAll enc Try.prog W 0 (fun _ => true) true Try.f13.params.toList args.toList ds p := hA0
  rw [Try.params13] at hA hval
  obtain ⟨v0, vs0, d0, ds0, p0, q0, hargs, rfl, rfl, h0, r0⟩ := trodAll_cons hA
  obtain ⟨rfl, rfl, rfl⟩ := trodAll_nil r0
  obtain rfl : args = #[v0] := by cases args; simp_all
  obtain ⟨rfl, rfl⟩ := trodVars_none hV
  obtain ⟨a0, b0, c0, k0, e0, rfl, wa0, wb0, wc0, wd0, we0⟩ := open_rec Try.underlying42 Try.underlying25 Try.underlying3 ⟨rfl, rfl, rfl, rfl, rfl, rfl⟩ ⟨rfl, rfl, rfl, rfl, rfl, rfl⟩ ⟨by kernel_rfl, by kernel_rfl, by kernel_rfl⟩ (hval 0 42 v0 rfl rfl) h0
  refine (w_RecordOk a0 b0 c0 k0 e0 W).mono fun e W' hg => ?_
  obtain ⟨he, hb⟩ := hg.below
  exact ⟨_, he, law_post laidOut rfl (by kernel_rfl) Try.underlying4 (by kernel_rfl) hW rfl hb⟩

theorem holdsFnExactRecordOk : Rows.FnExactRecordOkSaid :=
  OpenClaim.holds_of_wide 13 Try.f13 rfl rfl rfl rfl rfl rfl rfl ⟨rfl, rfl, rfl, rfl, rfl⟩ rfl rfl rfl rfl rfl (by kernel_rfl) Try.func13 (by kernel_rfl)
    (of_decide_eq_true (by kernel_rfl)) (by unfold Func.isWrapper; first | (rw [if_pos (by decide +kernel)]; kernel_rfl) | (rw [if_neg (by decide +kernel)]; exact ⟨rfl, rfl⟩))
    (fun os started H enc _ => liftedFnExactRecordOk os started H enc)
end Go.Proofs.Ytadiicaggdkboaa
