/-
  The law FnExactOwnerOf returns true for every input, and its argument reads afterwards as before. Conditions: none.
-/
import Derived.Test.YtadiicaggdkboaaScal
import Derived.Test.YtadiicaggdkboaaOpen
namespace Go.Proofs.Ytadiicaggdkboaa
open Go.ChangeShapes Go.WideShapes Go.ChangeAt Go.RowKit Go.Deep Go.Joins
set_option linter.unusedVariables false

set_option maxHeartbeats 400000 in
theorem w_OwnerOf (a b : Int) (ha : I64 a) (hb : I64 b) (w : World) : Calls Try.prog 9 #[.int .i64 a, .int .i64 b] w (Gives (.bool true) w) := by
  go_enter Try.func9, Try.ntmps9
  go_wp2_with (first | (go_at_call 26; refine (c_sOwnerOf _ _ _ ha hb).mono ?_; rintro _ _ ⟨rfl, p, rfl⟩) | (go_at_call 27; refine (c_iOwnerOf _ _ _ ha hb).mono ?_; rintro _ _ ⟨rfl, p, rfl⟩) | (refine wp_region_later (by kernel_rfl) (by kernel_rfl) ?_; (repeat (quiet_step ((first | (go_at_call 26; first | exact calls_later (c_sOwnerOf _ _ _ ha hb) | exact calls_later2 (c_sOwnerOf _ _ _ ha hb)) | (go_at_call 27; first | exact calls_later (c_iOwnerOf _ _ _ ha hb) | exact calls_later2 (c_iOwnerOf _ _ _ ha hb)))))); refine wpQuiet_nil ?_; rintro _ ⟨p, rfl⟩))
  all_goals
    go_ret
    refine Gives.mk (by first | rfl | simp) ?_
    (repeat (first | exact Below.refl _ _ | assumption | refine Below.drew ?_ | refine below_drewN ?_ _ | refine below_then_later ?_ (by first | exact Nat.le_refl _ | (simp; done) | (simp; omega) | (simp [later_size]; done) | (simp [later_size]; omega)) _ | refine Below.setCell ?_ (by first | exact Nat.le_refl _ | (simp; done) | (simp; omega) | (simp [later_size]; done) | (simp [later_size]; omega)) _ | refine Below.alloc ?_ (by first | exact Nat.le_refl _ | (simp; done) | (simp; omega) | (simp [later_size]; done) | (simp [later_size]; omega)) _))


set_option maxRecDepth 100000 in
theorem liftedFnExactOwnerOf (os : Os) (started : os.Started) (H : Type) (enc : TypeId × Value → H) :
    ReturnsInHanded {} Try.checked os 9 .any (Rows.fnExactOwnerOfSpec.pre6 enc Try.prog Try.f9 Rows.fnExactOwnerOfRow.domain false) (Rows.fnExactOwnerOfSpec.post enc Try.prog Try.f9 false true false false) := by
  refine returnsInHanded_of_change (C := Try.checked) own started (by kernel_rfl) Try.func9
    (ChangeSpec.witness6 (enc := enc) (C := Try.checked) false ⟨#[], #[.int .i64 0, .int .i64 0], []⟩ 8 (by kernel_rfl) (by kernel_rfl) (by kernel_rfl) (by kernel_rfl)) ?_
  intro W base args ds gs before hval0 hW0 _ _
  have hval : ∀ (j : Nat) t v, Try.f9.params[j]? = some t → args[j]? = some v → Value.okWide Try.prog W .any base t v := hval0
  have hW : DataW.Whole enc Try.prog Try.f9.params.toList Rows.fnExactOwnerOfSpec.vars false W args.toList ds gs before := hW0
  obtain ⟨p, q, hA0, hV, hpq, hfz, hnd⟩ := id hW
  have hA : DataW.TrodAll enc Try.prog W 0 (fun _ => true) true Try.f9.params.toList args.toList ds p := hA0
  rw [Try.params9] at hA hval
  obtain ⟨v0, vs0, d0, ds0, p0, q0, hargs, rfl, rfl, h0, r0⟩ := trodAll_cons hA
  obtain ⟨v1, vs1, d1, ds1, p1, q1, rfl, rfl, rfl, h1, r1⟩ := trodAll_cons r0
  obtain ⟨rfl, rfl, rfl⟩ := trodAll_nil r1
  obtain rfl : args = #[v0, v1] := by cases args; simp_all
  obtain ⟨rfl, rfl⟩ := trodVars_none hV
  obtain ⟨a0, rfl, rfl, rfl, wf0⟩ := open_int Try.underlying3 (hval 0 3 v0 rfl rfl) h0
  have w0 := i64_of_wf wf0
  obtain ⟨a1, rfl, rfl, rfl, wf1⟩ := open_int Try.underlying3 (hval 1 3 v1 rfl rfl) h1
  have w1 := i64_of_wf wf1
  refine (w_OwnerOf a0 a1 w0 w1 W).mono fun e W' hg => ?_
  obtain ⟨he, hb⟩ := hg.below
  exact ⟨_, he, law_post laidOut rfl (by kernel_rfl) Try.underlying4 (by kernel_rfl) hW rfl hb⟩

theorem holdsFnExactOwnerOf : Rows.FnExactOwnerOfSaid :=
  OpenClaim.holds_of_wide 9 Try.f9 rfl rfl rfl rfl rfl rfl rfl ⟨rfl, rfl, rfl, rfl, rfl⟩ rfl rfl rfl rfl rfl (by kernel_rfl) Try.func9 (by kernel_rfl)
    (of_decide_eq_true (by kernel_rfl)) (by unfold Func.isWrapper; first | (rw [if_pos (by decide +kernel)]; kernel_rfl) | (rw [if_neg (by decide +kernel)]; exact ⟨rfl, rfl⟩))
    (fun os started H enc _ => liftedFnExactOwnerOf os started H enc)
end Go.Proofs.Ytadiicaggdkboaa
