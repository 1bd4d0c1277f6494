/-
  The law FnExactUnhex returns true for every input, and its argument reads afterwards as before. Conditions: none.
-/
import Derived.Test.YtgjlkanimlkboaaUnhex
import Derived.Test.YtgjlkanimlkboaaOpen
import Derived.ChangeMaps5
namespace Go.Proofs.Ytgjlkanimlkboaa
open Go.ChangeShapes Go.WideShapes Go.ChangeAt Go.RowKit Go.Deep Go.Joins
set_option linter.unusedVariables false

set_option maxHeartbeats 800000 in
theorem w_Unhex (s : ByteArray) (hs : s.size ≤ 9223372036854775807) (w : World) : Calls Try.prog 4 #[.string s] w (Gives (.bool true) w) := by
  obtain ⟨B, z, hz⟩ := unhexV_form s
  have HZ := Lib.hid hz
  clear hz
  go_enter Try.func4, Try.ntmps4
  go_wp2_with (first | (go_at_call 11; (refine (m_sUnhex _ B z _ hs HZ.out).mono ?_); rintro _ _ ⟨rfl, p, rfl⟩) | (go_at_call 12; (refine (m_iUnhex _ B z _ hs HZ.out).mono ?_); rintro _ _ ⟨rfl, p, rfl⟩) | ((with_reducible refine wp_region_later (by kernel_rfl) (by kernel_rfl) ?_); (repeat (first | go_big_quiet_skip | quiet_step ((first | (go_at_call 11; first | exact calls_later (m_sUnhex _ B z _ hs HZ.out) | exact calls_later2 (m_sUnhex _ B z _ hs HZ.out)) | (go_at_call 12; first | exact calls_later (m_iUnhex _ B z _ hs HZ.out) | exact calls_later2 (m_iUnhex _ B z _ hs HZ.out)))))); refine wpQuiet_nil ?_; rintro _ ⟨p, rfl⟩))
  all_goals
    go_ret
    refine Gives.mk (by first | rfl | simp) ?_
    (repeat (first | with_reducible exact Below.refl _ _ | with_reducible assumption | with_reducible refine Below.drew ?_ | with_reducible refine below_drewN ?_ _ | with_reducible exact HQ.out | with_reducible exact HBW.out | with_reducible refine below_ext ?_ _ _ | with_reducible refine below_then_later ?_ (by first | with_reducible exact Nat.le_refl _ | with_reducible exact HBW.out.size | with_reducible exact HQ.out.size | omega | (simp; done) | (simp; omega) | (simp [later_size]; done) | (simp [later_size]; omega)) _ | with_reducible refine Below.setCell ?_ (by first | with_reducible exact Nat.le_refl _ | with_reducible exact HBW.out.size | with_reducible exact HQ.out.size | omega | (simp; done) | (simp; omega) | (simp [later_size]; done) | (simp [later_size]; omega)) _ | with_reducible refine Below.alloc ?_ (by first | with_reducible exact Nat.le_refl _ | with_reducible exact HBW.out.size | with_reducible exact HQ.out.size | omega | (simp; done) | (simp; omega) | (simp [later_size]; done) | (simp [later_size]; omega)) _))


set_option maxRecDepth 100000 in
theorem liftedFnExactUnhex (os : Os) (started : os.Started) (H : Type) (enc : TypeId × Value → H) :
    ReturnsInHanded {} Try.checked os 4 .any (Rows.fnExactUnhexSpec.pre6 enc Try.prog Try.f4 Rows.fnExactUnhexRow.domain false) (Rows.fnExactUnhexSpec.post enc Try.prog Try.f4 false true false false) := by
  refine returnsInHanded_of_change (C := Try.checked) own started (by kernel_rfl) Try.func4
    (ChangeSpec.witness6 (enc := enc) (C := Try.checked) false ⟨#[], #[.string ⟨#[]⟩], []⟩ 8 (by as_aux_lemma => kernel_rfl) (by as_aux_lemma => kernel_rfl) (by as_aux_lemma => kernel_rfl) (by as_aux_lemma => kernel_rfl)) ?_
  intro W base args ds gs before hval0 hW0 _ _
  have hval : ∀ (j : Nat) t v, Try.f4.params[j]? = some t → args[j]? = some v → Value.okWide Try.prog W .any base t v := hval0
  have hW : DataW.Whole enc Try.prog Try.f4.params.toList Rows.fnExactUnhexSpec.vars false W args.toList ds gs before := hW0
  obtain ⟨p, q, hA0, hV, hpq, hfz, hnd⟩ := id hW
  have hA : DataW.TrodAll enc Try.prog W 0 (fun _ => true) true Try.f4.params.toList args.toList ds p := hA0
  rw [Try.params4] at hA hval
  obtain ⟨v0, vs0, d0, ds0, p0, q0, hargs, rfl, rfl, h0, r0⟩ := trodAll_cons hA
  obtain ⟨rfl, rfl, rfl⟩ := trodAll_nil r0
  obtain rfl : args = #[v0] := by cases args; simp_all
  obtain ⟨rfl, rfl⟩ := trodVars_none hV
  obtain ⟨s0, rfl, rfl, rfl, w0⟩ := Go.ChangeMaps.open_string Try.underlying9 (hval 0 9 v0 rfl rfl) h0
  refine (w_Unhex s0 (by unfold maxLen at w0; omega) W).mono fun e W' hg => ?_
  obtain ⟨he, hb⟩ := hg.below
  exact ⟨_, he, law_post laidOut rfl (by kernel_rfl) Try.underlying4 (by kernel_rfl) hW rfl hb⟩

set_option maxHeartbeats 3200000 in
theorem closedFnExactUnhex : joinedFacts Try.checked.prog 4 Try.f4 Rows.fnExactUnhexSpec Rows.fnExactUnhexRow = true := by
  unfold joinedFacts
  repeat' (with_reducible refine and_mk ?_ ?_)
  all_goals (as_aux_lemma => kernel_rfl)
theorem namedFnExactUnhex : Try.checked.prog.funcNamed Rows.fnExactUnhexRow.func = some 4 := by as_aux_lemma => kernel_rfl
theorem instFnExactUnhex : Try.f4.isInstance Try.checked.prog Rows.fnExactUnhexRow.origin Rows.fnExactUnhexRow.targs := of_decide_eq_true (by as_aux_lemma => kernel_rfl)
theorem wrapFnExactUnhex : Try.f4.isWrapper Try.checked.prog Rows.fnExactUnhexRow.wrapper Rows.fnExactUnhexRow.mainSum := by unfold Func.isWrapper; first | (rw [if_pos (by decide +kernel)]; kernel_rfl) | (rw [if_neg (by decide +kernel)]; exact ⟨rfl, rfl⟩)
theorem holdsFnExactUnhex : Rows.FnExactUnhexSaid :=
  OpenClaim.holds_of_wide 4 Try.f4 rfl rfl rfl rfl rfl rfl rfl ⟨rfl, rfl, rfl, rfl, rfl⟩ rfl rfl rfl rfl rfl namedFnExactUnhex Try.func4 closedFnExactUnhex instFnExactUnhex wrapFnExactUnhex
    (fun os started H enc _ => liftedFnExactUnhex os started H enc)
end Go.Proofs.Ytgjlkanimlkboaa
