/-
  The law FnExactLinkNew returns true for every input, and its argument reads afterwards as before. Conditions: none.
-/
import Derived.Test.YtnllmfhmffdceaaAnchor
import Derived.Test.YtnllmfhmffdceaaLink
namespace Go.Proofs.Ytnllmfhmffdceaa
open Go.ChangeShapes Go.WideShapes Go.ChangeAt Go.RowKit Go.Deep Go.Joins
set_option linter.unusedVariables false

theorem nil_markLink (cap cr bk st gt : Int) (c : Nat) (k0 : Int) (w : World) (hk0 : 0 ≤ k0) (hk1 : k0 ≤ 1099511627776) :
    Calls Try.prog 18 #[.agg #[.int .i64 cap, .slice Option.none 0 c, .int .i64 cr, .int .i64 bk, .int .i64 st, .int .i64 gt], .int .i64 k0] w (Gives (.int .i64 k0) w) :=
  (c_markLink (lo := 0) cap cr bk st gt Option.none 0 c [] k0 w rfl (by omega) hk0 hk1 Own.nil).mono fun e w' ⟨he, hg, _⟩ =>
    Gives.mk (by rw [he]; simp) ((Below.refl _ _).grown hg (Nat.le_refl _) (fun j hj => by simp [ob] at hj))
theorem nil_heldLink (cap cr bk st gt : Int) (c : Nat) (k0 : Int) (w : World) (hk0 : 0 ≤ k0) (hk1 : k0 ≤ 1099511627776) :
    Calls Try.prog 19 #[.agg #[.int .i64 cap, .slice Option.none 0 c, .int .i64 cr, .int .i64 bk, .int .i64 st, .int .i64 gt], .int .i64 k0] w (Gives (.int .i64 k0) w) := by
  have h := h_heldLink cap cr bk st gt Option.none 0 c k0 w (by omega) hk0 hk1 Row.nil
  simpa using h
theorem nil_eqLink (cap cr bk st gt : Int) (c d : Nat) (w : World) :
    Calls Try.prog 17 #[.agg #[.int .i64 cap, .slice Option.none 0 c, .int .i64 cr, .int .i64 bk, .int .i64 st, .int .i64 gt], .agg #[.int .i64 cap, .slice Option.none 0 d, .int .i64 cr, .int .i64 bk, .int .i64 st, .int .i64 gt]] w (Gives (.bool true) w) :=
  c_eqLink cap cr bk st gt cap cr bk st gt Option.none Option.none 0 0 c d [] [] w true rfl rfl (by omega) (by omega) Row.nil Row.nil (by simp)

theorem new_s (k B : Int) (w : World) (h : brought k 1 4 = B) : Calls Try.prog 15 #[.int .i64 k] w (Gives (.agg #[.int .i64 B, .slice Option.none 0 0, .int .i64 B, .int .i64 0, .int .i64 0, .int .i64 0]) w) := by subst h; exact c_sLinkNew k w
theorem new_i (k B : Int) (w : World) (h : brought k 1 4 = B) : Calls Try.prog 16 #[.int .i64 k] w (Gives (.agg #[.int .i64 B, .slice Option.none 0 0, .int .i64 B, .int .i64 0, .int .i64 0, .int .i64 0]) w) := by subst h; exact c_iLinkNew k w

set_option maxHeartbeats 3200000 in
theorem w_LinkNew (k : Int) (w : World) : Calls Try.prog 5 #[.int .i64 k] w (Gives (.bool true) w) := by
  generalize hb : brought k 1 4 = B
  have HB := Lib.hid hb
  clear hb
  go_enter Try.func5, Try.ntmps5
  go_wp2_with (first | (go_at_call 15; (refine (new_s k B _ HB.out).mono ?_); rintro _ _ ⟨rfl, p, rfl⟩) | (go_at_call 16; (refine (new_i k B _ HB.out).mono ?_); rintro _ _ ⟨rfl, p, rfl⟩) | (go_at_call 17; (refine (nil_eqLink B B 0 0 0 _ _ _).mono ?_); rintro _ _ ⟨rfl, p, rfl⟩) | (go_at_call 18; (refine (nil_markLink B B 0 0 0 _ 1 _ (by omega) (by omega)).mono ?_); rintro _ _ ⟨rfl, p, rfl⟩) | (go_at_call 19; (refine (nil_heldLink B B 0 0 0 _ 1 _ (by omega) (by omega)).mono ?_); rintro _ _ ⟨rfl, p, rfl⟩) | ((with_reducible refine wp_region_later (by kernel_rfl) (by kernel_rfl) ?_); (repeat (first | go_big_quiet_skip | quiet_step ((first | (go_at_call 15; first | exact calls_later (new_s k B _ HB.out) | exact calls_later2 (new_s k B _ HB.out)) | (go_at_call 16; first | exact calls_later (new_i k B _ HB.out) | exact calls_later2 (new_i k B _ HB.out)) | (go_at_call 17; first | exact calls_later (nil_eqLink B B 0 0 0 _ _ _) | exact calls_later2 (nil_eqLink B B 0 0 0 _ _ _)) | (go_at_call 18; first | exact calls_later (nil_markLink B B 0 0 0 _ 1 _ (by omega) (by omega)) | exact calls_later2 (nil_markLink B B 0 0 0 _ 1 _ (by omega) (by omega))) | (go_at_call 19; first | exact calls_later (nil_heldLink B B 0 0 0 _ 1 _ (by omega) (by omega)) | exact calls_later2 (nil_heldLink B B 0 0 0 _ 1 _ (by omega) (by omega))))))); refine wpQuiet_nil ?_; rintro _ ⟨p, rfl⟩))
  go_ret
  exact Gives.mk rfl (by (repeat (first | with_reducible exact Below.refl _ _ | with_reducible assumption | with_reducible refine Below.drew ?_ | with_reducible refine below_drewN ?_ _ | with_reducible exact HQ.out | with_reducible exact HBW.out | with_reducible refine below_ext ?_ _ _ | with_reducible refine below_then_later ?_ (by first | with_reducible exact Nat.le_refl _ | with_reducible exact HBW.out.size | with_reducible exact HQ.out.size | omega | (simp; done) | (simp; omega) | (simp [later_size]; done) | (simp [later_size]; omega)) _ | with_reducible refine Below.setCell ?_ (by first | with_reducible exact Nat.le_refl _ | with_reducible exact HBW.out.size | with_reducible exact HQ.out.size | omega | (simp; done) | (simp; omega) | (simp [later_size]; done) | (simp [later_size]; omega)) _ | with_reducible refine Below.alloc ?_ (by first | with_reducible exact Nat.le_refl _ | with_reducible exact HBW.out.size | with_reducible exact HQ.out.size | omega | (simp; done) | (simp; omega) | (simp [later_size]; done) | (simp [later_size]; omega)) _)))


set_option maxRecDepth 100000 in
theorem liftedFnExactLinkNew (os : Os) (started : os.Started) (H : Type) (enc : TypeId × Value → H) :
    ReturnsInHanded {} Try.checked os 5 .any (Rows.fnExactLinkNewSpec.pre6 enc Try.prog Try.f5 Rows.fnExactLinkNewRow.domain false) (Rows.fnExactLinkNewSpec.post enc Try.prog Try.f5 false true false false) := by
  refine returnsInHanded_of_change (C := Try.checked) own started (by kernel_rfl) Try.func5
    (ChangeSpec.witness6 (enc := enc) (C := Try.checked) false ⟨#[], #[.int .i64 0], []⟩ 8 (by as_aux_lemma => kernel_rfl) (by as_aux_lemma => kernel_rfl) (by as_aux_lemma => kernel_rfl) (by as_aux_lemma => kernel_rfl)) ?_
  intro W base args ds gs before hval0 hW0 _ _
  have hval : ∀ (j : Nat) t v, Try.f5.params[j]? = some t → args[j]? = some v → Value.okWide Try.prog W .any base t v := hval0
  have hW : DataW.Whole enc Try.prog Try.f5.params.toList Rows.fnExactLinkNewSpec.vars false W args.toList ds gs before := hW0
  obtain ⟨p, q, hA0, hV, hpq, hfz, hnd⟩ := id hW
  have hA : DataW.TrodAll enc Try.prog W 0 (fun _ => true) true Try.f5.params.toList args.toList ds p := hA0
  rw [Try.params5] at hA hval
  obtain ⟨v0, vs0, d0, ds0, p0, q0, hargs, rfl, rfl, h0, r0⟩ := trodAll_cons hA
  obtain ⟨rfl, rfl, rfl⟩ := trodAll_nil r0
  obtain rfl : args = #[v0] := by cases args; simp_all
  obtain ⟨rfl, rfl⟩ := trodVars_none hV
  obtain ⟨a0, rfl, rfl, rfl, wf0⟩ := open_int Try.underlying3 (hval 0 3 v0 rfl rfl) h0
  have w0 := i64_of_wf wf0
  refine (w_LinkNew a0 W).mono fun e W' hg => ?_
  obtain ⟨he, hb⟩ := hg.below
  exact ⟨_, he, law_post laidOut rfl (by kernel_rfl) Try.underlying4 (by kernel_rfl) hW rfl hb⟩

set_option maxHeartbeats 3200000 in
theorem closedFnExactLinkNew : joinedFacts Try.checked.prog 5 Try.f5 Rows.fnExactLinkNewSpec Rows.fnExactLinkNewRow = true := by
  unfold joinedFacts
  repeat' (with_reducible refine and_mk ?_ ?_)
  all_goals (as_aux_lemma => kernel_rfl)
theorem namedFnExactLinkNew : Try.checked.prog.funcNamed Rows.fnExactLinkNewRow.func = some 5 := by as_aux_lemma => kernel_rfl
theorem instFnExactLinkNew : Try.f5.isInstance Try.checked.prog Rows.fnExactLinkNewRow.origin Rows.fnExactLinkNewRow.targs := of_decide_eq_true (by as_aux_lemma => kernel_rfl)
theorem wrapFnExactLinkNew : Try.f5.isWrapper Try.checked.prog Rows.fnExactLinkNewRow.wrapper Rows.fnExactLinkNewRow.mainSum := by unfold Func.isWrapper; first | (rw [if_pos (by decide +kernel)]; kernel_rfl) | (rw [if_neg (by decide +kernel)]; exact ⟨rfl, rfl⟩)
theorem holdsFnExactLinkNew : Rows.FnExactLinkNewSaid :=
  OpenClaim.holds_of_wide 5 Try.f5 rfl rfl rfl rfl rfl rfl rfl ⟨rfl, rfl, rfl, rfl, rfl⟩ rfl rfl rfl rfl rfl namedFnExactLinkNew Try.func5 closedFnExactLinkNew instFnExactLinkNew wrapFnExactLinkNew
    (fun os started H enc _ => liftedFnExactLinkNew os started H enc)
end Go.Proofs.Ytnllmfhmffdceaa
