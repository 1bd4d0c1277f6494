/-
  The law FnExactStampJoin returns true for every input, and its argument reads afterwards as before. Conditions: none.
-/
import Derived.Test.YtgjlkanimlkboaaScal
import Derived.Test.YtgjlkanimlkboaaPick
import Derived.Test.YtgjlkanimlkboaaOpen
namespace Go.Proofs.Ytgjlkanimlkboaa
open Go.ChangeShapes Go.WideShapes Go.ChangeAt Go.RowKit Go.Deep Go.Joins
set_option linter.unusedVariables false

set_option maxHeartbeats 6400000 in
theorem w_StampJoin (a b c d : Int) (w : World) : Calls Try.prog 5 #[.agg #[.int .i64 a, .int .i64 b], .agg #[.int .i64 c, .int .i64 d]] w (Gives (.bool true) w) := by
  go_enter Try.func5, Try.ntmps5
  go_wp2_with (first | (go_at_call 14; (refine (c_toStamp _ _ _).mono ?_); rintro _ _ ⟨rfl, p, rfl⟩) | (go_at_call 13; (refine (c_sStampJoin _ _ _ _ _).mono ?_); rintro _ _ ⟨rfl, p, rfl⟩) | (go_at_call 15; (refine (c_iStampJoin _ _ _ _ _).mono ?_); rintro _ _ ⟨rfl, p, rfl⟩) | (go_at_call 16; (refine (c_eqStamp _ _ _ _ _).mono ?_); rintro _ _ ⟨rfl, p, rfl⟩) | ((first | refine wp_region_tree_later [0,2] (Tree.two 1 (Tree.two 3 (Tree.two 4 (Tree.one 5 (Tree.one 6 (Tree.nil))) 5 (Tree.one 4 (Tree.one 6 (Tree.nil)))) 5 (Tree.one 3 (Tree.one 4 (Tree.one 6 (Tree.nil))))) 5 (Tree.one 1 (Tree.one 3 (Tree.one 4 (Tree.one 6 (Tree.nil)))))) (by kernel_rfl) (by kernel_rfl) ?_ | refine wp_region_tree [0,2] (Tree.two 1 (Tree.two 3 (Tree.two 4 (Tree.one 5 (Tree.one 6 (Tree.nil))) 5 (Tree.one 4 (Tree.one 6 (Tree.nil)))) 5 (Tree.one 3 (Tree.one 4 (Tree.one 6 (Tree.nil))))) 5 (Tree.one 1 (Tree.one 3 (Tree.one 4 (Tree.one 6 (Tree.nil)))))) (by kernel_rfl) (by kernel_rfl) ?_); (simp only [List.map_cons, List.map_nil, List.getD_cons_zero, List.getD_cons_succ]; (repeat (refine wpPick_step (fun K hK => ?_); go_simp; refine hK _ ?_; clear hK K)); refine wpPick_nil ?_; rintro _ ⟨p, rfl⟩; (repeat (any_goals (first | (refine wpTree_one (fun K hK => ?_); simp only [List.getD_cons_zero, List.getD_cons_succ]; (go_wp2_with (first | (go_at_call 14; (refine (c_toStamp _ _ _).mono ?_); rintro _ _ ⟨rfl, p, rfl⟩) | (go_at_call 13; (refine (c_sStampJoin _ _ _ _ _).mono ?_); rintro _ _ ⟨rfl, p, rfl⟩) | (go_at_call 15; (refine (c_iStampJoin _ _ _ _ _).mono ?_); rintro _ _ ⟨rfl, p, rfl⟩) | (go_at_call 16; (refine (c_eqStamp _ _ _ _ _).mono ?_); rintro _ _ ⟨rfl, p, rfl⟩)); refine onward_mk ?_ (hK _ _ ?_); (next => (repeat (first | with_reducible exact Below.refl _ _ | with_reducible assumption | with_reducible refine Below.drew ?_ | with_reducible refine below_drewN ?_ _ | with_reducible exact HQ.out | with_reducible refine below_ext ?_ _ _ | with_reducible refine below_then_later ?_ (by first | with_reducible exact Nat.le_refl _ | (simp; done) | (simp; omega) | (simp [later_size]; done) | (simp [later_size]; omega)) _ | with_reducible refine Below.setCell ?_ (by first | with_reducible exact Nat.le_refl _ | (simp; done) | (simp; omega) | (simp [later_size]; done) | (simp [later_size]; omega)) _ | with_reducible refine Below.alloc ?_ (by first | with_reducible exact Nat.le_refl _ | (simp; done) | (simp; omega) | (simp [later_size]; done) | (simp [later_size]; omega)) _))); clear hK K)) | (refine wpTree_two (fun K hK => ?_) (fun K hK => ?_); all_goals (simp only [List.getD_cons_zero, List.getD_cons_succ]; (go_wp2_with (first | (go_at_call 14; (refine (c_toStamp _ _ _).mono ?_); rintro _ _ ⟨rfl, p, rfl⟩) | (go_at_call 13; (refine (c_sStampJoin _ _ _ _ _).mono ?_); rintro _ _ ⟨rfl, p, rfl⟩) | (go_at_call 15; (refine (c_iStampJoin _ _ _ _ _).mono ?_); rintro _ _ ⟨rfl, p, rfl⟩) | (go_at_call 16; (refine (c_eqStamp _ _ _ _ _).mono ?_); rintro _ _ ⟨rfl, p, rfl⟩)); refine onward_mk ?_ (hK _ _ ?_); (next => (repeat (first | with_reducible exact Below.refl _ _ | with_reducible assumption | with_reducible refine Below.drew ?_ | with_reducible refine below_drewN ?_ _ | with_reducible exact HQ.out | with_reducible refine below_ext ?_ _ _ | with_reducible refine below_then_later ?_ (by first | with_reducible exact Nat.le_refl _ | (simp; done) | (simp; omega) | (simp [later_size]; done) | (simp [later_size]; omega)) _ | with_reducible refine Below.setCell ?_ (by first | with_reducible exact Nat.le_refl _ | (simp; done) | (simp; omega) | (simp [later_size]; done) | (simp [later_size]; omega)) _ | with_reducible refine Below.alloc ?_ (by first | with_reducible exact Nat.le_refl _ | (simp; done) | (simp; omega) | (simp [later_size]; done) | (simp [later_size]; omega)) _))); clear hK K)))))); all_goals (refine wpTree_nil ?_))) | (refine wp_region_later (by kernel_rfl) (by kernel_rfl) ?_; (repeat (first | go_big_quiet_skip | quiet_step ((first | (go_at_call 14; first | exact calls_later (c_toStamp _ _ _) | exact calls_later2 (c_toStamp _ _ _)) | (go_at_call 13; first | exact calls_later (c_sStampJoin _ _ _ _ _) | exact calls_later2 (c_sStampJoin _ _ _ _ _)) | (go_at_call 15; first | exact calls_later (c_iStampJoin _ _ _ _ _) | exact calls_later2 (c_iStampJoin _ _ _ _ _)) | (go_at_call 16; first | exact calls_later (c_eqStamp _ _ _ _ _) | exact calls_later2 (c_eqStamp _ _ _ _ _)))))); refine wpQuiet_nil ?_; rintro _ ⟨p, rfl⟩))
  all_goals
    go_ret
    refine Gives.mk (by first | rfl | simp) ?_
    (repeat (first | with_reducible exact Below.refl _ _ | with_reducible assumption | with_reducible refine Below.drew ?_ | with_reducible refine below_drewN ?_ _ | with_reducible exact HQ.out | with_reducible refine below_ext ?_ _ _ | with_reducible refine below_then_later ?_ (by first | with_reducible exact Nat.le_refl _ | (simp; done) | (simp; omega) | (simp [later_size]; done) | (simp [later_size]; omega)) _ | with_reducible refine Below.setCell ?_ (by first | with_reducible exact Nat.le_refl _ | (simp; done) | (simp; omega) | (simp [later_size]; done) | (simp [later_size]; omega)) _ | with_reducible refine Below.alloc ?_ (by first | with_reducible exact Nat.le_refl _ | (simp; done) | (simp; omega) | (simp [later_size]; done) | (simp [later_size]; omega)) _))


set_option maxRecDepth 100000 in
theorem liftedFnExactStampJoin (os : Os) (started : os.Started) (H : Type) (enc : TypeId × Value → H) :
    ReturnsInHanded {} Try.checked os 5 .any (Rows.fnExactStampJoinSpec.pre6 enc Try.prog Try.f5 Rows.fnExactStampJoinRow.domain false) (Rows.fnExactStampJoinSpec.post enc Try.prog Try.f5 false true false false) := by
  refine returnsInHanded_of_change (C := Try.checked) own started (by kernel_rfl) Try.func5
    (ChangeSpec.witness6 (enc := enc) (C := Try.checked) false ⟨#[], #[.agg #[.int .i64 0, .int .i64 0], .agg #[.int .i64 0, .int .i64 0]], []⟩ 8 (by as_aux_lemma => kernel_rfl) (by as_aux_lemma => kernel_rfl) (by as_aux_lemma => kernel_rfl) (by as_aux_lemma => kernel_rfl)) ?_
  intro W base args ds gs before hval0 hW0 _ _
  have hval : ∀ (j : Nat) t v, Try.f5.params[j]? = some t → args[j]? = some v → Value.okWide Try.prog W .any base t v := hval0
  have hW : DataW.Whole enc Try.prog Try.f5.params.toList Rows.fnExactStampJoinSpec.vars false W args.toList ds gs before := hW0
  obtain ⟨p, q, hA0, hV, hpq, hfz, hnd⟩ := id hW
  have hA : DataW.TrodAll enc Try.prog W 0 (fun _ => true) true Try.f5.params.toList args.toList ds p := hA0
  rw [Try.params5] at hA hval
  obtain ⟨v0, vs0, d0, ds0, p0, q0, hargs, rfl, rfl, h0, r0⟩ := trodAll_cons hA
  obtain ⟨v1, vs1, d1, ds1, p1, q1, rfl, rfl, rfl, h1, r1⟩ := trodAll_cons r0
  obtain ⟨rfl, rfl, rfl⟩ := trodAll_nil r1
  obtain rfl : args = #[v0, v1] := by cases args; simp_all
  obtain ⟨rfl, rfl⟩ := trodVars_none hV
  obtain ⟨a0, b0, rfl, wa0, wb0⟩ := open_two Try.underlying26 Try.underlying3 Try.underlying3 ⟨rfl, rfl, by kernel_rfl, by kernel_rfl, by kernel_rfl⟩ (hval 0 26 v0 rfl rfl) h0
  obtain ⟨a1, b1, rfl, wa1, wb1⟩ := open_two Try.underlying26 Try.underlying3 Try.underlying3 ⟨rfl, rfl, by kernel_rfl, by kernel_rfl, by kernel_rfl⟩ (hval 1 26 v1 rfl rfl) h1
  refine (w_StampJoin a0 b0 a1 b1 W).mono fun e W' hg => ?_
  obtain ⟨he, hb⟩ := hg.below
  exact ⟨_, he, law_post laidOut rfl (by kernel_rfl) Try.underlying4 (by kernel_rfl) hW rfl hb⟩

set_option maxHeartbeats 3200000 in
theorem closedFnExactStampJoin : joinedFacts Try.checked.prog 5 Try.f5 Rows.fnExactStampJoinSpec Rows.fnExactStampJoinRow = true := by
  unfold joinedFacts
  repeat' (with_reducible refine and_mk ?_ ?_)
  all_goals (as_aux_lemma => kernel_rfl)
theorem namedFnExactStampJoin : Try.checked.prog.funcNamed Rows.fnExactStampJoinRow.func = some 5 := by as_aux_lemma => kernel_rfl
theorem instFnExactStampJoin : Try.f5.isInstance Try.checked.prog Rows.fnExactStampJoinRow.origin Rows.fnExactStampJoinRow.targs := of_decide_eq_true (by as_aux_lemma => kernel_rfl)
theorem wrapFnExactStampJoin : Try.f5.isWrapper Try.checked.prog Rows.fnExactStampJoinRow.wrapper Rows.fnExactStampJoinRow.mainSum := by unfold Func.isWrapper; first | (rw [if_pos (by decide +kernel)]; kernel_rfl) | (rw [if_neg (by decide +kernel)]; exact ⟨rfl, rfl⟩)
theorem holdsFnExactStampJoin : Rows.FnExactStampJoinSaid :=
  OpenClaim.holds_of_wide 5 Try.f5 rfl rfl rfl rfl rfl rfl rfl ⟨rfl, rfl, rfl, rfl, rfl⟩ rfl rfl rfl rfl rfl namedFnExactStampJoin Try.func5 closedFnExactStampJoin instFnExactStampJoin wrapFnExactStampJoin
    (fun os started H enc _ => liftedFnExactStampJoin os started H enc)
end Go.Proofs.Ytgjlkanimlkboaa
