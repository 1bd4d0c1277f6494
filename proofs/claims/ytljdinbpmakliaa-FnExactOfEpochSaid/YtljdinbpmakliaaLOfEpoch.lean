/-
  The law FnExactOfEpoch returns true for every input, and its arguments read afterwards as before. Conditions: none.
-/
import Derived.Test.YtljdinbpmakliaaLaw
import Derived.Test.YtljdinbpmakliaaFn
import Derived.Test.YtljdinbpmakliaaOfe
namespace Go.Proofs.Ytljdinbpmakliaa
open Go.ChangeShapes Go.WideShapes Go.ChangeAt Go.RowKit Go.Deep Go.Joins
set_option linter.unusedVariables false

set_option maxHeartbeats 6400000 in
theorem w_OfEpoch (A0 : Option Addr) (n0 c0 : Nat) (x0 : List (Int × (Int × Int) × Int × Int)) (hn0 : x0.length = n0) (hm0 : n0 ≤ 9223372036854775807) (ep : Int)  (w : World) (ha0 : Row encR 5 w A0 x0) : Calls Try.prog 3 #[.slice A0 n0 c0, .int .i64 ep] w (Gives (.bool true) w) := by
  have HA0 := Lib.hid ha0
  have HN0 := Lib.hid hn0
  clear ha0 hn0
  by_cases hle0 : n0 ≤ 1048576
  · have HR := Lib.hid (show (ofEp x0 ep).length ≤ 4194304 from (Nat.le_trans (ofEp_len x0 ep) (by rw [HN0.out]; omega)))
    generalize hR : ofEp x0 ep = R at HR
    have HRR := Lib.hid hR
    clear hR
    go_enter Try.func3, Try.ntmps3
    have tok1 : True := trivial
    have tok2 : True := trivial
    have tok3 : True := trivial
    have tok4 : True := trivial
    have tok5 : True := trivial
    go_wp2_with (first | (go_at_call 10; have _t := tok1; clear _t tok1; (first | (refine calls_rebase (fun q' p' h' => ?_); skip; clear h') | skip); (with_reducible refine (m_toRecordS A0 n0 c0 x0 _ HN0.out hle0 (by (repeat (first | with_reducible exact HA0.out | with_reducible refine Row.later ?_ _ | with_reducible refine Row.alloc ?_ _)); done)).mono ?_); rintro _ w2 ⟨As0, ns0, cs0, rfl, hl, hcs0, hms0, hO, p2, hp⟩; unfold maxLen at hms0; have HLs0 := Lib.hid hl; have HOs0 := Lib.hid hO; clear hl hO; have hbs0 : ns0 ≤ 1048576 := (by rw [← HLs0.out]; exact (by rw [HN0.out]; exact hle0)); skip; skip; obtain ⟨q2, hq⟩ := later_fold hp; clear hp; subst hq) | (go_at_call 9; have _t := tok2; clear _t tok2; (first | (refine calls_rebase (fun q' p' h' => ?_); replace HOs0 := Lib.hid (own_to h' HOs0.out); clear h') | skip); (with_reducible refine (m_sOfEpoch _ ns0 _ x0 ep _ _ HLs0.out (by omega) HOs0.out.row HRR.out).mono ?_); rintro _ w2 ⟨Aw, nw, cw, rfl, hl, hcw, hmw, hO, p2, hp⟩; unfold maxLen at hmw; have HLw := Lib.hid hl; have HOw := Lib.hid hO; clear hl hO; have hbw : nw ≤ 4194304 := (by rw [← HLw.out]; exact HR.out); have Hls0w := Lib.hid (Lt.of_row lenR (by decide) HOs0.out.row HLs0.out); replace HOs0 := Lib.hid (own_to hp HOs0.out); obtain ⟨q2, hq⟩ := later_fold hp; clear hp; subst hq) | (go_at_call 10; have _t := tok3; clear _t tok3; (first | (refine calls_rebase (fun q' p' h' => ?_); replace HOs0 := Lib.hid (own_to h' HOs0.out); replace HOw := Lib.hid (own_to h' HOw.out); clear h') | skip); (with_reducible refine (m_toRecordS A0 n0 c0 x0 _ HN0.out hle0 (by (repeat (first | with_reducible exact HA0.out | with_reducible refine Row.later ?_ _ | with_reducible refine Row.alloc ?_ _)); done)).mono ?_); rintro _ w2 ⟨Ax0, nx0, cx0, rfl, hl, hcx0, hmx0, hO, p2, hp⟩; unfold maxLen at hmx0; have HLx0 := Lib.hid hl; have HOx0 := Lib.hid hO; clear hl hO; have hbx0 : nx0 ≤ 1048576 := (by rw [← HLx0.out]; exact (by rw [HN0.out]; exact hle0)); have Hls0x0 := Lib.hid (Lt.of_row lenR (by decide) HOs0.out.row HLs0.out); have Hlwx0 := Lib.hid (Lt.of_row lenR (by decide) HOw.out.row HLw.out); replace HOs0 := Lib.hid (own_to hp HOs0.out); replace HOw := Lib.hid (own_to hp HOw.out); obtain ⟨q2, hq⟩ := later_fold hp; clear hp; subst hq) | (go_at_call 11; have _t := tok4; clear _t tok4; (first | (refine calls_rebase (fun q' p' h' => ?_); replace HOs0 := Lib.hid (own_to h' HOs0.out); replace HOw := Lib.hid (own_to h' HOw.out); replace HOx0 := Lib.hid (own_to h' HOx0.out); clear h') | skip); (with_reducible refine (m_iOfEpoch _ nx0 _ x0 ep _ _ HLx0.out (by omega) HOx0.out.row HRR.out).mono ?_); rintro _ w2 ⟨Ag, ng, cg, rfl, hl, hcg, hmg, hO, p2, hp⟩; unfold maxLen at hmg; have HLg := Lib.hid hl; have HOg := Lib.hid hO; clear hl hO; have hbg : ng ≤ 4194304 := (by rw [← HLg.out]; exact HR.out); have Hls0g := Lib.hid (Lt.of_row lenR (by decide) HOs0.out.row HLs0.out); have Hlwg := Lib.hid (Lt.of_row lenR (by decide) HOw.out.row HLw.out); have Hlx0g := Lib.hid (Lt.of_row lenR (by decide) HOx0.out.row HLx0.out); replace HOs0 := Lib.hid (own_to hp HOs0.out); replace HOw := Lib.hid (own_to hp HOw.out); replace HOx0 := Lib.hid (own_to hp HOx0.out); obtain ⟨q2, hq⟩ := later_fold hp; clear hp; subst hq) | (go_at_call 12; (with_reducible refine (c_eqRecordS _ _ _ _ _ _ _ _ _ HLg.out HLw.out (by omega) (by omega) (by (repeat (first | with_reducible exact HOg.out.row | with_reducible refine row_later2 ?_ _ _ | with_reducible refine Row.later ?_ _)); done) (by (repeat (first | with_reducible exact HOw.out.row | with_reducible refine row_later2 ?_ _ _ | with_reducible refine Row.later ?_ _)); done)).mono ?_); rintro _ _ ⟨rfl, p, rfl⟩) | (go_at_call 10; have _t := tok5; clear _t tok5; (first | (refine calls_rebase (fun q' p' h' => ?_); replace HOs0 := Lib.hid (own_to h' HOs0.out); replace HOw := Lib.hid (own_to h' HOw.out); replace HOx0 := Lib.hid (own_to h' HOx0.out); replace HOg := Lib.hid (own_to h' HOg.out); clear h') | skip); (with_reducible refine (m_toRecordS A0 n0 c0 x0 _ HN0.out hle0 (by (repeat (first | with_reducible exact HA0.out | with_reducible refine Row.later ?_ _ | with_reducible refine Row.alloc ?_ _)); done)).mono ?_); rintro _ w2 ⟨At0, nt0, ct0, rfl, hl, hct0, hmt0, hO, p2, hp⟩; unfold maxLen at hmt0; have HLt0 := Lib.hid hl; have HOt0 := Lib.hid hO; clear hl hO; have hbt0 : nt0 ≤ 1048576 := (by rw [← HLt0.out]; exact (by rw [HN0.out]; exact hle0)); have Hls0t0 := Lib.hid (Lt.of_row lenR (by decide) HOs0.out.row HLs0.out); have Hlwt0 := Lib.hid (Lt.of_row lenR (by decide) HOw.out.row HLw.out); have Hlx0t0 := Lib.hid (Lt.of_row lenR (by decide) HOx0.out.row HLx0.out); have Hlgt0 := Lib.hid (Lt.of_row lenR (by decide) HOg.out.row HLg.out); replace HOs0 := Lib.hid (own_to hp HOs0.out); replace HOw := Lib.hid (own_to hp HOw.out); replace HOx0 := Lib.hid (own_to hp HOx0.out); replace HOg := Lib.hid (own_to hp HOg.out); obtain ⟨q2, hq⟩ := later_fold hp; clear hp; subst hq) | (go_at_call 12; (with_reducible refine (c_eqRecordS _ _ _ _ _ _ _ _ _ HLx0.out HLt0.out (by omega) (by omega) (by (repeat (first | with_reducible exact HOx0.out.row | with_reducible refine row_later2 ?_ _ _ | with_reducible refine Row.later ?_ _)); done) (by (repeat (first | with_reducible exact HOt0.out.row | with_reducible refine row_later2 ?_ _ _ | with_reducible refine Row.later ?_ _)); done)).mono ?_); rintro _ _ ⟨rfl, p, rfl⟩) | (go_at_call 8; (first | (refine (c_szRecordS_ok _ _ _ _ _ (by omega) (by omega)).mono ?_) | (refine (c_szRecordS_big _ _ _ _ _ (by omega) (by omega) (by omega) (by omega)).mono ?_)); rintro _ _ ⟨rfl, p, rfl⟩) | ((with_reducible refine wp_region_later (by kernel_rfl) (by kernel_rfl) ?_); (repeat (first | go_big_quiet_skip | quiet_step ((first | (go_at_call 8; first | exact calls_later (c_szRecordS_ok _ _ _ _ _ (by omega) (by omega)) | exact calls_later2 (c_szRecordS_ok _ _ _ _ _ (by omega) (by omega)) | exact calls_later (c_szRecordS_big _ _ _ _ _ (by omega) (by omega) (by omega) (by omega)) | exact calls_later2 (c_szRecordS_big _ _ _ _ _ (by omega) (by omega) (by omega) (by omega))))))); refine wpQuiet_nil ?_; rintro _ ⟨p, rfl⟩))
    (first | (refine calls_rebase (fun q' p' h' => ?_); replace HOs0 := Lib.hid (own_to h' HOs0.out); replace HOw := Lib.hid (own_to h' HOw.out); replace HOx0 := Lib.hid (own_to h' HOx0.out); replace HOg := Lib.hid (own_to h' HOg.out); replace HOt0 := Lib.hid (own_to h' HOt0.out); clear h') | skip)
    refine (c_markRecordS _ _ _ _ _ _ HLx0.out (by omega) (by omega) (by omega) HOx0.out).mono ?_
    rintro _ w7 ⟨rfl, hg, hM⟩
    replace HOw := Lib.hid (Own.stay_under HOw.out HLw.out Hlwx0.out HOx0.out HLx0.out hg)
    replace HOg := Lib.hid (Own.stay_above HOg.out Hlx0g.out hg)
    obtain ⟨q7, hq7⟩ := later_grown HOx0.out HLx0.out (by simp [later_size]) hg
    clear hg hM HOs0 HOx0 HOt0
    subst hq7
    go_wp2_with (first | (go_at_call 12; (with_reducible refine (c_eqRecordS _ _ _ _ _ _ _ _ _ HLg.out HLw.out (by omega) (by omega) (by (repeat (first | with_reducible exact HOg.out.row | with_reducible refine row_later2 ?_ _ _ | with_reducible refine Row.later ?_ _)); done) (by (repeat (first | with_reducible exact HOw.out.row | with_reducible refine row_later2 ?_ _ _ | with_reducible refine Row.later ?_ _)); done)).mono ?_); rintro _ _ ⟨rfl, p, rfl⟩) | ((with_reducible refine wp_region_later (by kernel_rfl) (by kernel_rfl) ?_); (repeat (first | go_big_quiet_skip | quiet_step ((fail)))); refine wpQuiet_nil ?_; rintro _ ⟨p, rfl⟩))
    (first | (refine calls_rebase (fun q' p' h' => ?_); replace HOw := Lib.hid (own_to h' HOw.out); replace HOg := Lib.hid (own_to h' HOg.out); clear h') | skip)
    refine (c_markRecordS _ _ _ _ _ _ HLg.out (by omega) (by omega) (by omega) HOg.out).mono ?_
    rintro _ w7 ⟨rfl, hg, hM⟩
    replace HOw := Lib.hid (Own.stay_under HOw.out HLw.out Hlwg.out HOg.out HLg.out hg)
    have Mg := Lib.hid hM
    obtain ⟨q7, hq7⟩ := later_grown HOg.out HLg.out (by simp [later_size]) hg
    clear hg hM HOg
    subst hq7
    have tok6 : True := trivial
    have tok7 : True := trivial
    go_wp2_with (first | (go_at_call 14; (with_reducible refine (h_heldRecordS _ _ _ _ _ (by omega) (by omega) (by omega) (by (repeat (first | with_reducible exact Mg.out | with_reducible refine row_later2 ?_ _ _ | with_reducible refine Row.later ?_ _)); done)).mono ?_); rintro _ _ ⟨rfl, p, rfl⟩) | (go_at_call 10; have _t := tok6; clear _t tok6; (first | (refine calls_rebase (fun q' p' h' => ?_); replace HOw := Lib.hid (own_to h' HOw.out); replace Mg := Lib.hid (row_to h' Mg.out); clear h') | skip); (with_reducible refine (m_toRecordS A0 n0 c0 x0 _ HN0.out hle0 (by (repeat (first | with_reducible exact HA0.out | with_reducible refine Row.later ?_ _ | with_reducible refine Row.alloc ?_ _)); done)).mono ?_); rintro _ w2 ⟨Ay0, ny0, cy0, rfl, hl, hcy0, hmy0, hO, p2, hp⟩; unfold maxLen at hmy0; have HLy0 := Lib.hid hl; have HOy0 := Lib.hid hO; clear hl hO; have hby0 : ny0 ≤ 1048576 := (by rw [← HLy0.out]; exact (by rw [HN0.out]; exact hle0)); have Hlwy0 := Lib.hid (Lt.of_row lenR (by decide) HOw.out.row HLw.out); replace HOw := Lib.hid (own_to hp HOw.out); replace Mg := Lib.hid (row_to hp Mg.out); obtain ⟨q2, hq⟩ := later_fold hp; clear hp; subst hq) | (go_at_call 11; have _t := tok7; clear _t tok7; (first | (refine calls_rebase (fun q' p' h' => ?_); replace HOw := Lib.hid (own_to h' HOw.out); replace Mg := Lib.hid (row_to h' Mg.out); replace HOy0 := Lib.hid (own_to h' HOy0.out); clear h') | skip); (with_reducible refine (m_iOfEpoch _ ny0 _ x0 ep _ _ HLy0.out (by omega) HOy0.out.row HRR.out).mono ?_); rintro _ w2 ⟨Ah, nh, ch, rfl, hl, hch, hmh, hO, p2, hp⟩; unfold maxLen at hmh; have HLh := Lib.hid hl; have HOh := Lib.hid hO; clear hl hO; have hbh : nh ≤ 4194304 := (by rw [← HLh.out]; exact HR.out); have Hlwh := Lib.hid (Lt.of_row lenR (by decide) HOw.out.row HLw.out); have Hly0h := Lib.hid (Lt.of_row lenR (by decide) HOy0.out.row HLy0.out); replace HOw := Lib.hid (own_to hp HOw.out); replace Mg := Lib.hid (row_to hp Mg.out); replace HOy0 := Lib.hid (own_to hp HOy0.out); obtain ⟨q2, hq⟩ := later_fold hp; clear hp; subst hq) | (go_at_call 12; (with_reducible refine (c_eqRecordS _ _ _ _ _ _ _ _ _ HLh.out HLw.out (by omega) (by omega) (by (repeat (first | with_reducible exact HOh.out.row | with_reducible refine row_later2 ?_ _ _ | with_reducible refine Row.later ?_ _)); done) (by (repeat (first | with_reducible exact HOw.out.row | with_reducible refine row_later2 ?_ _ _ | with_reducible refine Row.later ?_ _)); done)).mono ?_); rintro _ _ ⟨rfl, p, rfl⟩) | ((with_reducible refine wp_region_later (by kernel_rfl) (by kernel_rfl) ?_); (repeat (first | go_big_quiet_skip | quiet_step ((fail)))); refine wpQuiet_nil ?_; rintro _ ⟨p, rfl⟩))
    all_goals
      go_ret
      exact Gives.mk (by first | rfl | simp) (by (repeat (first | with_reducible exact Below.refl _ _ | with_reducible assumption | with_reducible refine Below.drew ?_ | with_reducible refine below_drewN ?_ _ | with_reducible exact HQ.out | with_reducible exact HBW.out | with_reducible refine below_ext ?_ _ _ | with_reducible refine below_then_later ?_ (by first | with_reducible exact Nat.le_refl _ | with_reducible exact HBW.out.size | with_reducible exact HQ.out.size | omega | (simp; done) | (simp; omega) | (simp [later_size]; done) | (simp [later_size]; omega)) _ | with_reducible refine Below.setCell ?_ (by first | with_reducible exact Nat.le_refl _ | with_reducible exact HBW.out.size | with_reducible exact HQ.out.size | omega | (simp; done) | (simp; omega) | (simp [later_size]; done) | (simp [later_size]; omega)) _ | with_reducible refine Below.alloc ?_ (by first | with_reducible exact Nat.le_refl _ | with_reducible exact HBW.out.size | with_reducible exact HQ.out.size | omega | (simp; done) | (simp; omega) | (simp [later_size]; done) | (simp [later_size]; omega)) _)))
  · go_enter Try.func3, Try.ntmps3
    go_wp2_with (first | (go_at_call 8; (first | (refine (c_szRecordS_ok _ _ _ _ _ (by omega) (by omega)).mono ?_) | (refine (c_szRecordS_big _ _ _ _ _ (by omega) (by omega) (by omega) (by omega)).mono ?_)); rintro _ _ ⟨rfl, p, rfl⟩) | ((with_reducible refine wp_region_later (by kernel_rfl) (by kernel_rfl) ?_); (repeat (first | go_big_quiet_skip | quiet_step ((first | (go_at_call 8; first | exact calls_later (c_szRecordS_ok _ _ _ _ _ (by omega) (by omega)) | exact calls_later2 (c_szRecordS_ok _ _ _ _ _ (by omega) (by omega)) | exact calls_later (c_szRecordS_big _ _ _ _ _ (by omega) (by omega) (by omega) (by omega)) | exact calls_later2 (c_szRecordS_big _ _ _ _ _ (by omega) (by omega) (by omega) (by omega))))))); refine wpQuiet_nil ?_; rintro _ ⟨p, rfl⟩))
    all_goals
      go_ret
      exact Gives.mk (by first | rfl | simp) (by (repeat (first | with_reducible exact Below.refl _ _ | with_reducible assumption | with_reducible refine Below.drew ?_ | with_reducible refine below_drewN ?_ _ | with_reducible exact HQ.out | with_reducible exact HBW.out | with_reducible refine below_ext ?_ _ _ | with_reducible refine below_then_later ?_ (by first | with_reducible exact Nat.le_refl _ | with_reducible exact HBW.out.size | with_reducible exact HQ.out.size | omega | (simp; done) | (simp; omega) | (simp [later_size]; done) | (simp [later_size]; omega)) _ | with_reducible refine Below.setCell ?_ (by first | with_reducible exact Nat.le_refl _ | with_reducible exact HBW.out.size | with_reducible exact HQ.out.size | omega | (simp; done) | (simp; omega) | (simp [later_size]; done) | (simp [later_size]; omega)) _ | with_reducible refine Below.alloc ?_ (by first | with_reducible exact Nat.le_refl _ | with_reducible exact HBW.out.size | with_reducible exact HQ.out.size | omega | (simp; done) | (simp; omega) | (simp [later_size]; done) | (simp [later_size]; omega)) _)))


set_option maxRecDepth 100000 in
theorem liftedFnExactOfEpoch (os : Os) (started : os.Started) (H : Type) (enc : TypeId × Value → H) :
    ReturnsInHanded {} Try.checked os 3 .any (Rows.fnExactOfEpochSpec.pre6 enc Try.prog Try.f3 Rows.fnExactOfEpochRow.domain false) (Rows.fnExactOfEpochSpec.post enc Try.prog Try.f3 false true false false) := by
  refine returnsInHanded_of_change (C := Try.checked) own started (by kernel_rfl) Try.func3
    (ChangeSpec.witness6 (enc := enc) (C := Try.checked) false ⟨#[], #[.slice Option.none 0 0, .int .i64 0], []⟩ 8 (by as_aux_lemma => kernel_rfl) (by as_aux_lemma => kernel_rfl) (by as_aux_lemma => kernel_rfl) (by as_aux_lemma => kernel_rfl)) ?_
  intro W base args ds gs before hval0 hW0 _ _
  have hval : ∀ (j : Nat) t v, Try.f3.params[j]? = some t → args[j]? = some v → Value.okWide Try.prog W .any base t v := hval0
  have hW : DataW.Whole enc Try.prog Try.f3.params.toList Rows.fnExactOfEpochSpec.vars false W args.toList ds gs before := hW0
  obtain ⟨p, q, hA0, hV, hpq, hfz, hnd⟩ := id hW
  have hA : DataW.TrodAll enc Try.prog W 0 (fun _ => true) true Try.f3.params.toList args.toList ds p := hA0
  rw [Try.params3] at hA hval
  obtain ⟨v0, vs0, d0, ds0, p0, q0, hargs, rfl, rfl, h0, r0⟩ := trodAll_cons hA
  obtain ⟨v1, vs1, d1, ds1, p1, q1, rfl, rfl, rfl, h1, r1⟩ := trodAll_cons r0
  obtain ⟨rfl, rfl, rfl⟩ := trodAll_nil r1
  obtain rfl : args = #[v0, v1] := by cases args; simp_all
  obtain ⟨rfl, rfl⟩ := trodVars_none hV
  obtain ⟨A0, n0, cap0, x0, rfl, hn0, hc0, hm0, hr0, hw0⟩ := open_recs Try.underlying22 Try.underlying45 Try.underlying43 Try.underlying3 ⟨rfl, rfl, rfl, rfl, rfl, rfl⟩ ⟨rfl, rfl, rfl, rfl, rfl, rfl⟩ ⟨by kernel_rfl, by kernel_rfl, by kernel_rfl⟩ (hval 0 22 v0 rfl rfl) h0
  obtain ⟨a1, rfl, rfl, rfl, wf1⟩ := open_int Try.underlying3 (hval 1 3 v1 rfl rfl) h1
  have w1 := i64_of_wf wf1
  refine (w_OfEpoch A0 n0 cap0 x0 hn0 (by unfold maxLen at hm0; omega) a1 W hr0).mono fun e W' hg => ?_
  obtain ⟨he, hb⟩ := hg.below
  exact ⟨_, he, law_post laidOut rfl (by kernel_rfl) Try.underlying4 (by kernel_rfl) hW rfl hb⟩

set_option maxHeartbeats 3200000 in
theorem closedFnExactOfEpoch : joinedFacts Try.checked.prog 3 Try.f3 Rows.fnExactOfEpochSpec Rows.fnExactOfEpochRow = true := by
  unfold joinedFacts
  repeat' (with_reducible refine and_mk ?_ ?_)
  all_goals (as_aux_lemma => kernel_rfl)
theorem namedFnExactOfEpoch : Try.checked.prog.funcNamed Rows.fnExactOfEpochRow.func = some 3 := by as_aux_lemma => kernel_rfl
theorem instFnExactOfEpoch : Try.f3.isInstance Try.checked.prog Rows.fnExactOfEpochRow.origin Rows.fnExactOfEpochRow.targs := of_decide_eq_true (by as_aux_lemma => kernel_rfl)
theorem wrapFnExactOfEpoch : Try.f3.isWrapper Try.checked.prog Rows.fnExactOfEpochRow.wrapper Rows.fnExactOfEpochRow.mainSum := by unfold Func.isWrapper; first | (rw [if_pos (by decide +kernel)]; kernel_rfl) | (rw [if_neg (by decide +kernel)]; exact ⟨rfl, rfl⟩)
theorem holdsFnExactOfEpoch : Rows.FnExactOfEpochSaid :=
  OpenClaim.holds_of_wide 3 Try.f3 rfl rfl rfl rfl rfl rfl rfl ⟨rfl, rfl, rfl, rfl, rfl⟩ rfl rfl rfl rfl rfl namedFnExactOfEpoch Try.func3 closedFnExactOfEpoch instFnExactOfEpoch wrapFnExactOfEpoch
    (fun os started H enc _ => liftedFnExactOfEpoch os started H enc)
end Go.Proofs.Ytljdinbpmakliaa
