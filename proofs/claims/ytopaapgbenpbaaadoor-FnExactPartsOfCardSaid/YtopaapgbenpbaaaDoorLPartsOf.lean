/-
  The law FnExactPartsOf returns true for every input, and its argument reads afterwards as before; the listed variables of the library are tied to the program's text. Conditions: none.
-/
import Derived.Test.YtopaapgbenpbaaaDoorPof
import Derived.Test.YtopaapgbenpbaaaDoorTab
import Derived.Test.YtopaapgbenpbaaaDoorLaw
import Derived.Test.YtopaapgbenpbaaaDoorAnchor
namespace Go.Proofs.YtopaapgbenpbaaaDoor
open Go.ChangeShapes Go.WideShapes Go.ChangeAt Go.RowKit Go.Deep Go.Joins
set_option linter.unusedVariables false
theorem g_int {P : Program} {f : FuncId} {args : Array Value} {w : World} {x y : Int} (hc : Calls P f args w (Gives (.int .i64 x) w)) (h : x = y) : Calls P f args w (Gives (.int .i64 y) w) := by subst h; exact hc

set_option maxHeartbeats 3200000 in
theorem w_PartsOf (s : ByteArray) (w : World) (hs : s.size ≤ 9223372036854775807) (ht : TabS w) : Calls Tryd.prog 3 #[.string s] w (Gives (.bool true) w) := by
  have HT := Lib.hid ht
  clear ht
  by_cases hbig : 1048576 < s.size
  · go_enter Tryd.func3, Tryd.ntmps3
    go_wp2_with (first | ((with_reducible refine wp_region_later (by kernel_rfl) (by kernel_rfl) ?_); (repeat (first | go_big_quiet_skip | quiet_step ((fail)))); refine wpQuiet_nil ?_; rintro _ ⟨p, rfl⟩))
    go_ret
    exact Gives.mk rfl (by (repeat (first | with_reducible exact Below.refl _ _ | with_reducible assumption | with_reducible refine Below.drew ?_ | with_reducible refine below_drewN ?_ _ | with_reducible exact HQ.out | with_reducible exact HBW.out | with_reducible refine below_ext ?_ _ _ | with_reducible refine below_then_later ?_ (by first | with_reducible exact Nat.le_refl _ | with_reducible exact HBW.out.size | with_reducible exact HQ.out.size | omega | (simp; done) | (simp; omega) | (simp [later_size]; done) | (simp [later_size]; omega)) _ | with_reducible refine Below.setCell ?_ (by first | with_reducible exact Nat.le_refl _ | with_reducible exact HBW.out.size | with_reducible exact HQ.out.size | omega | (simp; done) | (simp; omega) | (simp [later_size]; done) | (simp [later_size]; omega)) _ | with_reducible refine Below.alloc ?_ (by first | with_reducible exact Nat.le_refl _ | with_reducible exact HBW.out.size | with_reducible exact HQ.out.size | omega | (simp; done) | (simp; omega) | (simp [later_size]; done) | (simp [later_size]; omega)) _)))
  · obtain ⟨⟨xs, zz⟩, hP⟩ : ∃ q, parts s = q := ⟨_, rfl⟩
    have hxl : xs.length ≤ 12 := by have h := parts_len s; rwa [hP] at h
    have HP := Lib.hid hP
    clear hP
    go_enter Tryd.func3, Tryd.ntmps3
    have HB := Lib.hid (below_self w)
    go_wp2_with fail
    refine (c_sPartsOf s w (by omega) xs zz HP.out).mono ?_
    rintro _ W1 ⟨Aw, nw, cw, rfl, hlw, hcw, hmw, hOw, p1, hp1⟩
    have qHB := Lib.hid (below_to hp1 HB.out)
    clear HB hp1
    have HB := qHB
    clear qHB
    have hsW1 : w.heap.size ≤ W1.heap.size := HB.out.size
    have HLw := Lib.hid hlw
    have hbw : nw ≤ 12 := by rw [← HLw.out]; exact hxl
    have HRw := Lib.hid (hOw.row)
    have hltw := Lt.of_row lenT (by decide) HRw.out HLw.out
    clear hOw hlw
    go_wp2_with fail
    refine (c_iPartsOf s _ (by omega) (HT.out.on HB.out) xs zz HP.out).mono ?_
    rintro _ W2 ⟨Ag, ng, cg, rfl, hlg, hcg, hmg, hOg, p2, hp2⟩
    have qHB := Lib.hid (below_to hp2 HB.out)
    have qHRw := Lib.hid (row_to hp2 HRw.out)
    clear HB HRw hp2
    have HB := qHB
    clear qHB
    have HRw := qHRw
    clear qHRw
    have hsW2 : w.heap.size ≤ W2.heap.size := HB.out.size
    have HLg := Lib.hid hlg
    have hbg : ng ≤ 12 := by rw [← HLg.out]; exact hxl
    have HOg := Lib.hid (hOg)
    clear hOg hlg
    go_wp2_with fail
    obtain rfl : nw = ng := HLw.out.symm.trans HLg.out
    refine (c_eqStringS Ag Aw _ cg cw xs _ HLg.out (by omega) HOg.out.row (by have h := HRw.out; exact h)).mono ?_
    rintro _ W3 ⟨rfl, p3, hp3⟩
    have qHB := Lib.hid (below_to hp3 HB.out)
    have qHRw := Lib.hid (row_to hp3 HRw.out)
    have qHOg := Lib.hid (own_to hp3 HOg.out)
    clear HB HRw HOg hp3
    have HB := qHB
    clear qHB
    have HRw := qHRw
    clear qHRw
    have HOg := qHOg
    clear qHOg
    have hsW3 : w.heap.size ≤ W3.heap.size := HB.out.size
    go_wp2_with fail
    obtain ⟨M, hM'⟩ : ∃ M : Int, ((1 + nw : Nat) : Int) = M := ⟨_, rfl⟩
    have hM0 : ¬ (M < 0) := by omega
    have HMM := Lib.hid hM'
    clear hM'
    refine (c_markStringS Ag nw cg xs 1 _ HLg.out (by omega) (by omega) (by omega) HOg.out).mono ?_
    rintro _ W4 ⟨he, hg, hM⟩
    rw [HMM.out] at he
    subst he
    have qHB := Lib.hid (below_marked HB.out HOg.out HLg.out hsW1 hg)
    have qHRw := Lib.hid (HRw.out.grown hg (fun b hb e => by have h1 := hltw b (by rwa [HLw.out] at hb); have h2 := HOg.out.low HLg.out e; omega))
    have HM := Lib.hid hM
    clear hM hg HB HRw HOg
    have HB := qHB
    have HRw := qHRw
    clear qHB qHRw
    have hsW4 : w.heap.size ≤ W4.heap.size := HB.out.size
    go_wp2_with fail
    refine (g_int (c_heldStringS Ag nw cg 1 _ (by omega) (by omega) (by omega) HM.out) HMM.out).mono ?_
    rintro _ W5 ⟨rfl, p5, hp5⟩
    have qHB := Lib.hid (below_to hp5 HB.out)
    have qHRw := Lib.hid (row_to hp5 HRw.out)
    have qHM := Lib.hid (row_to hp5 HM.out)
    clear HB HRw HM hp5
    have HB := qHB
    clear qHB
    have HRw := qHRw
    clear qHRw
    have HM := qHM
    clear qHM
    have hsW5 : w.heap.size ≤ W5.heap.size := HB.out.size
    go_wp2_with fail
    refine (c_iPartsOf s _ (by omega) (HT.out.on HB.out) xs zz HP.out).mono ?_
    rintro _ W6 ⟨Ah, nh, ch, rfl, hlh, hch, hmh, hOh, p6, hp6⟩
    have qHB := Lib.hid (below_to hp6 HB.out)
    have qHRw := Lib.hid (row_to hp6 HRw.out)
    have qHM := Lib.hid (row_to hp6 HM.out)
    clear HB HRw HM hp6
    have HB := qHB
    clear qHB
    have HRw := qHRw
    clear qHRw
    have HM := qHM
    clear qHM
    have hsW6 : w.heap.size ≤ W6.heap.size := HB.out.size
    have HLh := Lib.hid hlh
    have hbh : nh ≤ 12 := by rw [← HLh.out]; exact hxl
    have HRh := Lib.hid (hOh.row)
    clear hOh hlh
    go_wp2_with fail
    obtain rfl : nw = nh := HLw.out.symm.trans HLh.out
    refine (c_eqStringS Ah Aw _ ch cw xs _ HLh.out (by omega) HRh.out HRw.out).mono ?_
    rintro _ W7 ⟨rfl, p7, hp7⟩
    have qHB := Lib.hid (below_to hp7 HB.out)
    have qHRw := Lib.hid (row_to hp7 HRw.out)
    have qHM := Lib.hid (row_to hp7 HM.out)
    have qHRh := Lib.hid (row_to hp7 HRh.out)
    clear HB HRw HM HRh hp7
    have HB := qHB
    clear qHB
    have HRw := qHRw
    clear qHRw
    have HM := qHM
    clear qHM
    have HRh := qHRh
    clear qHRh
    have hsW7 : w.heap.size ≤ W7.heap.size := HB.out.size
    go_wp2_with fail
    refine (g_int (c_heldStringS Ag nw cg 1 _ (by omega) (by omega) (by omega) HM.out) HMM.out).mono ?_
    rintro _ W8 ⟨rfl, p8, hp8⟩
    have qHB := Lib.hid (below_to hp8 HB.out)
    have qHRw := Lib.hid (row_to hp8 HRw.out)
    have qHM := Lib.hid (row_to hp8 HM.out)
    have qHRh := Lib.hid (row_to hp8 HRh.out)
    clear HB HRw HM HRh hp8
    have HB := qHB
    clear qHB
    have HRw := qHRw
    clear qHRw
    have HM := qHM
    clear qHM
    have HRh := qHRh
    clear qHRh
    have hsW8 : w.heap.size ≤ W8.heap.size := HB.out.size
    go_wp2_with fail
    go_ret
    exact Gives.mk (ret_bool (by first | rfl | simp)) HB.out

open Go.ChangeShapes Go.WideShapes Go.ChangeAt Go.RowKit Go.Deep Go.Joins in
theorem tabFnExactPartsOf {W : World} (h : laidMetH Tryd.prog Rows.fnExactPartsOfRow.laid W) : TabS W :=
  TabS.mk (laid_tab (show laidMet Tryd.prog Rows.fnExactPartsOfRow.laid W from h) 1 "strings.asciiSpace" .u8 Lib.asciiSpaceTab (by kernel_rfl) (g := 0) (by kernel_rfl) (by kernel_rfl) Tryd.underlying31 Tryd.underlying5 (by kernel_rfl) (by kernel_rfl))
noncomputable def hsFnExactPartsOf : Nat := (World.holding Tryd.prog default ⟨#[], #[], []⟩).heap.size
noncomputable def laidWorldFnExactPartsOf (os : Os) : World := { World.holding Tryd.prog os ⟨#[], #[], []⟩ with heap := (((((World.holding Tryd.prog os ⟨#[], #[], []⟩).heap).modify 1 (fun | .cells _ t fr => .cells #[.pointer (some ⟨hsFnExactPartsOf + 0, 0, Option.none⟩)] t fr | o => o)).modify 0 (fun | .cells _ t fr => .cells #[.int .u8 0, .int .u8 0, .int .u8 0, .int .u8 0, .int .u8 0, .int .u8 0, .int .u8 0, .int .u8 0, .int .u8 0, .int .u8 1, .int .u8 1, .int .u8 1, .int .u8 1, .int .u8 1, .int .u8 0, .int .u8 0, .int .u8 0, .int .u8 0, .int .u8 0, .int .u8 0, .int .u8 0, .int .u8 0, .int .u8 0, .int .u8 0, .int .u8 0, .int .u8 0, .int .u8 0, .int .u8 0, .int .u8 0, .int .u8 0, .int .u8 0, .int .u8 0, .int .u8 1, .int .u8 0, .int .u8 0, .int .u8 0, .int .u8 0, .int .u8 0, .int .u8 0, .int .u8 0, .int .u8 0, .int .u8 0, .int .u8 0, .int .u8 0, .int .u8 0, .int .u8 0, .int .u8 0, .int .u8 0, .int .u8 0, .int .u8 0, .int .u8 0, .int .u8 0, .int .u8 0, .int .u8 0, .int .u8 0, .int .u8 0, .int .u8 0, .int .u8 0, .int .u8 0, .int .u8 0, .int .u8 0, .int .u8 0, .int .u8 0, .int .u8 0, .int .u8 0, .int .u8 0, .int .u8 0, .int .u8 0, .int .u8 0, .int .u8 0, .int .u8 0, .int .u8 0, .int .u8 0, .int .u8 0, .int .u8 0, .int .u8 0, .int .u8 0, .int .u8 0, .int .u8 0, .int .u8 0, .int .u8 0, .int .u8 0, .int .u8 0, .int .u8 0, .int .u8 0, .int .u8 0, .int .u8 0, .int .u8 0, .int .u8 0, .int .u8 0, .int .u8 0, .int .u8 0, .int .u8 0, .int .u8 0, .int .u8 0, .int .u8 0, .int .u8 0, .int .u8 0, .int .u8 0, .int .u8 0, .int .u8 0, .int .u8 0, .int .u8 0, .int .u8 0, .int .u8 0, .int .u8 0, .int .u8 0, .int .u8 0, .int .u8 0, .int .u8 0, .int .u8 0, .int .u8 0, .int .u8 0, .int .u8 0, .int .u8 0, .int .u8 0, .int .u8 0, .int .u8 0, .int .u8 0, .int .u8 0, .int .u8 0, .int .u8 0, .int .u8 0, .int .u8 0, .int .u8 0, .int .u8 0, .int .u8 0, .int .u8 0, .int .u8 0, .int .u8 0, .int .u8 0, .int .u8 0, .int .u8 0, .int .u8 0, .int .u8 0, .int .u8 0, .int .u8 0, .int .u8 0, .int .u8 0, .int .u8 0, .int .u8 0, .int .u8 0, .int .u8 0, .int .u8 0, .int .u8 0, .int .u8 0, .int .u8 0, .int .u8 0, .int .u8 0, .int .u8 0, .int .u8 0, .int .u8 0, .int .u8 0, .int .u8 0, .int .u8 0, .int .u8 0, .int .u8 0, .int .u8 0, .int .u8 0, .int .u8 0, .int .u8 0, .int .u8 0, .int .u8 0, .int .u8 0, .int .u8 0, .int .u8 0, .int .u8 0, .int .u8 0, .int .u8 0, .int .u8 0, .int .u8 0, .int .u8 0, .int .u8 0, .int .u8 0, .int .u8 0, .int .u8 0, .int .u8 0, .int .u8 0, .int .u8 0, .int .u8 0, .int .u8 0, .int .u8 0, .int .u8 0, .int .u8 0, .int .u8 0, .int .u8 0, .int .u8 0, .int .u8 0, .int .u8 0, .int .u8 0, .int .u8 0, .int .u8 0, .int .u8 0, .int .u8 0, .int .u8 0, .int .u8 0, .int .u8 0, .int .u8 0, .int .u8 0, .int .u8 0, .int .u8 0, .int .u8 0, .int .u8 0, .int .u8 0, .int .u8 0, .int .u8 0, .int .u8 0, .int .u8 0, .int .u8 0, .int .u8 0, .int .u8 0, .int .u8 0, .int .u8 0, .int .u8 0, .int .u8 0, .int .u8 0, .int .u8 0, .int .u8 0, .int .u8 0, .int .u8 0, .int .u8 0, .int .u8 0, .int .u8 0, .int .u8 0, .int .u8 0, .int .u8 0, .int .u8 0, .int .u8 0, .int .u8 0, .int .u8 0, .int .u8 0, .int .u8 0, .int .u8 0, .int .u8 0, .int .u8 0, .int .u8 0, .int .u8 0, .int .u8 0, .int .u8 0, .int .u8 0, .int .u8 0, .int .u8 0, .int .u8 0, .int .u8 0, .int .u8 0, .int .u8 0, .int .u8 0, .int .u8 0, .int .u8 0, .int .u8 0, .int .u8 0, .int .u8 0, .int .u8 0, .int .u8 0, .int .u8 0, .int .u8 0] t fr | o => o)).push (.cells #[.slice (some ⟨hsFnExactPartsOf + 1, 0, Option.none⟩) 7 7, .slice Option.none 0 0, .int .i64 2] 44)).push (.cells #[.int .u16 9, .int .u16 13, .int .u16 1, .int .u16 32, .int .u16 133, .int .u16 101, .int .u16 160, .int .u16 5760, .int .u16 5600, .int .u16 8192, .int .u16 8202, .int .u16 1, .int .u16 8232, .int .u16 8233, .int .u16 1, .int .u16 8239, .int .u16 8287, .int .u16 48, .int .u16 12288, .int .u16 12288, .int .u16 1] 47) }
theorem laidMetFnExactPartsOf (os : Os) : laidMet Tryd.prog Rows.fnExactPartsOfRow.laid ((laidWorldFnExactPartsOf os).forCall (fun _ _ => 0) ⟨#[], #[.string ⟨#[]⟩], []⟩).memory := laidMet_of_run' 8 (by kernel_rfl) (by kernel_rfl)
theorem readsFnExactPartsOf (os : Os) {H : Type} (enc : TypeId × Value → H) : ∃ places, DataW.whole enc Tryd.prog ((laidWorldFnExactPartsOf os).forCall (fun _ _ => 0) ⟨#[], #[.string ⟨#[]⟩], []⟩).memory Tryd.f3.params.toList Rows.fnExactPartsOfSpec.vars false (#[.string ⟨#[]⟩] : Array Value).toList 8 = some ([.lit (.string [])], [], places) := ⟨[], by kernel_rfl⟩
set_option maxRecDepth 100000 in
theorem liftedFnExactPartsOf (os : Os) (started : os.Started) (H : Type) (enc : TypeId × Value → H) (F : Stop.Interp) :
    ReturnsInHanded {} Tryd.checked os 3 .any ((OpenSpec.ofChange Rows.fnExactPartsOfSpec).preRow enc Tryd.prog Tryd.f3 Rows.fnExactPartsOfRow.domain false Rows.fnExactPartsOfRow.laid) (((OpenSpec.ofChange Rows.fnExactPartsOfSpec).at F).post enc Tryd.prog Tryd.f3 false true false false) := by
  obtain ⟨places, hx⟩ := readsFnExactPartsOf os enc
  refine returnsInHanded_of_row (C := Tryd.checked) (s := OpenSpec.ofChange Rows.fnExactPartsOfSpec) own started (by kernel_rfl) Tryd.func3
    (witness_row_atRef (enc := enc) (C := Tryd.checked) false (laidWorldFnExactPartsOf os) #[.string ⟨#[]⟩] rfl (by as_aux_lemma => kernel_rfl) (by as_aux_lemma => kernel_rfl) (by as_aux_lemma => kernel_rfl)
      (OpenSpec.preRow_of_cond 8 hx (by kernel_rfl) (fun k hk => by cases hk) (by kernel_rfl) (laidMetFnExactPartsOf os))) ?_
  intro W base args ds gs before hval0 hW0 _ _ _ hL _ _
  have HTAB := tabFnExactPartsOf hL
  have hval : ∀ (j : Nat) t v, Tryd.f3.params[j]? = some t → args[j]? = some v → Value.okWide Tryd.prog W .any base t v := hval0
  have hW : DataW.Whole enc Tryd.prog Tryd.f3.params.toList Rows.fnExactPartsOfSpec.vars false W args.toList ds gs before := hW0
  obtain ⟨p, q, hA0, hV, hpq, hfz, hnd⟩ := id hW
  have hA : DataW.TrodAll enc Tryd.prog W 0 (fun _ => true) true Tryd.f3.params.toList args.toList ds p := hA0
  rw [Tryd.params3] at hA hval
  obtain ⟨v0, vs0, d0, ds0, p0, q0, hargs, rfl, rfl, h0, r0⟩ := trodAll_cons hA
  obtain ⟨rfl, rfl, rfl⟩ := trodAll_nil r0
  obtain rfl : args = #[v0] := by cases args; simp_all
  obtain ⟨rfl, rfl⟩ := trodVars_none hV
  obtain ⟨s0, rfl, rfl, rfl, w0⟩ := Go.ChangeMaps.open_string Tryd.underlying9 (hval 0 9 v0 rfl rfl) h0
  refine (w_PartsOf s0 W w0 HTAB).mono fun e W' hg => ?_
  obtain ⟨he, hb⟩ := hg.below
  exact ⟨_, he, law_post laidOut rfl (by kernel_rfl) Tryd.underlying4 (by kernel_rfl) hW rfl hb⟩

set_option maxHeartbeats 3200000 in
theorem closedFnExactPartsOf : joinedFacts Tryd.checked.prog 3 Tryd.f3 Rows.fnExactPartsOfSpec Rows.fnExactPartsOfRow = true := by
  unfold joinedFacts
  repeat' (with_reducible refine and_mk ?_ ?_)
  all_goals (as_aux_lemma => kernel_rfl)
theorem namedFnExactPartsOf : Tryd.checked.prog.funcNamed Rows.fnExactPartsOfRow.func = some 3 := by as_aux_lemma => kernel_rfl
theorem instFnExactPartsOf : Tryd.f3.isInstance Tryd.checked.prog Rows.fnExactPartsOfRow.origin Rows.fnExactPartsOfRow.targs := of_decide_eq_true (by as_aux_lemma => kernel_rfl)
theorem wrapFnExactPartsOf : Tryd.f3.isWrapper Tryd.checked.prog Rows.fnExactPartsOfRow.wrapper Rows.fnExactPartsOfRow.mainSum := by unfold Func.isWrapper; first | (rw [if_pos (by decide +kernel)]; kernel_rfl) | (rw [if_neg (by decide +kernel)]; exact ⟨rfl, rfl⟩)
set_option maxRecDepth 100000 in
theorem saidFnExactPartsOf : Rows.FnExactPartsOfSaid :=
  OpenClaim.holds_of_cond 3 Tryd.f3 rfl rfl rfl rfl rfl rfl rfl ⟨rfl, rfl, rfl, rfl, rfl⟩ rfl rfl rfl rfl rfl namedFnExactPartsOf Tryd.func3 closedFnExactPartsOf instFnExactPartsOf wrapFnExactPartsOf
    (fun os started H enc _ F => by rw [OpenClaim.pre_eq_preRow]; exact liftedFnExactPartsOf os started H enc F)
set_option maxRecDepth 100000 in
theorem plainFnExactPartsOf (f : FuncId) (fn : Func) (hf : Tryd.pinned.checked.prog.funcNamed "loop.example/g00973/laws.FnExactPartsOf" = some f) (hfn : Tryd.pinned.checked.prog.funcs[f]? = some fn) :
    false = Tryd.pinned.checked.prog.looks [] ∧ ∀ (j : Nat) t, fn.params[j]? = some t → Tryd.pinned.checked.prog.wantsStandIn t = false := by
  obtain rfl : f = 3 := Option.some.inj (namedFnExactPartsOf.symm.trans hf) |>.symm
  obtain rfl : fn = Tryd.f3 := (Option.some.inj (Tryd.func3.symm.trans hfn)).symm
  refine ⟨by kernel_rfl, fun j t ht => ?_⟩
  rw [Tryd.params3] at ht
  have hm := Array.mem_of_getElem? ht
  simp only [List.mem_toArray, List.mem_cons, List.not_mem_nil, or_false] at hm
  obtain rfl := hm
  exact (by kernel_rfl : Tryd.prog.wantsStandIn 9 = false)
set_option maxRecDepth 100000 in
theorem holdsFnExactPartsOf : Rows.FnExactPartsOfCardSaid :=
  Claim7.holds_tied_plain_at .later [] _ _ _ _ saidFnExactPartsOf (fun _ h => by cases h) (by kernel_rfl) (fun _ h => by cases h) fnExactPartsOf_row_tie rfl ⟨rfl, rfl⟩ (by kernel_rfl) rfl plainFnExactPartsOf (by kernel_rfl)
end Go.Proofs.YtopaapgbenpbaaaDoor
