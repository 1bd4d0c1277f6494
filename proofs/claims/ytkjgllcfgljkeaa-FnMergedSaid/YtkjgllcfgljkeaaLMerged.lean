/-
  The law FnMerged returns true for every input, and its argument reads afterwards as before. Conditions: none.
-/
import Derived.Test.YtkjgllcfgljkeaaDrawL2
import Derived.Test.YtkjgllcfgljkeaaOpenB
import Derived.Test.YtkjgllcfgljkeaaScal
import Derived.Test.YtkjgllcfgljkeaaFr
import Derived.Test.YtkjgllcfgljkeaaMinQ
import Derived.Test.YtkjgllcfgljkeaaEq2
namespace Go.Proofs.Ytkjgllcfgljkeaa
open Go.ChangeShapes Go.WideShapes Go.ChangeAt Go.RowKit Go.Deep Go.Joins
set_option linter.unusedVariables false

theorem z_same (A B : Option Addr) (n m c d : Nat) (xs ys : List (Int × Int)) (w : World) (hn : xs.length = n) (hm : ys.length = m) (hn2 : n ≤ 9223372036854775807) (hm2 : m ≤ 9223372036854775807)
    (ha : Row encS 2 w A xs) (hb : Row encS 2 w B ys) (h : xs = ys) : Calls Try.prog 9 #[.slice A n c, .slice B m d] w (Gives (.bool true) w) := by
  have := c_sameStamps A B n m c d xs ys w hn hm hn2 hm2 ha hb
  rwa [decide_eq_true h] at this

set_option maxRecDepth 100000 in
set_option maxHeartbeats 6400000 in
theorem w_Merged (A : Option Addr) (n c : Nat) (xs : List UInt8) (hn : xs.length = n) (w : World) (hr : Row encB 1 w A xs) : Calls Try.prog 4 #[.slice A n c] w (Gives (.bool true) w) := by
  have HR := Lib.hid hr
  have HN := Lib.hid hn
  clear hr hn
  by_cases hbig : 1048576 < n
  · have hz : decide (1048576 < n) = true := by simpa using hbig
    go_enter Try.func4, Try.ntmps4
    go_wp2_with (first | (go_at_call 5; (refine (c_big _ _ _ _ _ hz).mono ?_); rintro _ _ ⟨rfl, p, rfl⟩) | ((with_reducible refine wp_region_later (by kernel_rfl) (by kernel_rfl) ?_); (try dsimp only [List.append]); (repeat (first | go_big_quiet_skip | go_big_quiet_step ((first | (go_at_call 5; first | exact calls_later (c_big _ _ _ _ _ hz) | exact calls_later2 (c_big _ _ _ _ _ hz)))) | quiet_step ((first | (go_at_call 5; first | exact calls_later (c_big _ _ _ _ _ hz) | exact calls_later2 (c_big _ _ _ _ _ hz)))))); refine wpQuiet_nil ?_; rintro _ ⟨p, rfl⟩))
    go_ret
    exact Gives.mk rfl (by (repeat (first | with_reducible exact Below.refl _ _ | with_reducible assumption | with_reducible refine Below.drew ?_ | with_reducible refine below_drewN ?_ _ | with_reducible exact HQ.out | with_reducible exact HBW.out | with_reducible refine below_ext ?_ _ _ | with_reducible refine below_then_later ?_ (by first | with_reducible exact Nat.le_refl _ | with_reducible exact HBW.out.size | with_reducible exact HQ.out.size | omega | (simp; done) | (simp; omega) | (simp [later_size]; done) | (simp [later_size]; omega)) _ | with_reducible refine Below.setCell ?_ (by first | with_reducible exact Nat.le_refl _ | with_reducible exact HBW.out.size | with_reducible exact HQ.out.size | omega | (simp; done) | (simp; omega) | (simp [later_size]; done) | (simp [later_size]; omega)) _ | with_reducible refine Below.alloc ?_ (by first | with_reducible exact Nat.le_refl _ | with_reducible exact HBW.out.size | with_reducible exact HQ.out.size | omega | (simp; done) | (simp; omega) | (simp [later_size]; done) | (simp [later_size]; omega)) _)))
  · have hz : decide (1048576 < n) = false := by simpa using hbig
    go_enter Try.func4, Try.ntmps4
    have HB := Lib.hid (below_self w)
    go_wp2_with fail
    refine (c_big _ _ _ _ _ hz).mono ?_
    rintro _ W1 ⟨rfl, p1, hp1⟩
    have qHB := Lib.hid (below_to hp1 HB.out)
    have qHR := Lib.hid (row_to hp1 HR.out)
    clear HB HR hp1
    have HB := qHB
    clear qHB
    have HR := qHR
    clear qHR
    have hsW1 : w.heap.size ≤ W1.heap.size := HB.out.size
    go_wp2_with fail
    refine (c_drawMergeFronts _ _ _ xs _ HN.out (by omega) HR.out).mono ?_
    rintro _ W2 ⟨A1, n1, c1, xs1, A2, n2, c2, xs2, rfl, hl1, hl2, hn1, hn2, hR1, hR2, p2, hp2⟩
    have qHB := Lib.hid (below_to hp2 HB.out)
    have qHR := Lib.hid (row_to hp2 HR.out)
    clear HB HR hp2
    have HB := qHB
    clear qHB
    have HR := qHR
    clear qHR
    have hsW2 : w.heap.size ≤ W2.heap.size := HB.out.size
    have HR1 := Lib.hid (hR1)
    have HR2 := Lib.hid (hR2)
    have HL1 := Lib.hid hl1
    have HL2 := Lib.hid hl2
    clear hl1 hl2 hR1 hR2
    clear HR
    obtain ⟨X, hX⟩ : ∃ X, minimal (xs1 ++ xs2) = X := ⟨_, rfl⟩
    have HX := Lib.hid hX
    have HX2 := Lib.hid (show minimal (xs2 ++ xs1) = X by rw [merge_comm]; exact hX)
    have HX3 := Lib.hid (show minimal (X ++ xs1) = X by rw [← hX]; exact merge_part (fun s hs => List.mem_append.2 (.inl hs)))
    have hXl : X.length ≤ 10 := by rw [← hX]; have h1 := minimal_len (xs1 ++ xs2); rw [List.length_append, HL1.out, HL2.out] at h1; omega
    obtain ⟨M, hM⟩ : ∃ M, minimal xs1 = M := ⟨_, rfl⟩
    have HM := Lib.hid hM
    have HM2 := Lib.hid (show minimal (M ++ M) = M by rw [← hM]; exact merge_self xs1)
    have hMl : M.length ≤ 5 := by rw [← hM]; have h1 := minimal_len xs1; rw [HL1.out] at h1; omega
    clear hX hM
    go_wp2_with fail
    refine (m_iMergeFronts A1 n1 c1 xs1 A2 n2 c2 xs2 X _ HL1.out HL2.out (by omega) HR1.out HR2.out HX.out).mono ?_
    rintro _ W3 ⟨A3, n3, c3, rfl, hl3, hc3, hm3, hO3, p3, hp3⟩
    have qHB := Lib.hid (below_to hp3 HB.out)
    have qHR1 := Lib.hid (row_to hp3 HR1.out)
    have qHR2 := Lib.hid (row_to hp3 HR2.out)
    clear HB HR1 HR2 hp3
    have HB := qHB
    clear qHB
    have HR1 := qHR1
    clear qHR1
    have HR2 := qHR2
    clear qHR2
    have hsW3 : w.heap.size ≤ W3.heap.size := HB.out.size
    have HR3 := Lib.hid (hO3.row)
    have HL3 := Lib.hid hl3
    clear hO3 hl3
    have hb3 : n3 ≤ 10 := by rw [← HL3.out]; exact hXl
    go_wp2_with fail
    refine (m_iMinimal A1 n1 c1 xs1 M _ HL1.out (by omega) HR1.out HM.out).mono ?_
    rintro _ W4 ⟨A4, n4, c4, rfl, hl4, hc4, hm4, hO4, p4, hp4⟩
    have qHB := Lib.hid (below_to hp4 HB.out)
    have qHR1 := Lib.hid (row_to hp4 HR1.out)
    have qHR2 := Lib.hid (row_to hp4 HR2.out)
    have qHR3 := Lib.hid (row_to hp4 HR3.out)
    clear HB HR1 HR2 HR3 hp4
    have HB := qHB
    clear qHB
    have HR1 := qHR1
    clear qHR1
    have HR2 := qHR2
    clear qHR2
    have HR3 := qHR3
    clear qHR3
    have hsW4 : w.heap.size ≤ W4.heap.size := HB.out.size
    have HR4 := Lib.hid (hO4.row)
    have HL4 := Lib.hid hl4
    clear hO4 hl4
    have hb4 : n4 ≤ 5 := by rw [← HL4.out]; exact hMl
    go_wp2_with fail
    refine (m_iMergeFronts A2 n2 c2 xs2 A1 n1 c1 xs1 X _ HL2.out HL1.out (by omega) HR2.out HR1.out HX2.out).mono ?_
    rintro _ W5 ⟨A5, n5, c5, rfl, hl5, hc5, hm5, hO5, p5, hp5⟩
    have qHB := Lib.hid (below_to hp5 HB.out)
    have qHR1 := Lib.hid (row_to hp5 HR1.out)
    have qHR2 := Lib.hid (row_to hp5 HR2.out)
    have qHR3 := Lib.hid (row_to hp5 HR3.out)
    have qHR4 := Lib.hid (row_to hp5 HR4.out)
    clear HB HR1 HR2 HR3 HR4 hp5
    have HB := qHB
    clear qHB
    have HR1 := qHR1
    clear qHR1
    have HR2 := qHR2
    clear qHR2
    have HR3 := qHR3
    clear qHR3
    have HR4 := qHR4
    clear qHR4
    have hsW5 : w.heap.size ≤ W5.heap.size := HB.out.size
    have HR5 := Lib.hid (hO5.row)
    have HL5 := Lib.hid hl5
    clear hO5 hl5
    have hb5 : n5 ≤ 10 := by rw [← HL5.out]; exact hXl
    go_wp2_with fail
    refine (z_same A3 A5 n3 n5 c3 c5 X X _ HL3.out HL5.out (by omega) (by omega) HR3.out HR5.out rfl).mono ?_
    rintro _ W6 ⟨rfl, p6, hp6⟩
    have qHB := Lib.hid (below_to hp6 HB.out)
    have qHR1 := Lib.hid (row_to hp6 HR1.out)
    have qHR2 := Lib.hid (row_to hp6 HR2.out)
    have qHR3 := Lib.hid (row_to hp6 HR3.out)
    have qHR4 := Lib.hid (row_to hp6 HR4.out)
    have qHR5 := Lib.hid (row_to hp6 HR5.out)
    clear HB HR1 HR2 HR3 HR4 HR5 hp6
    have HB := qHB
    clear qHB
    have HR1 := qHR1
    clear qHR1
    have HR2 := qHR2
    clear qHR2
    have HR3 := qHR3
    clear qHR3
    have HR4 := qHR4
    clear qHR4
    have HR5 := qHR5
    clear qHR5
    have hsW6 : w.heap.size ≤ W6.heap.size := HB.out.size
    go_wp2_with fail
    refine (m_iMergeFronts A4 n4 c4 M A4 n4 c4 M M _ HL4.out HL4.out (by omega) HR4.out HR4.out HM2.out).mono ?_
    rintro _ W7 ⟨A6, n6, c6, rfl, hl6, hc6, hm6, hO6, p7, hp7⟩
    have qHB := Lib.hid (below_to hp7 HB.out)
    have qHR1 := Lib.hid (row_to hp7 HR1.out)
    have qHR2 := Lib.hid (row_to hp7 HR2.out)
    have qHR3 := Lib.hid (row_to hp7 HR3.out)
    have qHR4 := Lib.hid (row_to hp7 HR4.out)
    have qHR5 := Lib.hid (row_to hp7 HR5.out)
    clear HB HR1 HR2 HR3 HR4 HR5 hp7
    have HB := qHB
    clear qHB
    have HR1 := qHR1
    clear qHR1
    have HR2 := qHR2
    clear qHR2
    have HR3 := qHR3
    clear qHR3
    have HR4 := qHR4
    clear qHR4
    have HR5 := qHR5
    clear qHR5
    have hsW7 : w.heap.size ≤ W7.heap.size := HB.out.size
    have HR6 := Lib.hid (hO6.row)
    have HL6 := Lib.hid hl6
    clear hO6 hl6
    have hb6 : n6 ≤ 5 := by rw [← HL6.out]; exact hMl
    go_wp2_with fail
    refine (z_same A6 A4 n6 n4 c6 c4 M M _ HL6.out HL4.out (by omega) (by omega) HR6.out HR4.out rfl).mono ?_
    rintro _ W8 ⟨rfl, p8, hp8⟩
    have qHB := Lib.hid (below_to hp8 HB.out)
    have qHR1 := Lib.hid (row_to hp8 HR1.out)
    have qHR2 := Lib.hid (row_to hp8 HR2.out)
    have qHR3 := Lib.hid (row_to hp8 HR3.out)
    have qHR4 := Lib.hid (row_to hp8 HR4.out)
    have qHR5 := Lib.hid (row_to hp8 HR5.out)
    have qHR6 := Lib.hid (row_to hp8 HR6.out)
    clear HB HR1 HR2 HR3 HR4 HR5 HR6 hp8
    have HB := qHB
    clear qHB
    have HR1 := qHR1
    clear qHR1
    have HR2 := qHR2
    clear qHR2
    have HR3 := qHR3
    clear qHR3
    have HR4 := qHR4
    clear qHR4
    have HR5 := qHR5
    clear qHR5
    have HR6 := qHR6
    clear qHR6
    have hsW8 : w.heap.size ≤ W8.heap.size := HB.out.size
    go_wp2_with fail
    refine (m_iMergeFronts A3 n3 c3 X A1 n1 c1 xs1 X _ HL3.out HL1.out (by omega) HR3.out HR1.out HX3.out).mono ?_
    rintro _ W9 ⟨A7, n7, c7, rfl, hl7, hc7, hm7, hO7, p9, hp9⟩
    have qHB := Lib.hid (below_to hp9 HB.out)
    have qHR1 := Lib.hid (row_to hp9 HR1.out)
    have qHR2 := Lib.hid (row_to hp9 HR2.out)
    have qHR3 := Lib.hid (row_to hp9 HR3.out)
    have qHR4 := Lib.hid (row_to hp9 HR4.out)
    have qHR5 := Lib.hid (row_to hp9 HR5.out)
    have qHR6 := Lib.hid (row_to hp9 HR6.out)
    clear HB HR1 HR2 HR3 HR4 HR5 HR6 hp9
    have HB := qHB
    clear qHB
    have HR1 := qHR1
    clear qHR1
    have HR2 := qHR2
    clear qHR2
    have HR3 := qHR3
    clear qHR3
    have HR4 := qHR4
    clear qHR4
    have HR5 := qHR5
    clear qHR5
    have HR6 := qHR6
    clear qHR6
    have hsW9 : w.heap.size ≤ W9.heap.size := HB.out.size
    have HR7 := Lib.hid (hO7.row)
    have HL7 := Lib.hid hl7
    clear hO7 hl7
    have hb7 : n7 ≤ 10 := by rw [← HL7.out]; exact hXl
    go_wp2_with fail
    refine (z_same A7 A3 n7 n3 c7 c3 X X _ HL7.out HL3.out (by omega) (by omega) HR7.out HR3.out rfl).mono ?_
    rintro _ W10 ⟨rfl, p10, hp10⟩
    have qHB := Lib.hid (below_to hp10 HB.out)
    have qHR1 := Lib.hid (row_to hp10 HR1.out)
    have qHR2 := Lib.hid (row_to hp10 HR2.out)
    have qHR3 := Lib.hid (row_to hp10 HR3.out)
    have qHR4 := Lib.hid (row_to hp10 HR4.out)
    have qHR5 := Lib.hid (row_to hp10 HR5.out)
    have qHR6 := Lib.hid (row_to hp10 HR6.out)
    have qHR7 := Lib.hid (row_to hp10 HR7.out)
    clear HB HR1 HR2 HR3 HR4 HR5 HR6 HR7 hp10
    have HB := qHB
    clear qHB
    have HR1 := qHR1
    clear qHR1
    have HR2 := qHR2
    clear qHR2
    have HR3 := qHR3
    clear qHR3
    have HR4 := qHR4
    clear qHR4
    have HR5 := qHR5
    clear qHR5
    have HR6 := qHR6
    clear qHR6
    have HR7 := qHR7
    clear qHR7
    have hsW10 : w.heap.size ≤ W10.heap.size := HB.out.size
    clear HR1
    clear HR2
    clear HR3
    clear HR4
    clear HR5
    clear HR6
    clear HR7
    go_wp2_with fail
    refine (m_iMergeFronts _ 1 _ [(1, 0)] _ 1 _ [(0, 1)] [(0, 1), (1, 0)] _ rfl rfl (by omega) ((row_oneS (1, 0) _ _ _ (by first | rfl | (simp; done))).alloc _) (row_oneS (0, 1) _ _ _ (by first | rfl | (simp; done))) merged_one).mono ?_
    rintro _ W11 ⟨A8, n8, c8, rfl, hl8, hc8, hm8, hO8, p11, hp11⟩
    have qHB := Lib.hid (below_to hp11 ((HB.out.alloc (Nat.le_trans HB.out.size (by first | exact Nat.le_refl _ | (simp; done) | (simp; omega))) _).alloc (Nat.le_trans HB.out.size (by first | exact Nat.le_refl _ | (simp; done) | (simp; omega))) _))
    clear HB hp11
    have HB := qHB
    clear qHB
    have hsW11 : w.heap.size ≤ W11.heap.size := HB.out.size
    have HR8 := Lib.hid (hO8.row)
    have HL8 := Lib.hid hl8
    clear hO8 hl8
    obtain rfl : 2 = n8 := HL8.out
    go_wp2_with fail
    refine (z_same A8 _ 2 2 c8 2 [(0, 1), (1, 0)] [(0, 1), (1, 0)] _ rfl rfl (by omega) (by omega) (HR8.out.alloc _) (row_newS _ [(0, 1), (1, 0)] _) rfl).mono ?_
    rintro _ W12 ⟨rfl, p12, hp12⟩
    have qHB := Lib.hid (below_to hp12 (HB.out.alloc (Nat.le_trans HB.out.size (by first | exact Nat.le_refl _ | (simp; done) | (simp; omega))) _))
    have qHR8 := Lib.hid (row_to hp12 (HR8.out.alloc _))
    clear HB HR8 hp12
    have HB := qHB
    clear qHB
    have HR8 := qHR8
    clear qHR8
    have hsW12 : w.heap.size ≤ W12.heap.size := HB.out.size
    go_wp2_with fail
    go_ret
    exact Gives.mk (ret_bool (by first | rfl | simp)) HB.out


set_option maxRecDepth 100000 in
theorem liftedFnMerged (os : Os) (started : os.Started) (H : Type) (enc : TypeId × Value → H) :
    ReturnsInHanded {} Try.checked os 4 .any (Rows.fnMergedSpec.pre6 enc Try.prog Try.f4 Rows.fnMergedRow.domain false) (Rows.fnMergedSpec.post enc Try.prog Try.f4 false true false false) := by
  refine returnsInHanded_of_change (C := Try.checked) own started (by kernel_rfl) Try.func4
    (ChangeSpec.witness6 (enc := enc) (C := Try.checked) false ⟨#[], #[.slice Option.none 0 0], []⟩ 8 (by as_aux_lemma => kernel_rfl) (by as_aux_lemma => kernel_rfl) (by as_aux_lemma => kernel_rfl) (by as_aux_lemma => kernel_rfl)) ?_
  intro W base args ds gs before hval0 hW0 _ _
  have hval : ∀ (j : Nat) t v, Try.f4.params[j]? = some t → args[j]? = some v → Value.okWide Try.prog W .any base t v := hval0
  have hW : DataW.Whole enc Try.prog Try.f4.params.toList Rows.fnMergedSpec.vars false W args.toList ds gs before := hW0
  obtain ⟨p, q, hA0, hV, hpq, hfz, hnd⟩ := id hW
  have hA : DataW.TrodAll enc Try.prog W 0 (fun _ => true) true Try.f4.params.toList args.toList ds p := hA0
  rw [Try.params4] at hA hval
  obtain ⟨v0, vs0, d0, ds0, p0, q0, hargs, rfl, rfl, h0, r0⟩ := trodAll_cons hA
  obtain ⟨rfl, rfl, rfl⟩ := trodAll_nil r0
  obtain rfl : args = #[v0] := by cases args; simp_all
  obtain ⟨rfl, rfl⟩ := trodVars_none hV
  obtain ⟨A0, n0, cap0, x0, rfl, hn0, hc0, hm0, hr0, -⟩ := open_bytes Try.underlying22 Try.underlying5 (by kernel_rfl) (hval 0 22 v0 rfl rfl) h0
  refine (w_Merged A0 n0 cap0 x0 hn0 W hr0).mono fun e W' hg => ?_
  obtain ⟨he, hb⟩ := hg.below
  exact ⟨_, he, law_post laidOut rfl (by kernel_rfl) Try.underlying4 (by kernel_rfl) hW rfl hb⟩

set_option maxHeartbeats 3200000 in
theorem closedFnMerged : joinedFacts Try.checked.prog 4 Try.f4 Rows.fnMergedSpec Rows.fnMergedRow = true := by
  unfold joinedFacts
  repeat' (with_reducible refine and_mk ?_ ?_)
  all_goals (as_aux_lemma => kernel_rfl)
theorem namedFnMerged : Try.checked.prog.funcNamed Rows.fnMergedRow.func = some 4 := by as_aux_lemma => kernel_rfl
theorem instFnMerged : Try.f4.isInstance Try.checked.prog Rows.fnMergedRow.origin Rows.fnMergedRow.targs := of_decide_eq_true (by as_aux_lemma => kernel_rfl)
theorem wrapFnMerged : Try.f4.isWrapper Try.checked.prog Rows.fnMergedRow.wrapper Rows.fnMergedRow.mainSum := by unfold Func.isWrapper; first | (rw [if_pos (by decide +kernel)]; kernel_rfl) | (rw [if_neg (by decide +kernel)]; exact ⟨rfl, rfl⟩)
theorem holdsFnMerged : Rows.FnMergedSaid :=
  OpenClaim.holds_of_wide 4 Try.f4 rfl rfl rfl rfl rfl rfl rfl ⟨rfl, rfl, rfl, rfl, rfl⟩ rfl rfl rfl rfl rfl namedFnMerged Try.func4 closedFnMerged instFnMerged wrapFnMerged
    (fun os started H enc _ => liftedFnMerged os started H enc)
end Go.Proofs.Ytkjgllcfgljkeaa
