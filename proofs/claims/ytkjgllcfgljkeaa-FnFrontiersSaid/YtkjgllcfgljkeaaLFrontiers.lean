/-
  The law FnFrontiers returns true for every input, and its argument reads afterwards as before. Conditions: none.
-/
import Derived.Test.YtkjgllcfgljkeaaDrawL2
import Derived.Test.YtkjgllcfgljkeaaOpenB
import Derived.Test.YtkjgllcfgljkeaaScal
import Derived.Test.YtkjgllcfgljkeaaFr
import Derived.Test.YtkjgllcfgljkeaaMinQ
import Derived.Test.YtkjgllcfgljkeaaEq2
namespace Go.Proofs.Ytkjgllcfgljkeaa
open Go.ChangeShapes Go.WideShapes Go.ChangeAt Go.RowKit Go.Deep Go.Joins
set_option linter.unusedVariables false

theorem z_same (A B : Option Addr) (n m c d : Nat) (xs ys : List (Int × Int)) (w : World) (hn : xs.length = n) (hm : ys.length = m) (hn2 : n ≤ 9223372036854775807) (hm2 : m ≤ 9223372036854775807)
    (ha : Row encS 2 w A xs) (hb : Row encS 2 w B ys) (h : xs = ys) : Calls Try.prog 9 #[.slice A n c, .slice B m d] w (Gives (.bool true) w) := by
  have := c_sameStamps A B n m c d xs ys w hn hm hn2 hm2 ha hb
  rwa [decide_eq_true h] at this
theorem g_bool {P : Program} {f : FuncId} {args : Array Value} {w : World} {x y : Bool} (hc : Calls P f args w (Gives (.bool x) w)) (h : x = y) : Calls P f args w (Gives (.bool y) w) := by subst h; exact hc

set_option maxRecDepth 100000 in
set_option maxHeartbeats 6400000 in
theorem w_Frontiers (A : Option Addr) (n c : Nat) (xs : List UInt8) (hn : xs.length = n) (w : World) (hr : Row encB 1 w A xs) : Calls Try.prog 3 #[.slice A n c] w (Gives (.bool true) w) := by
  have HR := Lib.hid hr
  have HN := Lib.hid hn
  clear hr hn
  by_cases hbig : 1048576 < n
  · have hz : decide (1048576 < n) = true := by simpa using hbig
    go_enter Try.func3, Try.ntmps3
    go_wp2_with (first | (go_at_call 5; (refine (c_big _ _ _ _ _ hz).mono ?_); rintro _ _ ⟨rfl, p, rfl⟩) | ((with_reducible refine wp_region_later (by kernel_rfl) (by kernel_rfl) ?_); (try dsimp only [List.append]); (repeat (first | go_big_quiet_skip | go_big_quiet_step ((first | (go_at_call 5; first | exact calls_later (c_big _ _ _ _ _ hz) | exact calls_later2 (c_big _ _ _ _ _ hz)))) | quiet_step ((first | (go_at_call 5; first | exact calls_later (c_big _ _ _ _ _ hz) | exact calls_later2 (c_big _ _ _ _ _ hz)))))); refine wpQuiet_nil ?_; rintro _ ⟨p, rfl⟩))
    go_ret
    exact Gives.mk rfl (by (repeat (first | with_reducible exact Below.refl _ _ | with_reducible assumption | with_reducible refine Below.drew ?_ | with_reducible refine below_drewN ?_ _ | with_reducible exact HQ.out | with_reducible exact HBW.out | with_reducible refine below_ext ?_ _ _ | with_reducible refine below_then_later ?_ (by first | with_reducible exact Nat.le_refl _ | with_reducible exact HBW.out.size | with_reducible exact HQ.out.size | omega | (simp; done) | (simp; omega) | (simp [later_size]; done) | (simp [later_size]; omega)) _ | with_reducible refine Below.setCell ?_ (by first | with_reducible exact Nat.le_refl _ | with_reducible exact HBW.out.size | with_reducible exact HQ.out.size | omega | (simp; done) | (simp; omega) | (simp [later_size]; done) | (simp [later_size]; omega)) _ | with_reducible refine Below.alloc ?_ (by first | with_reducible exact Nat.le_refl _ | with_reducible exact HBW.out.size | with_reducible exact HQ.out.size | omega | (simp; done) | (simp; omega) | (simp [later_size]; done) | (simp [later_size]; omega)) _)))
  · have hz : decide (1048576 < n) = false := by simpa using hbig
    go_enter Try.func3, Try.ntmps3
    have HB := Lib.hid (below_self w)
    go_wp2_with fail
    refine (c_big _ _ _ _ _ hz).mono ?_
    rintro _ W1 ⟨rfl, p1, hp1⟩
    have qHB := Lib.hid (below_to hp1 HB.out)
    have qHR := Lib.hid (row_to hp1 HR.out)
    clear HB HR hp1
    have HB := qHB
    clear qHB
    have HR := qHR
    clear qHR
    have hsW1 : w.heap.size ≤ W1.heap.size := HB.out.size
    go_wp2_with fail
    refine (c_drawMergeFronts _ _ _ xs _ HN.out (by omega) HR.out).mono ?_
    rintro _ W2 ⟨A1, n1, c1, xs1, A2, n2, c2, xs2, rfl, hl1, hl2, hn1, hn2, hR1, hR2, p, hp⟩
    have qHB := Lib.hid (below_to hp HB.out)
    have qHR := Lib.hid (row_to hp HR.out)
    clear HB HR hp
    have HB := qHB
    clear qHB
    have HR := qHR
    clear qHR
    have hsW2 : w.heap.size ≤ W2.heap.size := HB.out.size
    have HR1 := Lib.hid (hR1)
    have HL1 := Lib.hid hl1
    clear hl1 hR1
    have HR2 := Lib.hid (hR2)
    have HL2 := Lib.hid hl2
    clear hl2 hR2
    obtain ⟨X, hX⟩ : ∃ X, minimal (xs1 ++ xs2) = X := ⟨_, rfl⟩
    have HX := Lib.hid hX
    have hXl : X.length ≤ 10 := by rw [← hX]; have h1 := minimal_len (xs1 ++ xs2); rw [List.length_append, HL1.out, HL2.out] at h1; omega
    have HXA := Lib.hid (show (!xs1.any (notAhead X)) = true by rw [← hX, all_ahead (fun s hs => List.mem_append.2 (.inl hs))]; rfl)
    have HXB := Lib.hid (show (!xs2.any (notAhead X)) = true by rw [← hX, all_ahead (fun s hs => List.mem_append.2 (.inr hs))]; rfl)
    obtain ⟨M, hM⟩ : ∃ M, minimal xs1 = M := ⟨_, rfl⟩
    have HM := Lib.hid hM
    have HM2 := Lib.hid (show minimal M = M by rw [← hM]; exact minimal_idem xs1)
    have hMl : M.length ≤ 5 := by rw [← hM]; have h1 := minimal_len xs1; rw [HL1.out] at h1; omega
    clear hX hM
    go_wp2_with fail
    refine (m_iMergeFronts A1 n1 c1 xs1 A2 n2 c2 xs2 X _ HL1.out HL2.out (by omega) HR1.out HR2.out HX.out).mono ?_
    rintro _ W3 ⟨A3, n3, c3, rfl, hl3, hc3, hm3, hO3, p3, hp3⟩
    have qHB := Lib.hid (below_to hp3 HB.out)
    have qHR := Lib.hid (row_to hp3 HR.out)
    have qHR1 := Lib.hid (row_to hp3 HR1.out)
    have qHR2 := Lib.hid (row_to hp3 HR2.out)
    clear HB HR HR1 HR2 hp3
    have HB := qHB
    clear qHB
    have HR := qHR
    clear qHR
    have HR1 := qHR1
    clear qHR1
    have HR2 := qHR2
    clear qHR2
    have hsW3 : w.heap.size ≤ W3.heap.size := HB.out.size
    have HR3 := Lib.hid (hO3.row)
    have HL3 := Lib.hid hl3
    clear hO3 hl3
    have hb3 : n3 ≤ 10 := by rw [← HL3.out]; exact hXl
    go_wp2_with fail
    refine (m_iMinimal A1 n1 c1 xs1 M _ HL1.out (by omega) HR1.out HM.out).mono ?_
    rintro _ W4 ⟨A4, n4, c4, rfl, hl4, hc4, hm4, hO4, p4, hp4⟩
    have qHB := Lib.hid (below_to hp4 HB.out)
    have qHR := Lib.hid (row_to hp4 HR.out)
    have qHR1 := Lib.hid (row_to hp4 HR1.out)
    have qHR2 := Lib.hid (row_to hp4 HR2.out)
    have qHR3 := Lib.hid (row_to hp4 HR3.out)
    clear HB HR HR1 HR2 HR3 hp4
    have HB := qHB
    clear qHB
    have HR := qHR
    clear qHR
    have HR1 := qHR1
    clear qHR1
    have HR2 := qHR2
    clear qHR2
    have HR3 := qHR3
    clear qHR3
    have hsW4 : w.heap.size ≤ W4.heap.size := HB.out.size
    have HR4 := Lib.hid (hO4.row)
    have HL4 := Lib.hid hl4
    clear hO4 hl4
    have hb4 : n4 ≤ 5 := by rw [← HL4.out]; exact hMl
    go_wp2_with fail
    refine (m_sMergeFronts A1 n1 c1 xs1 A2 n2 c2 xs2 X _ HL1.out HL2.out (by omega) HR1.out HR2.out HX.out).mono ?_
    rintro _ W5 ⟨A5, n5, c5, rfl, hl5, hc5, hm5, hO5, p5, hp5⟩
    have qHB := Lib.hid (below_to hp5 HB.out)
    have qHR := Lib.hid (row_to hp5 HR.out)
    have qHR1 := Lib.hid (row_to hp5 HR1.out)
    have qHR2 := Lib.hid (row_to hp5 HR2.out)
    have qHR3 := Lib.hid (row_to hp5 HR3.out)
    have qHR4 := Lib.hid (row_to hp5 HR4.out)
    clear HB HR HR1 HR2 HR3 HR4 hp5
    have HB := qHB
    clear qHB
    have HR := qHR
    clear qHR
    have HR1 := qHR1
    clear qHR1
    have HR2 := qHR2
    clear qHR2
    have HR3 := qHR3
    clear qHR3
    have HR4 := qHR4
    clear qHR4
    have hsW5 : w.heap.size ≤ W5.heap.size := HB.out.size
    have HR5 := Lib.hid (hO5.row)
    have HL5 := Lib.hid hl5
    clear hO5 hl5
    have hb5 : n5 ≤ 10 := by rw [← HL5.out]; exact hXl
    go_wp2_with fail
    refine (z_same A3 A5 n3 n5 c3 c5 X X _ HL3.out HL5.out (by omega) (by omega) HR3.out HR5.out rfl).mono ?_
    rintro _ W6 ⟨rfl, p6, hp6⟩
    have qHB := Lib.hid (below_to hp6 HB.out)
    have qHR := Lib.hid (row_to hp6 HR.out)
    have qHR1 := Lib.hid (row_to hp6 HR1.out)
    have qHR2 := Lib.hid (row_to hp6 HR2.out)
    have qHR3 := Lib.hid (row_to hp6 HR3.out)
    have qHR4 := Lib.hid (row_to hp6 HR4.out)
    have qHR5 := Lib.hid (row_to hp6 HR5.out)
    clear HB HR HR1 HR2 HR3 HR4 HR5 hp6
    have HB := qHB
    clear qHB
    have HR := qHR
    clear qHR
    have HR1 := qHR1
    clear qHR1
    have HR2 := qHR2
    clear qHR2
    have HR3 := qHR3
    clear qHR3
    have HR4 := qHR4
    clear qHR4
    have HR5 := qHR5
    clear qHR5
    have hsW6 : w.heap.size ≤ W6.heap.size := HB.out.size
    go_wp2_with fail
    refine (m_sMinimal A1 n1 c1 xs1 M _ HL1.out (by omega) HR1.out HM.out).mono ?_
    rintro _ W7 ⟨A6, n6, c6, rfl, hl6, hc6, hm6, hO6, p7, hp7⟩
    have qHB := Lib.hid (below_to hp7 HB.out)
    have qHR := Lib.hid (row_to hp7 HR.out)
    have qHR1 := Lib.hid (row_to hp7 HR1.out)
    have qHR2 := Lib.hid (row_to hp7 HR2.out)
    have qHR3 := Lib.hid (row_to hp7 HR3.out)
    have qHR4 := Lib.hid (row_to hp7 HR4.out)
    have qHR5 := Lib.hid (row_to hp7 HR5.out)
    clear HB HR HR1 HR2 HR3 HR4 HR5 hp7
    have HB := qHB
    clear qHB
    have HR := qHR
    clear qHR
    have HR1 := qHR1
    clear qHR1
    have HR2 := qHR2
    clear qHR2
    have HR3 := qHR3
    clear qHR3
    have HR4 := qHR4
    clear qHR4
    have HR5 := qHR5
    clear qHR5
    have hsW7 : w.heap.size ≤ W7.heap.size := HB.out.size
    have HR6 := Lib.hid (hO6.row)
    have HL6 := Lib.hid hl6
    clear hO6 hl6
    have hb6 : n6 ≤ 5 := by rw [← HL6.out]; exact hMl
    go_wp2_with fail
    refine (z_same A4 A6 n4 n6 c4 c6 M M _ HL4.out HL6.out (by omega) (by omega) HR4.out HR6.out rfl).mono ?_
    rintro _ W8 ⟨rfl, p8, hp8⟩
    have qHB := Lib.hid (below_to hp8 HB.out)
    have qHR := Lib.hid (row_to hp8 HR.out)
    have qHR1 := Lib.hid (row_to hp8 HR1.out)
    have qHR2 := Lib.hid (row_to hp8 HR2.out)
    have qHR3 := Lib.hid (row_to hp8 HR3.out)
    have qHR4 := Lib.hid (row_to hp8 HR4.out)
    have qHR5 := Lib.hid (row_to hp8 HR5.out)
    have qHR6 := Lib.hid (row_to hp8 HR6.out)
    clear HB HR HR1 HR2 HR3 HR4 HR5 HR6 hp8
    have HB := qHB
    clear qHB
    have HR := qHR
    clear qHR
    have HR1 := qHR1
    clear qHR1
    have HR2 := qHR2
    clear qHR2
    have HR3 := qHR3
    clear qHR3
    have HR4 := qHR4
    clear qHR4
    have HR5 := qHR5
    clear qHR5
    have HR6 := qHR6
    clear qHR6
    have hsW8 : w.heap.size ≤ W8.heap.size := HB.out.size
    clear HR5
    clear HR6
    obtain ⟨ok, hok⟩ : ∃ x, frOk xs1 = x := ⟨_, rfl⟩
    have HOK := Lib.hid hok
    clear hok
    go_wp2_with fail
    refine (g_bool (c_iFrontierOk A1 n1 c1 xs1 _ HL1.out (by omega) HR1.out) HOK.out).mono ?_
    rintro _ W9 ⟨rfl, p9, hp9⟩
    have qHB := Lib.hid (below_to hp9 HB.out)
    have qHR := Lib.hid (row_to hp9 HR.out)
    have qHR1 := Lib.hid (row_to hp9 HR1.out)
    have qHR2 := Lib.hid (row_to hp9 HR2.out)
    have qHR3 := Lib.hid (row_to hp9 HR3.out)
    have qHR4 := Lib.hid (row_to hp9 HR4.out)
    clear HB HR HR1 HR2 HR3 HR4 hp9
    have HB := qHB
    clear qHB
    have HR := qHR
    clear qHR
    have HR1 := qHR1
    clear qHR1
    have HR2 := qHR2
    clear qHR2
    have HR3 := qHR3
    clear qHR3
    have HR4 := qHR4
    clear qHR4
    have hsW9 : w.heap.size ≤ W9.heap.size := HB.out.size
    go_wp2_with fail
    refine (g_bool (c_sFrontierOk A1 n1 c1 xs1 _ HL1.out (by omega) HR1.out) HOK.out).mono ?_
    rintro _ W10 ⟨rfl, p10, hp10⟩
    have qHB := Lib.hid (below_to hp10 HB.out)
    have qHR := Lib.hid (row_to hp10 HR.out)
    have qHR1 := Lib.hid (row_to hp10 HR1.out)
    have qHR2 := Lib.hid (row_to hp10 HR2.out)
    have qHR3 := Lib.hid (row_to hp10 HR3.out)
    have qHR4 := Lib.hid (row_to hp10 HR4.out)
    clear HB HR HR1 HR2 HR3 HR4 hp10
    have HB := qHB
    clear qHB
    have HR := qHR
    clear qHR
    have HR1 := qHR1
    clear qHR1
    have HR2 := qHR2
    clear qHR2
    have HR3 := qHR3
    clear qHR3
    have HR4 := qHR4
    clear qHR4
    have hsW10 : w.heap.size ≤ W10.heap.size := HB.out.size
    obtain ⟨lq, hlq⟩ : ∃ x, (!xs2.any (notAhead xs1)) = x := ⟨_, rfl⟩
    have HLQ := Lib.hid hlq
    clear hlq
    go_wp2_with fail
    refine (g_bool (c_iFrontLeq A2 n2 c2 xs2 A1 n1 c1 xs1 _ HL2.out (by omega) HR2.out HL1.out (by omega) HR1.out) HLQ.out).mono ?_
    rintro _ W11 ⟨rfl, p11, hp11⟩
    have qHB := Lib.hid (below_to hp11 HB.out)
    have qHR := Lib.hid (row_to hp11 HR.out)
    have qHR1 := Lib.hid (row_to hp11 HR1.out)
    have qHR2 := Lib.hid (row_to hp11 HR2.out)
    have qHR3 := Lib.hid (row_to hp11 HR3.out)
    have qHR4 := Lib.hid (row_to hp11 HR4.out)
    clear HB HR HR1 HR2 HR3 HR4 hp11
    have HB := qHB
    clear qHB
    have HR := qHR
    clear qHR
    have HR1 := qHR1
    clear qHR1
    have HR2 := qHR2
    clear qHR2
    have HR3 := qHR3
    clear qHR3
    have HR4 := qHR4
    clear qHR4
    have hsW11 : w.heap.size ≤ W11.heap.size := HB.out.size
    go_wp2_with fail
    refine (g_bool (c_sFrontLeq A2 n2 c2 xs2 A1 n1 c1 xs1 _ HL2.out (by omega) HR2.out HL1.out (by omega) HR1.out) HLQ.out).mono ?_
    rintro _ W12 ⟨rfl, p12, hp12⟩
    have qHB := Lib.hid (below_to hp12 HB.out)
    have qHR := Lib.hid (row_to hp12 HR.out)
    have qHR1 := Lib.hid (row_to hp12 HR1.out)
    have qHR2 := Lib.hid (row_to hp12 HR2.out)
    have qHR3 := Lib.hid (row_to hp12 HR3.out)
    have qHR4 := Lib.hid (row_to hp12 HR4.out)
    clear HB HR HR1 HR2 HR3 HR4 hp12
    have HB := qHB
    clear qHB
    have HR := qHR
    clear qHR
    have HR1 := qHR1
    clear qHR1
    have HR2 := qHR2
    clear qHR2
    have HR3 := qHR3
    clear qHR3
    have HR4 := qHR4
    clear qHR4
    have hsW12 : w.heap.size ≤ W12.heap.size := HB.out.size
    go_wp2_with fail
    refine (c_drawAhead _ _ _ xs _ HN.out (by omega) HR.out).mono ?_
    rintro _ W13 ⟨A7, n7, c7, xs7, y, v, rfl, hl7, hn7, hR7, -, -, p, hp⟩
    have qHB := Lib.hid (below_to hp HB.out)
    have qHR := Lib.hid (row_to hp HR.out)
    have qHR1 := Lib.hid (row_to hp HR1.out)
    have qHR2 := Lib.hid (row_to hp HR2.out)
    have qHR3 := Lib.hid (row_to hp HR3.out)
    have qHR4 := Lib.hid (row_to hp HR4.out)
    clear HB HR HR1 HR2 HR3 HR4 hp
    have HB := qHB
    clear qHB
    have HR := qHR
    clear qHR
    have HR1 := qHR1
    clear qHR1
    have HR2 := qHR2
    clear qHR2
    have HR3 := qHR3
    clear qHR3
    have HR4 := qHR4
    clear qHR4
    have hsW13 : w.heap.size ≤ W13.heap.size := HB.out.size
    have HR7 := Lib.hid (hR7)
    have HL7 := Lib.hid hl7
    clear hl7 hR7
    obtain ⟨ah, hah⟩ : ∃ x, ahead xs7 (y, v) = x := ⟨_, rfl⟩
    obtain ⟨N, hN⟩ : ∃ N, minimal xs7 = N := ⟨_, rfl⟩
    have HNM := Lib.hid hN
    have HAH := Lib.hid hah
    have HAN := Lib.hid (show ahead N (y, v) = ah by rw [← hN, ahead_minimal]; exact hah)
    have hNl : N.length ≤ 5 := by rw [← hN]; have h1 := minimal_len xs7; rw [HL7.out] at h1; omega
    clear hah hN
    go_wp2_with fail
    refine wp_anchor (F := fun V => (∃ p : Later, V = later W13 p) ∧ Blk (W13.heap.size) [.int .i64 y, .int .i64 v] 32 V) ⟨later_of_below (by (repeat (first | with_reducible exact Below.refl _ _ | with_reducible refine Below.drew ?_ | with_reducible refine Below.alloc ?_ (by first | exact Nat.le_refl _ | (simp; done) | (simp; omega)) _))), (by (repeat (first | exact Blk.new _ _ [.int .i64 y, .int .i64 v] _ (by first | rfl | (simp; done)) | with_reducible refine Blk.alloc ?_ _)))⟩ (fun W14 hV => ?_)
    obtain ⟨⟨p, hp⟩, qHK0⟩ := hV
    have qHB := Lib.hid (below_to hp HB.out)
    have qHR := Lib.hid (row_to hp HR.out)
    have qHR1 := Lib.hid (row_to hp HR1.out)
    have qHR2 := Lib.hid (row_to hp HR2.out)
    have qHR3 := Lib.hid (row_to hp HR3.out)
    have qHR4 := Lib.hid (row_to hp HR4.out)
    have qHR7 := Lib.hid (row_to hp HR7.out)
    clear HB HR HR1 HR2 HR3 HR4 HR7 hp
    have HB := qHB
    clear qHB
    have HR := qHR
    clear qHR
    have HR1 := qHR1
    clear qHR1
    have HR2 := qHR2
    clear qHR2
    have HR3 := qHR3
    clear qHR3
    have HR4 := qHR4
    clear qHR4
    have HR7 := qHR7
    clear qHR7
    have hsW14 : w.heap.size ≤ W14.heap.size := HB.out.size
    have HK := Lib.hid (qHK0)
    have cHK_0 := HK.out.cell (i := 0) rfl
    have zHK_0 := HK.out.frozen 0
    have cHK_1 := HK.out.cell (i := 1) rfl
    have zHK_1 := HK.out.frozen 1
    have lHK := HK.out.lt
    have mHK := Nat.le_of_lt lHK
    clear qHK0
    with_reducible refine wp_region_plan [(true, 0), (true, 1), (true, 3), (true, 4), (false, 2), (false, 5), (true, 6), (true, 7), (true, 8), (true, 10), (true, 12), (true, 13), (false, 9), (false, 11), (false, 14), (true, 15), (true, 16)] (by kernel_rfl) (by kernel_rfl) ?_
    rintro W15 ⟨p, hp⟩
    have HQ := Lib.hid (below_self W14)
    have bHK_0 := cHK_0
    have bHK_1 := cHK_1
    have blHK := lHK
    have qHB := Lib.hid (below_to hp HB.out)
    have qHR := Lib.hid (row_to hp HR.out)
    have qHR1 := Lib.hid (row_to hp HR1.out)
    have qHR2 := Lib.hid (row_to hp HR2.out)
    have qHR3 := Lib.hid (row_to hp HR3.out)
    have qHR4 := Lib.hid (row_to hp HR4.out)
    have qHR7 := Lib.hid (row_to hp HR7.out)
    have qHK := Lib.hid (Blk.to hp HK.out)
    have qHQ := Lib.hid (below_to hp HQ.out)
    clear HB HR HR1 HR2 HR3 HR4 HR7 cHK_0 zHK_0 cHK_1 zHK_1 lHK mHK HK HQ hp
    have HB := qHB
    clear qHB
    have HR := qHR
    clear qHR
    have HR1 := qHR1
    clear qHR1
    have HR2 := qHR2
    clear qHR2
    have HR3 := qHR3
    clear qHR3
    have HR4 := qHR4
    clear qHR4
    have HR7 := qHR7
    clear qHR7
    have HK := qHK
    clear qHK
    have cHK_0 := HK.out.cell (i := 0) rfl
    have zHK_0 := HK.out.frozen 0
    have cHK_1 := HK.out.cell (i := 1) rfl
    have zHK_1 := HK.out.frozen 1
    have lHK := HK.out.lt
    have mHK := Nat.le_of_lt lHK
    have HQ := qHQ
    clear qHQ
    have hsW15 : w.heap.size ≤ W15.heap.size := HB.out.size
    simp only [List.map_cons, List.map_nil, List.getD_cons_zero, List.getD_cons_succ]
    (repeat (refine wpPlan_pick (fun J hJ => ?_); go_simp; refine hJ _ ?_; clear hJ J))
    refine wpPlan_seq (fun J hJ => ?_)
    go_wp2_with fail
    refine (g_bool (c_iAhead A7 n7 c7 xs7 y v _ HL7.out (by omega) HR7.out) HAH.out).mono ?_
    rintro _ W16 ⟨rfl, p16, hp16⟩
    have qHB := Lib.hid (below_to hp16 HB.out)
    have qHR := Lib.hid (row_to hp16 HR.out)
    have qHR1 := Lib.hid (row_to hp16 HR1.out)
    have qHR2 := Lib.hid (row_to hp16 HR2.out)
    have qHR3 := Lib.hid (row_to hp16 HR3.out)
    have qHR4 := Lib.hid (row_to hp16 HR4.out)
    have qHR7 := Lib.hid (row_to hp16 HR7.out)
    have qHK := Lib.hid (Blk.to hp16 HK.out)
    have qHQ := Lib.hid (below_to hp16 HQ.out)
    clear HB HR HR1 HR2 HR3 HR4 HR7 cHK_0 zHK_0 cHK_1 zHK_1 lHK mHK HK HQ hp16
    have HB := qHB
    clear qHB
    have HR := qHR
    clear qHR
    have HR1 := qHR1
    clear qHR1
    have HR2 := qHR2
    clear qHR2
    have HR3 := qHR3
    clear qHR3
    have HR4 := qHR4
    clear qHR4
    have HR7 := qHR7
    clear qHR7
    have HK := qHK
    clear qHK
    have cHK_0 := HK.out.cell (i := 0) rfl
    have zHK_0 := HK.out.frozen 0
    have cHK_1 := HK.out.cell (i := 1) rfl
    have zHK_1 := HK.out.frozen 1
    have lHK := HK.out.lt
    have mHK := Nat.le_of_lt lHK
    have HQ := qHQ
    clear qHQ
    have hsW16 : w.heap.size ≤ W16.heap.size := HB.out.size
    go_wp2_with fail
    refine onward_mk HQ.out (hJ _ _ ?_)
    clear hJ J
    refine wpPlan_seq (fun J hJ => ?_)
    go_wp2_with fail
    refine (g_bool (c_sAhead A7 n7 c7 xs7 y v _ HL7.out (by omega) HR7.out) HAH.out).mono ?_
    rintro _ W17 ⟨rfl, p17, hp17⟩
    have qHB := Lib.hid (below_to hp17 HB.out)
    have qHR := Lib.hid (row_to hp17 HR.out)
    have qHR1 := Lib.hid (row_to hp17 HR1.out)
    have qHR2 := Lib.hid (row_to hp17 HR2.out)
    have qHR3 := Lib.hid (row_to hp17 HR3.out)
    have qHR4 := Lib.hid (row_to hp17 HR4.out)
    have qHR7 := Lib.hid (row_to hp17 HR7.out)
    have qHK := Lib.hid (Blk.to hp17 HK.out)
    have qHQ := Lib.hid (below_to hp17 HQ.out)
    clear HB HR HR1 HR2 HR3 HR4 HR7 cHK_0 zHK_0 cHK_1 zHK_1 lHK mHK HK HQ hp17
    have HB := qHB
    clear qHB
    have HR := qHR
    clear qHR
    have HR1 := qHR1
    clear qHR1
    have HR2 := qHR2
    clear qHR2
    have HR3 := qHR3
    clear qHR3
    have HR4 := qHR4
    clear qHR4
    have HR7 := qHR7
    clear qHR7
    have HK := qHK
    clear qHK
    have cHK_0 := HK.out.cell (i := 0) rfl
    have zHK_0 := HK.out.frozen 0
    have cHK_1 := HK.out.cell (i := 1) rfl
    have zHK_1 := HK.out.frozen 1
    have lHK := HK.out.lt
    have mHK := Nat.le_of_lt lHK
    have HQ := qHQ
    clear qHQ
    have hsW17 : w.heap.size ≤ W17.heap.size := HB.out.size
    go_wp2_with fail
    refine onward_mk HQ.out (hJ _ _ ?_)
    clear hJ J
    (repeat (refine wpPlan_pick (fun J hJ => ?_); go_simp; refine hJ _ ?_; clear hJ J))
    refine wpPlan_seq (fun J hJ => ?_)
    go_wp2_with fail
    refine (m_iMinimal A7 n7 c7 xs7 N _ HL7.out (by omega) HR7.out HNM.out).mono ?_
    rintro _ W18 ⟨A8, n8, c8, rfl, hl8, hc8, hm8, hO8, p18, hp18⟩
    have qHB := Lib.hid (below_to hp18 HB.out)
    have qHR := Lib.hid (row_to hp18 HR.out)
    have qHR1 := Lib.hid (row_to hp18 HR1.out)
    have qHR2 := Lib.hid (row_to hp18 HR2.out)
    have qHR3 := Lib.hid (row_to hp18 HR3.out)
    have qHR4 := Lib.hid (row_to hp18 HR4.out)
    have qHR7 := Lib.hid (row_to hp18 HR7.out)
    have qHK := Lib.hid (Blk.to hp18 HK.out)
    have qHQ := Lib.hid (below_to hp18 HQ.out)
    clear HB HR HR1 HR2 HR3 HR4 HR7 cHK_0 zHK_0 cHK_1 zHK_1 lHK mHK HK HQ hp18
    have HB := qHB
    clear qHB
    have HR := qHR
    clear qHR
    have HR1 := qHR1
    clear qHR1
    have HR2 := qHR2
    clear qHR2
    have HR3 := qHR3
    clear qHR3
    have HR4 := qHR4
    clear qHR4
    have HR7 := qHR7
    clear qHR7
    have HK := qHK
    clear qHK
    have cHK_0 := HK.out.cell (i := 0) rfl
    have zHK_0 := HK.out.frozen 0
    have cHK_1 := HK.out.cell (i := 1) rfl
    have zHK_1 := HK.out.frozen 1
    have lHK := HK.out.lt
    have mHK := Nat.le_of_lt lHK
    have HQ := qHQ
    clear qHQ
    have hsW18 : w.heap.size ≤ W18.heap.size := HB.out.size
    have HR8 := Lib.hid (hO8.row)
    have HL8 := Lib.hid hl8
    clear hO8 hl8
    go_wp2_with fail
    refine onward_mk HQ.out (hJ _ _ ?_)
    clear hJ J
    have hb8 : n8 ≤ 5 := by rw [← HL8.out]; exact hNl
    refine wpPlan_seq (fun J hJ => ?_)
    go_wp2_with fail
    refine (g_bool (c_iAhead A8 n8 c8 N y v _ HL8.out (by omega) HR8.out) HAN.out).mono ?_
    rintro _ W19 ⟨rfl, p19, hp19⟩
    have qHB := Lib.hid (below_to hp19 HB.out)
    have qHR := Lib.hid (row_to hp19 HR.out)
    have qHR1 := Lib.hid (row_to hp19 HR1.out)
    have qHR2 := Lib.hid (row_to hp19 HR2.out)
    have qHR3 := Lib.hid (row_to hp19 HR3.out)
    have qHR4 := Lib.hid (row_to hp19 HR4.out)
    have qHR7 := Lib.hid (row_to hp19 HR7.out)
    have qHK := Lib.hid (Blk.to hp19 HK.out)
    have qHQ := Lib.hid (below_to hp19 HQ.out)
    have qHR8 := Lib.hid (row_to hp19 HR8.out)
    clear HB HR HR1 HR2 HR3 HR4 HR7 cHK_0 zHK_0 cHK_1 zHK_1 lHK mHK HK HQ HR8 hp19
    have HB := qHB
    clear qHB
    have HR := qHR
    clear qHR
    have HR1 := qHR1
    clear qHR1
    have HR2 := qHR2
    clear qHR2
    have HR3 := qHR3
    clear qHR3
    have HR4 := qHR4
    clear qHR4
    have HR7 := qHR7
    clear qHR7
    have HK := qHK
    clear qHK
    have cHK_0 := HK.out.cell (i := 0) rfl
    have zHK_0 := HK.out.frozen 0
    have cHK_1 := HK.out.cell (i := 1) rfl
    have zHK_1 := HK.out.frozen 1
    have lHK := HK.out.lt
    have mHK := Nat.le_of_lt lHK
    have HQ := qHQ
    clear qHQ
    have HR8 := qHR8
    clear qHR8
    have hsW19 : w.heap.size ≤ W19.heap.size := HB.out.size
    go_wp2_with fail
    refine onward_mk HQ.out (hJ _ _ ?_)
    clear hJ J
    refine wpPlan_seq (fun J hJ => ?_)
    go_wp2_with fail
    refine (g_bool (c_iAhead A7 n7 c7 xs7 y v _ HL7.out (by omega) HR7.out) HAH.out).mono ?_
    rintro _ W20 ⟨rfl, p20, hp20⟩
    have qHB := Lib.hid (below_to hp20 HB.out)
    have qHR := Lib.hid (row_to hp20 HR.out)
    have qHR1 := Lib.hid (row_to hp20 HR1.out)
    have qHR2 := Lib.hid (row_to hp20 HR2.out)
    have qHR3 := Lib.hid (row_to hp20 HR3.out)
    have qHR4 := Lib.hid (row_to hp20 HR4.out)
    have qHR7 := Lib.hid (row_to hp20 HR7.out)
    have qHK := Lib.hid (Blk.to hp20 HK.out)
    have qHQ := Lib.hid (below_to hp20 HQ.out)
    have qHR8 := Lib.hid (row_to hp20 HR8.out)
    clear HB HR HR1 HR2 HR3 HR4 HR7 cHK_0 zHK_0 cHK_1 zHK_1 lHK mHK HK HQ HR8 hp20
    have HB := qHB
    clear qHB
    have HR := qHR
    clear qHR
    have HR1 := qHR1
    clear qHR1
    have HR2 := qHR2
    clear qHR2
    have HR3 := qHR3
    clear qHR3
    have HR4 := qHR4
    clear qHR4
    have HR7 := qHR7
    clear qHR7
    have HK := qHK
    clear qHK
    have cHK_0 := HK.out.cell (i := 0) rfl
    have zHK_0 := HK.out.frozen 0
    have cHK_1 := HK.out.cell (i := 1) rfl
    have zHK_1 := HK.out.frozen 1
    have lHK := HK.out.lt
    have mHK := Nat.le_of_lt lHK
    have HQ := qHQ
    clear qHQ
    have HR8 := qHR8
    clear qHR8
    have hsW20 : w.heap.size ≤ W20.heap.size := HB.out.size
    go_wp2_with fail
    refine onward_mk HQ.out (hJ _ _ ?_)
    clear hJ J
    (repeat (refine wpPlan_pick (fun J hJ => ?_); go_simp; refine hJ _ ?_; clear hJ J))
    refine wpPlan_nil ?_
    clear bHK_0 bHK_1 blHK
    clear HQ
    clear cHK_0 zHK_0 cHK_1 zHK_1 lHK mHK
    clear HK
    clear HR7
    clear HR8
    go_wp2_with fail
    refine (c_drawEpochOver _ _ _ xs _ HN.out (by omega) HR.out).mono ?_
    rintro _ W21 ⟨A9, n9, c9, xs9, ep, rfl, hl9, hn9, hR9, -, -, p, hp⟩
    have qHB := Lib.hid (below_to hp HB.out)
    have qHR := Lib.hid (row_to hp HR.out)
    have qHR1 := Lib.hid (row_to hp HR1.out)
    have qHR2 := Lib.hid (row_to hp HR2.out)
    have qHR3 := Lib.hid (row_to hp HR3.out)
    have qHR4 := Lib.hid (row_to hp HR4.out)
    clear HB HR HR1 HR2 HR3 HR4 hp
    have HB := qHB
    clear qHB
    have HR := qHR
    clear qHR
    have HR1 := qHR1
    clear qHR1
    have HR2 := qHR2
    clear qHR2
    have HR3 := qHR3
    clear qHR3
    have HR4 := qHR4
    clear qHR4
    have hsW21 : w.heap.size ≤ W21.heap.size := HB.out.size
    have HR9 := Lib.hid (hR9)
    have HL9 := Lib.hid hl9
    clear hl9 hR9
    go_wp2_with fail
    refine (c_drawSameFront _ _ _ xs _ HN.out (by omega) HR.out).mono ?_
    rintro _ W22 ⟨A10, n10, c10, xs10, A11, n11, c11, xs11, rfl, hl10, hl11, hn10, hn11, hR10, hR11, p, hp⟩
    have qHB := Lib.hid (below_to hp HB.out)
    have qHR := Lib.hid (row_to hp HR.out)
    have qHR1 := Lib.hid (row_to hp HR1.out)
    have qHR2 := Lib.hid (row_to hp HR2.out)
    have qHR3 := Lib.hid (row_to hp HR3.out)
    have qHR4 := Lib.hid (row_to hp HR4.out)
    have qHR9 := Lib.hid (row_to hp HR9.out)
    clear HB HR HR1 HR2 HR3 HR4 HR9 hp
    have HB := qHB
    clear qHB
    have HR := qHR
    clear qHR
    have HR1 := qHR1
    clear qHR1
    have HR2 := qHR2
    clear qHR2
    have HR3 := qHR3
    clear qHR3
    have HR4 := qHR4
    clear qHR4
    have HR9 := qHR9
    clear qHR9
    have hsW22 : w.heap.size ≤ W22.heap.size := HB.out.size
    have HR10 := Lib.hid (hR10)
    have HL10 := Lib.hid hl10
    clear hl10 hR10
    have HR11 := Lib.hid (hR11)
    have HL11 := Lib.hid hl11
    clear hl11 hR11
    go_wp2_with fail
    refine (g_bool (c_iFrontLeq A1 n1 c1 xs1 A3 n3 c3 X _ HL1.out (by omega) HR1.out HL3.out (by omega) HR3.out) HXA.out).mono ?_
    rintro _ W23 ⟨rfl, p23, hp23⟩
    have qHB := Lib.hid (below_to hp23 HB.out)
    have qHR := Lib.hid (row_to hp23 HR.out)
    have qHR1 := Lib.hid (row_to hp23 HR1.out)
    have qHR2 := Lib.hid (row_to hp23 HR2.out)
    have qHR3 := Lib.hid (row_to hp23 HR3.out)
    have qHR4 := Lib.hid (row_to hp23 HR4.out)
    have qHR9 := Lib.hid (row_to hp23 HR9.out)
    have qHR10 := Lib.hid (row_to hp23 HR10.out)
    have qHR11 := Lib.hid (row_to hp23 HR11.out)
    clear HB HR HR1 HR2 HR3 HR4 HR9 HR10 HR11 hp23
    have HB := qHB
    clear qHB
    have HR := qHR
    clear qHR
    have HR1 := qHR1
    clear qHR1
    have HR2 := qHR2
    clear qHR2
    have HR3 := qHR3
    clear qHR3
    have HR4 := qHR4
    clear qHR4
    have HR9 := qHR9
    clear qHR9
    have HR10 := qHR10
    clear qHR10
    have HR11 := qHR11
    clear qHR11
    have hsW23 : w.heap.size ≤ W23.heap.size := HB.out.size
    go_wp2_with fail
    refine (g_bool (c_iFrontLeq A2 n2 c2 xs2 A3 n3 c3 X _ HL2.out (by omega) HR2.out HL3.out (by omega) HR3.out) HXB.out).mono ?_
    rintro _ W24 ⟨rfl, p24, hp24⟩
    have qHB := Lib.hid (below_to hp24 HB.out)
    have qHR := Lib.hid (row_to hp24 HR.out)
    have qHR1 := Lib.hid (row_to hp24 HR1.out)
    have qHR2 := Lib.hid (row_to hp24 HR2.out)
    have qHR3 := Lib.hid (row_to hp24 HR3.out)
    have qHR4 := Lib.hid (row_to hp24 HR4.out)
    have qHR9 := Lib.hid (row_to hp24 HR9.out)
    have qHR10 := Lib.hid (row_to hp24 HR10.out)
    have qHR11 := Lib.hid (row_to hp24 HR11.out)
    clear HB HR HR1 HR2 HR3 HR4 HR9 HR10 HR11 hp24
    have HB := qHB
    clear qHB
    have HR := qHR
    clear qHR
    have HR1 := qHR1
    clear qHR1
    have HR2 := qHR2
    clear qHR2
    have HR3 := qHR3
    clear qHR3
    have HR4 := qHR4
    clear qHR4
    have HR9 := qHR9
    clear qHR9
    have HR10 := qHR10
    clear qHR10
    have HR11 := qHR11
    clear qHR11
    have hsW24 : w.heap.size ≤ W24.heap.size := HB.out.size
    go_wp2_with fail
    refine (m_iMinimal A4 n4 c4 M M _ HL4.out (by omega) HR4.out HM2.out).mono ?_
    rintro _ W25 ⟨A12, n12, c12, rfl, hl12, hc12, hm12, hO12, p25, hp25⟩
    have qHB := Lib.hid (below_to hp25 HB.out)
    have qHR := Lib.hid (row_to hp25 HR.out)
    have qHR1 := Lib.hid (row_to hp25 HR1.out)
    have qHR2 := Lib.hid (row_to hp25 HR2.out)
    have qHR3 := Lib.hid (row_to hp25 HR3.out)
    have qHR4 := Lib.hid (row_to hp25 HR4.out)
    have qHR9 := Lib.hid (row_to hp25 HR9.out)
    have qHR10 := Lib.hid (row_to hp25 HR10.out)
    have qHR11 := Lib.hid (row_to hp25 HR11.out)
    clear HB HR HR1 HR2 HR3 HR4 HR9 HR10 HR11 hp25
    have HB := qHB
    clear qHB
    have HR := qHR
    clear qHR
    have HR1 := qHR1
    clear qHR1
    have HR2 := qHR2
    clear qHR2
    have HR3 := qHR3
    clear qHR3
    have HR4 := qHR4
    clear qHR4
    have HR9 := qHR9
    clear qHR9
    have HR10 := qHR10
    clear qHR10
    have HR11 := qHR11
    clear qHR11
    have hsW25 : w.heap.size ≤ W25.heap.size := HB.out.size
    have HR12 := Lib.hid (hO12.row)
    have HL12 := Lib.hid hl12
    clear hO12 hl12
    have hb12 : n12 ≤ 5 := by rw [← HL12.out]; exact hMl
    go_wp2_with fail
    refine (z_same A12 A4 n12 n4 c12 c4 M M _ HL12.out HL4.out (by omega) (by omega) HR12.out HR4.out rfl).mono ?_
    rintro _ W26 ⟨rfl, p26, hp26⟩
    have qHB := Lib.hid (below_to hp26 HB.out)
    have qHR := Lib.hid (row_to hp26 HR.out)
    have qHR1 := Lib.hid (row_to hp26 HR1.out)
    have qHR2 := Lib.hid (row_to hp26 HR2.out)
    have qHR3 := Lib.hid (row_to hp26 HR3.out)
    have qHR4 := Lib.hid (row_to hp26 HR4.out)
    have qHR9 := Lib.hid (row_to hp26 HR9.out)
    have qHR10 := Lib.hid (row_to hp26 HR10.out)
    have qHR11 := Lib.hid (row_to hp26 HR11.out)
    have qHR12 := Lib.hid (row_to hp26 HR12.out)
    clear HB HR HR1 HR2 HR3 HR4 HR9 HR10 HR11 HR12 hp26
    have HB := qHB
    clear qHB
    have HR := qHR
    clear qHR
    have HR1 := qHR1
    clear qHR1
    have HR2 := qHR2
    clear qHR2
    have HR3 := qHR3
    clear qHR3
    have HR4 := qHR4
    clear qHR4
    have HR9 := qHR9
    clear qHR9
    have HR10 := qHR10
    clear qHR10
    have HR11 := qHR11
    clear qHR11
    have HR12 := qHR12
    clear qHR12
    have hsW26 : w.heap.size ≤ W26.heap.size := HB.out.size
    obtain ⟨eo, heo⟩ : ∃ x, (!xs9.any (overP ep)) = x := ⟨_, rfl⟩
    have HEO := Lib.hid heo
    clear heo
    go_wp2_with fail
    refine (g_bool (c_iEpochOver A9 n9 c9 xs9 ep _ HL9.out (by omega) HR9.out) HEO.out).mono ?_
    rintro _ W27 ⟨rfl, p27, hp27⟩
    have qHB := Lib.hid (below_to hp27 HB.out)
    have qHR := Lib.hid (row_to hp27 HR.out)
    have qHR1 := Lib.hid (row_to hp27 HR1.out)
    have qHR2 := Lib.hid (row_to hp27 HR2.out)
    have qHR3 := Lib.hid (row_to hp27 HR3.out)
    have qHR4 := Lib.hid (row_to hp27 HR4.out)
    have qHR9 := Lib.hid (row_to hp27 HR9.out)
    have qHR10 := Lib.hid (row_to hp27 HR10.out)
    have qHR11 := Lib.hid (row_to hp27 HR11.out)
    have qHR12 := Lib.hid (row_to hp27 HR12.out)
    clear HB HR HR1 HR2 HR3 HR4 HR9 HR10 HR11 HR12 hp27
    have HB := qHB
    clear qHB
    have HR := qHR
    clear qHR
    have HR1 := qHR1
    clear qHR1
    have HR2 := qHR2
    clear qHR2
    have HR3 := qHR3
    clear qHR3
    have HR4 := qHR4
    clear qHR4
    have HR9 := qHR9
    clear qHR9
    have HR10 := qHR10
    clear qHR10
    have HR11 := qHR11
    clear qHR11
    have HR12 := qHR12
    clear qHR12
    have hsW27 : w.heap.size ≤ W27.heap.size := HB.out.size
    go_wp2_with fail
    refine (g_bool (c_sEpochOver A9 n9 c9 xs9 ep _ HL9.out (by omega) HR9.out) HEO.out).mono ?_
    rintro _ W28 ⟨rfl, p28, hp28⟩
    have qHB := Lib.hid (below_to hp28 HB.out)
    have qHR := Lib.hid (row_to hp28 HR.out)
    have qHR1 := Lib.hid (row_to hp28 HR1.out)
    have qHR2 := Lib.hid (row_to hp28 HR2.out)
    have qHR3 := Lib.hid (row_to hp28 HR3.out)
    have qHR4 := Lib.hid (row_to hp28 HR4.out)
    have qHR9 := Lib.hid (row_to hp28 HR9.out)
    have qHR10 := Lib.hid (row_to hp28 HR10.out)
    have qHR11 := Lib.hid (row_to hp28 HR11.out)
    have qHR12 := Lib.hid (row_to hp28 HR12.out)
    clear HB HR HR1 HR2 HR3 HR4 HR9 HR10 HR11 HR12 hp28
    have HB := qHB
    clear qHB
    have HR := qHR
    clear qHR
    have HR1 := qHR1
    clear qHR1
    have HR2 := qHR2
    clear qHR2
    have HR3 := qHR3
    clear qHR3
    have HR4 := qHR4
    clear qHR4
    have HR9 := qHR9
    clear qHR9
    have HR10 := qHR10
    clear qHR10
    have HR11 := qHR11
    clear qHR11
    have HR12 := qHR12
    clear qHR12
    have hsW28 : w.heap.size ≤ W28.heap.size := HB.out.size
    obtain ⟨sf, hsf⟩ : ∃ x, decide (xs10 = xs11) = x := ⟨_, rfl⟩
    have HSF := Lib.hid hsf
    clear hsf
    go_wp2_with fail
    refine (g_bool (c_iSameFront A10 A11 n10 n11 c10 c11 xs10 xs11 _ HL10.out HL11.out (by omega) (by omega) HR10.out HR11.out) HSF.out).mono ?_
    rintro _ W29 ⟨rfl, p29, hp29⟩
    have qHB := Lib.hid (below_to hp29 HB.out)
    have qHR := Lib.hid (row_to hp29 HR.out)
    have qHR1 := Lib.hid (row_to hp29 HR1.out)
    have qHR2 := Lib.hid (row_to hp29 HR2.out)
    have qHR3 := Lib.hid (row_to hp29 HR3.out)
    have qHR4 := Lib.hid (row_to hp29 HR4.out)
    have qHR9 := Lib.hid (row_to hp29 HR9.out)
    have qHR10 := Lib.hid (row_to hp29 HR10.out)
    have qHR11 := Lib.hid (row_to hp29 HR11.out)
    have qHR12 := Lib.hid (row_to hp29 HR12.out)
    clear HB HR HR1 HR2 HR3 HR4 HR9 HR10 HR11 HR12 hp29
    have HB := qHB
    clear qHB
    have HR := qHR
    clear qHR
    have HR1 := qHR1
    clear qHR1
    have HR2 := qHR2
    clear qHR2
    have HR3 := qHR3
    clear qHR3
    have HR4 := qHR4
    clear qHR4
    have HR9 := qHR9
    clear qHR9
    have HR10 := qHR10
    clear qHR10
    have HR11 := qHR11
    clear qHR11
    have HR12 := qHR12
    clear qHR12
    have hsW29 : w.heap.size ≤ W29.heap.size := HB.out.size
    go_wp2_with fail
    refine (g_bool (c_sameStamps A10 A11 n10 n11 c10 c11 xs10 xs11 _ HL10.out HL11.out (by omega) (by omega) HR10.out HR11.out) HSF.out).mono ?_
    rintro _ W30 ⟨rfl, p30, hp30⟩
    have qHB := Lib.hid (below_to hp30 HB.out)
    have qHR := Lib.hid (row_to hp30 HR.out)
    have qHR1 := Lib.hid (row_to hp30 HR1.out)
    have qHR2 := Lib.hid (row_to hp30 HR2.out)
    have qHR3 := Lib.hid (row_to hp30 HR3.out)
    have qHR4 := Lib.hid (row_to hp30 HR4.out)
    have qHR9 := Lib.hid (row_to hp30 HR9.out)
    have qHR10 := Lib.hid (row_to hp30 HR10.out)
    have qHR11 := Lib.hid (row_to hp30 HR11.out)
    have qHR12 := Lib.hid (row_to hp30 HR12.out)
    clear HB HR HR1 HR2 HR3 HR4 HR9 HR10 HR11 HR12 hp30
    have HB := qHB
    clear qHB
    have HR := qHR
    clear qHR
    have HR1 := qHR1
    clear qHR1
    have HR2 := qHR2
    clear qHR2
    have HR3 := qHR3
    clear qHR3
    have HR4 := qHR4
    clear qHR4
    have HR9 := qHR9
    clear qHR9
    have HR10 := qHR10
    clear qHR10
    have HR11 := qHR11
    clear qHR11
    have HR12 := qHR12
    clear qHR12
    have hsW30 : w.heap.size ≤ W30.heap.size := HB.out.size
    go_wp2_with fail
    refine (g_bool (c_iEpochOver _ 1 _ [(1, 0)] 1 _ rfl (by omega) (row_oneS (1, 0) _ _ _ (by first | rfl | (simp; done)))) (y := false) (by decide)).mono ?_
    rintro _ W31 ⟨rfl, p31, hp31⟩
    have qHB := Lib.hid (below_to hp31 (HB.out.alloc (Nat.le_trans HB.out.size (by first | exact Nat.le_refl _ | (simp; done) | (simp; omega))) _))
    have qHR := Lib.hid (row_to hp31 (HR.out.alloc _))
    have qHR1 := Lib.hid (row_to hp31 (HR1.out.alloc _))
    have qHR2 := Lib.hid (row_to hp31 (HR2.out.alloc _))
    have qHR3 := Lib.hid (row_to hp31 (HR3.out.alloc _))
    have qHR4 := Lib.hid (row_to hp31 (HR4.out.alloc _))
    have qHR9 := Lib.hid (row_to hp31 (HR9.out.alloc _))
    have qHR10 := Lib.hid (row_to hp31 (HR10.out.alloc _))
    have qHR11 := Lib.hid (row_to hp31 (HR11.out.alloc _))
    have qHR12 := Lib.hid (row_to hp31 (HR12.out.alloc _))
    clear HB HR HR1 HR2 HR3 HR4 HR9 HR10 HR11 HR12 hp31
    have HB := qHB
    clear qHB
    have HR := qHR
    clear qHR
    have HR1 := qHR1
    clear qHR1
    have HR2 := qHR2
    clear qHR2
    have HR3 := qHR3
    clear qHR3
    have HR4 := qHR4
    clear qHR4
    have HR9 := qHR9
    clear qHR9
    have HR10 := qHR10
    clear qHR10
    have HR11 := qHR11
    clear qHR11
    have HR12 := qHR12
    clear qHR12
    have hsW31 : w.heap.size ≤ W31.heap.size := HB.out.size
    go_wp2_with fail
    refine (g_bool (c_iEpochOver Option.none 0 0 [] 1 _ rfl (by omega) Row.nil) (y := true) (by decide)).mono ?_
    rintro _ W32 ⟨rfl, p32, hp32⟩
    have qHB := Lib.hid (below_to hp32 HB.out)
    have qHR := Lib.hid (row_to hp32 HR.out)
    have qHR1 := Lib.hid (row_to hp32 HR1.out)
    have qHR2 := Lib.hid (row_to hp32 HR2.out)
    have qHR3 := Lib.hid (row_to hp32 HR3.out)
    have qHR4 := Lib.hid (row_to hp32 HR4.out)
    have qHR9 := Lib.hid (row_to hp32 HR9.out)
    have qHR10 := Lib.hid (row_to hp32 HR10.out)
    have qHR11 := Lib.hid (row_to hp32 HR11.out)
    have qHR12 := Lib.hid (row_to hp32 HR12.out)
    clear HB HR HR1 HR2 HR3 HR4 HR9 HR10 HR11 HR12 hp32
    have HB := qHB
    clear qHB
    have HR := qHR
    clear qHR
    have HR1 := qHR1
    clear qHR1
    have HR2 := qHR2
    clear qHR2
    have HR3 := qHR3
    clear qHR3
    have HR4 := qHR4
    clear qHR4
    have HR9 := qHR9
    clear qHR9
    have HR10 := qHR10
    clear qHR10
    have HR11 := qHR11
    clear qHR11
    have HR12 := qHR12
    clear qHR12
    have hsW32 : w.heap.size ≤ W32.heap.size := HB.out.size
    go_wp2_with fail
    go_ret
    exact Gives.mk (ret_bool (by first | rfl | simp)) HB.out


set_option maxRecDepth 100000 in
theorem liftedFnFrontiers (os : Os) (started : os.Started) (H : Type) (enc : TypeId × Value → H) :
    ReturnsInHanded {} Try.checked os 3 .any (Rows.fnFrontiersSpec.pre6 enc Try.prog Try.f3 Rows.fnFrontiersRow.domain false) (Rows.fnFrontiersSpec.post enc Try.prog Try.f3 false true false false) := by
  refine returnsInHanded_of_change (C := Try.checked) own started (by kernel_rfl) Try.func3
    (ChangeSpec.witness6 (enc := enc) (C := Try.checked) false ⟨#[], #[.slice Option.none 0 0], []⟩ 8 (by as_aux_lemma => kernel_rfl) (by as_aux_lemma => kernel_rfl) (by as_aux_lemma => kernel_rfl) (by as_aux_lemma => kernel_rfl)) ?_
  intro W base args ds gs before hval0 hW0 _ _
  have hval : ∀ (j : Nat) t v, Try.f3.params[j]? = some t → args[j]? = some v → Value.okWide Try.prog W .any base t v := hval0
  have hW : DataW.Whole enc Try.prog Try.f3.params.toList Rows.fnFrontiersSpec.vars false W args.toList ds gs before := hW0
  obtain ⟨p, q, hA0, hV, hpq, hfz, hnd⟩ := id hW
  have hA : DataW.TrodAll enc Try.prog W 0 (fun _ => true) true Try.f3.params.toList args.toList ds p := hA0
  rw [Try.params3] at hA hval
  obtain ⟨v0, vs0, d0, ds0, p0, q0, hargs, rfl, rfl, h0, r0⟩ := trodAll_cons hA
  obtain ⟨rfl, rfl, rfl⟩ := trodAll_nil r0
  obtain rfl : args = #[v0] := by cases args; simp_all
  obtain ⟨rfl, rfl⟩ := trodVars_none hV
  obtain ⟨A0, n0, cap0, x0, rfl, hn0, hc0, hm0, hr0, -⟩ := open_bytes Try.underlying22 Try.underlying5 (by kernel_rfl) (hval 0 22 v0 rfl rfl) h0
  refine (w_Frontiers A0 n0 cap0 x0 hn0 W hr0).mono fun e W' hg => ?_
  obtain ⟨he, hb⟩ := hg.below
  exact ⟨_, he, law_post laidOut rfl (by kernel_rfl) Try.underlying4 (by kernel_rfl) hW rfl hb⟩

set_option maxHeartbeats 3200000 in
theorem closedFnFrontiers : joinedFacts Try.checked.prog 3 Try.f3 Rows.fnFrontiersSpec Rows.fnFrontiersRow = true := by
  unfold joinedFacts
  repeat' (with_reducible refine and_mk ?_ ?_)
  all_goals (as_aux_lemma => kernel_rfl)
theorem namedFnFrontiers : Try.checked.prog.funcNamed Rows.fnFrontiersRow.func = some 3 := by as_aux_lemma => kernel_rfl
theorem instFnFrontiers : Try.f3.isInstance Try.checked.prog Rows.fnFrontiersRow.origin Rows.fnFrontiersRow.targs := of_decide_eq_true (by as_aux_lemma => kernel_rfl)
theorem wrapFnFrontiers : Try.f3.isWrapper Try.checked.prog Rows.fnFrontiersRow.wrapper Rows.fnFrontiersRow.mainSum := by unfold Func.isWrapper; first | (rw [if_pos (by decide +kernel)]; kernel_rfl) | (rw [if_neg (by decide +kernel)]; exact ⟨rfl, rfl⟩)
theorem holdsFnFrontiers : Rows.FnFrontiersSaid :=
  OpenClaim.holds_of_wide 3 Try.f3 rfl rfl rfl rfl rfl rfl rfl ⟨rfl, rfl, rfl, rfl, rfl⟩ rfl rfl rfl rfl rfl namedFnFrontiers Try.func3 closedFnFrontiers instFnFrontiers wrapFnFrontiers
    (fun os started H enc _ => liftedFnFrontiers os started H enc)
end Go.Proofs.Ytkjgllcfgljkeaa
