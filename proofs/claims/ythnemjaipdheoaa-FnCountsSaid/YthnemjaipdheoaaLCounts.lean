/-
  The law FnCounts returns true for every input, and its argument reads afterwards as before. Conditions: none.
-/
import Derived.Test.YthnemjaipdheoaaDrawC2
import Derived.Test.YthnemjaipdheoaaOpenB
import Derived.Test.YthnemjaipdheoaaScal
import Derived.Test.YthnemjaipdheoaaFr
import Derived.Test.YthnemjaipdheoaaMinQ
import Derived.Test.YthnemjaipdheoaaEq2
import Derived.Test.YthnemjaipdheoaaCntQ
import Derived.Test.YthnemjaipdheoaaAddM
import Derived.Test.YthnemjaipdheoaaAdjM
namespace Go.Proofs.Ythnemjaipdheoaa
open Go.ChangeShapes Go.WideShapes Go.ChangeAt Go.RowKit Go.Deep Go.Joins
set_option linter.unusedVariables false
theorem z_sameS (A B : Option Addr) (n m c d : Nat) (xs ys : List (Int × Int)) (w : World) (hn : xs.length = n) (hm : ys.length = m) (hn2 : n ≤ 9223372036854775807) (hm2 : m ≤ 9223372036854775807)
    (ha : Row encS 2 w A xs) (hb : Row encS 2 w B ys) (h : xs = ys) : Calls Try.prog 16 #[.slice A n c, .slice B m d] w (Gives (.bool true) w) := by
  have := c_sameStamps A B n m c d xs ys w hn hm hn2 hm2 ha hb
  rwa [decide_eq_true h] at this
theorem z_sameC (A B : Option Addr) (n m c d : Nat) (xs ys : List ((Int × Int) × Int)) (w : World) (hn : xs.length = n) (hm : ys.length = m) (hn2 : n ≤ 9223372036854775807) (hm2 : m ≤ 9223372036854775807)
    (ha : Row encC 3 w A xs) (hb : Row encC 3 w B ys) (h : xs = ys) : Calls Try.prog 8 #[.slice A n c, .slice B m d] w (Gives (.bool true) w) := by
  have := c_sameCounts A B n m c d xs ys w hn hm hn2 hm2 ha hb
  rwa [decide_eq_true h] at this
theorem g_int {P : Program} {f : FuncId} {args : Array Value} {w : World} {x y : Int} (hc : Calls P f args w (Gives (.int .i64 x) w)) (h : x = y) : Calls P f args w (Gives (.int .i64 y) w) := by subst h; exact hc

set_option maxRecDepth 100000 in
set_option maxHeartbeats 12800000 in
theorem w_Counts (A : Option Addr) (n c : Nat) (xs : List UInt8) (hn : xs.length = n) (w : World) (hr : Row encB 1 w A xs) : Calls Try.prog 3 #[.slice A n c] w (Gives (.bool true) w) := by
  have HR := Lib.hid hr
  have HN := Lib.hid hn
  clear hr hn
  by_cases hbig : 1048576 < n
  · have hz : decide (1048576 < n) = true := by simpa using hbig
    go_enter Try.func3, Try.ntmps3
    go_wp2_with (first | (go_at_call 4; (refine (c_big _ _ _ _ _ hz).mono ?_); rintro _ _ ⟨rfl, p, rfl⟩) | ((with_reducible refine wp_region_later (by kernel_rfl) (by kernel_rfl) ?_); (try dsimp only [List.append]); (repeat (first | go_big_quiet_skip | go_big_quiet_step ((first | (go_at_call 4; first | exact calls_later (c_big _ _ _ _ _ hz) | exact calls_later2 (c_big _ _ _ _ _ hz)))) | quiet_step ((first | (go_at_call 4; first | exact calls_later (c_big _ _ _ _ _ hz) | exact calls_later2 (c_big _ _ _ _ _ hz)))))); refine wpQuiet_nil ?_; rintro _ ⟨p, rfl⟩))
    go_ret
    exact Gives.mk rfl (by (repeat (first | with_reducible exact Below.refl _ _ | with_reducible assumption | with_reducible refine Below.drew ?_ | with_reducible refine below_drewN ?_ _ | with_reducible exact HQ.out | with_reducible exact HBW.out | with_reducible refine below_ext ?_ _ _ | with_reducible refine below_then_later ?_ (by first | with_reducible exact Nat.le_refl _ | with_reducible exact HBW.out.size | with_reducible exact HQ.out.size | omega | (simp; done) | (simp; omega) | (simp [later_size]; done) | (simp [later_size]; omega)) _ | with_reducible refine Below.setCell ?_ (by first | with_reducible exact Nat.le_refl _ | with_reducible exact HBW.out.size | with_reducible exact HQ.out.size | omega | (simp; done) | (simp; omega) | (simp [later_size]; done) | (simp [later_size]; omega)) _ | with_reducible refine Below.alloc ?_ (by first | with_reducible exact Nat.le_refl _ | with_reducible exact HBW.out.size | with_reducible exact HQ.out.size | omega | (simp; done) | (simp; omega) | (simp [later_size]; done) | (simp [later_size]; omega)) _)))
  · have hz : decide (1048576 < n) = false := by simpa using hbig
    go_enter Try.func3, Try.ntmps3
    have HB := Lib.hid (below_self w)
    go_wp2_with fail
    refine (c_big _ _ _ _ _ hz).mono ?_
    rintro _ W1 ⟨rfl, p1, hp1⟩
    have qHB := Lib.hid (below_to hp1 HB.out)
    have qHR := Lib.hid (row_to hp1 HR.out)
    clear HB HR hp1
    have HB := qHB
    clear qHB
    have HR := qHR
    clear qHR
    have hsW1 : w.heap.size ≤ W1.heap.size := HB.out.size
    go_wp2_with fail
    refine (c_drawAdjust _ _ _ xs _ HN.out (by omega) HR.out).mono ?_
    rintro _ W2 ⟨A1, n1, c1, xs1, y, v, m, rfl, hl1, hn1, hR1, hm, p, hp⟩
    have qHB := Lib.hid (below_to hp HB.out)
    have qHR := Lib.hid (row_to hp HR.out)
    clear HB HR hp
    have HB := qHB
    clear qHB
    have HR := qHR
    clear qHR
    have hsW2 : w.heap.size ≤ W2.heap.size := HB.out.size
    have HR1 := Lib.hid (hR1)
    have HL1 := Lib.hid hl1
    clear hl1 hR1
    have HM := Lib.hid hm
    clear hm
    obtain ⟨⟨R, K⟩, hRK⟩ : ∃ q, adjust xs1 y v m = q := ⟨_, rfl⟩
    have HRK := Lib.hid hRK
    have hRl : R.length ≤ 7 := by have h1 := adjust_len xs1 y v m; rw [hRK, HL1.out] at h1; simp only at h1; omega
    clear hRK
    go_wp2_with fail
    refine calls_anchor (F := fun V => (∃ p : Later, V = later W2 p) ∧ Blk (W2.heap.size) [.int .i64 y, .int .i64 v] 26 V) ⟨later_of_below (by (repeat (first | with_reducible exact Below.refl _ _ | with_reducible refine Below.drew ?_ | with_reducible refine Below.alloc ?_ (by first | exact Nat.le_refl _ | (simp; done) | (simp; omega)) _))), (by (repeat (first | exact Blk.new _ _ [.int .i64 y, .int .i64 v] _ (by first | rfl | (simp; done)) | with_reducible refine Blk.alloc ?_ _)))⟩ (fun W3 hV => ?_)
    obtain ⟨⟨p, hp⟩, qHK0⟩ := hV
    have qHB := Lib.hid (below_to hp HB.out)
    have qHR := Lib.hid (row_to hp HR.out)
    have qHR1 := Lib.hid (row_to hp HR1.out)
    clear HB HR HR1 hp
    have HB := qHB
    clear qHB
    have HR := qHR
    clear qHR
    have HR1 := qHR1
    clear qHR1
    have hsW3 : w.heap.size ≤ W3.heap.size := HB.out.size
    have HK := Lib.hid (qHK0)
    have cHK_0 := HK.out.cell (i := 0) rfl
    have zHK_0 := HK.out.frozen 0
    have cHK_1 := HK.out.cell (i := 1) rfl
    have zHK_1 := HK.out.frozen 1
    have lHK := HK.out.lt
    have mHK := Nat.le_of_lt lHK
    clear qHK0
    refine (m_iAdjust A1 n1 c1 xs1 y v m _ R K HL1.out (by omega) HM.out (by rw [HRK.out]) (by rw [HRK.out]) HR1.out).mono ?_
    rintro _ W4 ⟨A2, n2, c2, rfl, hl2, hc2, hm2, hO2, p4, hp4⟩
    have qHB := Lib.hid (below_to hp4 HB.out)
    have qHR := Lib.hid (row_to hp4 HR.out)
    have qHR1 := Lib.hid (row_to hp4 HR1.out)
    have qHK := Lib.hid (Blk.to hp4 HK.out)
    clear HB HR HR1 cHK_0 zHK_0 cHK_1 zHK_1 lHK mHK HK hp4
    have HB := qHB
    clear qHB
    have HR := qHR
    clear qHR
    have HR1 := qHR1
    clear qHR1
    have HK := qHK
    clear qHK
    have cHK_0 := HK.out.cell (i := 0) rfl
    have zHK_0 := HK.out.frozen 0
    have cHK_1 := HK.out.cell (i := 1) rfl
    have zHK_1 := HK.out.frozen 1
    have lHK := HK.out.lt
    have mHK := Nat.le_of_lt lHK
    have hsW4 : w.heap.size ≤ W4.heap.size := HB.out.size
    have HR2 := Lib.hid (hO2.row)
    have HL2 := Lib.hid hl2
    clear hO2 hl2
    have hb2 : n2 ≤ 7 := by rw [← HL2.out]; exact hRl
    go_wp2_with fail
    refine (m_sAdjust A1 n1 c1 xs1 y v m _ R K HL1.out (by omega) HM.out (by rw [HRK.out]) (by rw [HRK.out]) HR1.out).mono ?_
    rintro _ W5 ⟨A3, n3, c3, rfl, hl3, hc3, hm3, hO3, p5, hp5⟩
    have qHB := Lib.hid (below_to hp5 HB.out)
    have qHR := Lib.hid (row_to hp5 HR.out)
    have qHR1 := Lib.hid (row_to hp5 HR1.out)
    have qHK := Lib.hid (Blk.to hp5 HK.out)
    have qHR2 := Lib.hid (row_to hp5 HR2.out)
    clear HB HR HR1 cHK_0 zHK_0 cHK_1 zHK_1 lHK mHK HK HR2 hp5
    have HB := qHB
    clear qHB
    have HR := qHR
    clear qHR
    have HR1 := qHR1
    clear qHR1
    have HK := qHK
    clear qHK
    have cHK_0 := HK.out.cell (i := 0) rfl
    have zHK_0 := HK.out.frozen 0
    have cHK_1 := HK.out.cell (i := 1) rfl
    have zHK_1 := HK.out.frozen 1
    have lHK := HK.out.lt
    have mHK := Nat.le_of_lt lHK
    have HR2 := qHR2
    clear qHR2
    have hsW5 : w.heap.size ≤ W5.heap.size := HB.out.size
    have HR3 := Lib.hid (hO3.row)
    have HL3 := Lib.hid hl3
    clear hO3 hl3
    have hb3 : n3 ≤ 7 := by rw [← HL3.out]; exact hRl
    go_wp2_with fail
    refine (z_sameC A2 A3 n2 n3 c2 c3 R R _ HL2.out HL3.out (by omega) (by omega) HR2.out HR3.out rfl).mono ?_
    rintro _ W6 ⟨rfl, p6, hp6⟩
    have qHB := Lib.hid (below_to hp6 HB.out)
    have qHR := Lib.hid (row_to hp6 HR.out)
    have qHR1 := Lib.hid (row_to hp6 HR1.out)
    have qHK := Lib.hid (Blk.to hp6 HK.out)
    have qHR2 := Lib.hid (row_to hp6 HR2.out)
    have qHR3 := Lib.hid (row_to hp6 HR3.out)
    clear HB HR HR1 cHK_0 zHK_0 cHK_1 zHK_1 lHK mHK HK HR2 HR3 hp6
    have HB := qHB
    clear qHB
    have HR := qHR
    clear qHR
    have HR1 := qHR1
    clear qHR1
    have HK := qHK
    clear qHK
    have cHK_0 := HK.out.cell (i := 0) rfl
    have zHK_0 := HK.out.frozen 0
    have cHK_1 := HK.out.cell (i := 1) rfl
    have zHK_1 := HK.out.frozen 1
    have lHK := HK.out.lt
    have mHK := Nat.le_of_lt lHK
    have HR2 := qHR2
    clear qHR2
    have HR3 := qHR3
    clear qHR3
    have hsW6 : w.heap.size ≤ W6.heap.size := HB.out.size
    clear HR3
    obtain ⟨ok, hok⟩ : ∃ x, ctsOk xs1 = x := ⟨_, rfl⟩
    have HOK := Lib.hid hok
    clear hok
    go_wp2_with fail
    refine (c_iCountsOk_t A1 n1 c1 xs1 _ ok HL1.out (by omega) HR1.out HOK.out).mono ?_
    rintro _ W7 ⟨rfl, p7, hp7⟩
    have qHB := Lib.hid (below_to hp7 HB.out)
    have qHR := Lib.hid (row_to hp7 HR.out)
    have qHR1 := Lib.hid (row_to hp7 HR1.out)
    have qHK := Lib.hid (Blk.to hp7 HK.out)
    have qHR2 := Lib.hid (row_to hp7 HR2.out)
    clear HB HR HR1 cHK_0 zHK_0 cHK_1 zHK_1 lHK mHK HK HR2 hp7
    have HB := qHB
    clear qHB
    have HR := qHR
    clear qHR
    have HR1 := qHR1
    clear qHR1
    have HK := qHK
    clear qHK
    have cHK_0 := HK.out.cell (i := 0) rfl
    have zHK_0 := HK.out.frozen 0
    have cHK_1 := HK.out.cell (i := 1) rfl
    have zHK_1 := HK.out.frozen 1
    have lHK := HK.out.lt
    have mHK := Nat.le_of_lt lHK
    have HR2 := qHR2
    clear qHR2
    have hsW7 : w.heap.size ≤ W7.heap.size := HB.out.size
    go_wp2_with fail
    refine (c_sCountsOk_t A1 n1 c1 xs1 _ ok HL1.out (by omega) HR1.out HOK.out).mono ?_
    rintro _ W8 ⟨rfl, p8, hp8⟩
    have qHB := Lib.hid (below_to hp8 HB.out)
    have qHR := Lib.hid (row_to hp8 HR.out)
    have qHR1 := Lib.hid (row_to hp8 HR1.out)
    have qHK := Lib.hid (Blk.to hp8 HK.out)
    have qHR2 := Lib.hid (row_to hp8 HR2.out)
    clear HB HR HR1 cHK_0 zHK_0 cHK_1 zHK_1 lHK mHK HK HR2 hp8
    have HB := qHB
    clear qHB
    have HR := qHR
    clear qHR
    have HR1 := qHR1
    clear qHR1
    have HK := qHK
    clear qHK
    have cHK_0 := HK.out.cell (i := 0) rfl
    have zHK_0 := HK.out.frozen 0
    have cHK_1 := HK.out.cell (i := 1) rfl
    have zHK_1 := HK.out.frozen 1
    have lHK := HK.out.lt
    have mHK := Nat.le_of_lt lHK
    have HR2 := qHR2
    clear qHR2
    have hsW8 : w.heap.size ≤ W8.heap.size := HB.out.size
    go_wp2_with fail
    refine (c_drawAddCounts _ _ _ xs _ HN.out (by omega) HR.out).mono ?_
    rintro _ W9 ⟨A4, n4, c4, xs4, A5, n5, c5, xs5, rfl, hl4, hl5, hn4, hn5, hR4, hR5, p, hp⟩
    have qHB := Lib.hid (below_to hp HB.out)
    have qHR := Lib.hid (row_to hp HR.out)
    have qHR1 := Lib.hid (row_to hp HR1.out)
    have qHK := Lib.hid (Blk.to hp HK.out)
    have qHR2 := Lib.hid (row_to hp HR2.out)
    clear HB HR HR1 cHK_0 zHK_0 cHK_1 zHK_1 lHK mHK HK HR2 hp
    have HB := qHB
    clear qHB
    have HR := qHR
    clear qHR
    have HR1 := qHR1
    clear qHR1
    have HK := qHK
    clear qHK
    have cHK_0 := HK.out.cell (i := 0) rfl
    have zHK_0 := HK.out.frozen 0
    have cHK_1 := HK.out.cell (i := 1) rfl
    have zHK_1 := HK.out.frozen 1
    have lHK := HK.out.lt
    have mHK := Nat.le_of_lt lHK
    have HR2 := qHR2
    clear qHR2
    have hsW9 : w.heap.size ≤ W9.heap.size := HB.out.size
    have HR4 := Lib.hid (hR4)
    have HL4 := Lib.hid hl4
    clear hl4 hR4
    have HR5 := Lib.hid (hR5)
    have HL5 := Lib.hid hl5
    clear hl5 hR5
    obtain ⟨⟨S, K2⟩, hSK⟩ : ∃ q, addCounts xs4 xs5 = q := ⟨_, rfl⟩
    have HSK := Lib.hid hSK
    have hSl : S.length ≤ 12 := by have h1 := addCounts_len xs4 xs5; rw [hSK, HL4.out, HL5.out] at h1; simp only at h1; omega
    clear hSK
    go_wp2_with fail
    refine (m_iAddCounts A4 n4 c4 xs4 A5 n5 c5 xs5 _ S K2 HL4.out (by omega) HL5.out (by omega) (by rw [HSK.out]) (by rw [HSK.out]) HR4.out HR5.out).mono ?_
    rintro _ W10 ⟨A6, n6, c6, rfl, hl6, hc6, hm6, hO6, p10, hp10⟩
    have qHB := Lib.hid (below_to hp10 HB.out)
    have qHR := Lib.hid (row_to hp10 HR.out)
    have qHR1 := Lib.hid (row_to hp10 HR1.out)
    have qHK := Lib.hid (Blk.to hp10 HK.out)
    have qHR2 := Lib.hid (row_to hp10 HR2.out)
    have qHR4 := Lib.hid (row_to hp10 HR4.out)
    have qHR5 := Lib.hid (row_to hp10 HR5.out)
    clear HB HR HR1 cHK_0 zHK_0 cHK_1 zHK_1 lHK mHK HK HR2 HR4 HR5 hp10
    have HB := qHB
    clear qHB
    have HR := qHR
    clear qHR
    have HR1 := qHR1
    clear qHR1
    have HK := qHK
    clear qHK
    have cHK_0 := HK.out.cell (i := 0) rfl
    have zHK_0 := HK.out.frozen 0
    have cHK_1 := HK.out.cell (i := 1) rfl
    have zHK_1 := HK.out.frozen 1
    have lHK := HK.out.lt
    have mHK := Nat.le_of_lt lHK
    have HR2 := qHR2
    clear qHR2
    have HR4 := qHR4
    clear qHR4
    have HR5 := qHR5
    clear qHR5
    have hsW10 : w.heap.size ≤ W10.heap.size := HB.out.size
    have HR6 := Lib.hid (hO6.row)
    have HL6 := Lib.hid hl6
    clear hO6 hl6
    have hb6 : n6 ≤ 12 := by rw [← HL6.out]; exact hSl
    go_wp2_with fail
    refine (m_sAddCounts A4 n4 c4 xs4 A5 n5 c5 xs5 _ S K2 HL4.out (by omega) HL5.out (by omega) (by rw [HSK.out]) (by rw [HSK.out]) HR4.out HR5.out).mono ?_
    rintro _ W11 ⟨A7, n7, c7, rfl, hl7, hc7, hm7, hO7, p11, hp11⟩
    have qHB := Lib.hid (below_to hp11 HB.out)
    have qHR := Lib.hid (row_to hp11 HR.out)
    have qHR1 := Lib.hid (row_to hp11 HR1.out)
    have qHK := Lib.hid (Blk.to hp11 HK.out)
    have qHR2 := Lib.hid (row_to hp11 HR2.out)
    have qHR4 := Lib.hid (row_to hp11 HR4.out)
    have qHR5 := Lib.hid (row_to hp11 HR5.out)
    have qHR6 := Lib.hid (row_to hp11 HR6.out)
    clear HB HR HR1 cHK_0 zHK_0 cHK_1 zHK_1 lHK mHK HK HR2 HR4 HR5 HR6 hp11
    have HB := qHB
    clear qHB
    have HR := qHR
    clear qHR
    have HR1 := qHR1
    clear qHR1
    have HK := qHK
    clear qHK
    have cHK_0 := HK.out.cell (i := 0) rfl
    have zHK_0 := HK.out.frozen 0
    have cHK_1 := HK.out.cell (i := 1) rfl
    have zHK_1 := HK.out.frozen 1
    have lHK := HK.out.lt
    have mHK := Nat.le_of_lt lHK
    have HR2 := qHR2
    clear qHR2
    have HR4 := qHR4
    clear qHR4
    have HR5 := qHR5
    clear qHR5
    have HR6 := qHR6
    clear qHR6
    have hsW11 : w.heap.size ≤ W11.heap.size := HB.out.size
    have HR7 := Lib.hid (hO7.row)
    have HL7 := Lib.hid hl7
    clear hO7 hl7
    have hb7 : n7 ≤ 12 := by rw [← HL7.out]; exact hSl
    go_wp2_with fail
    refine (z_sameC A6 A7 n6 n7 c6 c7 S S _ HL6.out HL7.out (by omega) (by omega) HR6.out HR7.out rfl).mono ?_
    rintro _ W12 ⟨rfl, p12, hp12⟩
    have qHB := Lib.hid (below_to hp12 HB.out)
    have qHR := Lib.hid (row_to hp12 HR.out)
    have qHR1 := Lib.hid (row_to hp12 HR1.out)
    have qHK := Lib.hid (Blk.to hp12 HK.out)
    have qHR2 := Lib.hid (row_to hp12 HR2.out)
    have qHR4 := Lib.hid (row_to hp12 HR4.out)
    have qHR5 := Lib.hid (row_to hp12 HR5.out)
    have qHR6 := Lib.hid (row_to hp12 HR6.out)
    have qHR7 := Lib.hid (row_to hp12 HR7.out)
    clear HB HR HR1 cHK_0 zHK_0 cHK_1 zHK_1 lHK mHK HK HR2 HR4 HR5 HR6 HR7 hp12
    have HB := qHB
    clear qHB
    have HR := qHR
    clear qHR
    have HR1 := qHR1
    clear qHR1
    have HK := qHK
    clear qHK
    have cHK_0 := HK.out.cell (i := 0) rfl
    have zHK_0 := HK.out.frozen 0
    have cHK_1 := HK.out.cell (i := 1) rfl
    have zHK_1 := HK.out.frozen 1
    have lHK := HK.out.lt
    have mHK := Nat.le_of_lt lHK
    have HR2 := qHR2
    clear qHR2
    have HR4 := qHR4
    clear qHR4
    have HR5 := qHR5
    clear qHR5
    have HR6 := qHR6
    clear qHR6
    have HR7 := qHR7
    clear qHR7
    have hsW12 : w.heap.size ≤ W12.heap.size := HB.out.size
    clear HR7
    go_wp2_with fail
    refine (c_drawEpochCount _ _ _ xs _ HN.out (by omega) HR.out).mono ?_
    rintro _ W13 ⟨A8, n8, c8, xs8, ep, rfl, hl8, hn8, hR8, -, -, p, hp⟩
    have qHB := Lib.hid (below_to hp HB.out)
    have qHR := Lib.hid (row_to hp HR.out)
    have qHR1 := Lib.hid (row_to hp HR1.out)
    have qHK := Lib.hid (Blk.to hp HK.out)
    have qHR2 := Lib.hid (row_to hp HR2.out)
    have qHR4 := Lib.hid (row_to hp HR4.out)
    have qHR5 := Lib.hid (row_to hp HR5.out)
    have qHR6 := Lib.hid (row_to hp HR6.out)
    clear HB HR HR1 cHK_0 zHK_0 cHK_1 zHK_1 lHK mHK HK HR2 HR4 HR5 HR6 hp
    have HB := qHB
    clear qHB
    have HR := qHR
    clear qHR
    have HR1 := qHR1
    clear qHR1
    have HK := qHK
    clear qHK
    have cHK_0 := HK.out.cell (i := 0) rfl
    have zHK_0 := HK.out.frozen 0
    have cHK_1 := HK.out.cell (i := 1) rfl
    have zHK_1 := HK.out.frozen 1
    have lHK := HK.out.lt
    have mHK := Nat.le_of_lt lHK
    have HR2 := qHR2
    clear qHR2
    have HR4 := qHR4
    clear qHR4
    have HR5 := qHR5
    clear qHR5
    have HR6 := qHR6
    clear qHR6
    have hsW13 : w.heap.size ≤ W13.heap.size := HB.out.size
    have HR8 := Lib.hid (hR8)
    have HL8 := Lib.hid hl8
    clear hl8 hR8
    clear HR
    obtain ⟨F, hF⟩ : ∃ F, minimal (frOf xs8) = F := ⟨_, rfl⟩
    have HF := Lib.hid hF
    have hFl : F.length ≤ 6 := by have h1 := minimal_len (frOf xs8); have h2 := frOf_len xs8; rw [hF] at h1; rw [HL8.out] at h2; omega
    clear hF
    go_wp2_with fail
    refine (m_iFrontOf A8 n8 c8 xs8 F _ HL8.out (by omega) HR8.out HF.out).mono ?_
    rintro _ W14 ⟨A9, n9, c9, rfl, hl9, hc9, hm9, hO9, p14, hp14⟩
    have qHB := Lib.hid (below_to hp14 HB.out)
    have qHR1 := Lib.hid (row_to hp14 HR1.out)
    have qHK := Lib.hid (Blk.to hp14 HK.out)
    have qHR2 := Lib.hid (row_to hp14 HR2.out)
    have qHR4 := Lib.hid (row_to hp14 HR4.out)
    have qHR5 := Lib.hid (row_to hp14 HR5.out)
    have qHR6 := Lib.hid (row_to hp14 HR6.out)
    have qHR8 := Lib.hid (row_to hp14 HR8.out)
    clear HB HR1 cHK_0 zHK_0 cHK_1 zHK_1 lHK mHK HK HR2 HR4 HR5 HR6 HR8 hp14
    have HB := qHB
    clear qHB
    have HR1 := qHR1
    clear qHR1
    have HK := qHK
    clear qHK
    have cHK_0 := HK.out.cell (i := 0) rfl
    have zHK_0 := HK.out.frozen 0
    have cHK_1 := HK.out.cell (i := 1) rfl
    have zHK_1 := HK.out.frozen 1
    have lHK := HK.out.lt
    have mHK := Nat.le_of_lt lHK
    have HR2 := qHR2
    clear qHR2
    have HR4 := qHR4
    clear qHR4
    have HR5 := qHR5
    clear qHR5
    have HR6 := qHR6
    clear qHR6
    have HR8 := qHR8
    clear qHR8
    have hsW14 : w.heap.size ≤ W14.heap.size := HB.out.size
    have HR9 := Lib.hid (hO9.row)
    have HL9 := Lib.hid hl9
    clear hO9 hl9
    have hb9 : n9 ≤ 6 := by rw [← HL9.out]; exact hFl
    go_wp2_with fail
    refine (m_iAdjust Option.none 0 0 [] 1 0 5 _ [((1, 0), 5)] true rfl (by omega) (by unfold I64; omega) (by rw [adjust_one]) (by rw [adjust_one]) Row.nil).mono ?_
    rintro _ W15 ⟨A10, n10, c10, rfl, hl10, hc10, hm10, hO10, p15, hp15⟩
    have qHB := Lib.hid (below_to hp15 HB.out)
    have qHR1 := Lib.hid (row_to hp15 HR1.out)
    have qHK := Lib.hid (Blk.to hp15 HK.out)
    have qHR2 := Lib.hid (row_to hp15 HR2.out)
    have qHR4 := Lib.hid (row_to hp15 HR4.out)
    have qHR5 := Lib.hid (row_to hp15 HR5.out)
    have qHR6 := Lib.hid (row_to hp15 HR6.out)
    have qHR8 := Lib.hid (row_to hp15 HR8.out)
    have qHR9 := Lib.hid (row_to hp15 HR9.out)
    clear HB HR1 cHK_0 zHK_0 cHK_1 zHK_1 lHK mHK HK HR2 HR4 HR5 HR6 HR8 HR9 hp15
    have HB := qHB
    clear qHB
    have HR1 := qHR1
    clear qHR1
    have HK := qHK
    clear qHK
    have cHK_0 := HK.out.cell (i := 0) rfl
    have zHK_0 := HK.out.frozen 0
    have cHK_1 := HK.out.cell (i := 1) rfl
    have zHK_1 := HK.out.frozen 1
    have lHK := HK.out.lt
    have mHK := Nat.le_of_lt lHK
    have HR2 := qHR2
    clear qHR2
    have HR4 := qHR4
    clear qHR4
    have HR5 := qHR5
    clear qHR5
    have HR6 := qHR6
    clear qHR6
    have HR8 := qHR8
    clear qHR8
    have HR9 := qHR9
    clear qHR9
    have hsW15 : w.heap.size ≤ W15.heap.size := HB.out.size
    have HR10 := Lib.hid (hO10.row)
    have HL10 := Lib.hid hl10
    clear hO10 hl10
    obtain rfl : 1 = n10 := HL10.out
    go_wp2_with fail
    refine (m_sFrontOf A8 n8 c8 xs8 F _ HL8.out (by omega) HR8.out HF.out).mono ?_
    rintro _ W16 ⟨A11, n11, c11, rfl, hl11, hc11, hm11, hO11, p16, hp16⟩
    have qHB := Lib.hid (below_to hp16 HB.out)
    have qHR1 := Lib.hid (row_to hp16 HR1.out)
    have qHK := Lib.hid (Blk.to hp16 HK.out)
    have qHR2 := Lib.hid (row_to hp16 HR2.out)
    have qHR4 := Lib.hid (row_to hp16 HR4.out)
    have qHR5 := Lib.hid (row_to hp16 HR5.out)
    have qHR6 := Lib.hid (row_to hp16 HR6.out)
    have qHR8 := Lib.hid (row_to hp16 HR8.out)
    have qHR9 := Lib.hid (row_to hp16 HR9.out)
    have qHR10 := Lib.hid (row_to hp16 HR10.out)
    clear HB HR1 cHK_0 zHK_0 cHK_1 zHK_1 lHK mHK HK HR2 HR4 HR5 HR6 HR8 HR9 HR10 hp16
    have HB := qHB
    clear qHB
    have HR1 := qHR1
    clear qHR1
    have HK := qHK
    clear qHK
    have cHK_0 := HK.out.cell (i := 0) rfl
    have zHK_0 := HK.out.frozen 0
    have cHK_1 := HK.out.cell (i := 1) rfl
    have zHK_1 := HK.out.frozen 1
    have lHK := HK.out.lt
    have mHK := Nat.le_of_lt lHK
    have HR2 := qHR2
    clear qHR2
    have HR4 := qHR4
    clear qHR4
    have HR5 := qHR5
    clear qHR5
    have HR6 := qHR6
    clear qHR6
    have HR8 := qHR8
    clear qHR8
    have HR9 := qHR9
    clear qHR9
    have HR10 := qHR10
    clear qHR10
    have hsW16 : w.heap.size ≤ W16.heap.size := HB.out.size
    have HR11 := Lib.hid (hO11.row)
    have HL11 := Lib.hid hl11
    clear hO11 hl11
    have hb11 : n11 ≤ 6 := by rw [← HL11.out]; exact hFl
    go_wp2_with fail
    refine (z_sameS A9 A11 n9 n11 c9 c11 F F _ HL9.out HL11.out (by omega) (by omega) HR9.out HR11.out rfl).mono ?_
    rintro _ W17 ⟨rfl, p17, hp17⟩
    have qHB := Lib.hid (below_to hp17 HB.out)
    have qHR1 := Lib.hid (row_to hp17 HR1.out)
    have qHK := Lib.hid (Blk.to hp17 HK.out)
    have qHR2 := Lib.hid (row_to hp17 HR2.out)
    have qHR4 := Lib.hid (row_to hp17 HR4.out)
    have qHR5 := Lib.hid (row_to hp17 HR5.out)
    have qHR6 := Lib.hid (row_to hp17 HR6.out)
    have qHR8 := Lib.hid (row_to hp17 HR8.out)
    have qHR9 := Lib.hid (row_to hp17 HR9.out)
    have qHR10 := Lib.hid (row_to hp17 HR10.out)
    have qHR11 := Lib.hid (row_to hp17 HR11.out)
    clear HB HR1 cHK_0 zHK_0 cHK_1 zHK_1 lHK mHK HK HR2 HR4 HR5 HR6 HR8 HR9 HR10 HR11 hp17
    have HB := qHB
    clear qHB
    have HR1 := qHR1
    clear qHR1
    have HK := qHK
    clear qHK
    have cHK_0 := HK.out.cell (i := 0) rfl
    have zHK_0 := HK.out.frozen 0
    have cHK_1 := HK.out.cell (i := 1) rfl
    have zHK_1 := HK.out.frozen 1
    have lHK := HK.out.lt
    have mHK := Nat.le_of_lt lHK
    have HR2 := qHR2
    clear qHR2
    have HR4 := qHR4
    clear qHR4
    have HR5 := qHR5
    clear qHR5
    have HR6 := qHR6
    clear qHR6
    have HR8 := qHR8
    clear qHR8
    have HR9 := qHR9
    clear qHR9
    have HR10 := qHR10
    clear qHR10
    have HR11 := qHR11
    clear qHR11
    have hsW17 : w.heap.size ≤ W17.heap.size := HB.out.size
    clear HR9
    clear HR11
    obtain ⟨ec, hec⟩ : ∃ x, epochCount xs8 ep = x := ⟨_, rfl⟩
    obtain ⟨tc, htc⟩ : ∃ x, total xs8 = x := ⟨_, rfl⟩
    have HEC := Lib.hid hec
    have HTC := Lib.hid htc
    clear hec htc
    go_wp2_with fail
    refine (g_int (c_iEpochCount A8 n8 c8 xs8 ep _ HL8.out (by omega) HR8.out) HEC.out).mono ?_
    rintro _ W18 ⟨rfl, p18, hp18⟩
    have qHB := Lib.hid (below_to hp18 HB.out)
    have qHR1 := Lib.hid (row_to hp18 HR1.out)
    have qHK := Lib.hid (Blk.to hp18 HK.out)
    have qHR2 := Lib.hid (row_to hp18 HR2.out)
    have qHR4 := Lib.hid (row_to hp18 HR4.out)
    have qHR5 := Lib.hid (row_to hp18 HR5.out)
    have qHR6 := Lib.hid (row_to hp18 HR6.out)
    have qHR8 := Lib.hid (row_to hp18 HR8.out)
    have qHR10 := Lib.hid (row_to hp18 HR10.out)
    clear HB HR1 cHK_0 zHK_0 cHK_1 zHK_1 lHK mHK HK HR2 HR4 HR5 HR6 HR8 HR10 hp18
    have HB := qHB
    clear qHB
    have HR1 := qHR1
    clear qHR1
    have HK := qHK
    clear qHK
    have cHK_0 := HK.out.cell (i := 0) rfl
    have zHK_0 := HK.out.frozen 0
    have cHK_1 := HK.out.cell (i := 1) rfl
    have zHK_1 := HK.out.frozen 1
    have lHK := HK.out.lt
    have mHK := Nat.le_of_lt lHK
    have HR2 := qHR2
    clear qHR2
    have HR4 := qHR4
    clear qHR4
    have HR5 := qHR5
    clear qHR5
    have HR6 := qHR6
    clear qHR6
    have HR8 := qHR8
    clear qHR8
    have HR10 := qHR10
    clear qHR10
    have hsW18 : w.heap.size ≤ W18.heap.size := HB.out.size
    go_wp2_with fail
    refine (g_int (c_sEpochCount A8 n8 c8 xs8 ep _ HL8.out (by omega) HR8.out) HEC.out).mono ?_
    rintro _ W19 ⟨rfl, p19, hp19⟩
    have qHB := Lib.hid (below_to hp19 HB.out)
    have qHR1 := Lib.hid (row_to hp19 HR1.out)
    have qHK := Lib.hid (Blk.to hp19 HK.out)
    have qHR2 := Lib.hid (row_to hp19 HR2.out)
    have qHR4 := Lib.hid (row_to hp19 HR4.out)
    have qHR5 := Lib.hid (row_to hp19 HR5.out)
    have qHR6 := Lib.hid (row_to hp19 HR6.out)
    have qHR8 := Lib.hid (row_to hp19 HR8.out)
    have qHR10 := Lib.hid (row_to hp19 HR10.out)
    clear HB HR1 cHK_0 zHK_0 cHK_1 zHK_1 lHK mHK HK HR2 HR4 HR5 HR6 HR8 HR10 hp19
    have HB := qHB
    clear qHB
    have HR1 := qHR1
    clear qHR1
    have HK := qHK
    clear qHK
    have cHK_0 := HK.out.cell (i := 0) rfl
    have zHK_0 := HK.out.frozen 0
    have cHK_1 := HK.out.cell (i := 1) rfl
    have zHK_1 := HK.out.frozen 1
    have lHK := HK.out.lt
    have mHK := Nat.le_of_lt lHK
    have HR2 := qHR2
    clear qHR2
    have HR4 := qHR4
    clear qHR4
    have HR5 := qHR5
    clear qHR5
    have HR6 := qHR6
    clear qHR6
    have HR8 := qHR8
    clear qHR8
    have HR10 := qHR10
    clear qHR10
    have hsW19 : w.heap.size ≤ W19.heap.size := HB.out.size
    go_wp2_with fail
    refine (g_int (c_iTotalCount A8 n8 c8 xs8 _ HL8.out (by omega) HR8.out) HTC.out).mono ?_
    rintro _ W20 ⟨rfl, p20, hp20⟩
    have qHB := Lib.hid (below_to hp20 HB.out)
    have qHR1 := Lib.hid (row_to hp20 HR1.out)
    have qHK := Lib.hid (Blk.to hp20 HK.out)
    have qHR2 := Lib.hid (row_to hp20 HR2.out)
    have qHR4 := Lib.hid (row_to hp20 HR4.out)
    have qHR5 := Lib.hid (row_to hp20 HR5.out)
    have qHR6 := Lib.hid (row_to hp20 HR6.out)
    have qHR8 := Lib.hid (row_to hp20 HR8.out)
    have qHR10 := Lib.hid (row_to hp20 HR10.out)
    clear HB HR1 cHK_0 zHK_0 cHK_1 zHK_1 lHK mHK HK HR2 HR4 HR5 HR6 HR8 HR10 hp20
    have HB := qHB
    clear qHB
    have HR1 := qHR1
    clear qHR1
    have HK := qHK
    clear qHK
    have cHK_0 := HK.out.cell (i := 0) rfl
    have zHK_0 := HK.out.frozen 0
    have cHK_1 := HK.out.cell (i := 1) rfl
    have zHK_1 := HK.out.frozen 1
    have lHK := HK.out.lt
    have mHK := Nat.le_of_lt lHK
    have HR2 := qHR2
    clear qHR2
    have HR4 := qHR4
    clear qHR4
    have HR5 := qHR5
    clear qHR5
    have HR6 := qHR6
    clear qHR6
    have HR8 := qHR8
    clear qHR8
    have HR10 := qHR10
    clear qHR10
    have hsW20 : w.heap.size ≤ W20.heap.size := HB.out.size
    go_wp2_with fail
    refine (g_int (c_sTotalCount A8 n8 c8 xs8 _ HL8.out (by omega) HR8.out) HTC.out).mono ?_
    rintro _ W21 ⟨rfl, p21, hp21⟩
    have qHB := Lib.hid (below_to hp21 HB.out)
    have qHR1 := Lib.hid (row_to hp21 HR1.out)
    have qHK := Lib.hid (Blk.to hp21 HK.out)
    have qHR2 := Lib.hid (row_to hp21 HR2.out)
    have qHR4 := Lib.hid (row_to hp21 HR4.out)
    have qHR5 := Lib.hid (row_to hp21 HR5.out)
    have qHR6 := Lib.hid (row_to hp21 HR6.out)
    have qHR8 := Lib.hid (row_to hp21 HR8.out)
    have qHR10 := Lib.hid (row_to hp21 HR10.out)
    clear HB HR1 cHK_0 zHK_0 cHK_1 zHK_1 lHK mHK HK HR2 HR4 HR5 HR6 HR8 HR10 hp21
    have HB := qHB
    clear qHB
    have HR1 := qHR1
    clear qHR1
    have HK := qHK
    clear qHK
    have cHK_0 := HK.out.cell (i := 0) rfl
    have zHK_0 := HK.out.frozen 0
    have cHK_1 := HK.out.cell (i := 1) rfl
    have zHK_1 := HK.out.frozen 1
    have lHK := HK.out.lt
    have mHK := Nat.le_of_lt lHK
    have HR2 := qHR2
    clear qHR2
    have HR4 := qHR4
    clear qHR4
    have HR5 := qHR5
    clear qHR5
    have HR6 := qHR6
    clear qHR6
    have HR8 := qHR8
    clear qHR8
    have HR10 := qHR10
    clear qHR10
    have hsW21 : w.heap.size ≤ W21.heap.size := HB.out.size
    clear HR8
    cases K
    · obtain rfl : R = xs1 := adjust_same HRK.out
      go_wp2_with fail
      refine (z_sameC A2 A1 n2 n1 c2 c1 R R _ HL2.out HL1.out (by omega) (by omega) HR2.out HR1.out rfl).mono ?_
      rintro _ W22 ⟨rfl, p22, hp22⟩
      have qHB := Lib.hid (below_to hp22 HB.out)
      have qHR1 := Lib.hid (row_to hp22 HR1.out)
      have qHK := Lib.hid (Blk.to hp22 HK.out)
      have qHR2 := Lib.hid (row_to hp22 HR2.out)
      have qHR4 := Lib.hid (row_to hp22 HR4.out)
      have qHR5 := Lib.hid (row_to hp22 HR5.out)
      have qHR6 := Lib.hid (row_to hp22 HR6.out)
      have qHR10 := Lib.hid (row_to hp22 HR10.out)
      clear HB HR1 cHK_0 zHK_0 cHK_1 zHK_1 lHK mHK HK HR2 HR4 HR5 HR6 HR10 hp22
      have HB := qHB
      clear qHB
      have HR1 := qHR1
      clear qHR1
      have HK := qHK
      clear qHK
      have cHK_0 := HK.out.cell (i := 0) rfl
      have zHK_0 := HK.out.frozen 0
      have cHK_1 := HK.out.cell (i := 1) rfl
      have zHK_1 := HK.out.frozen 1
      have lHK := HK.out.lt
      have mHK := Nat.le_of_lt lHK
      have HR2 := qHR2
      clear qHR2
      have HR4 := qHR4
      clear qHR4
      have HR5 := qHR5
      clear qHR5
      have HR6 := qHR6
      clear qHR6
      have HR10 := qHR10
      clear qHR10
      have hsW22 : w.heap.size ≤ W22.heap.size := HB.out.size
      go_wp2_with fail
      refine (g_int (c_iCountAt A10 1 c10 [((1, 0), 5)] 1 0 _ rfl (by omega) HR10.out) count_one).mono ?_
      rintro _ W23 ⟨rfl, p23, hp23⟩
      have qHB := Lib.hid (below_to hp23 HB.out)
      have qHR1 := Lib.hid (row_to hp23 HR1.out)
      have qHK := Lib.hid (Blk.to hp23 HK.out)
      have qHR2 := Lib.hid (row_to hp23 HR2.out)
      have qHR4 := Lib.hid (row_to hp23 HR4.out)
      have qHR5 := Lib.hid (row_to hp23 HR5.out)
      have qHR6 := Lib.hid (row_to hp23 HR6.out)
      have qHR10 := Lib.hid (row_to hp23 HR10.out)
      clear HB HR1 cHK_0 zHK_0 cHK_1 zHK_1 lHK mHK HK HR2 HR4 HR5 HR6 HR10 hp23
      have HB := qHB
      clear qHB
      have HR1 := qHR1
      clear qHR1
      have HK := qHK
      clear qHK
      have cHK_0 := HK.out.cell (i := 0) rfl
      have zHK_0 := HK.out.frozen 0
      have cHK_1 := HK.out.cell (i := 1) rfl
      have zHK_1 := HK.out.frozen 1
      have lHK := HK.out.lt
      have mHK := Nat.le_of_lt lHK
      have HR2 := qHR2
      clear qHR2
      have HR4 := qHR4
      clear qHR4
      have HR5 := qHR5
      clear qHR5
      have HR6 := qHR6
      clear qHR6
      have HR10 := qHR10
      clear qHR10
      have hsW23 : w.heap.size ≤ W23.heap.size := HB.out.size
      go_wp2_with fail
      go_ret
      exact Gives.mk (ret_bool (by first | rfl | simp)) HB.out
    · obtain ⟨e1, e2, ⟨e3, e3'⟩, e4, e4'⟩ := adjust_back HRK.out
      have HBK := Lib.hid e2
      have e5 := total_adjust HRK.out
      obtain ⟨c0, hc0⟩ : ∃ x, countAt xs1 y v = x := ⟨_, rfl⟩
      rw [hc0] at e1 e4 e4'
      obtain ⟨T0, hT0⟩ : ∃ x, total xs1 = x := ⟨_, rfl⟩
      obtain ⟨T1, hT1⟩ : ∃ x, total R = x := ⟨_, rfl⟩
      rw [hT0, hT1] at e5
      have HC0 := Lib.hid hc0
      have HC1 := Lib.hid e1
      have HT0 := Lib.hid hT0
      have HT1 := Lib.hid hT1
      clear e1 e2 hc0 hT0 hT1
      have HE5 := Lib.hid e5
      clear e5
      go_wp2_with fail
      refine (m_iAdjust A2 n2 c2 R y v (-m) _ xs1 true HL2.out (by omega) (by unfold I64; omega) (by rw [HBK.out]) (by rw [HBK.out]) HR2.out).mono ?_
      rintro _ W22 ⟨A12, n12, c12, rfl, hl12, hc12, hm12, hO12, p22, hp22⟩
      have qHB := Lib.hid (below_to hp22 HB.out)
      have qHR1 := Lib.hid (row_to hp22 HR1.out)
      have qHK := Lib.hid (Blk.to hp22 HK.out)
      have qHR2 := Lib.hid (row_to hp22 HR2.out)
      have qHR4 := Lib.hid (row_to hp22 HR4.out)
      have qHR5 := Lib.hid (row_to hp22 HR5.out)
      have qHR6 := Lib.hid (row_to hp22 HR6.out)
      have qHR10 := Lib.hid (row_to hp22 HR10.out)
      clear HB HR1 cHK_0 zHK_0 cHK_1 zHK_1 lHK mHK HK HR2 HR4 HR5 HR6 HR10 hp22
      have HB := qHB
      clear qHB
      have HR1 := qHR1
      clear qHR1
      have HK := qHK
      clear qHK
      have cHK_0 := HK.out.cell (i := 0) rfl
      have zHK_0 := HK.out.frozen 0
      have cHK_1 := HK.out.cell (i := 1) rfl
      have zHK_1 := HK.out.frozen 1
      have lHK := HK.out.lt
      have mHK := Nat.le_of_lt lHK
      have HR2 := qHR2
      clear qHR2
      have HR4 := qHR4
      clear qHR4
      have HR5 := qHR5
      clear qHR5
      have HR6 := qHR6
      clear qHR6
      have HR10 := qHR10
      clear qHR10
      have hsW22 : w.heap.size ≤ W22.heap.size := HB.out.size
      have HR12 := Lib.hid (hO12.row)
      have HL12 := Lib.hid hl12
      clear hO12 hl12
      obtain rfl : n1 = n12 := HL1.out.symm.trans HL12.out
      go_wp2_with fail
      obtain ⟨Ta, hTa⟩ : ∃ x, total xs4 = x := ⟨_, rfl⟩
      obtain ⟨Tb, hTb⟩ : ∃ x, total xs5 = x := ⟨_, rfl⟩
      obtain ⟨Ty, hTy⟩ : ∃ x, total S = x := ⟨_, rfl⟩
      have HTA := Lib.hid hTa
      have HTB := Lib.hid hTb
      have HTY := Lib.hid hTy
      have hw1 : IntKind.i64.wrap (c0 + m) = c0 + m := IntWalk.i64_in _ (by omega)
      have hw2 : wrap64 (T0 + m) = T1 := HE5.out
      cases K2
      · clear hTa hTb hTy
        go_wp2_with (first | (go_at_call 8; (with_reducible refine (z_sameC A12 A1 n1 n1 c12 c1 xs1 xs1 _ HL12.out HL1.out (by omega) (by omega) (HR12.out.later _) (HR1.out.later _) rfl).mono ?_); rintro _ _ ⟨rfl, p, rfl⟩) | (go_at_call 22; (with_reducible refine (g_int (c_iCountAt A2 n2 c2 R y v _ HL2.out (by omega) (HR2.out.later _)) HC1.out).mono ?_); rintro _ _ ⟨rfl, p, rfl⟩) | (go_at_call 23; (with_reducible refine (g_int (c_sCountAt A1 n1 c1 xs1 y v _ HL1.out (by omega) (HR1.out.later _)) HC0.out).mono ?_); rintro _ _ ⟨rfl, p, rfl⟩) | (go_at_call 20; (first | (with_reducible refine (g_int (c_iTotalCount A2 n2 c2 R _ HL2.out (by omega) (HR2.out.later _)) HT1.out).mono ?_) | (with_reducible refine (g_int (c_iTotalCount A6 n6 c6 S _ HL6.out (by omega) (HR6.out.later _)) HTY.out).mono ?_)); rintro _ _ ⟨rfl, p, rfl⟩) | (go_at_call 21; (first | (with_reducible refine (g_int (c_sTotalCount A1 n1 c1 xs1 _ HL1.out (by omega) (HR1.out.later _)) HT0.out).mono ?_) | (with_reducible refine (g_int (c_sTotalCount A4 n4 c4 xs4 _ HL4.out (by omega) (HR4.out.later _)) HTA.out).mono ?_) | (with_reducible refine (g_int (c_sTotalCount A5 n5 c5 xs5 _ HL5.out (by omega) (HR5.out.later _)) HTB.out).mono ?_)); rintro _ _ ⟨rfl, p, rfl⟩) | ((with_reducible refine wp_region_later (by kernel_rfl) (by kernel_rfl) ?_); (try dsimp only [List.append]); (repeat (first | go_big_quiet_skip | go_big_quiet_step ((first | (go_at_call 8; first | with_reducible exact calls_later (z_sameC A12 A1 n1 n1 c12 c1 xs1 xs1 _ HL12.out HL1.out (by omega) (by omega) (HR12.out.later _) (HR1.out.later _) rfl) | with_reducible exact calls_later2 (z_sameC A12 A1 n1 n1 c12 c1 xs1 xs1 _ HL12.out HL1.out (by omega) (by omega) (HR12.out.later _) (HR1.out.later _) rfl)) | (go_at_call 22; first | with_reducible exact calls_later (g_int (c_iCountAt A2 n2 c2 R y v _ HL2.out (by omega) (HR2.out.later _)) HC1.out) | with_reducible exact calls_later2 (g_int (c_iCountAt A2 n2 c2 R y v _ HL2.out (by omega) (HR2.out.later _)) HC1.out)) | (go_at_call 23; first | with_reducible exact calls_later (g_int (c_sCountAt A1 n1 c1 xs1 y v _ HL1.out (by omega) (HR1.out.later _)) HC0.out) | with_reducible exact calls_later2 (g_int (c_sCountAt A1 n1 c1 xs1 y v _ HL1.out (by omega) (HR1.out.later _)) HC0.out)) | (go_at_call 20; first | with_reducible exact calls_later (g_int (c_iTotalCount A2 n2 c2 R _ HL2.out (by omega) (HR2.out.later _)) HT1.out) | with_reducible exact calls_later2 (g_int (c_iTotalCount A2 n2 c2 R _ HL2.out (by omega) (HR2.out.later _)) HT1.out) | with_reducible exact calls_later (g_int (c_iTotalCount A6 n6 c6 S _ HL6.out (by omega) (HR6.out.later _)) HTY.out) | with_reducible exact calls_later2 (g_int (c_iTotalCount A6 n6 c6 S _ HL6.out (by omega) (HR6.out.later _)) HTY.out)) | (go_at_call 21; first | with_reducible exact calls_later (g_int (c_sTotalCount A1 n1 c1 xs1 _ HL1.out (by omega) (HR1.out.later _)) HT0.out) | with_reducible exact calls_later2 (g_int (c_sTotalCount A1 n1 c1 xs1 _ HL1.out (by omega) (HR1.out.later _)) HT0.out) | with_reducible exact calls_later (g_int (c_sTotalCount A4 n4 c4 xs4 _ HL4.out (by omega) (HR4.out.later _)) HTA.out) | with_reducible exact calls_later2 (g_int (c_sTotalCount A4 n4 c4 xs4 _ HL4.out (by omega) (HR4.out.later _)) HTA.out) | with_reducible exact calls_later (g_int (c_sTotalCount A5 n5 c5 xs5 _ HL5.out (by omega) (HR5.out.later _)) HTB.out) | with_reducible exact calls_later2 (g_int (c_sTotalCount A5 n5 c5 xs5 _ HL5.out (by omega) (HR5.out.later _)) HTB.out)))) | quiet_step ((first | (go_at_call 8; first | with_reducible exact calls_later (z_sameC A12 A1 n1 n1 c12 c1 xs1 xs1 _ HL12.out HL1.out (by omega) (by omega) (HR12.out.later _) (HR1.out.later _) rfl) | with_reducible exact calls_later2 (z_sameC A12 A1 n1 n1 c12 c1 xs1 xs1 _ HL12.out HL1.out (by omega) (by omega) (HR12.out.later _) (HR1.out.later _) rfl)) | (go_at_call 22; first | with_reducible exact calls_later (g_int (c_iCountAt A2 n2 c2 R y v _ HL2.out (by omega) (HR2.out.later _)) HC1.out) | with_reducible exact calls_later2 (g_int (c_iCountAt A2 n2 c2 R y v _ HL2.out (by omega) (HR2.out.later _)) HC1.out)) | (go_at_call 23; first | with_reducible exact calls_later (g_int (c_sCountAt A1 n1 c1 xs1 y v _ HL1.out (by omega) (HR1.out.later _)) HC0.out) | with_reducible exact calls_later2 (g_int (c_sCountAt A1 n1 c1 xs1 y v _ HL1.out (by omega) (HR1.out.later _)) HC0.out)) | (go_at_call 20; first | with_reducible exact calls_later (g_int (c_iTotalCount A2 n2 c2 R _ HL2.out (by omega) (HR2.out.later _)) HT1.out) | with_reducible exact calls_later2 (g_int (c_iTotalCount A2 n2 c2 R _ HL2.out (by omega) (HR2.out.later _)) HT1.out) | with_reducible exact calls_later (g_int (c_iTotalCount A6 n6 c6 S _ HL6.out (by omega) (HR6.out.later _)) HTY.out) | with_reducible exact calls_later2 (g_int (c_iTotalCount A6 n6 c6 S _ HL6.out (by omega) (HR6.out.later _)) HTY.out)) | (go_at_call 21; first | with_reducible exact calls_later (g_int (c_sTotalCount A1 n1 c1 xs1 _ HL1.out (by omega) (HR1.out.later _)) HT0.out) | with_reducible exact calls_later2 (g_int (c_sTotalCount A1 n1 c1 xs1 _ HL1.out (by omega) (HR1.out.later _)) HT0.out) | with_reducible exact calls_later (g_int (c_sTotalCount A4 n4 c4 xs4 _ HL4.out (by omega) (HR4.out.later _)) HTA.out) | with_reducible exact calls_later2 (g_int (c_sTotalCount A4 n4 c4 xs4 _ HL4.out (by omega) (HR4.out.later _)) HTA.out) | with_reducible exact calls_later (g_int (c_sTotalCount A5 n5 c5 xs5 _ HL5.out (by omega) (HR5.out.later _)) HTB.out) | with_reducible exact calls_later2 (g_int (c_sTotalCount A5 n5 c5 xs5 _ HL5.out (by omega) (HR5.out.later _)) HTB.out)))))); refine wpQuiet_nil ?_; rintro _ ⟨p, rfl⟩))
        go_ret
        exact Gives.mk (ret_bool (by first | rfl | simp)) (HB.out.trans ((below_later _ _).mono HB.out.size))
      · have hw3 : wrap64 (Ta + Tb) = Ty := by rw [← hTa, ← hTb, ← hTy]; exact total_addCounts HSK.out
        clear hTa hTb hTy
        go_wp2_with (first | (go_at_call 8; (with_reducible refine (z_sameC A12 A1 n1 n1 c12 c1 xs1 xs1 _ HL12.out HL1.out (by omega) (by omega) (HR12.out.later _) (HR1.out.later _) rfl).mono ?_); rintro _ _ ⟨rfl, p, rfl⟩) | (go_at_call 22; (with_reducible refine (g_int (c_iCountAt A2 n2 c2 R y v _ HL2.out (by omega) (HR2.out.later _)) HC1.out).mono ?_); rintro _ _ ⟨rfl, p, rfl⟩) | (go_at_call 23; (with_reducible refine (g_int (c_sCountAt A1 n1 c1 xs1 y v _ HL1.out (by omega) (HR1.out.later _)) HC0.out).mono ?_); rintro _ _ ⟨rfl, p, rfl⟩) | (go_at_call 20; (first | (with_reducible refine (g_int (c_iTotalCount A2 n2 c2 R _ HL2.out (by omega) (HR2.out.later _)) HT1.out).mono ?_) | (with_reducible refine (g_int (c_iTotalCount A6 n6 c6 S _ HL6.out (by omega) (HR6.out.later _)) HTY.out).mono ?_)); rintro _ _ ⟨rfl, p, rfl⟩) | (go_at_call 21; (first | (with_reducible refine (g_int (c_sTotalCount A1 n1 c1 xs1 _ HL1.out (by omega) (HR1.out.later _)) HT0.out).mono ?_) | (with_reducible refine (g_int (c_sTotalCount A4 n4 c4 xs4 _ HL4.out (by omega) (HR4.out.later _)) HTA.out).mono ?_) | (with_reducible refine (g_int (c_sTotalCount A5 n5 c5 xs5 _ HL5.out (by omega) (HR5.out.later _)) HTB.out).mono ?_)); rintro _ _ ⟨rfl, p, rfl⟩) | ((with_reducible refine wp_region_later (by kernel_rfl) (by kernel_rfl) ?_); (try dsimp only [List.append]); (repeat (first | go_big_quiet_skip | go_big_quiet_step ((first | (go_at_call 8; first | with_reducible exact calls_later (z_sameC A12 A1 n1 n1 c12 c1 xs1 xs1 _ HL12.out HL1.out (by omega) (by omega) (HR12.out.later _) (HR1.out.later _) rfl) | with_reducible exact calls_later2 (z_sameC A12 A1 n1 n1 c12 c1 xs1 xs1 _ HL12.out HL1.out (by omega) (by omega) (HR12.out.later _) (HR1.out.later _) rfl)) | (go_at_call 22; first | with_reducible exact calls_later (g_int (c_iCountAt A2 n2 c2 R y v _ HL2.out (by omega) (HR2.out.later _)) HC1.out) | with_reducible exact calls_later2 (g_int (c_iCountAt A2 n2 c2 R y v _ HL2.out (by omega) (HR2.out.later _)) HC1.out)) | (go_at_call 23; first | with_reducible exact calls_later (g_int (c_sCountAt A1 n1 c1 xs1 y v _ HL1.out (by omega) (HR1.out.later _)) HC0.out) | with_reducible exact calls_later2 (g_int (c_sCountAt A1 n1 c1 xs1 y v _ HL1.out (by omega) (HR1.out.later _)) HC0.out)) | (go_at_call 20; first | with_reducible exact calls_later (g_int (c_iTotalCount A2 n2 c2 R _ HL2.out (by omega) (HR2.out.later _)) HT1.out) | with_reducible exact calls_later2 (g_int (c_iTotalCount A2 n2 c2 R _ HL2.out (by omega) (HR2.out.later _)) HT1.out) | with_reducible exact calls_later (g_int (c_iTotalCount A6 n6 c6 S _ HL6.out (by omega) (HR6.out.later _)) HTY.out) | with_reducible exact calls_later2 (g_int (c_iTotalCount A6 n6 c6 S _ HL6.out (by omega) (HR6.out.later _)) HTY.out)) | (go_at_call 21; first | with_reducible exact calls_later (g_int (c_sTotalCount A1 n1 c1 xs1 _ HL1.out (by omega) (HR1.out.later _)) HT0.out) | with_reducible exact calls_later2 (g_int (c_sTotalCount A1 n1 c1 xs1 _ HL1.out (by omega) (HR1.out.later _)) HT0.out) | with_reducible exact calls_later (g_int (c_sTotalCount A4 n4 c4 xs4 _ HL4.out (by omega) (HR4.out.later _)) HTA.out) | with_reducible exact calls_later2 (g_int (c_sTotalCount A4 n4 c4 xs4 _ HL4.out (by omega) (HR4.out.later _)) HTA.out) | with_reducible exact calls_later (g_int (c_sTotalCount A5 n5 c5 xs5 _ HL5.out (by omega) (HR5.out.later _)) HTB.out) | with_reducible exact calls_later2 (g_int (c_sTotalCount A5 n5 c5 xs5 _ HL5.out (by omega) (HR5.out.later _)) HTB.out)))) | quiet_step ((first | (go_at_call 8; first | with_reducible exact calls_later (z_sameC A12 A1 n1 n1 c12 c1 xs1 xs1 _ HL12.out HL1.out (by omega) (by omega) (HR12.out.later _) (HR1.out.later _) rfl) | with_reducible exact calls_later2 (z_sameC A12 A1 n1 n1 c12 c1 xs1 xs1 _ HL12.out HL1.out (by omega) (by omega) (HR12.out.later _) (HR1.out.later _) rfl)) | (go_at_call 22; first | with_reducible exact calls_later (g_int (c_iCountAt A2 n2 c2 R y v _ HL2.out (by omega) (HR2.out.later _)) HC1.out) | with_reducible exact calls_later2 (g_int (c_iCountAt A2 n2 c2 R y v _ HL2.out (by omega) (HR2.out.later _)) HC1.out)) | (go_at_call 23; first | with_reducible exact calls_later (g_int (c_sCountAt A1 n1 c1 xs1 y v _ HL1.out (by omega) (HR1.out.later _)) HC0.out) | with_reducible exact calls_later2 (g_int (c_sCountAt A1 n1 c1 xs1 y v _ HL1.out (by omega) (HR1.out.later _)) HC0.out)) | (go_at_call 20; first | with_reducible exact calls_later (g_int (c_iTotalCount A2 n2 c2 R _ HL2.out (by omega) (HR2.out.later _)) HT1.out) | with_reducible exact calls_later2 (g_int (c_iTotalCount A2 n2 c2 R _ HL2.out (by omega) (HR2.out.later _)) HT1.out) | with_reducible exact calls_later (g_int (c_iTotalCount A6 n6 c6 S _ HL6.out (by omega) (HR6.out.later _)) HTY.out) | with_reducible exact calls_later2 (g_int (c_iTotalCount A6 n6 c6 S _ HL6.out (by omega) (HR6.out.later _)) HTY.out)) | (go_at_call 21; first | with_reducible exact calls_later (g_int (c_sTotalCount A1 n1 c1 xs1 _ HL1.out (by omega) (HR1.out.later _)) HT0.out) | with_reducible exact calls_later2 (g_int (c_sTotalCount A1 n1 c1 xs1 _ HL1.out (by omega) (HR1.out.later _)) HT0.out) | with_reducible exact calls_later (g_int (c_sTotalCount A4 n4 c4 xs4 _ HL4.out (by omega) (HR4.out.later _)) HTA.out) | with_reducible exact calls_later2 (g_int (c_sTotalCount A4 n4 c4 xs4 _ HL4.out (by omega) (HR4.out.later _)) HTA.out) | with_reducible exact calls_later (g_int (c_sTotalCount A5 n5 c5 xs5 _ HL5.out (by omega) (HR5.out.later _)) HTB.out) | with_reducible exact calls_later2 (g_int (c_sTotalCount A5 n5 c5 xs5 _ HL5.out (by omega) (HR5.out.later _)) HTB.out)))))); refine wpQuiet_nil ?_; rintro _ ⟨p, rfl⟩))
        go_ret
        exact Gives.mk (ret_bool (by first | rfl | simp)) (HB.out.trans ((below_later _ _).mono HB.out.size))


set_option maxRecDepth 100000 in
theorem liftedFnCounts (os : Os) (started : os.Started) (H : Type) (enc : TypeId × Value → H) :
    ReturnsInHanded {} Try.checked os 3 .any (Rows.fnCountsSpec.pre6 enc Try.prog Try.f3 Rows.fnCountsRow.domain false) (Rows.fnCountsSpec.post enc Try.prog Try.f3 false true false false) := by
  refine returnsInHanded_of_change (C := Try.checked) own started (by kernel_rfl) Try.func3
    (ChangeSpec.witness6 (enc := enc) (C := Try.checked) false ⟨#[], #[.slice Option.none 0 0], []⟩ 8 (by as_aux_lemma => kernel_rfl) (by as_aux_lemma => kernel_rfl) (by as_aux_lemma => kernel_rfl) (by as_aux_lemma => kernel_rfl)) ?_
  intro W base args ds gs before hval0 hW0 _ _
  have hval : ∀ (j : Nat) t v, Try.f3.params[j]? = some t → args[j]? = some v → Value.okWide Try.prog W .any base t v := hval0
  have hW : DataW.Whole enc Try.prog Try.f3.params.toList Rows.fnCountsSpec.vars false W args.toList ds gs before := hW0
  obtain ⟨p, q, hA0, hV, hpq, hfz, hnd⟩ := id hW
  have hA : DataW.TrodAll enc Try.prog W 0 (fun _ => true) true Try.f3.params.toList args.toList ds p := hA0
  rw [Try.params3] at hA hval
  obtain ⟨v0, vs0, d0, ds0, p0, q0, hargs, rfl, rfl, h0, r0⟩ := trodAll_cons hA
  obtain ⟨rfl, rfl, rfl⟩ := trodAll_nil r0
  obtain rfl : args = #[v0] := by cases args; simp_all
  obtain ⟨rfl, rfl⟩ := trodVars_none hV
  obtain ⟨A0, n0, cap0, x0, rfl, hn0, hc0, hm0, hr0, -⟩ := open_bytes Try.underlying22 Try.underlying5 (by kernel_rfl) (hval 0 22 v0 rfl rfl) h0
  refine (w_Counts A0 n0 cap0 x0 hn0 W hr0).mono fun e W' hg => ?_
  obtain ⟨he, hb⟩ := hg.below
  exact ⟨_, he, law_post laidOut rfl (by kernel_rfl) Try.underlying4 (by kernel_rfl) hW rfl hb⟩

set_option maxHeartbeats 3200000 in
theorem closedFnCounts : joinedFacts Try.checked.prog 3 Try.f3 Rows.fnCountsSpec Rows.fnCountsRow = true := by
  unfold joinedFacts
  repeat' (with_reducible refine and_mk ?_ ?_)
  all_goals (as_aux_lemma => kernel_rfl)
theorem namedFnCounts : Try.checked.prog.funcNamed Rows.fnCountsRow.func = some 3 := by as_aux_lemma => kernel_rfl
theorem instFnCounts : Try.f3.isInstance Try.checked.prog Rows.fnCountsRow.origin Rows.fnCountsRow.targs := of_decide_eq_true (by as_aux_lemma => kernel_rfl)
theorem wrapFnCounts : Try.f3.isWrapper Try.checked.prog Rows.fnCountsRow.wrapper Rows.fnCountsRow.mainSum := by unfold Func.isWrapper; first | (rw [if_pos (by decide +kernel)]; kernel_rfl) | (rw [if_neg (by decide +kernel)]; exact ⟨rfl, rfl⟩)
theorem holdsFnCounts : Rows.FnCountsSaid :=
  OpenClaim.holds_of_wide 3 Try.f3 rfl rfl rfl rfl rfl rfl rfl ⟨rfl, rfl, rfl, rfl, rfl⟩ rfl rfl rfl rfl rfl namedFnCounts Try.func3 closedFnCounts instFnCounts wrapFnCounts
    (fun os started H enc _ => liftedFnCounts os started H enc)
end Go.Proofs.Ythnemjaipdheoaa
