/-
  The law FnLinks returns true for every input, and its argument reads afterwards as before. Conditions: none.
-/
import Derived.Test.YtcmhmdccfihhiaaDrawK4
import Derived.Test.YtcmhmdccfihhiaaOpenB
import Derived.Test.YtcmhmdccfihhiaaScal
import Derived.Test.YtcmhmdccfihhiaaOfe
import Derived.Test.YtcmhmdccfihhiaaLnkS
import Derived.Test.YtcmhmdccfihhiaaLnkT
import Derived.Test.YtcmhmdccfihhiaaLnkM
import Derived.Test.YtcmhmdccfihhiaaLink
import Derived.Test.YtcmhmdccfihhiaaEq2
import Derived.Deep.DeepCutAuto
namespace Go.Proofs.Ytcmhmdccfihhiaa
open Go.ChangeShapes Go.WideShapes Go.ChangeAt Go.RowKit Go.Deep Go.Joins
set_option linter.unusedVariables false

theorem send_facts {cap cr bk st gt : Int} {xs ys : List (Int × (Int × Int) × Int × Int)} {r : Int × (Int × Int) × Int × Int} {cr' st' : Int} {z : Bool} (h : sendOn cap cr bk st gt xs r = (cr', st', ys, z)) : (z = true → lkOk cap cr' bk st' gt ys = true ∧ cr' = cr - 1) ∧ (z = false → cr = cr' ∧ st = st' ∧ xs = ys) := by
  unfold sendOn at h
  split at h
  · rename_i hk
    rw [Bool.and_eq_true, Bool.and_eq_true] at hk
    obtain ⟨h1, h2, h3⟩ := hk
    obtain ⟨h3, h4⟩ : ¬ cr = 0 ∧ ¬ st = 1000000000 := by simpa using h3
    have hn := lkOk_num h1
    simp at h
    obtain ⟨rfl, rfl, rfl, rfl⟩ := h
    refine ⟨fun _ => ⟨?_, rfl⟩, fun h => (by cases h)⟩
    unfold lkOk at h1 ⊢
    simp only [Bool.and_eq_true, Bool.not_eq_true'] at h1 ⊢
    refine ⟨?_, ?_⟩
    · unfold lkNum
      simp only [decide_eq_true_eq, List.length_append, List.length_cons, List.length_nil]
      omega
    · rw [List.any_append, h1.2]
      simp [rcBad, h2]
  · simp at h
    obtain ⟨rfl, rfl, rfl, rfl⟩ := h
    exact ⟨fun h => (by cases h), fun _ => ⟨rfl, rfl, rfl⟩⟩
theorem take_facts {cap cr bk st gt : Int} {xs ys : List (Int × (Int × Int) × Int × Int)} {r : Int × (Int × Int) × Int × Int} {bk' gt' : Int} (h : takeFrom cap cr bk st gt xs = (bk', gt', ys, r, true)) : lkOk cap cr bk' st gt' ys = true ∧ ys.length + 1 = xs.length := by
  unfold takeFrom at h
  split at h
  · rename_i h1
    have hn := lkOk_num h1
    cases xs with
    | nil => simp at h
    | cons x xs =>
      simp at h
      obtain ⟨rfl, rfl, rfl, rfl⟩ := h
      refine ⟨?_, by simp⟩
      unfold lkOk at h1 ⊢
      simp only [Bool.and_eq_true, Bool.not_eq_true', List.any_cons, Bool.or_eq_false_iff] at h1 ⊢
      refine ⟨?_, h1.2.2⟩
      unfold lkNum
      simp only [decide_eq_true_eq]
      simp only [List.length_cons] at hn
      omega
  · simp at h
theorem back_facts {cap cr bk st gt : Int} {xs : List (Int × (Int × Int) × Int × Int)} {cr' bk' : Int} (h : creditBack cap cr bk st gt xs = (cr', bk', true)) : lkOk cap cr' bk' st gt xs = true := by
  unfold creditBack at h
  split at h
  · rename_i hk
    unfold crBack at hk
    simp only [Bool.and_eq_true, Bool.not_eq_true', decide_eq_false_iff_not] at hk
    obtain ⟨h1, h2⟩ := hk
    have hn := lkOk_num h1
    simp at h
    obtain ⟨rfl, rfl⟩ := h
    unfold lkOk at h1 ⊢
    simp only [Bool.and_eq_true, Bool.not_eq_true'] at h1 ⊢
    refine ⟨?_, h1.2⟩
    unfold lkNum
    simp only [decide_eq_true_eq]
    omega
  · simp at h
theorem two_a : sendOn 2 2 0 0 0 [] (0, (0, 0), 0, 0) = (1, 1, [(0, (0, 0), 0, 0)], true) := by unfold sendOn; rw [if_pos (by decide)]; rfl
theorem two_b : sendOn 2 1 0 1 0 [(0, (0, 0), 0, 0)] (0, (0, 0), 1, 0) = (0, 2, [(0, (0, 0), 0, 0), (0, (0, 0), 1, 0)], true) := by unfold sendOn; rw [if_pos (by decide)]; rfl
theorem two_c : sendOn 2 0 0 2 0 [(0, (0, 0), 0, 0), (0, (0, 0), 1, 0)] (0, (0, 0), 0, 0) = (0, 2, [(0, (0, 0), 0, 0), (0, (0, 0), 1, 0)], false) := by unfold sendOn; rw [if_neg (by decide)]
theorem two_d : takeFrom 2 0 0 2 0 [(0, (0, 0), 0, 0), (0, (0, 0), 1, 0)] = (1, 1, [(0, (0, 0), 1, 0)], (0, (0, 0), 0, 0), true) := by unfold takeFrom; rw [if_pos (by decide)]; rfl
theorem o_new (k : Int) (w : World) (h1 : 1 ≤ k) (h2 : k ≤ 4) : Calls Try.prog 7 #[.int .i64 k] w (Gives (.agg #[.int .i64 k, .slice Option.none 0 0, .int .i64 k, .int .i64 0, .int .i64 0, .int .i64 0]) w) := by
  have h := c_iLinkNew k w
  have e : brought k 1 4 = k := by unfold brought; rw [if_neg (by omega), if_neg (by omega)]
  rw [e] at h
  exact h

set_option maxRecDepth 100000 in
set_option maxHeartbeats 12800000 in
theorem w_Links (A : Option Addr) (n c : Nat) (xs : List UInt8) (hn : xs.length = n) (w : World) (hr : Row encB 1 w A xs) : Calls Try.prog 4 #[.slice A n c] w (Gives (.bool true) w) := by
  have HR := Lib.hid hr
  have HN := Lib.hid hn
  clear hr hn
  by_cases hbig : 1048576 < n
  · have hz : decide (1048576 < n) = true := by simpa using hbig
    go_enter Try.func4, Try.ntmps4
    go_wp2_with (first | (go_at_call 5; (refine (c_big _ _ _ _ _ hz).mono ?_); rintro _ _ ⟨rfl, p, rfl⟩) | ((with_reducible refine wp_region_later (by kernel_rfl) (by kernel_rfl) ?_); (try dsimp only [List.append]); (repeat (first | go_big_quiet_skip | go_big_quiet_step ((first | (go_at_call 5; first | exact calls_later (c_big _ _ _ _ _ hz) | exact calls_later2 (c_big _ _ _ _ _ hz)))) | quiet_step ((first | (go_at_call 5; first | exact calls_later (c_big _ _ _ _ _ hz) | exact calls_later2 (c_big _ _ _ _ _ hz)))))); refine wpQuiet_nil ?_; rintro _ ⟨p, rfl⟩))
    go_ret
    exact Gives.mk rfl (by (repeat (first | with_reducible exact Below.refl _ _ | with_reducible assumption | with_reducible refine Below.drew ?_ | with_reducible refine below_drewN ?_ _ | with_reducible exact HQ.out | with_reducible exact HBW.out | with_reducible refine below_ext ?_ _ _ | with_reducible refine below_then_later ?_ (by first | with_reducible exact Nat.le_refl _ | with_reducible exact HBW.out.size | with_reducible exact HQ.out.size | omega | (simp; done) | (simp; omega) | (simp [later_size]; done) | (simp [later_size]; omega)) _ | with_reducible refine Below.setCell ?_ (by first | with_reducible exact Nat.le_refl _ | with_reducible exact HBW.out.size | with_reducible exact HQ.out.size | omega | (simp; done) | (simp; omega) | (simp [later_size]; done) | (simp [later_size]; omega)) _ | with_reducible refine Below.alloc ?_ (by first | with_reducible exact Nat.le_refl _ | with_reducible exact HBW.out.size | with_reducible exact HQ.out.size | omega | (simp; done) | (simp; omega) | (simp [later_size]; done) | (simp [later_size]; omega)) _)))
  · have hz : decide (1048576 < n) = false := by simpa using hbig
    go_enter Try.func4, Try.ntmps4
    have HB := Lib.hid (below_self w)
    go_wp2_with fail
    refine (c_big _ _ _ _ _ hz).mono ?_
    rintro _ W1 ⟨rfl, p1, hp1⟩
    have qHB := Lib.hid (below_to hp1 HB.out)
    have qHR := Lib.hid (row_to hp1 HR.out)
    clear HB HR hp1
    have HB := qHB
    clear qHB
    have HR := qHR
    clear qHR
    have hsW1 : w.heap.size ≤ W1.heap.size := HB.out.size
    go_wp2_with fail
    refine (c_drawSendOn _ _ _ xs _ HN.out (by omega) HR.out).mono ?_
    rintro _ W2 ⟨cap1, cr1, bk1, st1, gt1, A1, n1, c1, xs1, x1, x2, x3, x4, x5, rfl, hl1, hn1, hcr1, hbk1, hst1, hgt1, hR1, p, hp⟩
    have qHB := Lib.hid (below_to hp HB.out)
    have qHR := Lib.hid (row_to hp HR.out)
    clear HB HR hp
    have HB := qHB
    clear qHB
    have HR := qHR
    clear qHR
    have hsW2 : w.heap.size ≤ W2.heap.size := HB.out.size
    have HR1 := Lib.hid (hR1)
    have HL1 := Lib.hid hl1
    clear hl1 hR1
    go_wp2_with fail
    refine calls_anchor (F := fun V => (∃ p : Later, V = later W2 p) ∧ Blk (W2.heap.size) [.int .i64 cap1, .slice A1 n1 c1, .int .i64 cr1, .int .i64 bk1, .int .i64 st1, .int .i64 gt1] 28 V ∧ Blk (W2.heap.size + 1) [.int .i64 x1, .int .i64 x2, .int .i64 x3, .int .i64 x4, .int .i64 x5] 33 V) ⟨later_of_below (by (repeat (first | with_reducible exact Below.refl _ _ | with_reducible refine Below.drew ?_ | with_reducible refine Below.alloc ?_ (by first | exact Nat.le_refl _ | (simp; done) | (simp; omega)) _))), (by (repeat (first | exact Blk.new _ _ [.int .i64 cap1, .slice A1 n1 c1, .int .i64 cr1, .int .i64 bk1, .int .i64 st1, .int .i64 gt1] _ (by first | rfl | (simp; done)) | with_reducible refine Blk.alloc ?_ _))), (by (repeat (first | exact Blk.new _ _ [.int .i64 x1, .int .i64 x2, .int .i64 x3, .int .i64 x4, .int .i64 x5] _ (by first | rfl | (simp; done)) | with_reducible refine Blk.alloc ?_ _)))⟩ (fun W3 hV => ?_)
    obtain ⟨⟨p, hp⟩, qHK10, qHK20⟩ := hV
    have qHB := Lib.hid (below_to hp HB.out)
    have qHR := Lib.hid (row_to hp HR.out)
    have qHR1 := Lib.hid (row_to hp HR1.out)
    clear HB HR HR1 hp
    have HB := qHB
    clear qHB
    have HR := qHR
    clear qHR
    have HR1 := qHR1
    clear qHR1
    have hsW3 : w.heap.size ≤ W3.heap.size := HB.out.size
    have HK1 := Lib.hid (qHK10)
    have cHK1_0 := HK1.out.cell (i := 0) rfl
    have zHK1_0 := HK1.out.frozen 0
    have cHK1_1 := HK1.out.cell (i := 1) rfl
    have zHK1_1 := HK1.out.frozen 1
    have cHK1_2 := HK1.out.cell (i := 2) rfl
    have zHK1_2 := HK1.out.frozen 2
    have cHK1_3 := HK1.out.cell (i := 3) rfl
    have zHK1_3 := HK1.out.frozen 3
    have cHK1_4 := HK1.out.cell (i := 4) rfl
    have zHK1_4 := HK1.out.frozen 4
    have cHK1_5 := HK1.out.cell (i := 5) rfl
    have zHK1_5 := HK1.out.frozen 5
    have lHK1 := HK1.out.lt
    have mHK1 := Nat.le_of_lt lHK1
    clear qHK10
    have HK2 := Lib.hid (qHK20)
    have cHK2_0 := HK2.out.cell (i := 0) rfl
    have zHK2_0 := HK2.out.frozen 0
    have cHK2_1 := HK2.out.cell (i := 1) rfl
    have zHK2_1 := HK2.out.frozen 1
    have cHK2_2 := HK2.out.cell (i := 2) rfl
    have zHK2_2 := HK2.out.frozen 2
    have cHK2_3 := HK2.out.cell (i := 3) rfl
    have zHK2_3 := HK2.out.frozen 3
    have cHK2_4 := HK2.out.cell (i := 4) rfl
    have zHK2_4 := HK2.out.frozen 4
    have lHK2 := HK2.out.lt
    have mHK2 := Nat.le_of_lt lHK2
    clear qHK20
    obtain ⟨⟨crS, stS, ys, ok⟩, hz1⟩ : ∃ q, sendOn cap1 cr1 bk1 st1 gt1 xs1 (x1, (x2, x3), x4, x5) = q := ⟨_, rfl⟩
    have HZ1 := Lib.hid hz1
    have hyl : ys.length ≤ 10 := by have h1 := sendOn_len hz1; rw [HL1.out] at h1; omega
    obtain ⟨hcrS, hstS⟩ := send_b hz1 hcr1 hst1
    clear hz1
    refine (c_iSendOn cap1 cr1 bk1 st1 gt1 A1 n1 c1 xs1 x1 x2 x3 x4 x5 _ crS stS ys ok HL1.out (by omega) hcr1.i64 hbk1.i64 hst1.i64 hgt1.i64 HR1.out HZ1.out).mono ?_
    rintro _ W4 ⟨A2, n2, c2, rfl, hl2, hc2, hm2, hO2, p4, hp4⟩
    have qHB := Lib.hid (below_to hp4 HB.out)
    have qHR := Lib.hid (row_to hp4 HR.out)
    have qHR1 := Lib.hid (row_to hp4 HR1.out)
    have qHK1 := Lib.hid (Blk.to hp4 HK1.out)
    have qHK2 := Lib.hid (Blk.to hp4 HK2.out)
    clear HB HR HR1 cHK1_0 zHK1_0 cHK1_1 zHK1_1 cHK1_2 zHK1_2 cHK1_3 zHK1_3 cHK1_4 zHK1_4 cHK1_5 zHK1_5 lHK1 mHK1 HK1 cHK2_0 zHK2_0 cHK2_1 zHK2_1 cHK2_2 zHK2_2 cHK2_3 zHK2_3 cHK2_4 zHK2_4 lHK2 mHK2 HK2 hp4
    have HB := qHB
    clear qHB
    have HR := qHR
    clear qHR
    have HR1 := qHR1
    clear qHR1
    have HK1 := qHK1
    clear qHK1
    have cHK1_0 := HK1.out.cell (i := 0) rfl
    have zHK1_0 := HK1.out.frozen 0
    have cHK1_1 := HK1.out.cell (i := 1) rfl
    have zHK1_1 := HK1.out.frozen 1
    have cHK1_2 := HK1.out.cell (i := 2) rfl
    have zHK1_2 := HK1.out.frozen 2
    have cHK1_3 := HK1.out.cell (i := 3) rfl
    have zHK1_3 := HK1.out.frozen 3
    have cHK1_4 := HK1.out.cell (i := 4) rfl
    have zHK1_4 := HK1.out.frozen 4
    have cHK1_5 := HK1.out.cell (i := 5) rfl
    have zHK1_5 := HK1.out.frozen 5
    have lHK1 := HK1.out.lt
    have mHK1 := Nat.le_of_lt lHK1
    have HK2 := qHK2
    clear qHK2
    have cHK2_0 := HK2.out.cell (i := 0) rfl
    have zHK2_0 := HK2.out.frozen 0
    have cHK2_1 := HK2.out.cell (i := 1) rfl
    have zHK2_1 := HK2.out.frozen 1
    have cHK2_2 := HK2.out.cell (i := 2) rfl
    have zHK2_2 := HK2.out.frozen 2
    have cHK2_3 := HK2.out.cell (i := 3) rfl
    have zHK2_3 := HK2.out.frozen 3
    have cHK2_4 := HK2.out.cell (i := 4) rfl
    have zHK2_4 := HK2.out.frozen 4
    have lHK2 := HK2.out.lt
    have mHK2 := Nat.le_of_lt lHK2
    have hsW4 : w.heap.size ≤ W4.heap.size := HB.out.size
    have HR2 := Lib.hid (hO2.row)
    have HL2 := Lib.hid hl2
    clear hO2 hl2
    have hb2 : n2 ≤ 10 := by rw [← HL2.out]; exact hyl
    go_wp2_with fail
    refine calls_anchor (F := fun V => (∃ p : Later, V = later W4 p) ∧ Blk (W4.heap.size) [.int .i64 cap1, .slice A2 n2 c2, .int .i64 crS, .int .i64 bk1, .int .i64 stS, .int .i64 gt1] 28 V) ⟨later_of_below (by (repeat (first | with_reducible exact Below.refl _ _ | with_reducible refine Below.drew ?_ | with_reducible refine Below.alloc ?_ (by first | exact Nat.le_refl _ | (simp; done) | (simp; omega)) _))), (by (repeat (first | exact Blk.new _ _ [.int .i64 cap1, .slice A2 n2 c2, .int .i64 crS, .int .i64 bk1, .int .i64 stS, .int .i64 gt1] _ (by first | rfl | (simp; done)) | with_reducible refine Blk.alloc ?_ _)))⟩ (fun W5 hV => ?_)
    obtain ⟨⟨p, hp⟩, qHK30⟩ := hV
    have qHB := Lib.hid (below_to hp HB.out)
    have qHR := Lib.hid (row_to hp HR.out)
    have qHR1 := Lib.hid (row_to hp HR1.out)
    have qHK1 := Lib.hid (Blk.to hp HK1.out)
    have qHK2 := Lib.hid (Blk.to hp HK2.out)
    have qHR2 := Lib.hid (row_to hp HR2.out)
    clear HB HR HR1 cHK1_0 zHK1_0 cHK1_1 zHK1_1 cHK1_2 zHK1_2 cHK1_3 zHK1_3 cHK1_4 zHK1_4 cHK1_5 zHK1_5 lHK1 mHK1 HK1 cHK2_0 zHK2_0 cHK2_1 zHK2_1 cHK2_2 zHK2_2 cHK2_3 zHK2_3 cHK2_4 zHK2_4 lHK2 mHK2 HK2 HR2 hp
    have HB := qHB
    clear qHB
    have HR := qHR
    clear qHR
    have HR1 := qHR1
    clear qHR1
    have HK1 := qHK1
    clear qHK1
    have cHK1_0 := HK1.out.cell (i := 0) rfl
    have zHK1_0 := HK1.out.frozen 0
    have cHK1_1 := HK1.out.cell (i := 1) rfl
    have zHK1_1 := HK1.out.frozen 1
    have cHK1_2 := HK1.out.cell (i := 2) rfl
    have zHK1_2 := HK1.out.frozen 2
    have cHK1_3 := HK1.out.cell (i := 3) rfl
    have zHK1_3 := HK1.out.frozen 3
    have cHK1_4 := HK1.out.cell (i := 4) rfl
    have zHK1_4 := HK1.out.frozen 4
    have cHK1_5 := HK1.out.cell (i := 5) rfl
    have zHK1_5 := HK1.out.frozen 5
    have lHK1 := HK1.out.lt
    have mHK1 := Nat.le_of_lt lHK1
    have HK2 := qHK2
    clear qHK2
    have cHK2_0 := HK2.out.cell (i := 0) rfl
    have zHK2_0 := HK2.out.frozen 0
    have cHK2_1 := HK2.out.cell (i := 1) rfl
    have zHK2_1 := HK2.out.frozen 1
    have cHK2_2 := HK2.out.cell (i := 2) rfl
    have zHK2_2 := HK2.out.frozen 2
    have cHK2_3 := HK2.out.cell (i := 3) rfl
    have zHK2_3 := HK2.out.frozen 3
    have cHK2_4 := HK2.out.cell (i := 4) rfl
    have zHK2_4 := HK2.out.frozen 4
    have lHK2 := HK2.out.lt
    have mHK2 := Nat.le_of_lt lHK2
    have HR2 := qHR2
    clear qHR2
    have hsW5 : w.heap.size ≤ W5.heap.size := HB.out.size
    have HK3 := Lib.hid (qHK30)
    have cHK3_0 := HK3.out.cell (i := 0) rfl
    have zHK3_0 := HK3.out.frozen 0
    have cHK3_1 := HK3.out.cell (i := 1) rfl
    have zHK3_1 := HK3.out.frozen 1
    have cHK3_2 := HK3.out.cell (i := 2) rfl
    have zHK3_2 := HK3.out.frozen 2
    have cHK3_3 := HK3.out.cell (i := 3) rfl
    have zHK3_3 := HK3.out.frozen 3
    have cHK3_4 := HK3.out.cell (i := 4) rfl
    have zHK3_4 := HK3.out.frozen 4
    have cHK3_5 := HK3.out.cell (i := 5) rfl
    have zHK3_5 := HK3.out.frozen 5
    have lHK3 := HK3.out.lt
    have mHK3 := Nat.le_of_lt lHK3
    clear qHK30
    refine (c_sSendOn cap1 cr1 bk1 st1 gt1 A1 n1 c1 xs1 x1 x2 x3 x4 x5 _ crS stS ys ok HL1.out (by omega) hcr1.i64 hbk1.i64 hst1.i64 hgt1.i64 HR1.out HZ1.out).mono ?_
    rintro _ W6 ⟨A3, n3, c3, rfl, hl3, hc3, hm3, hO3, p6, hp6⟩
    have qHB := Lib.hid (below_to hp6 HB.out)
    have qHR := Lib.hid (row_to hp6 HR.out)
    have qHR1 := Lib.hid (row_to hp6 HR1.out)
    have qHK1 := Lib.hid (Blk.to hp6 HK1.out)
    have qHK2 := Lib.hid (Blk.to hp6 HK2.out)
    have qHR2 := Lib.hid (row_to hp6 HR2.out)
    have qHK3 := Lib.hid (Blk.to hp6 HK3.out)
    clear HB HR HR1 cHK1_0 zHK1_0 cHK1_1 zHK1_1 cHK1_2 zHK1_2 cHK1_3 zHK1_3 cHK1_4 zHK1_4 cHK1_5 zHK1_5 lHK1 mHK1 HK1 cHK2_0 zHK2_0 cHK2_1 zHK2_1 cHK2_2 zHK2_2 cHK2_3 zHK2_3 cHK2_4 zHK2_4 lHK2 mHK2 HK2 HR2 cHK3_0 zHK3_0 cHK3_1 zHK3_1 cHK3_2 zHK3_2 cHK3_3 zHK3_3 cHK3_4 zHK3_4 cHK3_5 zHK3_5 lHK3 mHK3 HK3 hp6
    have HB := qHB
    clear qHB
    have HR := qHR
    clear qHR
    have HR1 := qHR1
    clear qHR1
    have HK1 := qHK1
    clear qHK1
    have cHK1_0 := HK1.out.cell (i := 0) rfl
    have zHK1_0 := HK1.out.frozen 0
    have cHK1_1 := HK1.out.cell (i := 1) rfl
    have zHK1_1 := HK1.out.frozen 1
    have cHK1_2 := HK1.out.cell (i := 2) rfl
    have zHK1_2 := HK1.out.frozen 2
    have cHK1_3 := HK1.out.cell (i := 3) rfl
    have zHK1_3 := HK1.out.frozen 3
    have cHK1_4 := HK1.out.cell (i := 4) rfl
    have zHK1_4 := HK1.out.frozen 4
    have cHK1_5 := HK1.out.cell (i := 5) rfl
    have zHK1_5 := HK1.out.frozen 5
    have lHK1 := HK1.out.lt
    have mHK1 := Nat.le_of_lt lHK1
    have HK2 := qHK2
    clear qHK2
    have cHK2_0 := HK2.out.cell (i := 0) rfl
    have zHK2_0 := HK2.out.frozen 0
    have cHK2_1 := HK2.out.cell (i := 1) rfl
    have zHK2_1 := HK2.out.frozen 1
    have cHK2_2 := HK2.out.cell (i := 2) rfl
    have zHK2_2 := HK2.out.frozen 2
    have cHK2_3 := HK2.out.cell (i := 3) rfl
    have zHK2_3 := HK2.out.frozen 3
    have cHK2_4 := HK2.out.cell (i := 4) rfl
    have zHK2_4 := HK2.out.frozen 4
    have lHK2 := HK2.out.lt
    have mHK2 := Nat.le_of_lt lHK2
    have HR2 := qHR2
    clear qHR2
    have HK3 := qHK3
    clear qHK3
    have cHK3_0 := HK3.out.cell (i := 0) rfl
    have zHK3_0 := HK3.out.frozen 0
    have cHK3_1 := HK3.out.cell (i := 1) rfl
    have zHK3_1 := HK3.out.frozen 1
    have cHK3_2 := HK3.out.cell (i := 2) rfl
    have zHK3_2 := HK3.out.frozen 2
    have cHK3_3 := HK3.out.cell (i := 3) rfl
    have zHK3_3 := HK3.out.frozen 3
    have cHK3_4 := HK3.out.cell (i := 4) rfl
    have zHK3_4 := HK3.out.frozen 4
    have cHK3_5 := HK3.out.cell (i := 5) rfl
    have zHK3_5 := HK3.out.frozen 5
    have lHK3 := HK3.out.lt
    have mHK3 := Nat.le_of_lt lHK3
    have hsW6 : w.heap.size ≤ W6.heap.size := HB.out.size
    have HR3 := Lib.hid (hO3.row)
    have HL3 := Lib.hid hl3
    clear hO3 hl3
    have hb3 : n3 ≤ 10 := by rw [← HL3.out]; exact hyl
    go_wp2_with fail
    refine wp_anchor (F := fun V => (∃ p : Later, V = later W6 p) ∧ Blk (W6.heap.size) [.int .i64 cap1, .slice A3 n3 c3, .int .i64 crS, .int .i64 bk1, .int .i64 stS, .int .i64 gt1] 28 V) ⟨later_of_below (by (repeat (first | with_reducible exact Below.refl _ _ | with_reducible refine Below.drew ?_ | with_reducible refine Below.alloc ?_ (by first | exact Nat.le_refl _ | (simp; done) | (simp; omega)) _))), (by (repeat (first | exact Blk.new _ _ [.int .i64 cap1, .slice A3 n3 c3, .int .i64 crS, .int .i64 bk1, .int .i64 stS, .int .i64 gt1] _ (by first | rfl | (simp; done)) | with_reducible refine Blk.alloc ?_ _)))⟩ (fun W7 hV => ?_)
    obtain ⟨⟨p, hp⟩, qHK40⟩ := hV
    have qHB := Lib.hid (below_to hp HB.out)
    have qHR := Lib.hid (row_to hp HR.out)
    have qHR1 := Lib.hid (row_to hp HR1.out)
    have qHK1 := Lib.hid (Blk.to hp HK1.out)
    have qHK2 := Lib.hid (Blk.to hp HK2.out)
    have qHR2 := Lib.hid (row_to hp HR2.out)
    have qHK3 := Lib.hid (Blk.to hp HK3.out)
    have qHR3 := Lib.hid (row_to hp HR3.out)
    clear HB HR HR1 cHK1_0 zHK1_0 cHK1_1 zHK1_1 cHK1_2 zHK1_2 cHK1_3 zHK1_3 cHK1_4 zHK1_4 cHK1_5 zHK1_5 lHK1 mHK1 HK1 cHK2_0 zHK2_0 cHK2_1 zHK2_1 cHK2_2 zHK2_2 cHK2_3 zHK2_3 cHK2_4 zHK2_4 lHK2 mHK2 HK2 HR2 cHK3_0 zHK3_0 cHK3_1 zHK3_1 cHK3_2 zHK3_2 cHK3_3 zHK3_3 cHK3_4 zHK3_4 cHK3_5 zHK3_5 lHK3 mHK3 HK3 HR3 hp
    have HB := qHB
    clear qHB
    have HR := qHR
    clear qHR
    have HR1 := qHR1
    clear qHR1
    have HK1 := qHK1
    clear qHK1
    have cHK1_0 := HK1.out.cell (i := 0) rfl
    have zHK1_0 := HK1.out.frozen 0
    have cHK1_1 := HK1.out.cell (i := 1) rfl
    have zHK1_1 := HK1.out.frozen 1
    have cHK1_2 := HK1.out.cell (i := 2) rfl
    have zHK1_2 := HK1.out.frozen 2
    have cHK1_3 := HK1.out.cell (i := 3) rfl
    have zHK1_3 := HK1.out.frozen 3
    have cHK1_4 := HK1.out.cell (i := 4) rfl
    have zHK1_4 := HK1.out.frozen 4
    have cHK1_5 := HK1.out.cell (i := 5) rfl
    have zHK1_5 := HK1.out.frozen 5
    have lHK1 := HK1.out.lt
    have mHK1 := Nat.le_of_lt lHK1
    have HK2 := qHK2
    clear qHK2
    have cHK2_0 := HK2.out.cell (i := 0) rfl
    have zHK2_0 := HK2.out.frozen 0
    have cHK2_1 := HK2.out.cell (i := 1) rfl
    have zHK2_1 := HK2.out.frozen 1
    have cHK2_2 := HK2.out.cell (i := 2) rfl
    have zHK2_2 := HK2.out.frozen 2
    have cHK2_3 := HK2.out.cell (i := 3) rfl
    have zHK2_3 := HK2.out.frozen 3
    have cHK2_4 := HK2.out.cell (i := 4) rfl
    have zHK2_4 := HK2.out.frozen 4
    have lHK2 := HK2.out.lt
    have mHK2 := Nat.le_of_lt lHK2
    have HR2 := qHR2
    clear qHR2
    have HK3 := qHK3
    clear qHK3
    have cHK3_0 := HK3.out.cell (i := 0) rfl
    have zHK3_0 := HK3.out.frozen 0
    have cHK3_1 := HK3.out.cell (i := 1) rfl
    have zHK3_1 := HK3.out.frozen 1
    have cHK3_2 := HK3.out.cell (i := 2) rfl
    have zHK3_2 := HK3.out.frozen 2
    have cHK3_3 := HK3.out.cell (i := 3) rfl
    have zHK3_3 := HK3.out.frozen 3
    have cHK3_4 := HK3.out.cell (i := 4) rfl
    have zHK3_4 := HK3.out.frozen 4
    have cHK3_5 := HK3.out.cell (i := 5) rfl
    have zHK3_5 := HK3.out.frozen 5
    have lHK3 := HK3.out.lt
    have mHK3 := Nat.le_of_lt lHK3
    have HR3 := qHR3
    clear qHR3
    have hsW7 : w.heap.size ≤ W7.heap.size := HB.out.size
    have HK4 := Lib.hid (qHK40)
    have cHK4_0 := HK4.out.cell (i := 0) rfl
    have zHK4_0 := HK4.out.frozen 0
    have cHK4_1 := HK4.out.cell (i := 1) rfl
    have zHK4_1 := HK4.out.frozen 1
    have cHK4_2 := HK4.out.cell (i := 2) rfl
    have zHK4_2 := HK4.out.frozen 2
    have cHK4_3 := HK4.out.cell (i := 3) rfl
    have zHK4_3 := HK4.out.frozen 3
    have cHK4_4 := HK4.out.cell (i := 4) rfl
    have zHK4_4 := HK4.out.frozen 4
    have cHK4_5 := HK4.out.cell (i := 5) rfl
    have zHK4_5 := HK4.out.frozen 5
    have lHK4 := HK4.out.lt
    have mHK4 := Nat.le_of_lt lHK4
    clear qHK40
    obtain ⟨lk, hlk⟩ : ∃ x, lkOk cap1 cr1 bk1 st1 gt1 xs1 = x := ⟨_, rfl⟩
    have HLK := Lib.hid hlk
    clear hlk
    with_reducible refine wp_region_later (by kernel_rfl) (by kernel_rfl) ?_
    (try dsimp only [List.append])
    (repeat (first | go_big_quiet_skip | go_big_quiet_step ((first | (go_at_call 14; first | with_reducible exact calls_later (c_sameLink cap1 crS bk1 stS gt1 cap1 crS bk1 stS gt1 A2 A3 n2 n3 c2 c3 ys ys _ true HL2.out HL3.out (by omega) (by omega) (HR2.out.later _) (HR3.out.later _) (by simp)) | with_reducible exact calls_later2 (c_sameLink cap1 crS bk1 stS gt1 cap1 crS bk1 stS gt1 A2 A3 n2 n3 c2 c3 ys ys _ true HL2.out HL3.out (by omega) (by omega) (HR2.out.later _) (HR3.out.later _) (by simp))) | (go_at_call 15; first | with_reducible exact calls_later (c_iLinkOk cap1 cr1 bk1 st1 gt1 A1 n1 c1 xs1 _ lk HL1.out (by omega) hcr1.i64 hbk1.i64 hst1.i64 hgt1.i64 (HR1.out.later _) HLK.out) | with_reducible exact calls_later2 (c_iLinkOk cap1 cr1 bk1 st1 gt1 A1 n1 c1 xs1 _ lk HL1.out (by omega) hcr1.i64 hbk1.i64 hst1.i64 hgt1.i64 (HR1.out.later _) HLK.out)) | (go_at_call 11; first | with_reducible exact calls_later (c_sLinkOk cap1 cr1 bk1 st1 gt1 A1 n1 c1 xs1 _ lk HL1.out (by omega) hcr1.i64 hbk1.i64 hst1.i64 hgt1.i64 (HR1.out.later _) HLK.out) | with_reducible exact calls_later2 (c_sLinkOk cap1 cr1 bk1 st1 gt1 A1 n1 c1 xs1 _ lk HL1.out (by omega) hcr1.i64 hbk1.i64 hst1.i64 hgt1.i64 (HR1.out.later _) HLK.out)))) | quiet_step ((first | (go_at_call 14; first | with_reducible exact calls_later (c_sameLink cap1 crS bk1 stS gt1 cap1 crS bk1 stS gt1 A2 A3 n2 n3 c2 c3 ys ys _ true HL2.out HL3.out (by omega) (by omega) (HR2.out.later _) (HR3.out.later _) (by simp)) | with_reducible exact calls_later2 (c_sameLink cap1 crS bk1 stS gt1 cap1 crS bk1 stS gt1 A2 A3 n2 n3 c2 c3 ys ys _ true HL2.out HL3.out (by omega) (by omega) (HR2.out.later _) (HR3.out.later _) (by simp))) | (go_at_call 15; first | with_reducible exact calls_later (c_iLinkOk cap1 cr1 bk1 st1 gt1 A1 n1 c1 xs1 _ lk HL1.out (by omega) hcr1.i64 hbk1.i64 hst1.i64 hgt1.i64 (HR1.out.later _) HLK.out) | with_reducible exact calls_later2 (c_iLinkOk cap1 cr1 bk1 st1 gt1 A1 n1 c1 xs1 _ lk HL1.out (by omega) hcr1.i64 hbk1.i64 hst1.i64 hgt1.i64 (HR1.out.later _) HLK.out)) | (go_at_call 11; first | with_reducible exact calls_later (c_sLinkOk cap1 cr1 bk1 st1 gt1 A1 n1 c1 xs1 _ lk HL1.out (by omega) hcr1.i64 hbk1.i64 hst1.i64 hgt1.i64 (HR1.out.later _) HLK.out) | with_reducible exact calls_later2 (c_sLinkOk cap1 cr1 bk1 st1 gt1 A1 n1 c1 xs1 _ lk HL1.out (by omega) hcr1.i64 hbk1.i64 hst1.i64 hgt1.i64 (HR1.out.later _) HLK.out)))))); refine wpQuiet_nil ?_; rintro _ ⟨p, rfl⟩
    go_wp2_with fail
    refine calls_anchor (F := fun V => ∃ p : Later, V = later W7 p) ⟨_, rfl⟩ (fun W8 hV => ?_)
    obtain ⟨p, hp⟩ := hV
    have qHB := Lib.hid (below_to hp HB.out)
    have qHR := Lib.hid (row_to hp HR.out)
    have qHR1 := Lib.hid (row_to hp HR1.out)
    have qHK1 := Lib.hid (Blk.to hp HK1.out)
    have qHK2 := Lib.hid (Blk.to hp HK2.out)
    have qHR2 := Lib.hid (row_to hp HR2.out)
    have qHK3 := Lib.hid (Blk.to hp HK3.out)
    have qHR3 := Lib.hid (row_to hp HR3.out)
    have qHK4 := Lib.hid (Blk.to hp HK4.out)
    clear HB HR HR1 cHK1_0 zHK1_0 cHK1_1 zHK1_1 cHK1_2 zHK1_2 cHK1_3 zHK1_3 cHK1_4 zHK1_4 cHK1_5 zHK1_5 lHK1 mHK1 HK1 cHK2_0 zHK2_0 cHK2_1 zHK2_1 cHK2_2 zHK2_2 cHK2_3 zHK2_3 cHK2_4 zHK2_4 lHK2 mHK2 HK2 HR2 cHK3_0 zHK3_0 cHK3_1 zHK3_1 cHK3_2 zHK3_2 cHK3_3 zHK3_3 cHK3_4 zHK3_4 cHK3_5 zHK3_5 lHK3 mHK3 HK3 HR3 cHK4_0 zHK4_0 cHK4_1 zHK4_1 cHK4_2 zHK4_2 cHK4_3 zHK4_3 cHK4_4 zHK4_4 cHK4_5 zHK4_5 lHK4 mHK4 HK4 hp
    have HB := qHB
    clear qHB
    have HR := qHR
    clear qHR
    have HR1 := qHR1
    clear qHR1
    have HK1 := qHK1
    clear qHK1
    have cHK1_0 := HK1.out.cell (i := 0) rfl
    have zHK1_0 := HK1.out.frozen 0
    have cHK1_1 := HK1.out.cell (i := 1) rfl
    have zHK1_1 := HK1.out.frozen 1
    have cHK1_2 := HK1.out.cell (i := 2) rfl
    have zHK1_2 := HK1.out.frozen 2
    have cHK1_3 := HK1.out.cell (i := 3) rfl
    have zHK1_3 := HK1.out.frozen 3
    have cHK1_4 := HK1.out.cell (i := 4) rfl
    have zHK1_4 := HK1.out.frozen 4
    have cHK1_5 := HK1.out.cell (i := 5) rfl
    have zHK1_5 := HK1.out.frozen 5
    have lHK1 := HK1.out.lt
    have mHK1 := Nat.le_of_lt lHK1
    have HK2 := qHK2
    clear qHK2
    have cHK2_0 := HK2.out.cell (i := 0) rfl
    have zHK2_0 := HK2.out.frozen 0
    have cHK2_1 := HK2.out.cell (i := 1) rfl
    have zHK2_1 := HK2.out.frozen 1
    have cHK2_2 := HK2.out.cell (i := 2) rfl
    have zHK2_2 := HK2.out.frozen 2
    have cHK2_3 := HK2.out.cell (i := 3) rfl
    have zHK2_3 := HK2.out.frozen 3
    have cHK2_4 := HK2.out.cell (i := 4) rfl
    have zHK2_4 := HK2.out.frozen 4
    have lHK2 := HK2.out.lt
    have mHK2 := Nat.le_of_lt lHK2
    have HR2 := qHR2
    clear qHR2
    have HK3 := qHK3
    clear qHK3
    have cHK3_0 := HK3.out.cell (i := 0) rfl
    have zHK3_0 := HK3.out.frozen 0
    have cHK3_1 := HK3.out.cell (i := 1) rfl
    have zHK3_1 := HK3.out.frozen 1
    have cHK3_2 := HK3.out.cell (i := 2) rfl
    have zHK3_2 := HK3.out.frozen 2
    have cHK3_3 := HK3.out.cell (i := 3) rfl
    have zHK3_3 := HK3.out.frozen 3
    have cHK3_4 := HK3.out.cell (i := 4) rfl
    have zHK3_4 := HK3.out.frozen 4
    have cHK3_5 := HK3.out.cell (i := 5) rfl
    have zHK3_5 := HK3.out.frozen 5
    have lHK3 := HK3.out.lt
    have mHK3 := Nat.le_of_lt lHK3
    have HR3 := qHR3
    clear qHR3
    have HK4 := qHK4
    clear qHK4
    have cHK4_0 := HK4.out.cell (i := 0) rfl
    have zHK4_0 := HK4.out.frozen 0
    have cHK4_1 := HK4.out.cell (i := 1) rfl
    have zHK4_1 := HK4.out.frozen 1
    have cHK4_2 := HK4.out.cell (i := 2) rfl
    have zHK4_2 := HK4.out.frozen 2
    have cHK4_3 := HK4.out.cell (i := 3) rfl
    have zHK4_3 := HK4.out.frozen 3
    have cHK4_4 := HK4.out.cell (i := 4) rfl
    have zHK4_4 := HK4.out.frozen 4
    have cHK4_5 := HK4.out.cell (i := 5) rfl
    have zHK4_5 := HK4.out.frozen 5
    have lHK4 := HK4.out.lt
    have mHK4 := Nat.le_of_lt lHK4
    have hsW8 : w.heap.size ≤ W8.heap.size := HB.out.size
    clear cHK4_0 zHK4_0 cHK4_1 zHK4_1 cHK4_2 zHK4_2 cHK4_3 zHK4_3 cHK4_4 zHK4_4 cHK4_5 zHK4_5 lHK4 mHK4
    clear HK4
    clear HR3
    refine (c_drawTakeFrom _ _ _ xs _ HN.out (by omega) HR.out).mono ?_
    rintro _ W9 ⟨cap4, cr4, bk4, st4, gt4, A4, n4, c4, xs4, rfl, hl4, hn4, hcr4, hbk4, hst4, hgt4, hR4, p, hp⟩
    have qHB := Lib.hid (below_to hp HB.out)
    have qHR := Lib.hid (row_to hp HR.out)
    have qHR1 := Lib.hid (row_to hp HR1.out)
    have qHK1 := Lib.hid (Blk.to hp HK1.out)
    have qHK2 := Lib.hid (Blk.to hp HK2.out)
    have qHR2 := Lib.hid (row_to hp HR2.out)
    have qHK3 := Lib.hid (Blk.to hp HK3.out)
    clear HB HR HR1 cHK1_0 zHK1_0 cHK1_1 zHK1_1 cHK1_2 zHK1_2 cHK1_3 zHK1_3 cHK1_4 zHK1_4 cHK1_5 zHK1_5 lHK1 mHK1 HK1 cHK2_0 zHK2_0 cHK2_1 zHK2_1 cHK2_2 zHK2_2 cHK2_3 zHK2_3 cHK2_4 zHK2_4 lHK2 mHK2 HK2 HR2 cHK3_0 zHK3_0 cHK3_1 zHK3_1 cHK3_2 zHK3_2 cHK3_3 zHK3_3 cHK3_4 zHK3_4 cHK3_5 zHK3_5 lHK3 mHK3 HK3 hp
    have HB := qHB
    clear qHB
    have HR := qHR
    clear qHR
    have HR1 := qHR1
    clear qHR1
    have HK1 := qHK1
    clear qHK1
    have cHK1_0 := HK1.out.cell (i := 0) rfl
    have zHK1_0 := HK1.out.frozen 0
    have cHK1_1 := HK1.out.cell (i := 1) rfl
    have zHK1_1 := HK1.out.frozen 1
    have cHK1_2 := HK1.out.cell (i := 2) rfl
    have zHK1_2 := HK1.out.frozen 2
    have cHK1_3 := HK1.out.cell (i := 3) rfl
    have zHK1_3 := HK1.out.frozen 3
    have cHK1_4 := HK1.out.cell (i := 4) rfl
    have zHK1_4 := HK1.out.frozen 4
    have cHK1_5 := HK1.out.cell (i := 5) rfl
    have zHK1_5 := HK1.out.frozen 5
    have lHK1 := HK1.out.lt
    have mHK1 := Nat.le_of_lt lHK1
    have HK2 := qHK2
    clear qHK2
    have cHK2_0 := HK2.out.cell (i := 0) rfl
    have zHK2_0 := HK2.out.frozen 0
    have cHK2_1 := HK2.out.cell (i := 1) rfl
    have zHK2_1 := HK2.out.frozen 1
    have cHK2_2 := HK2.out.cell (i := 2) rfl
    have zHK2_2 := HK2.out.frozen 2
    have cHK2_3 := HK2.out.cell (i := 3) rfl
    have zHK2_3 := HK2.out.frozen 3
    have cHK2_4 := HK2.out.cell (i := 4) rfl
    have zHK2_4 := HK2.out.frozen 4
    have lHK2 := HK2.out.lt
    have mHK2 := Nat.le_of_lt lHK2
    have HR2 := qHR2
    clear qHR2
    have HK3 := qHK3
    clear qHK3
    have cHK3_0 := HK3.out.cell (i := 0) rfl
    have zHK3_0 := HK3.out.frozen 0
    have cHK3_1 := HK3.out.cell (i := 1) rfl
    have zHK3_1 := HK3.out.frozen 1
    have cHK3_2 := HK3.out.cell (i := 2) rfl
    have zHK3_2 := HK3.out.frozen 2
    have cHK3_3 := HK3.out.cell (i := 3) rfl
    have zHK3_3 := HK3.out.frozen 3
    have cHK3_4 := HK3.out.cell (i := 4) rfl
    have zHK3_4 := HK3.out.frozen 4
    have cHK3_5 := HK3.out.cell (i := 5) rfl
    have zHK3_5 := HK3.out.frozen 5
    have lHK3 := HK3.out.lt
    have mHK3 := Nat.le_of_lt lHK3
    have hsW9 : w.heap.size ≤ W9.heap.size := HB.out.size
    have HR4 := Lib.hid (hR4)
    have HL4 := Lib.hid hl4
    clear hl4 hR4
    go_wp2_with fail
    refine calls_anchor (F := fun V => (∃ p : Later, V = later W9 p) ∧ Blk (W9.heap.size) [.int .i64 cap4, .slice A4 n4 c4, .int .i64 cr4, .int .i64 bk4, .int .i64 st4, .int .i64 gt4] 28 V) ⟨later_of_below (by (repeat (first | with_reducible exact Below.refl _ _ | with_reducible refine Below.drew ?_ | with_reducible refine Below.alloc ?_ (by first | exact Nat.le_refl _ | (simp; done) | (simp; omega)) _))), (by (repeat (first | exact Blk.new _ _ [.int .i64 cap4, .slice A4 n4 c4, .int .i64 cr4, .int .i64 bk4, .int .i64 st4, .int .i64 gt4] _ (by first | rfl | (simp; done)) | with_reducible refine Blk.alloc ?_ _)))⟩ (fun W10 hV => ?_)
    obtain ⟨⟨p, hp⟩, qHK50⟩ := hV
    have qHB := Lib.hid (below_to hp HB.out)
    have qHR := Lib.hid (row_to hp HR.out)
    have qHR1 := Lib.hid (row_to hp HR1.out)
    have qHK1 := Lib.hid (Blk.to hp HK1.out)
    have qHK2 := Lib.hid (Blk.to hp HK2.out)
    have qHR2 := Lib.hid (row_to hp HR2.out)
    have qHK3 := Lib.hid (Blk.to hp HK3.out)
    have qHR4 := Lib.hid (row_to hp HR4.out)
    clear HB HR HR1 cHK1_0 zHK1_0 cHK1_1 zHK1_1 cHK1_2 zHK1_2 cHK1_3 zHK1_3 cHK1_4 zHK1_4 cHK1_5 zHK1_5 lHK1 mHK1 HK1 cHK2_0 zHK2_0 cHK2_1 zHK2_1 cHK2_2 zHK2_2 cHK2_3 zHK2_3 cHK2_4 zHK2_4 lHK2 mHK2 HK2 HR2 cHK3_0 zHK3_0 cHK3_1 zHK3_1 cHK3_2 zHK3_2 cHK3_3 zHK3_3 cHK3_4 zHK3_4 cHK3_5 zHK3_5 lHK3 mHK3 HK3 HR4 hp
    have HB := qHB
    clear qHB
    have HR := qHR
    clear qHR
    have HR1 := qHR1
    clear qHR1
    have HK1 := qHK1
    clear qHK1
    have cHK1_0 := HK1.out.cell (i := 0) rfl
    have zHK1_0 := HK1.out.frozen 0
    have cHK1_1 := HK1.out.cell (i := 1) rfl
    have zHK1_1 := HK1.out.frozen 1
    have cHK1_2 := HK1.out.cell (i := 2) rfl
    have zHK1_2 := HK1.out.frozen 2
    have cHK1_3 := HK1.out.cell (i := 3) rfl
    have zHK1_3 := HK1.out.frozen 3
    have cHK1_4 := HK1.out.cell (i := 4) rfl
    have zHK1_4 := HK1.out.frozen 4
    have cHK1_5 := HK1.out.cell (i := 5) rfl
    have zHK1_5 := HK1.out.frozen 5
    have lHK1 := HK1.out.lt
    have mHK1 := Nat.le_of_lt lHK1
    have HK2 := qHK2
    clear qHK2
    have cHK2_0 := HK2.out.cell (i := 0) rfl
    have zHK2_0 := HK2.out.frozen 0
    have cHK2_1 := HK2.out.cell (i := 1) rfl
    have zHK2_1 := HK2.out.frozen 1
    have cHK2_2 := HK2.out.cell (i := 2) rfl
    have zHK2_2 := HK2.out.frozen 2
    have cHK2_3 := HK2.out.cell (i := 3) rfl
    have zHK2_3 := HK2.out.frozen 3
    have cHK2_4 := HK2.out.cell (i := 4) rfl
    have zHK2_4 := HK2.out.frozen 4
    have lHK2 := HK2.out.lt
    have mHK2 := Nat.le_of_lt lHK2
    have HR2 := qHR2
    clear qHR2
    have HK3 := qHK3
    clear qHK3
    have cHK3_0 := HK3.out.cell (i := 0) rfl
    have zHK3_0 := HK3.out.frozen 0
    have cHK3_1 := HK3.out.cell (i := 1) rfl
    have zHK3_1 := HK3.out.frozen 1
    have cHK3_2 := HK3.out.cell (i := 2) rfl
    have zHK3_2 := HK3.out.frozen 2
    have cHK3_3 := HK3.out.cell (i := 3) rfl
    have zHK3_3 := HK3.out.frozen 3
    have cHK3_4 := HK3.out.cell (i := 4) rfl
    have zHK3_4 := HK3.out.frozen 4
    have cHK3_5 := HK3.out.cell (i := 5) rfl
    have zHK3_5 := HK3.out.frozen 5
    have lHK3 := HK3.out.lt
    have mHK3 := Nat.le_of_lt lHK3
    have HR4 := qHR4
    clear qHR4
    have hsW10 : w.heap.size ≤ W10.heap.size := HB.out.size
    have HK5 := Lib.hid (qHK50)
    have cHK5_0 := HK5.out.cell (i := 0) rfl
    have zHK5_0 := HK5.out.frozen 0
    have cHK5_1 := HK5.out.cell (i := 1) rfl
    have zHK5_1 := HK5.out.frozen 1
    have cHK5_2 := HK5.out.cell (i := 2) rfl
    have zHK5_2 := HK5.out.frozen 2
    have cHK5_3 := HK5.out.cell (i := 3) rfl
    have zHK5_3 := HK5.out.frozen 3
    have cHK5_4 := HK5.out.cell (i := 4) rfl
    have zHK5_4 := HK5.out.frozen 4
    have cHK5_5 := HK5.out.cell (i := 5) rfl
    have zHK5_5 := HK5.out.frozen 5
    have lHK5 := HK5.out.lt
    have mHK5 := Nat.le_of_lt lHK5
    clear qHK50
    obtain ⟨⟨bkT, gtT, yt, ⟨r1, ⟨r2, r3⟩, r4, r5⟩, tk⟩, hz4⟩ : ∃ q, takeFrom cap4 cr4 bk4 st4 gt4 xs4 = q := ⟨_, rfl⟩
    have HZ4 := Lib.hid hz4
    have hytl : yt.length ≤ 9 := by have h1 := takeFrom_len hz4; rw [HL4.out] at h1; omega
    obtain ⟨hbkT, hgtT⟩ := take_b hz4 hbk4 hgt4
    clear hz4
    refine (m_iTakeFrom cap4 cr4 bk4 st4 gt4 A4 n4 c4 xs4 _ bkT gtT yt r1 r2 r3 r4 r5 tk HL4.out (by omega) hcr4.i64 hbk4.i64 hst4.i64 hgt4.i64 HR4.out HZ4.out).mono ?_
    rintro _ W11 ⟨A5, n5, c5, rfl, hl5, hc5, hm5, hO5, p11, hp11⟩
    have qHB := Lib.hid (below_to hp11 HB.out)
    have qHR := Lib.hid (row_to hp11 HR.out)
    have qHR1 := Lib.hid (row_to hp11 HR1.out)
    have qHK1 := Lib.hid (Blk.to hp11 HK1.out)
    have qHK2 := Lib.hid (Blk.to hp11 HK2.out)
    have qHR2 := Lib.hid (row_to hp11 HR2.out)
    have qHK3 := Lib.hid (Blk.to hp11 HK3.out)
    have qHR4 := Lib.hid (row_to hp11 HR4.out)
    have qHK5 := Lib.hid (Blk.to hp11 HK5.out)
    clear HB HR HR1 cHK1_0 zHK1_0 cHK1_1 zHK1_1 cHK1_2 zHK1_2 cHK1_3 zHK1_3 cHK1_4 zHK1_4 cHK1_5 zHK1_5 lHK1 mHK1 HK1 cHK2_0 zHK2_0 cHK2_1 zHK2_1 cHK2_2 zHK2_2 cHK2_3 zHK2_3 cHK2_4 zHK2_4 lHK2 mHK2 HK2 HR2 cHK3_0 zHK3_0 cHK3_1 zHK3_1 cHK3_2 zHK3_2 cHK3_3 zHK3_3 cHK3_4 zHK3_4 cHK3_5 zHK3_5 lHK3 mHK3 HK3 HR4 cHK5_0 zHK5_0 cHK5_1 zHK5_1 cHK5_2 zHK5_2 cHK5_3 zHK5_3 cHK5_4 zHK5_4 cHK5_5 zHK5_5 lHK5 mHK5 HK5 hp11
    have HB := qHB
    clear qHB
    have HR := qHR
    clear qHR
    have HR1 := qHR1
    clear qHR1
    have HK1 := qHK1
    clear qHK1
    have cHK1_0 := HK1.out.cell (i := 0) rfl
    have zHK1_0 := HK1.out.frozen 0
    have cHK1_1 := HK1.out.cell (i := 1) rfl
    have zHK1_1 := HK1.out.frozen 1
    have cHK1_2 := HK1.out.cell (i := 2) rfl
    have zHK1_2 := HK1.out.frozen 2
    have cHK1_3 := HK1.out.cell (i := 3) rfl
    have zHK1_3 := HK1.out.frozen 3
    have cHK1_4 := HK1.out.cell (i := 4) rfl
    have zHK1_4 := HK1.out.frozen 4
    have cHK1_5 := HK1.out.cell (i := 5) rfl
    have zHK1_5 := HK1.out.frozen 5
    have lHK1 := HK1.out.lt
    have mHK1 := Nat.le_of_lt lHK1
    have HK2 := qHK2
    clear qHK2
    have cHK2_0 := HK2.out.cell (i := 0) rfl
    have zHK2_0 := HK2.out.frozen 0
    have cHK2_1 := HK2.out.cell (i := 1) rfl
    have zHK2_1 := HK2.out.frozen 1
    have cHK2_2 := HK2.out.cell (i := 2) rfl
    have zHK2_2 := HK2.out.frozen 2
    have cHK2_3 := HK2.out.cell (i := 3) rfl
    have zHK2_3 := HK2.out.frozen 3
    have cHK2_4 := HK2.out.cell (i := 4) rfl
    have zHK2_4 := HK2.out.frozen 4
    have lHK2 := HK2.out.lt
    have mHK2 := Nat.le_of_lt lHK2
    have HR2 := qHR2
    clear qHR2
    have HK3 := qHK3
    clear qHK3
    have cHK3_0 := HK3.out.cell (i := 0) rfl
    have zHK3_0 := HK3.out.frozen 0
    have cHK3_1 := HK3.out.cell (i := 1) rfl
    have zHK3_1 := HK3.out.frozen 1
    have cHK3_2 := HK3.out.cell (i := 2) rfl
    have zHK3_2 := HK3.out.frozen 2
    have cHK3_3 := HK3.out.cell (i := 3) rfl
    have zHK3_3 := HK3.out.frozen 3
    have cHK3_4 := HK3.out.cell (i := 4) rfl
    have zHK3_4 := HK3.out.frozen 4
    have cHK3_5 := HK3.out.cell (i := 5) rfl
    have zHK3_5 := HK3.out.frozen 5
    have lHK3 := HK3.out.lt
    have mHK3 := Nat.le_of_lt lHK3
    have HR4 := qHR4
    clear qHR4
    have HK5 := qHK5
    clear qHK5
    have cHK5_0 := HK5.out.cell (i := 0) rfl
    have zHK5_0 := HK5.out.frozen 0
    have cHK5_1 := HK5.out.cell (i := 1) rfl
    have zHK5_1 := HK5.out.frozen 1
    have cHK5_2 := HK5.out.cell (i := 2) rfl
    have zHK5_2 := HK5.out.frozen 2
    have cHK5_3 := HK5.out.cell (i := 3) rfl
    have zHK5_3 := HK5.out.frozen 3
    have cHK5_4 := HK5.out.cell (i := 4) rfl
    have zHK5_4 := HK5.out.frozen 4
    have cHK5_5 := HK5.out.cell (i := 5) rfl
    have zHK5_5 := HK5.out.frozen 5
    have lHK5 := HK5.out.lt
    have mHK5 := Nat.le_of_lt lHK5
    have hsW11 : w.heap.size ≤ W11.heap.size := HB.out.size
    have HR5 := Lib.hid (hO5.row)
    have HL5 := Lib.hid hl5
    clear hO5 hl5
    have hb5 : n5 ≤ 9 := by rw [← HL5.out]; exact hytl
    go_wp2_with fail
    refine calls_anchor (F := fun V => (∃ p : Later, V = later W11 p) ∧ Blk (W11.heap.size) [.int .i64 cap4, .slice A5 n5 c5, .int .i64 cr4, .int .i64 bkT, .int .i64 st4, .int .i64 gtT] 28 V ∧ Blk (W11.heap.size + 1) [.int .i64 r1, .int .i64 r2, .int .i64 r3, .int .i64 r4, .int .i64 r5] 33 V) ⟨later_of_below (by (repeat (first | with_reducible exact Below.refl _ _ | with_reducible refine Below.drew ?_ | with_reducible refine Below.alloc ?_ (by first | exact Nat.le_refl _ | (simp; done) | (simp; omega)) _))), (by (repeat (first | exact Blk.new _ _ [.int .i64 cap4, .slice A5 n5 c5, .int .i64 cr4, .int .i64 bkT, .int .i64 st4, .int .i64 gtT] _ (by first | rfl | (simp; done)) | with_reducible refine Blk.alloc ?_ _))), (by (repeat (first | exact Blk.new _ _ [.int .i64 r1, .int .i64 r2, .int .i64 r3, .int .i64 r4, .int .i64 r5] _ (by first | rfl | (simp; done)) | with_reducible refine Blk.alloc ?_ _)))⟩ (fun W12 hV => ?_)
    obtain ⟨⟨p, hp⟩, qHK60, qHK70⟩ := hV
    have qHB := Lib.hid (below_to hp HB.out)
    have qHR := Lib.hid (row_to hp HR.out)
    have qHR1 := Lib.hid (row_to hp HR1.out)
    have qHK1 := Lib.hid (Blk.to hp HK1.out)
    have qHK2 := Lib.hid (Blk.to hp HK2.out)
    have qHR2 := Lib.hid (row_to hp HR2.out)
    have qHK3 := Lib.hid (Blk.to hp HK3.out)
    have qHR4 := Lib.hid (row_to hp HR4.out)
    have qHK5 := Lib.hid (Blk.to hp HK5.out)
    have qHR5 := Lib.hid (row_to hp HR5.out)
    clear HB HR HR1 cHK1_0 zHK1_0 cHK1_1 zHK1_1 cHK1_2 zHK1_2 cHK1_3 zHK1_3 cHK1_4 zHK1_4 cHK1_5 zHK1_5 lHK1 mHK1 HK1 cHK2_0 zHK2_0 cHK2_1 zHK2_1 cHK2_2 zHK2_2 cHK2_3 zHK2_3 cHK2_4 zHK2_4 lHK2 mHK2 HK2 HR2 cHK3_0 zHK3_0 cHK3_1 zHK3_1 cHK3_2 zHK3_2 cHK3_3 zHK3_3 cHK3_4 zHK3_4 cHK3_5 zHK3_5 lHK3 mHK3 HK3 HR4 cHK5_0 zHK5_0 cHK5_1 zHK5_1 cHK5_2 zHK5_2 cHK5_3 zHK5_3 cHK5_4 zHK5_4 cHK5_5 zHK5_5 lHK5 mHK5 HK5 HR5 hp
    have HB := qHB
    clear qHB
    have HR := qHR
    clear qHR
    have HR1 := qHR1
    clear qHR1
    have HK1 := qHK1
    clear qHK1
    have cHK1_0 := HK1.out.cell (i := 0) rfl
    have zHK1_0 := HK1.out.frozen 0
    have cHK1_1 := HK1.out.cell (i := 1) rfl
    have zHK1_1 := HK1.out.frozen 1
    have cHK1_2 := HK1.out.cell (i := 2) rfl
    have zHK1_2 := HK1.out.frozen 2
    have cHK1_3 := HK1.out.cell (i := 3) rfl
    have zHK1_3 := HK1.out.frozen 3
    have cHK1_4 := HK1.out.cell (i := 4) rfl
    have zHK1_4 := HK1.out.frozen 4
    have cHK1_5 := HK1.out.cell (i := 5) rfl
    have zHK1_5 := HK1.out.frozen 5
    have lHK1 := HK1.out.lt
    have mHK1 := Nat.le_of_lt lHK1
    have HK2 := qHK2
    clear qHK2
    have cHK2_0 := HK2.out.cell (i := 0) rfl
    have zHK2_0 := HK2.out.frozen 0
    have cHK2_1 := HK2.out.cell (i := 1) rfl
    have zHK2_1 := HK2.out.frozen 1
    have cHK2_2 := HK2.out.cell (i := 2) rfl
    have zHK2_2 := HK2.out.frozen 2
    have cHK2_3 := HK2.out.cell (i := 3) rfl
    have zHK2_3 := HK2.out.frozen 3
    have cHK2_4 := HK2.out.cell (i := 4) rfl
    have zHK2_4 := HK2.out.frozen 4
    have lHK2 := HK2.out.lt
    have mHK2 := Nat.le_of_lt lHK2
    have HR2 := qHR2
    clear qHR2
    have HK3 := qHK3
    clear qHK3
    have cHK3_0 := HK3.out.cell (i := 0) rfl
    have zHK3_0 := HK3.out.frozen 0
    have cHK3_1 := HK3.out.cell (i := 1) rfl
    have zHK3_1 := HK3.out.frozen 1
    have cHK3_2 := HK3.out.cell (i := 2) rfl
    have zHK3_2 := HK3.out.frozen 2
    have cHK3_3 := HK3.out.cell (i := 3) rfl
    have zHK3_3 := HK3.out.frozen 3
    have cHK3_4 := HK3.out.cell (i := 4) rfl
    have zHK3_4 := HK3.out.frozen 4
    have cHK3_5 := HK3.out.cell (i := 5) rfl
    have zHK3_5 := HK3.out.frozen 5
    have lHK3 := HK3.out.lt
    have mHK3 := Nat.le_of_lt lHK3
    have HR4 := qHR4
    clear qHR4
    have HK5 := qHK5
    clear qHK5
    have cHK5_0 := HK5.out.cell (i := 0) rfl
    have zHK5_0 := HK5.out.frozen 0
    have cHK5_1 := HK5.out.cell (i := 1) rfl
    have zHK5_1 := HK5.out.frozen 1
    have cHK5_2 := HK5.out.cell (i := 2) rfl
    have zHK5_2 := HK5.out.frozen 2
    have cHK5_3 := HK5.out.cell (i := 3) rfl
    have zHK5_3 := HK5.out.frozen 3
    have cHK5_4 := HK5.out.cell (i := 4) rfl
    have zHK5_4 := HK5.out.frozen 4
    have cHK5_5 := HK5.out.cell (i := 5) rfl
    have zHK5_5 := HK5.out.frozen 5
    have lHK5 := HK5.out.lt
    have mHK5 := Nat.le_of_lt lHK5
    have HR5 := qHR5
    clear qHR5
    have hsW12 : w.heap.size ≤ W12.heap.size := HB.out.size
    have HK6 := Lib.hid (qHK60)
    have cHK6_0 := HK6.out.cell (i := 0) rfl
    have zHK6_0 := HK6.out.frozen 0
    have cHK6_1 := HK6.out.cell (i := 1) rfl
    have zHK6_1 := HK6.out.frozen 1
    have cHK6_2 := HK6.out.cell (i := 2) rfl
    have zHK6_2 := HK6.out.frozen 2
    have cHK6_3 := HK6.out.cell (i := 3) rfl
    have zHK6_3 := HK6.out.frozen 3
    have cHK6_4 := HK6.out.cell (i := 4) rfl
    have zHK6_4 := HK6.out.frozen 4
    have cHK6_5 := HK6.out.cell (i := 5) rfl
    have zHK6_5 := HK6.out.frozen 5
    have lHK6 := HK6.out.lt
    have mHK6 := Nat.le_of_lt lHK6
    clear qHK60
    have HK7 := Lib.hid (qHK70)
    have cHK7_0 := HK7.out.cell (i := 0) rfl
    have zHK7_0 := HK7.out.frozen 0
    have cHK7_1 := HK7.out.cell (i := 1) rfl
    have zHK7_1 := HK7.out.frozen 1
    have cHK7_2 := HK7.out.cell (i := 2) rfl
    have zHK7_2 := HK7.out.frozen 2
    have cHK7_3 := HK7.out.cell (i := 3) rfl
    have zHK7_3 := HK7.out.frozen 3
    have cHK7_4 := HK7.out.cell (i := 4) rfl
    have zHK7_4 := HK7.out.frozen 4
    have lHK7 := HK7.out.lt
    have mHK7 := Nat.le_of_lt lHK7
    clear qHK70
    refine (m_sTakeFrom cap4 cr4 bk4 st4 gt4 A4 n4 c4 xs4 _ bkT gtT yt r1 r2 r3 r4 r5 tk HL4.out (by omega) hcr4.i64 hbk4.i64 hst4.i64 hgt4.i64 HR4.out HZ4.out).mono ?_
    rintro _ W13 ⟨A6, n6, c6, rfl, hl6, hc6, hm6, hO6, p13, hp13⟩
    have qHB := Lib.hid (below_to hp13 HB.out)
    have qHR := Lib.hid (row_to hp13 HR.out)
    have qHR1 := Lib.hid (row_to hp13 HR1.out)
    have qHK1 := Lib.hid (Blk.to hp13 HK1.out)
    have qHK2 := Lib.hid (Blk.to hp13 HK2.out)
    have qHR2 := Lib.hid (row_to hp13 HR2.out)
    have qHK3 := Lib.hid (Blk.to hp13 HK3.out)
    have qHR4 := Lib.hid (row_to hp13 HR4.out)
    have qHK5 := Lib.hid (Blk.to hp13 HK5.out)
    have qHR5 := Lib.hid (row_to hp13 HR5.out)
    have qHK6 := Lib.hid (Blk.to hp13 HK6.out)
    have qHK7 := Lib.hid (Blk.to hp13 HK7.out)
    clear HB HR HR1 cHK1_0 zHK1_0 cHK1_1 zHK1_1 cHK1_2 zHK1_2 cHK1_3 zHK1_3 cHK1_4 zHK1_4 cHK1_5 zHK1_5 lHK1 mHK1 HK1 cHK2_0 zHK2_0 cHK2_1 zHK2_1 cHK2_2 zHK2_2 cHK2_3 zHK2_3 cHK2_4 zHK2_4 lHK2 mHK2 HK2 HR2 cHK3_0 zHK3_0 cHK3_1 zHK3_1 cHK3_2 zHK3_2 cHK3_3 zHK3_3 cHK3_4 zHK3_4 cHK3_5 zHK3_5 lHK3 mHK3 HK3 HR4 cHK5_0 zHK5_0 cHK5_1 zHK5_1 cHK5_2 zHK5_2 cHK5_3 zHK5_3 cHK5_4 zHK5_4 cHK5_5 zHK5_5 lHK5 mHK5 HK5 HR5 cHK6_0 zHK6_0 cHK6_1 zHK6_1 cHK6_2 zHK6_2 cHK6_3 zHK6_3 cHK6_4 zHK6_4 cHK6_5 zHK6_5 lHK6 mHK6 HK6 cHK7_0 zHK7_0 cHK7_1 zHK7_1 cHK7_2 zHK7_2 cHK7_3 zHK7_3 cHK7_4 zHK7_4 lHK7 mHK7 HK7 hp13
    have HB := qHB
    clear qHB
    have HR := qHR
    clear qHR
    have HR1 := qHR1
    clear qHR1
    have HK1 := qHK1
    clear qHK1
    have cHK1_0 := HK1.out.cell (i := 0) rfl
    have zHK1_0 := HK1.out.frozen 0
    have cHK1_1 := HK1.out.cell (i := 1) rfl
    have zHK1_1 := HK1.out.frozen 1
    have cHK1_2 := HK1.out.cell (i := 2) rfl
    have zHK1_2 := HK1.out.frozen 2
    have cHK1_3 := HK1.out.cell (i := 3) rfl
    have zHK1_3 := HK1.out.frozen 3
    have cHK1_4 := HK1.out.cell (i := 4) rfl
    have zHK1_4 := HK1.out.frozen 4
    have cHK1_5 := HK1.out.cell (i := 5) rfl
    have zHK1_5 := HK1.out.frozen 5
    have lHK1 := HK1.out.lt
    have mHK1 := Nat.le_of_lt lHK1
    have HK2 := qHK2
    clear qHK2
    have cHK2_0 := HK2.out.cell (i := 0) rfl
    have zHK2_0 := HK2.out.frozen 0
    have cHK2_1 := HK2.out.cell (i := 1) rfl
    have zHK2_1 := HK2.out.frozen 1
    have cHK2_2 := HK2.out.cell (i := 2) rfl
    have zHK2_2 := HK2.out.frozen 2
    have cHK2_3 := HK2.out.cell (i := 3) rfl
    have zHK2_3 := HK2.out.frozen 3
    have cHK2_4 := HK2.out.cell (i := 4) rfl
    have zHK2_4 := HK2.out.frozen 4
    have lHK2 := HK2.out.lt
    have mHK2 := Nat.le_of_lt lHK2
    have HR2 := qHR2
    clear qHR2
    have HK3 := qHK3
    clear qHK3
    have cHK3_0 := HK3.out.cell (i := 0) rfl
    have zHK3_0 := HK3.out.frozen 0
    have cHK3_1 := HK3.out.cell (i := 1) rfl
    have zHK3_1 := HK3.out.frozen 1
    have cHK3_2 := HK3.out.cell (i := 2) rfl
    have zHK3_2 := HK3.out.frozen 2
    have cHK3_3 := HK3.out.cell (i := 3) rfl
    have zHK3_3 := HK3.out.frozen 3
    have cHK3_4 := HK3.out.cell (i := 4) rfl
    have zHK3_4 := HK3.out.frozen 4
    have cHK3_5 := HK3.out.cell (i := 5) rfl
    have zHK3_5 := HK3.out.frozen 5
    have lHK3 := HK3.out.lt
    have mHK3 := Nat.le_of_lt lHK3
    have HR4 := qHR4
    clear qHR4
    have HK5 := qHK5
    clear qHK5
    have cHK5_0 := HK5.out.cell (i := 0) rfl
    have zHK5_0 := HK5.out.frozen 0
    have cHK5_1 := HK5.out.cell (i := 1) rfl
    have zHK5_1 := HK5.out.frozen 1
    have cHK5_2 := HK5.out.cell (i := 2) rfl
    have zHK5_2 := HK5.out.frozen 2
    have cHK5_3 := HK5.out.cell (i := 3) rfl
    have zHK5_3 := HK5.out.frozen 3
    have cHK5_4 := HK5.out.cell (i := 4) rfl
    have zHK5_4 := HK5.out.frozen 4
    have cHK5_5 := HK5.out.cell (i := 5) rfl
    have zHK5_5 := HK5.out.frozen 5
    have lHK5 := HK5.out.lt
    have mHK5 := Nat.le_of_lt lHK5
    have HR5 := qHR5
    clear qHR5
    have HK6 := qHK6
    clear qHK6
    have cHK6_0 := HK6.out.cell (i := 0) rfl
    have zHK6_0 := HK6.out.frozen 0
    have cHK6_1 := HK6.out.cell (i := 1) rfl
    have zHK6_1 := HK6.out.frozen 1
    have cHK6_2 := HK6.out.cell (i := 2) rfl
    have zHK6_2 := HK6.out.frozen 2
    have cHK6_3 := HK6.out.cell (i := 3) rfl
    have zHK6_3 := HK6.out.frozen 3
    have cHK6_4 := HK6.out.cell (i := 4) rfl
    have zHK6_4 := HK6.out.frozen 4
    have cHK6_5 := HK6.out.cell (i := 5) rfl
    have zHK6_5 := HK6.out.frozen 5
    have lHK6 := HK6.out.lt
    have mHK6 := Nat.le_of_lt lHK6
    have HK7 := qHK7
    clear qHK7
    have cHK7_0 := HK7.out.cell (i := 0) rfl
    have zHK7_0 := HK7.out.frozen 0
    have cHK7_1 := HK7.out.cell (i := 1) rfl
    have zHK7_1 := HK7.out.frozen 1
    have cHK7_2 := HK7.out.cell (i := 2) rfl
    have zHK7_2 := HK7.out.frozen 2
    have cHK7_3 := HK7.out.cell (i := 3) rfl
    have zHK7_3 := HK7.out.frozen 3
    have cHK7_4 := HK7.out.cell (i := 4) rfl
    have zHK7_4 := HK7.out.frozen 4
    have lHK7 := HK7.out.lt
    have mHK7 := Nat.le_of_lt lHK7
    have hsW13 : w.heap.size ≤ W13.heap.size := HB.out.size
    have HR6 := Lib.hid (hO6.row)
    have HL6 := Lib.hid hl6
    clear hO6 hl6
    have hb6 : n6 ≤ 9 := by rw [← HL6.out]; exact hytl
    go_wp2_with fail
    refine calls_anchor (F := fun V => (∃ p : Later, V = later W13 p) ∧ Blk (W13.heap.size) [.int .i64 cap4, .slice A6 n6 c6, .int .i64 cr4, .int .i64 bkT, .int .i64 st4, .int .i64 gtT] 28 V ∧ Blk (W13.heap.size + 1) [.int .i64 r1, .int .i64 r2, .int .i64 r3, .int .i64 r4, .int .i64 r5] 33 V) ⟨later_of_below (by (repeat (first | with_reducible exact Below.refl _ _ | with_reducible refine Below.drew ?_ | with_reducible refine Below.alloc ?_ (by first | exact Nat.le_refl _ | (simp; done) | (simp; omega)) _))), (by (repeat (first | exact Blk.new _ _ [.int .i64 cap4, .slice A6 n6 c6, .int .i64 cr4, .int .i64 bkT, .int .i64 st4, .int .i64 gtT] _ (by first | rfl | (simp; done)) | with_reducible refine Blk.alloc ?_ _))), (by (repeat (first | exact Blk.new _ _ [.int .i64 r1, .int .i64 r2, .int .i64 r3, .int .i64 r4, .int .i64 r5] _ (by first | rfl | (simp; done)) | with_reducible refine Blk.alloc ?_ _)))⟩ (fun W14 hV => ?_)
    obtain ⟨⟨p, hp⟩, qHK80, qHK90⟩ := hV
    have qHB := Lib.hid (below_to hp HB.out)
    have qHR := Lib.hid (row_to hp HR.out)
    have qHR1 := Lib.hid (row_to hp HR1.out)
    have qHK1 := Lib.hid (Blk.to hp HK1.out)
    have qHK2 := Lib.hid (Blk.to hp HK2.out)
    have qHR2 := Lib.hid (row_to hp HR2.out)
    have qHK3 := Lib.hid (Blk.to hp HK3.out)
    have qHR4 := Lib.hid (row_to hp HR4.out)
    have qHK5 := Lib.hid (Blk.to hp HK5.out)
    have qHR5 := Lib.hid (row_to hp HR5.out)
    have qHK6 := Lib.hid (Blk.to hp HK6.out)
    have qHK7 := Lib.hid (Blk.to hp HK7.out)
    have qHR6 := Lib.hid (row_to hp HR6.out)
    clear HB HR HR1 cHK1_0 zHK1_0 cHK1_1 zHK1_1 cHK1_2 zHK1_2 cHK1_3 zHK1_3 cHK1_4 zHK1_4 cHK1_5 zHK1_5 lHK1 mHK1 HK1 cHK2_0 zHK2_0 cHK2_1 zHK2_1 cHK2_2 zHK2_2 cHK2_3 zHK2_3 cHK2_4 zHK2_4 lHK2 mHK2 HK2 HR2 cHK3_0 zHK3_0 cHK3_1 zHK3_1 cHK3_2 zHK3_2 cHK3_3 zHK3_3 cHK3_4 zHK3_4 cHK3_5 zHK3_5 lHK3 mHK3 HK3 HR4 cHK5_0 zHK5_0 cHK5_1 zHK5_1 cHK5_2 zHK5_2 cHK5_3 zHK5_3 cHK5_4 zHK5_4 cHK5_5 zHK5_5 lHK5 mHK5 HK5 HR5 cHK6_0 zHK6_0 cHK6_1 zHK6_1 cHK6_2 zHK6_2 cHK6_3 zHK6_3 cHK6_4 zHK6_4 cHK6_5 zHK6_5 lHK6 mHK6 HK6 cHK7_0 zHK7_0 cHK7_1 zHK7_1 cHK7_2 zHK7_2 cHK7_3 zHK7_3 cHK7_4 zHK7_4 lHK7 mHK7 HK7 HR6 hp
    have HB := qHB
    clear qHB
    have HR := qHR
    clear qHR
    have HR1 := qHR1
    clear qHR1
    have HK1 := qHK1
    clear qHK1
    have cHK1_0 := HK1.out.cell (i := 0) rfl
    have zHK1_0 := HK1.out.frozen 0
    have cHK1_1 := HK1.out.cell (i := 1) rfl
    have zHK1_1 := HK1.out.frozen 1
    have cHK1_2 := HK1.out.cell (i := 2) rfl
    have zHK1_2 := HK1.out.frozen 2
    have cHK1_3 := HK1.out.cell (i := 3) rfl
    have zHK1_3 := HK1.out.frozen 3
    have cHK1_4 := HK1.out.cell (i := 4) rfl
    have zHK1_4 := HK1.out.frozen 4
    have cHK1_5 := HK1.out.cell (i := 5) rfl
    have zHK1_5 := HK1.out.frozen 5
    have lHK1 := HK1.out.lt
    have mHK1 := Nat.le_of_lt lHK1
    have HK2 := qHK2
    clear qHK2
    have cHK2_0 := HK2.out.cell (i := 0) rfl
    have zHK2_0 := HK2.out.frozen 0
    have cHK2_1 := HK2.out.cell (i := 1) rfl
    have zHK2_1 := HK2.out.frozen 1
    have cHK2_2 := HK2.out.cell (i := 2) rfl
    have zHK2_2 := HK2.out.frozen 2
    have cHK2_3 := HK2.out.cell (i := 3) rfl
    have zHK2_3 := HK2.out.frozen 3
    have cHK2_4 := HK2.out.cell (i := 4) rfl
    have zHK2_4 := HK2.out.frozen 4
    have lHK2 := HK2.out.lt
    have mHK2 := Nat.le_of_lt lHK2
    have HR2 := qHR2
    clear qHR2
    have HK3 := qHK3
    clear qHK3
    have cHK3_0 := HK3.out.cell (i := 0) rfl
    have zHK3_0 := HK3.out.frozen 0
    have cHK3_1 := HK3.out.cell (i := 1) rfl
    have zHK3_1 := HK3.out.frozen 1
    have cHK3_2 := HK3.out.cell (i := 2) rfl
    have zHK3_2 := HK3.out.frozen 2
    have cHK3_3 := HK3.out.cell (i := 3) rfl
    have zHK3_3 := HK3.out.frozen 3
    have cHK3_4 := HK3.out.cell (i := 4) rfl
    have zHK3_4 := HK3.out.frozen 4
    have cHK3_5 := HK3.out.cell (i := 5) rfl
    have zHK3_5 := HK3.out.frozen 5
    have lHK3 := HK3.out.lt
    have mHK3 := Nat.le_of_lt lHK3
    have HR4 := qHR4
    clear qHR4
    have HK5 := qHK5
    clear qHK5
    have cHK5_0 := HK5.out.cell (i := 0) rfl
    have zHK5_0 := HK5.out.frozen 0
    have cHK5_1 := HK5.out.cell (i := 1) rfl
    have zHK5_1 := HK5.out.frozen 1
    have cHK5_2 := HK5.out.cell (i := 2) rfl
    have zHK5_2 := HK5.out.frozen 2
    have cHK5_3 := HK5.out.cell (i := 3) rfl
    have zHK5_3 := HK5.out.frozen 3
    have cHK5_4 := HK5.out.cell (i := 4) rfl
    have zHK5_4 := HK5.out.frozen 4
    have cHK5_5 := HK5.out.cell (i := 5) rfl
    have zHK5_5 := HK5.out.frozen 5
    have lHK5 := HK5.out.lt
    have mHK5 := Nat.le_of_lt lHK5
    have HR5 := qHR5
    clear qHR5
    have HK6 := qHK6
    clear qHK6
    have cHK6_0 := HK6.out.cell (i := 0) rfl
    have zHK6_0 := HK6.out.frozen 0
    have cHK6_1 := HK6.out.cell (i := 1) rfl
    have zHK6_1 := HK6.out.frozen 1
    have cHK6_2 := HK6.out.cell (i := 2) rfl
    have zHK6_2 := HK6.out.frozen 2
    have cHK6_3 := HK6.out.cell (i := 3) rfl
    have zHK6_3 := HK6.out.frozen 3
    have cHK6_4 := HK6.out.cell (i := 4) rfl
    have zHK6_4 := HK6.out.frozen 4
    have cHK6_5 := HK6.out.cell (i := 5) rfl
    have zHK6_5 := HK6.out.frozen 5
    have lHK6 := HK6.out.lt
    have mHK6 := Nat.le_of_lt lHK6
    have HK7 := qHK7
    clear qHK7
    have cHK7_0 := HK7.out.cell (i := 0) rfl
    have zHK7_0 := HK7.out.frozen 0
    have cHK7_1 := HK7.out.cell (i := 1) rfl
    have zHK7_1 := HK7.out.frozen 1
    have cHK7_2 := HK7.out.cell (i := 2) rfl
    have zHK7_2 := HK7.out.frozen 2
    have cHK7_3 := HK7.out.cell (i := 3) rfl
    have zHK7_3 := HK7.out.frozen 3
    have cHK7_4 := HK7.out.cell (i := 4) rfl
    have zHK7_4 := HK7.out.frozen 4
    have lHK7 := HK7.out.lt
    have mHK7 := Nat.le_of_lt lHK7
    have HR6 := qHR6
    clear qHR6
    have hsW14 : w.heap.size ≤ W14.heap.size := HB.out.size
    have HK8 := Lib.hid (qHK80)
    have cHK8_0 := HK8.out.cell (i := 0) rfl
    have zHK8_0 := HK8.out.frozen 0
    have cHK8_1 := HK8.out.cell (i := 1) rfl
    have zHK8_1 := HK8.out.frozen 1
    have cHK8_2 := HK8.out.cell (i := 2) rfl
    have zHK8_2 := HK8.out.frozen 2
    have cHK8_3 := HK8.out.cell (i := 3) rfl
    have zHK8_3 := HK8.out.frozen 3
    have cHK8_4 := HK8.out.cell (i := 4) rfl
    have zHK8_4 := HK8.out.frozen 4
    have cHK8_5 := HK8.out.cell (i := 5) rfl
    have zHK8_5 := HK8.out.frozen 5
    have lHK8 := HK8.out.lt
    have mHK8 := Nat.le_of_lt lHK8
    clear qHK80
    have HK9 := Lib.hid (qHK90)
    have cHK9_0 := HK9.out.cell (i := 0) rfl
    have zHK9_0 := HK9.out.frozen 0
    have cHK9_1 := HK9.out.cell (i := 1) rfl
    have zHK9_1 := HK9.out.frozen 1
    have cHK9_2 := HK9.out.cell (i := 2) rfl
    have zHK9_2 := HK9.out.frozen 2
    have cHK9_3 := HK9.out.cell (i := 3) rfl
    have zHK9_3 := HK9.out.frozen 3
    have cHK9_4 := HK9.out.cell (i := 4) rfl
    have zHK9_4 := HK9.out.frozen 4
    have lHK9 := HK9.out.lt
    have mHK9 := Nat.le_of_lt lHK9
    clear qHK90
    refine (c_drawCreditBack _ _ _ xs _ HN.out (by omega) HR.out).mono ?_
    rintro _ W15 ⟨cap7, cr7, bk7, st7, gt7, A7, n7, c7, xs7, rfl, hl7, hn7, hcr7, hbk7, hst7, hgt7, hR7, p, hp⟩
    have qHB := Lib.hid (below_to hp HB.out)
    have qHR := Lib.hid (row_to hp HR.out)
    have qHR1 := Lib.hid (row_to hp HR1.out)
    have qHK1 := Lib.hid (Blk.to hp HK1.out)
    have qHK2 := Lib.hid (Blk.to hp HK2.out)
    have qHR2 := Lib.hid (row_to hp HR2.out)
    have qHK3 := Lib.hid (Blk.to hp HK3.out)
    have qHR4 := Lib.hid (row_to hp HR4.out)
    have qHK5 := Lib.hid (Blk.to hp HK5.out)
    have qHR5 := Lib.hid (row_to hp HR5.out)
    have qHK6 := Lib.hid (Blk.to hp HK6.out)
    have qHK7 := Lib.hid (Blk.to hp HK7.out)
    have qHR6 := Lib.hid (row_to hp HR6.out)
    have qHK8 := Lib.hid (Blk.to hp HK8.out)
    have qHK9 := Lib.hid (Blk.to hp HK9.out)
    clear HB HR HR1 cHK1_0 zHK1_0 cHK1_1 zHK1_1 cHK1_2 zHK1_2 cHK1_3 zHK1_3 cHK1_4 zHK1_4 cHK1_5 zHK1_5 lHK1 mHK1 HK1 cHK2_0 zHK2_0 cHK2_1 zHK2_1 cHK2_2 zHK2_2 cHK2_3 zHK2_3 cHK2_4 zHK2_4 lHK2 mHK2 HK2 HR2 cHK3_0 zHK3_0 cHK3_1 zHK3_1 cHK3_2 zHK3_2 cHK3_3 zHK3_3 cHK3_4 zHK3_4 cHK3_5 zHK3_5 lHK3 mHK3 HK3 HR4 cHK5_0 zHK5_0 cHK5_1 zHK5_1 cHK5_2 zHK5_2 cHK5_3 zHK5_3 cHK5_4 zHK5_4 cHK5_5 zHK5_5 lHK5 mHK5 HK5 HR5 cHK6_0 zHK6_0 cHK6_1 zHK6_1 cHK6_2 zHK6_2 cHK6_3 zHK6_3 cHK6_4 zHK6_4 cHK6_5 zHK6_5 lHK6 mHK6 HK6 cHK7_0 zHK7_0 cHK7_1 zHK7_1 cHK7_2 zHK7_2 cHK7_3 zHK7_3 cHK7_4 zHK7_4 lHK7 mHK7 HK7 HR6 cHK8_0 zHK8_0 cHK8_1 zHK8_1 cHK8_2 zHK8_2 cHK8_3 zHK8_3 cHK8_4 zHK8_4 cHK8_5 zHK8_5 lHK8 mHK8 HK8 cHK9_0 zHK9_0 cHK9_1 zHK9_1 cHK9_2 zHK9_2 cHK9_3 zHK9_3 cHK9_4 zHK9_4 lHK9 mHK9 HK9 hp
    have HB := qHB
    clear qHB
    have HR := qHR
    clear qHR
    have HR1 := qHR1
    clear qHR1
    have HK1 := qHK1
    clear qHK1
    have cHK1_0 := HK1.out.cell (i := 0) rfl
    have zHK1_0 := HK1.out.frozen 0
    have cHK1_1 := HK1.out.cell (i := 1) rfl
    have zHK1_1 := HK1.out.frozen 1
    have cHK1_2 := HK1.out.cell (i := 2) rfl
    have zHK1_2 := HK1.out.frozen 2
    have cHK1_3 := HK1.out.cell (i := 3) rfl
    have zHK1_3 := HK1.out.frozen 3
    have cHK1_4 := HK1.out.cell (i := 4) rfl
    have zHK1_4 := HK1.out.frozen 4
    have cHK1_5 := HK1.out.cell (i := 5) rfl
    have zHK1_5 := HK1.out.frozen 5
    have lHK1 := HK1.out.lt
    have mHK1 := Nat.le_of_lt lHK1
    have HK2 := qHK2
    clear qHK2
    have cHK2_0 := HK2.out.cell (i := 0) rfl
    have zHK2_0 := HK2.out.frozen 0
    have cHK2_1 := HK2.out.cell (i := 1) rfl
    have zHK2_1 := HK2.out.frozen 1
    have cHK2_2 := HK2.out.cell (i := 2) rfl
    have zHK2_2 := HK2.out.frozen 2
    have cHK2_3 := HK2.out.cell (i := 3) rfl
    have zHK2_3 := HK2.out.frozen 3
    have cHK2_4 := HK2.out.cell (i := 4) rfl
    have zHK2_4 := HK2.out.frozen 4
    have lHK2 := HK2.out.lt
    have mHK2 := Nat.le_of_lt lHK2
    have HR2 := qHR2
    clear qHR2
    have HK3 := qHK3
    clear qHK3
    have cHK3_0 := HK3.out.cell (i := 0) rfl
    have zHK3_0 := HK3.out.frozen 0
    have cHK3_1 := HK3.out.cell (i := 1) rfl
    have zHK3_1 := HK3.out.frozen 1
    have cHK3_2 := HK3.out.cell (i := 2) rfl
    have zHK3_2 := HK3.out.frozen 2
    have cHK3_3 := HK3.out.cell (i := 3) rfl
    have zHK3_3 := HK3.out.frozen 3
    have cHK3_4 := HK3.out.cell (i := 4) rfl
    have zHK3_4 := HK3.out.frozen 4
    have cHK3_5 := HK3.out.cell (i := 5) rfl
    have zHK3_5 := HK3.out.frozen 5
    have lHK3 := HK3.out.lt
    have mHK3 := Nat.le_of_lt lHK3
    have HR4 := qHR4
    clear qHR4
    have HK5 := qHK5
    clear qHK5
    have cHK5_0 := HK5.out.cell (i := 0) rfl
    have zHK5_0 := HK5.out.frozen 0
    have cHK5_1 := HK5.out.cell (i := 1) rfl
    have zHK5_1 := HK5.out.frozen 1
    have cHK5_2 := HK5.out.cell (i := 2) rfl
    have zHK5_2 := HK5.out.frozen 2
    have cHK5_3 := HK5.out.cell (i := 3) rfl
    have zHK5_3 := HK5.out.frozen 3
    have cHK5_4 := HK5.out.cell (i := 4) rfl
    have zHK5_4 := HK5.out.frozen 4
    have cHK5_5 := HK5.out.cell (i := 5) rfl
    have zHK5_5 := HK5.out.frozen 5
    have lHK5 := HK5.out.lt
    have mHK5 := Nat.le_of_lt lHK5
    have HR5 := qHR5
    clear qHR5
    have HK6 := qHK6
    clear qHK6
    have cHK6_0 := HK6.out.cell (i := 0) rfl
    have zHK6_0 := HK6.out.frozen 0
    have cHK6_1 := HK6.out.cell (i := 1) rfl
    have zHK6_1 := HK6.out.frozen 1
    have cHK6_2 := HK6.out.cell (i := 2) rfl
    have zHK6_2 := HK6.out.frozen 2
    have cHK6_3 := HK6.out.cell (i := 3) rfl
    have zHK6_3 := HK6.out.frozen 3
    have cHK6_4 := HK6.out.cell (i := 4) rfl
    have zHK6_4 := HK6.out.frozen 4
    have cHK6_5 := HK6.out.cell (i := 5) rfl
    have zHK6_5 := HK6.out.frozen 5
    have lHK6 := HK6.out.lt
    have mHK6 := Nat.le_of_lt lHK6
    have HK7 := qHK7
    clear qHK7
    have cHK7_0 := HK7.out.cell (i := 0) rfl
    have zHK7_0 := HK7.out.frozen 0
    have cHK7_1 := HK7.out.cell (i := 1) rfl
    have zHK7_1 := HK7.out.frozen 1
    have cHK7_2 := HK7.out.cell (i := 2) rfl
    have zHK7_2 := HK7.out.frozen 2
    have cHK7_3 := HK7.out.cell (i := 3) rfl
    have zHK7_3 := HK7.out.frozen 3
    have cHK7_4 := HK7.out.cell (i := 4) rfl
    have zHK7_4 := HK7.out.frozen 4
    have lHK7 := HK7.out.lt
    have mHK7 := Nat.le_of_lt lHK7
    have HR6 := qHR6
    clear qHR6
    have HK8 := qHK8
    clear qHK8
    have cHK8_0 := HK8.out.cell (i := 0) rfl
    have zHK8_0 := HK8.out.frozen 0
    have cHK8_1 := HK8.out.cell (i := 1) rfl
    have zHK8_1 := HK8.out.frozen 1
    have cHK8_2 := HK8.out.cell (i := 2) rfl
    have zHK8_2 := HK8.out.frozen 2
    have cHK8_3 := HK8.out.cell (i := 3) rfl
    have zHK8_3 := HK8.out.frozen 3
    have cHK8_4 := HK8.out.cell (i := 4) rfl
    have zHK8_4 := HK8.out.frozen 4
    have cHK8_5 := HK8.out.cell (i := 5) rfl
    have zHK8_5 := HK8.out.frozen 5
    have lHK8 := HK8.out.lt
    have mHK8 := Nat.le_of_lt lHK8
    have HK9 := qHK9
    clear qHK9
    have cHK9_0 := HK9.out.cell (i := 0) rfl
    have zHK9_0 := HK9.out.frozen 0
    have cHK9_1 := HK9.out.cell (i := 1) rfl
    have zHK9_1 := HK9.out.frozen 1
    have cHK9_2 := HK9.out.cell (i := 2) rfl
    have zHK9_2 := HK9.out.frozen 2
    have cHK9_3 := HK9.out.cell (i := 3) rfl
    have zHK9_3 := HK9.out.frozen 3
    have cHK9_4 := HK9.out.cell (i := 4) rfl
    have zHK9_4 := HK9.out.frozen 4
    have lHK9 := HK9.out.lt
    have mHK9 := Nat.le_of_lt lHK9
    have hsW15 : w.heap.size ≤ W15.heap.size := HB.out.size
    have HR7 := Lib.hid (hR7)
    have HL7 := Lib.hid hl7
    clear hl7 hR7
    go_wp2_with fail
    refine calls_anchor (F := fun V => (∃ p : Later, V = later W15 p) ∧ Blk (W15.heap.size) [.int .i64 cap7, .slice A7 n7 c7, .int .i64 cr7, .int .i64 bk7, .int .i64 st7, .int .i64 gt7] 28 V) ⟨later_of_below (by (repeat (first | with_reducible exact Below.refl _ _ | with_reducible refine Below.drew ?_ | with_reducible refine Below.alloc ?_ (by first | exact Nat.le_refl _ | (simp; done) | (simp; omega)) _))), (by (repeat (first | exact Blk.new _ _ [.int .i64 cap7, .slice A7 n7 c7, .int .i64 cr7, .int .i64 bk7, .int .i64 st7, .int .i64 gt7] _ (by first | rfl | (simp; done)) | with_reducible refine Blk.alloc ?_ _)))⟩ (fun W16 hV => ?_)
    obtain ⟨⟨p, hp⟩, qHK100⟩ := hV
    have qHB := Lib.hid (below_to hp HB.out)
    have qHR := Lib.hid (row_to hp HR.out)
    have qHR1 := Lib.hid (row_to hp HR1.out)
    have qHK1 := Lib.hid (Blk.to hp HK1.out)
    have qHK2 := Lib.hid (Blk.to hp HK2.out)
    have qHR2 := Lib.hid (row_to hp HR2.out)
    have qHK3 := Lib.hid (Blk.to hp HK3.out)
    have qHR4 := Lib.hid (row_to hp HR4.out)
    have qHK5 := Lib.hid (Blk.to hp HK5.out)
    have qHR5 := Lib.hid (row_to hp HR5.out)
    have qHK6 := Lib.hid (Blk.to hp HK6.out)
    have qHK7 := Lib.hid (Blk.to hp HK7.out)
    have qHR6 := Lib.hid (row_to hp HR6.out)
    have qHK8 := Lib.hid (Blk.to hp HK8.out)
    have qHK9 := Lib.hid (Blk.to hp HK9.out)
    have qHR7 := Lib.hid (row_to hp HR7.out)
    clear HB HR HR1 cHK1_0 zHK1_0 cHK1_1 zHK1_1 cHK1_2 zHK1_2 cHK1_3 zHK1_3 cHK1_4 zHK1_4 cHK1_5 zHK1_5 lHK1 mHK1 HK1 cHK2_0 zHK2_0 cHK2_1 zHK2_1 cHK2_2 zHK2_2 cHK2_3 zHK2_3 cHK2_4 zHK2_4 lHK2 mHK2 HK2 HR2 cHK3_0 zHK3_0 cHK3_1 zHK3_1 cHK3_2 zHK3_2 cHK3_3 zHK3_3 cHK3_4 zHK3_4 cHK3_5 zHK3_5 lHK3 mHK3 HK3 HR4 cHK5_0 zHK5_0 cHK5_1 zHK5_1 cHK5_2 zHK5_2 cHK5_3 zHK5_3 cHK5_4 zHK5_4 cHK5_5 zHK5_5 lHK5 mHK5 HK5 HR5 cHK6_0 zHK6_0 cHK6_1 zHK6_1 cHK6_2 zHK6_2 cHK6_3 zHK6_3 cHK6_4 zHK6_4 cHK6_5 zHK6_5 lHK6 mHK6 HK6 cHK7_0 zHK7_0 cHK7_1 zHK7_1 cHK7_2 zHK7_2 cHK7_3 zHK7_3 cHK7_4 zHK7_4 lHK7 mHK7 HK7 HR6 cHK8_0 zHK8_0 cHK8_1 zHK8_1 cHK8_2 zHK8_2 cHK8_3 zHK8_3 cHK8_4 zHK8_4 cHK8_5 zHK8_5 lHK8 mHK8 HK8 cHK9_0 zHK9_0 cHK9_1 zHK9_1 cHK9_2 zHK9_2 cHK9_3 zHK9_3 cHK9_4 zHK9_4 lHK9 mHK9 HK9 HR7 hp
    have HB := qHB
    clear qHB
    have HR := qHR
    clear qHR
    have HR1 := qHR1
    clear qHR1
    have HK1 := qHK1
    clear qHK1
    have cHK1_0 := HK1.out.cell (i := 0) rfl
    have zHK1_0 := HK1.out.frozen 0
    have cHK1_1 := HK1.out.cell (i := 1) rfl
    have zHK1_1 := HK1.out.frozen 1
    have cHK1_2 := HK1.out.cell (i := 2) rfl
    have zHK1_2 := HK1.out.frozen 2
    have cHK1_3 := HK1.out.cell (i := 3) rfl
    have zHK1_3 := HK1.out.frozen 3
    have cHK1_4 := HK1.out.cell (i := 4) rfl
    have zHK1_4 := HK1.out.frozen 4
    have cHK1_5 := HK1.out.cell (i := 5) rfl
    have zHK1_5 := HK1.out.frozen 5
    have lHK1 := HK1.out.lt
    have mHK1 := Nat.le_of_lt lHK1
    have HK2 := qHK2
    clear qHK2
    have cHK2_0 := HK2.out.cell (i := 0) rfl
    have zHK2_0 := HK2.out.frozen 0
    have cHK2_1 := HK2.out.cell (i := 1) rfl
    have zHK2_1 := HK2.out.frozen 1
    have cHK2_2 := HK2.out.cell (i := 2) rfl
    have zHK2_2 := HK2.out.frozen 2
    have cHK2_3 := HK2.out.cell (i := 3) rfl
    have zHK2_3 := HK2.out.frozen 3
    have cHK2_4 := HK2.out.cell (i := 4) rfl
    have zHK2_4 := HK2.out.frozen 4
    have lHK2 := HK2.out.lt
    have mHK2 := Nat.le_of_lt lHK2
    have HR2 := qHR2
    clear qHR2
    have HK3 := qHK3
    clear qHK3
    have cHK3_0 := HK3.out.cell (i := 0) rfl
    have zHK3_0 := HK3.out.frozen 0
    have cHK3_1 := HK3.out.cell (i := 1) rfl
    have zHK3_1 := HK3.out.frozen 1
    have cHK3_2 := HK3.out.cell (i := 2) rfl
    have zHK3_2 := HK3.out.frozen 2
    have cHK3_3 := HK3.out.cell (i := 3) rfl
    have zHK3_3 := HK3.out.frozen 3
    have cHK3_4 := HK3.out.cell (i := 4) rfl
    have zHK3_4 := HK3.out.frozen 4
    have cHK3_5 := HK3.out.cell (i := 5) rfl
    have zHK3_5 := HK3.out.frozen 5
    have lHK3 := HK3.out.lt
    have mHK3 := Nat.le_of_lt lHK3
    have HR4 := qHR4
    clear qHR4
    have HK5 := qHK5
    clear qHK5
    have cHK5_0 := HK5.out.cell (i := 0) rfl
    have zHK5_0 := HK5.out.frozen 0
    have cHK5_1 := HK5.out.cell (i := 1) rfl
    have zHK5_1 := HK5.out.frozen 1
    have cHK5_2 := HK5.out.cell (i := 2) rfl
    have zHK5_2 := HK5.out.frozen 2
    have cHK5_3 := HK5.out.cell (i := 3) rfl
    have zHK5_3 := HK5.out.frozen 3
    have cHK5_4 := HK5.out.cell (i := 4) rfl
    have zHK5_4 := HK5.out.frozen 4
    have cHK5_5 := HK5.out.cell (i := 5) rfl
    have zHK5_5 := HK5.out.frozen 5
    have lHK5 := HK5.out.lt
    have mHK5 := Nat.le_of_lt lHK5
    have HR5 := qHR5
    clear qHR5
    have HK6 := qHK6
    clear qHK6
    have cHK6_0 := HK6.out.cell (i := 0) rfl
    have zHK6_0 := HK6.out.frozen 0
    have cHK6_1 := HK6.out.cell (i := 1) rfl
    have zHK6_1 := HK6.out.frozen 1
    have cHK6_2 := HK6.out.cell (i := 2) rfl
    have zHK6_2 := HK6.out.frozen 2
    have cHK6_3 := HK6.out.cell (i := 3) rfl
    have zHK6_3 := HK6.out.frozen 3
    have cHK6_4 := HK6.out.cell (i := 4) rfl
    have zHK6_4 := HK6.out.frozen 4
    have cHK6_5 := HK6.out.cell (i := 5) rfl
    have zHK6_5 := HK6.out.frozen 5
    have lHK6 := HK6.out.lt
    have mHK6 := Nat.le_of_lt lHK6
    have HK7 := qHK7
    clear qHK7
    have cHK7_0 := HK7.out.cell (i := 0) rfl
    have zHK7_0 := HK7.out.frozen 0
    have cHK7_1 := HK7.out.cell (i := 1) rfl
    have zHK7_1 := HK7.out.frozen 1
    have cHK7_2 := HK7.out.cell (i := 2) rfl
    have zHK7_2 := HK7.out.frozen 2
    have cHK7_3 := HK7.out.cell (i := 3) rfl
    have zHK7_3 := HK7.out.frozen 3
    have cHK7_4 := HK7.out.cell (i := 4) rfl
    have zHK7_4 := HK7.out.frozen 4
    have lHK7 := HK7.out.lt
    have mHK7 := Nat.le_of_lt lHK7
    have HR6 := qHR6
    clear qHR6
    have HK8 := qHK8
    clear qHK8
    have cHK8_0 := HK8.out.cell (i := 0) rfl
    have zHK8_0 := HK8.out.frozen 0
    have cHK8_1 := HK8.out.cell (i := 1) rfl
    have zHK8_1 := HK8.out.frozen 1
    have cHK8_2 := HK8.out.cell (i := 2) rfl
    have zHK8_2 := HK8.out.frozen 2
    have cHK8_3 := HK8.out.cell (i := 3) rfl
    have zHK8_3 := HK8.out.frozen 3
    have cHK8_4 := HK8.out.cell (i := 4) rfl
    have zHK8_4 := HK8.out.frozen 4
    have cHK8_5 := HK8.out.cell (i := 5) rfl
    have zHK8_5 := HK8.out.frozen 5
    have lHK8 := HK8.out.lt
    have mHK8 := Nat.le_of_lt lHK8
    have HK9 := qHK9
    clear qHK9
    have cHK9_0 := HK9.out.cell (i := 0) rfl
    have zHK9_0 := HK9.out.frozen 0
    have cHK9_1 := HK9.out.cell (i := 1) rfl
    have zHK9_1 := HK9.out.frozen 1
    have cHK9_2 := HK9.out.cell (i := 2) rfl
    have zHK9_2 := HK9.out.frozen 2
    have cHK9_3 := HK9.out.cell (i := 3) rfl
    have zHK9_3 := HK9.out.frozen 3
    have cHK9_4 := HK9.out.cell (i := 4) rfl
    have zHK9_4 := HK9.out.frozen 4
    have lHK9 := HK9.out.lt
    have mHK9 := Nat.le_of_lt lHK9
    have HR7 := qHR7
    clear qHR7
    have hsW16 : w.heap.size ≤ W16.heap.size := HB.out.size
    have HK10 := Lib.hid (qHK100)
    have cHK10_0 := HK10.out.cell (i := 0) rfl
    have zHK10_0 := HK10.out.frozen 0
    have cHK10_1 := HK10.out.cell (i := 1) rfl
    have zHK10_1 := HK10.out.frozen 1
    have cHK10_2 := HK10.out.cell (i := 2) rfl
    have zHK10_2 := HK10.out.frozen 2
    have cHK10_3 := HK10.out.cell (i := 3) rfl
    have zHK10_3 := HK10.out.frozen 3
    have cHK10_4 := HK10.out.cell (i := 4) rfl
    have zHK10_4 := HK10.out.frozen 4
    have cHK10_5 := HK10.out.cell (i := 5) rfl
    have zHK10_5 := HK10.out.frozen 5
    have lHK10 := HK10.out.lt
    have mHK10 := Nat.le_of_lt lHK10
    clear qHK100
    obtain ⟨⟨crB, bkB, cm⟩, hz7⟩ : ∃ q, creditBack cap7 cr7 bk7 st7 gt7 xs7 = q := ⟨_, rfl⟩
    have HZ7 := Lib.hid hz7
    have h7l : xs7.length ≤ 9 := by rw [HL7.out]; exact hn7
    obtain ⟨hcrB, hbkB⟩ := back_b hz7 hcr7 hbk7
    clear hz7
    refine (m_iCreditBack cap7 cr7 bk7 st7 gt7 A7 n7 c7 xs7 _ crB bkB cm HL7.out (by omega) hcr7.i64 hbk7.i64 hst7.i64 hgt7.i64 HR7.out HZ7.out).mono ?_
    rintro _ W17 ⟨A8, n8, c8, rfl, hl8, hc8, hm8, hO8, p17, hp17⟩
    have qHB := Lib.hid (below_to hp17 HB.out)
    have qHR := Lib.hid (row_to hp17 HR.out)
    have qHR1 := Lib.hid (row_to hp17 HR1.out)
    have qHK1 := Lib.hid (Blk.to hp17 HK1.out)
    have qHK2 := Lib.hid (Blk.to hp17 HK2.out)
    have qHR2 := Lib.hid (row_to hp17 HR2.out)
    have qHK3 := Lib.hid (Blk.to hp17 HK3.out)
    have qHR4 := Lib.hid (row_to hp17 HR4.out)
    have qHK5 := Lib.hid (Blk.to hp17 HK5.out)
    have qHR5 := Lib.hid (row_to hp17 HR5.out)
    have qHK6 := Lib.hid (Blk.to hp17 HK6.out)
    have qHK7 := Lib.hid (Blk.to hp17 HK7.out)
    have qHR6 := Lib.hid (row_to hp17 HR6.out)
    have qHK8 := Lib.hid (Blk.to hp17 HK8.out)
    have qHK9 := Lib.hid (Blk.to hp17 HK9.out)
    have qHR7 := Lib.hid (row_to hp17 HR7.out)
    have qHK10 := Lib.hid (Blk.to hp17 HK10.out)
    clear HB HR HR1 cHK1_0 zHK1_0 cHK1_1 zHK1_1 cHK1_2 zHK1_2 cHK1_3 zHK1_3 cHK1_4 zHK1_4 cHK1_5 zHK1_5 lHK1 mHK1 HK1 cHK2_0 zHK2_0 cHK2_1 zHK2_1 cHK2_2 zHK2_2 cHK2_3 zHK2_3 cHK2_4 zHK2_4 lHK2 mHK2 HK2 HR2 cHK3_0 zHK3_0 cHK3_1 zHK3_1 cHK3_2 zHK3_2 cHK3_3 zHK3_3 cHK3_4 zHK3_4 cHK3_5 zHK3_5 lHK3 mHK3 HK3 HR4 cHK5_0 zHK5_0 cHK5_1 zHK5_1 cHK5_2 zHK5_2 cHK5_3 zHK5_3 cHK5_4 zHK5_4 cHK5_5 zHK5_5 lHK5 mHK5 HK5 HR5 cHK6_0 zHK6_0 cHK6_1 zHK6_1 cHK6_2 zHK6_2 cHK6_3 zHK6_3 cHK6_4 zHK6_4 cHK6_5 zHK6_5 lHK6 mHK6 HK6 cHK7_0 zHK7_0 cHK7_1 zHK7_1 cHK7_2 zHK7_2 cHK7_3 zHK7_3 cHK7_4 zHK7_4 lHK7 mHK7 HK7 HR6 cHK8_0 zHK8_0 cHK8_1 zHK8_1 cHK8_2 zHK8_2 cHK8_3 zHK8_3 cHK8_4 zHK8_4 cHK8_5 zHK8_5 lHK8 mHK8 HK8 cHK9_0 zHK9_0 cHK9_1 zHK9_1 cHK9_2 zHK9_2 cHK9_3 zHK9_3 cHK9_4 zHK9_4 lHK9 mHK9 HK9 HR7 cHK10_0 zHK10_0 cHK10_1 zHK10_1 cHK10_2 zHK10_2 cHK10_3 zHK10_3 cHK10_4 zHK10_4 cHK10_5 zHK10_5 lHK10 mHK10 HK10 hp17
    have HB := qHB
    clear qHB
    have HR := qHR
    clear qHR
    have HR1 := qHR1
    clear qHR1
    have HK1 := qHK1
    clear qHK1
    have cHK1_0 := HK1.out.cell (i := 0) rfl
    have zHK1_0 := HK1.out.frozen 0
    have cHK1_1 := HK1.out.cell (i := 1) rfl
    have zHK1_1 := HK1.out.frozen 1
    have cHK1_2 := HK1.out.cell (i := 2) rfl
    have zHK1_2 := HK1.out.frozen 2
    have cHK1_3 := HK1.out.cell (i := 3) rfl
    have zHK1_3 := HK1.out.frozen 3
    have cHK1_4 := HK1.out.cell (i := 4) rfl
    have zHK1_4 := HK1.out.frozen 4
    have cHK1_5 := HK1.out.cell (i := 5) rfl
    have zHK1_5 := HK1.out.frozen 5
    have lHK1 := HK1.out.lt
    have mHK1 := Nat.le_of_lt lHK1
    have HK2 := qHK2
    clear qHK2
    have cHK2_0 := HK2.out.cell (i := 0) rfl
    have zHK2_0 := HK2.out.frozen 0
    have cHK2_1 := HK2.out.cell (i := 1) rfl
    have zHK2_1 := HK2.out.frozen 1
    have cHK2_2 := HK2.out.cell (i := 2) rfl
    have zHK2_2 := HK2.out.frozen 2
    have cHK2_3 := HK2.out.cell (i := 3) rfl
    have zHK2_3 := HK2.out.frozen 3
    have cHK2_4 := HK2.out.cell (i := 4) rfl
    have zHK2_4 := HK2.out.frozen 4
    have lHK2 := HK2.out.lt
    have mHK2 := Nat.le_of_lt lHK2
    have HR2 := qHR2
    clear qHR2
    have HK3 := qHK3
    clear qHK3
    have cHK3_0 := HK3.out.cell (i := 0) rfl
    have zHK3_0 := HK3.out.frozen 0
    have cHK3_1 := HK3.out.cell (i := 1) rfl
    have zHK3_1 := HK3.out.frozen 1
    have cHK3_2 := HK3.out.cell (i := 2) rfl
    have zHK3_2 := HK3.out.frozen 2
    have cHK3_3 := HK3.out.cell (i := 3) rfl
    have zHK3_3 := HK3.out.frozen 3
    have cHK3_4 := HK3.out.cell (i := 4) rfl
    have zHK3_4 := HK3.out.frozen 4
    have cHK3_5 := HK3.out.cell (i := 5) rfl
    have zHK3_5 := HK3.out.frozen 5
    have lHK3 := HK3.out.lt
    have mHK3 := Nat.le_of_lt lHK3
    have HR4 := qHR4
    clear qHR4
    have HK5 := qHK5
    clear qHK5
    have cHK5_0 := HK5.out.cell (i := 0) rfl
    have zHK5_0 := HK5.out.frozen 0
    have cHK5_1 := HK5.out.cell (i := 1) rfl
    have zHK5_1 := HK5.out.frozen 1
    have cHK5_2 := HK5.out.cell (i := 2) rfl
    have zHK5_2 := HK5.out.frozen 2
    have cHK5_3 := HK5.out.cell (i := 3) rfl
    have zHK5_3 := HK5.out.frozen 3
    have cHK5_4 := HK5.out.cell (i := 4) rfl
    have zHK5_4 := HK5.out.frozen 4
    have cHK5_5 := HK5.out.cell (i := 5) rfl
    have zHK5_5 := HK5.out.frozen 5
    have lHK5 := HK5.out.lt
    have mHK5 := Nat.le_of_lt lHK5
    have HR5 := qHR5
    clear qHR5
    have HK6 := qHK6
    clear qHK6
    have cHK6_0 := HK6.out.cell (i := 0) rfl
    have zHK6_0 := HK6.out.frozen 0
    have cHK6_1 := HK6.out.cell (i := 1) rfl
    have zHK6_1 := HK6.out.frozen 1
    have cHK6_2 := HK6.out.cell (i := 2) rfl
    have zHK6_2 := HK6.out.frozen 2
    have cHK6_3 := HK6.out.cell (i := 3) rfl
    have zHK6_3 := HK6.out.frozen 3
    have cHK6_4 := HK6.out.cell (i := 4) rfl
    have zHK6_4 := HK6.out.frozen 4
    have cHK6_5 := HK6.out.cell (i := 5) rfl
    have zHK6_5 := HK6.out.frozen 5
    have lHK6 := HK6.out.lt
    have mHK6 := Nat.le_of_lt lHK6
    have HK7 := qHK7
    clear qHK7
    have cHK7_0 := HK7.out.cell (i := 0) rfl
    have zHK7_0 := HK7.out.frozen 0
    have cHK7_1 := HK7.out.cell (i := 1) rfl
    have zHK7_1 := HK7.out.frozen 1
    have cHK7_2 := HK7.out.cell (i := 2) rfl
    have zHK7_2 := HK7.out.frozen 2
    have cHK7_3 := HK7.out.cell (i := 3) rfl
    have zHK7_3 := HK7.out.frozen 3
    have cHK7_4 := HK7.out.cell (i := 4) rfl
    have zHK7_4 := HK7.out.frozen 4
    have lHK7 := HK7.out.lt
    have mHK7 := Nat.le_of_lt lHK7
    have HR6 := qHR6
    clear qHR6
    have HK8 := qHK8
    clear qHK8
    have cHK8_0 := HK8.out.cell (i := 0) rfl
    have zHK8_0 := HK8.out.frozen 0
    have cHK8_1 := HK8.out.cell (i := 1) rfl
    have zHK8_1 := HK8.out.frozen 1
    have cHK8_2 := HK8.out.cell (i := 2) rfl
    have zHK8_2 := HK8.out.frozen 2
    have cHK8_3 := HK8.out.cell (i := 3) rfl
    have zHK8_3 := HK8.out.frozen 3
    have cHK8_4 := HK8.out.cell (i := 4) rfl
    have zHK8_4 := HK8.out.frozen 4
    have cHK8_5 := HK8.out.cell (i := 5) rfl
    have zHK8_5 := HK8.out.frozen 5
    have lHK8 := HK8.out.lt
    have mHK8 := Nat.le_of_lt lHK8
    have HK9 := qHK9
    clear qHK9
    have cHK9_0 := HK9.out.cell (i := 0) rfl
    have zHK9_0 := HK9.out.frozen 0
    have cHK9_1 := HK9.out.cell (i := 1) rfl
    have zHK9_1 := HK9.out.frozen 1
    have cHK9_2 := HK9.out.cell (i := 2) rfl
    have zHK9_2 := HK9.out.frozen 2
    have cHK9_3 := HK9.out.cell (i := 3) rfl
    have zHK9_3 := HK9.out.frozen 3
    have cHK9_4 := HK9.out.cell (i := 4) rfl
    have zHK9_4 := HK9.out.frozen 4
    have lHK9 := HK9.out.lt
    have mHK9 := Nat.le_of_lt lHK9
    have HR7 := qHR7
    clear qHR7
    have HK10 := qHK10
    clear qHK10
    have cHK10_0 := HK10.out.cell (i := 0) rfl
    have zHK10_0 := HK10.out.frozen 0
    have cHK10_1 := HK10.out.cell (i := 1) rfl
    have zHK10_1 := HK10.out.frozen 1
    have cHK10_2 := HK10.out.cell (i := 2) rfl
    have zHK10_2 := HK10.out.frozen 2
    have cHK10_3 := HK10.out.cell (i := 3) rfl
    have zHK10_3 := HK10.out.frozen 3
    have cHK10_4 := HK10.out.cell (i := 4) rfl
    have zHK10_4 := HK10.out.frozen 4
    have cHK10_5 := HK10.out.cell (i := 5) rfl
    have zHK10_5 := HK10.out.frozen 5
    have lHK10 := HK10.out.lt
    have mHK10 := Nat.le_of_lt lHK10
    have hsW17 : w.heap.size ≤ W17.heap.size := HB.out.size
    have HR8 := Lib.hid (hO8.row)
    have HL8 := Lib.hid hl8
    clear hO8 hl8
    have hb8 : n8 ≤ 9 := by rw [← HL8.out]; exact h7l
    go_wp2_with fail
    refine calls_anchor (F := fun V => (∃ p : Later, V = later W17 p) ∧ Blk (W17.heap.size) [.int .i64 cap7, .slice A8 n8 c8, .int .i64 crB, .int .i64 bkB, .int .i64 st7, .int .i64 gt7] 28 V) ⟨later_of_below (by (repeat (first | with_reducible exact Below.refl _ _ | with_reducible refine Below.drew ?_ | with_reducible refine Below.alloc ?_ (by first | exact Nat.le_refl _ | (simp; done) | (simp; omega)) _))), (by (repeat (first | exact Blk.new _ _ [.int .i64 cap7, .slice A8 n8 c8, .int .i64 crB, .int .i64 bkB, .int .i64 st7, .int .i64 gt7] _ (by first | rfl | (simp; done)) | with_reducible refine Blk.alloc ?_ _)))⟩ (fun W18 hV => ?_)
    obtain ⟨⟨p, hp⟩, qHK110⟩ := hV
    have qHB := Lib.hid (below_to hp HB.out)
    have qHR := Lib.hid (row_to hp HR.out)
    have qHR1 := Lib.hid (row_to hp HR1.out)
    have qHK1 := Lib.hid (Blk.to hp HK1.out)
    have qHK2 := Lib.hid (Blk.to hp HK2.out)
    have qHR2 := Lib.hid (row_to hp HR2.out)
    have qHK3 := Lib.hid (Blk.to hp HK3.out)
    have qHR4 := Lib.hid (row_to hp HR4.out)
    have qHK5 := Lib.hid (Blk.to hp HK5.out)
    have qHR5 := Lib.hid (row_to hp HR5.out)
    have qHK6 := Lib.hid (Blk.to hp HK6.out)
    have qHK7 := Lib.hid (Blk.to hp HK7.out)
    have qHR6 := Lib.hid (row_to hp HR6.out)
    have qHK8 := Lib.hid (Blk.to hp HK8.out)
    have qHK9 := Lib.hid (Blk.to hp HK9.out)
    have qHR7 := Lib.hid (row_to hp HR7.out)
    have qHK10 := Lib.hid (Blk.to hp HK10.out)
    have qHR8 := Lib.hid (row_to hp HR8.out)
    clear HB HR HR1 cHK1_0 zHK1_0 cHK1_1 zHK1_1 cHK1_2 zHK1_2 cHK1_3 zHK1_3 cHK1_4 zHK1_4 cHK1_5 zHK1_5 lHK1 mHK1 HK1 cHK2_0 zHK2_0 cHK2_1 zHK2_1 cHK2_2 zHK2_2 cHK2_3 zHK2_3 cHK2_4 zHK2_4 lHK2 mHK2 HK2 HR2 cHK3_0 zHK3_0 cHK3_1 zHK3_1 cHK3_2 zHK3_2 cHK3_3 zHK3_3 cHK3_4 zHK3_4 cHK3_5 zHK3_5 lHK3 mHK3 HK3 HR4 cHK5_0 zHK5_0 cHK5_1 zHK5_1 cHK5_2 zHK5_2 cHK5_3 zHK5_3 cHK5_4 zHK5_4 cHK5_5 zHK5_5 lHK5 mHK5 HK5 HR5 cHK6_0 zHK6_0 cHK6_1 zHK6_1 cHK6_2 zHK6_2 cHK6_3 zHK6_3 cHK6_4 zHK6_4 cHK6_5 zHK6_5 lHK6 mHK6 HK6 cHK7_0 zHK7_0 cHK7_1 zHK7_1 cHK7_2 zHK7_2 cHK7_3 zHK7_3 cHK7_4 zHK7_4 lHK7 mHK7 HK7 HR6 cHK8_0 zHK8_0 cHK8_1 zHK8_1 cHK8_2 zHK8_2 cHK8_3 zHK8_3 cHK8_4 zHK8_4 cHK8_5 zHK8_5 lHK8 mHK8 HK8 cHK9_0 zHK9_0 cHK9_1 zHK9_1 cHK9_2 zHK9_2 cHK9_3 zHK9_3 cHK9_4 zHK9_4 lHK9 mHK9 HK9 HR7 cHK10_0 zHK10_0 cHK10_1 zHK10_1 cHK10_2 zHK10_2 cHK10_3 zHK10_3 cHK10_4 zHK10_4 cHK10_5 zHK10_5 lHK10 mHK10 HK10 HR8 hp
    have HB := qHB
    clear qHB
    have HR := qHR
    clear qHR
    have HR1 := qHR1
    clear qHR1
    have HK1 := qHK1
    clear qHK1
    have cHK1_0 := HK1.out.cell (i := 0) rfl
    have zHK1_0 := HK1.out.frozen 0
    have cHK1_1 := HK1.out.cell (i := 1) rfl
    have zHK1_1 := HK1.out.frozen 1
    have cHK1_2 := HK1.out.cell (i := 2) rfl
    have zHK1_2 := HK1.out.frozen 2
    have cHK1_3 := HK1.out.cell (i := 3) rfl
    have zHK1_3 := HK1.out.frozen 3
    have cHK1_4 := HK1.out.cell (i := 4) rfl
    have zHK1_4 := HK1.out.frozen 4
    have cHK1_5 := HK1.out.cell (i := 5) rfl
    have zHK1_5 := HK1.out.frozen 5
    have lHK1 := HK1.out.lt
    have mHK1 := Nat.le_of_lt lHK1
    have HK2 := qHK2
    clear qHK2
    have cHK2_0 := HK2.out.cell (i := 0) rfl
    have zHK2_0 := HK2.out.frozen 0
    have cHK2_1 := HK2.out.cell (i := 1) rfl
    have zHK2_1 := HK2.out.frozen 1
    have cHK2_2 := HK2.out.cell (i := 2) rfl
    have zHK2_2 := HK2.out.frozen 2
    have cHK2_3 := HK2.out.cell (i := 3) rfl
    have zHK2_3 := HK2.out.frozen 3
    have cHK2_4 := HK2.out.cell (i := 4) rfl
    have zHK2_4 := HK2.out.frozen 4
    have lHK2 := HK2.out.lt
    have mHK2 := Nat.le_of_lt lHK2
    have HR2 := qHR2
    clear qHR2
    have HK3 := qHK3
    clear qHK3
    have cHK3_0 := HK3.out.cell (i := 0) rfl
    have zHK3_0 := HK3.out.frozen 0
    have cHK3_1 := HK3.out.cell (i := 1) rfl
    have zHK3_1 := HK3.out.frozen 1
    have cHK3_2 := HK3.out.cell (i := 2) rfl
    have zHK3_2 := HK3.out.frozen 2
    have cHK3_3 := HK3.out.cell (i := 3) rfl
    have zHK3_3 := HK3.out.frozen 3
    have cHK3_4 := HK3.out.cell (i := 4) rfl
    have zHK3_4 := HK3.out.frozen 4
    have cHK3_5 := HK3.out.cell (i := 5) rfl
    have zHK3_5 := HK3.out.frozen 5
    have lHK3 := HK3.out.lt
    have mHK3 := Nat.le_of_lt lHK3
    have HR4 := qHR4
    clear qHR4
    have HK5 := qHK5
    clear qHK5
    have cHK5_0 := HK5.out.cell (i := 0) rfl
    have zHK5_0 := HK5.out.frozen 0
    have cHK5_1 := HK5.out.cell (i := 1) rfl
    have zHK5_1 := HK5.out.frozen 1
    have cHK5_2 := HK5.out.cell (i := 2) rfl
    have zHK5_2 := HK5.out.frozen 2
    have cHK5_3 := HK5.out.cell (i := 3) rfl
    have zHK5_3 := HK5.out.frozen 3
    have cHK5_4 := HK5.out.cell (i := 4) rfl
    have zHK5_4 := HK5.out.frozen 4
    have cHK5_5 := HK5.out.cell (i := 5) rfl
    have zHK5_5 := HK5.out.frozen 5
    have lHK5 := HK5.out.lt
    have mHK5 := Nat.le_of_lt lHK5
    have HR5 := qHR5
    clear qHR5
    have HK6 := qHK6
    clear qHK6
    have cHK6_0 := HK6.out.cell (i := 0) rfl
    have zHK6_0 := HK6.out.frozen 0
    have cHK6_1 := HK6.out.cell (i := 1) rfl
    have zHK6_1 := HK6.out.frozen 1
    have cHK6_2 := HK6.out.cell (i := 2) rfl
    have zHK6_2 := HK6.out.frozen 2
    have cHK6_3 := HK6.out.cell (i := 3) rfl
    have zHK6_3 := HK6.out.frozen 3
    have cHK6_4 := HK6.out.cell (i := 4) rfl
    have zHK6_4 := HK6.out.frozen 4
    have cHK6_5 := HK6.out.cell (i := 5) rfl
    have zHK6_5 := HK6.out.frozen 5
    have lHK6 := HK6.out.lt
    have mHK6 := Nat.le_of_lt lHK6
    have HK7 := qHK7
    clear qHK7
    have cHK7_0 := HK7.out.cell (i := 0) rfl
    have zHK7_0 := HK7.out.frozen 0
    have cHK7_1 := HK7.out.cell (i := 1) rfl
    have zHK7_1 := HK7.out.frozen 1
    have cHK7_2 := HK7.out.cell (i := 2) rfl
    have zHK7_2 := HK7.out.frozen 2
    have cHK7_3 := HK7.out.cell (i := 3) rfl
    have zHK7_3 := HK7.out.frozen 3
    have cHK7_4 := HK7.out.cell (i := 4) rfl
    have zHK7_4 := HK7.out.frozen 4
    have lHK7 := HK7.out.lt
    have mHK7 := Nat.le_of_lt lHK7
    have HR6 := qHR6
    clear qHR6
    have HK8 := qHK8
    clear qHK8
    have cHK8_0 := HK8.out.cell (i := 0) rfl
    have zHK8_0 := HK8.out.frozen 0
    have cHK8_1 := HK8.out.cell (i := 1) rfl
    have zHK8_1 := HK8.out.frozen 1
    have cHK8_2 := HK8.out.cell (i := 2) rfl
    have zHK8_2 := HK8.out.frozen 2
    have cHK8_3 := HK8.out.cell (i := 3) rfl
    have zHK8_3 := HK8.out.frozen 3
    have cHK8_4 := HK8.out.cell (i := 4) rfl
    have zHK8_4 := HK8.out.frozen 4
    have cHK8_5 := HK8.out.cell (i := 5) rfl
    have zHK8_5 := HK8.out.frozen 5
    have lHK8 := HK8.out.lt
    have mHK8 := Nat.le_of_lt lHK8
    have HK9 := qHK9
    clear qHK9
    have cHK9_0 := HK9.out.cell (i := 0) rfl
    have zHK9_0 := HK9.out.frozen 0
    have cHK9_1 := HK9.out.cell (i := 1) rfl
    have zHK9_1 := HK9.out.frozen 1
    have cHK9_2 := HK9.out.cell (i := 2) rfl
    have zHK9_2 := HK9.out.frozen 2
    have cHK9_3 := HK9.out.cell (i := 3) rfl
    have zHK9_3 := HK9.out.frozen 3
    have cHK9_4 := HK9.out.cell (i := 4) rfl
    have zHK9_4 := HK9.out.frozen 4
    have lHK9 := HK9.out.lt
    have mHK9 := Nat.le_of_lt lHK9
    have HR7 := qHR7
    clear qHR7
    have HK10 := qHK10
    clear qHK10
    have cHK10_0 := HK10.out.cell (i := 0) rfl
    have zHK10_0 := HK10.out.frozen 0
    have cHK10_1 := HK10.out.cell (i := 1) rfl
    have zHK10_1 := HK10.out.frozen 1
    have cHK10_2 := HK10.out.cell (i := 2) rfl
    have zHK10_2 := HK10.out.frozen 2
    have cHK10_3 := HK10.out.cell (i := 3) rfl
    have zHK10_3 := HK10.out.frozen 3
    have cHK10_4 := HK10.out.cell (i := 4) rfl
    have zHK10_4 := HK10.out.frozen 4
    have cHK10_5 := HK10.out.cell (i := 5) rfl
    have zHK10_5 := HK10.out.frozen 5
    have lHK10 := HK10.out.lt
    have mHK10 := Nat.le_of_lt lHK10
    have HR8 := qHR8
    clear qHR8
    have hsW18 : w.heap.size ≤ W18.heap.size := HB.out.size
    have HK11 := Lib.hid (qHK110)
    have cHK11_0 := HK11.out.cell (i := 0) rfl
    have zHK11_0 := HK11.out.frozen 0
    have cHK11_1 := HK11.out.cell (i := 1) rfl
    have zHK11_1 := HK11.out.frozen 1
    have cHK11_2 := HK11.out.cell (i := 2) rfl
    have zHK11_2 := HK11.out.frozen 2
    have cHK11_3 := HK11.out.cell (i := 3) rfl
    have zHK11_3 := HK11.out.frozen 3
    have cHK11_4 := HK11.out.cell (i := 4) rfl
    have zHK11_4 := HK11.out.frozen 4
    have cHK11_5 := HK11.out.cell (i := 5) rfl
    have zHK11_5 := HK11.out.frozen 5
    have lHK11 := HK11.out.lt
    have mHK11 := Nat.le_of_lt lHK11
    clear qHK110
    refine (m_sCreditBack cap7 cr7 bk7 st7 gt7 A7 n7 c7 xs7 _ crB bkB cm HL7.out (by omega) hcr7.i64 hbk7.i64 hst7.i64 hgt7.i64 HR7.out HZ7.out).mono ?_
    rintro _ W19 ⟨A9, n9, c9, rfl, hl9, hc9, hm9, hO9, p19, hp19⟩
    have qHB := Lib.hid (below_to hp19 HB.out)
    have qHR := Lib.hid (row_to hp19 HR.out)
    have qHR1 := Lib.hid (row_to hp19 HR1.out)
    have qHK1 := Lib.hid (Blk.to hp19 HK1.out)
    have qHK2 := Lib.hid (Blk.to hp19 HK2.out)
    have qHR2 := Lib.hid (row_to hp19 HR2.out)
    have qHK3 := Lib.hid (Blk.to hp19 HK3.out)
    have qHR4 := Lib.hid (row_to hp19 HR4.out)
    have qHK5 := Lib.hid (Blk.to hp19 HK5.out)
    have qHR5 := Lib.hid (row_to hp19 HR5.out)
    have qHK6 := Lib.hid (Blk.to hp19 HK6.out)
    have qHK7 := Lib.hid (Blk.to hp19 HK7.out)
    have qHR6 := Lib.hid (row_to hp19 HR6.out)
    have qHK8 := Lib.hid (Blk.to hp19 HK8.out)
    have qHK9 := Lib.hid (Blk.to hp19 HK9.out)
    have qHR7 := Lib.hid (row_to hp19 HR7.out)
    have qHK10 := Lib.hid (Blk.to hp19 HK10.out)
    have qHR8 := Lib.hid (row_to hp19 HR8.out)
    have qHK11 := Lib.hid (Blk.to hp19 HK11.out)
    clear HB HR HR1 cHK1_0 zHK1_0 cHK1_1 zHK1_1 cHK1_2 zHK1_2 cHK1_3 zHK1_3 cHK1_4 zHK1_4 cHK1_5 zHK1_5 lHK1 mHK1 HK1 cHK2_0 zHK2_0 cHK2_1 zHK2_1 cHK2_2 zHK2_2 cHK2_3 zHK2_3 cHK2_4 zHK2_4 lHK2 mHK2 HK2 HR2 cHK3_0 zHK3_0 cHK3_1 zHK3_1 cHK3_2 zHK3_2 cHK3_3 zHK3_3 cHK3_4 zHK3_4 cHK3_5 zHK3_5 lHK3 mHK3 HK3 HR4 cHK5_0 zHK5_0 cHK5_1 zHK5_1 cHK5_2 zHK5_2 cHK5_3 zHK5_3 cHK5_4 zHK5_4 cHK5_5 zHK5_5 lHK5 mHK5 HK5 HR5 cHK6_0 zHK6_0 cHK6_1 zHK6_1 cHK6_2 zHK6_2 cHK6_3 zHK6_3 cHK6_4 zHK6_4 cHK6_5 zHK6_5 lHK6 mHK6 HK6 cHK7_0 zHK7_0 cHK7_1 zHK7_1 cHK7_2 zHK7_2 cHK7_3 zHK7_3 cHK7_4 zHK7_4 lHK7 mHK7 HK7 HR6 cHK8_0 zHK8_0 cHK8_1 zHK8_1 cHK8_2 zHK8_2 cHK8_3 zHK8_3 cHK8_4 zHK8_4 cHK8_5 zHK8_5 lHK8 mHK8 HK8 cHK9_0 zHK9_0 cHK9_1 zHK9_1 cHK9_2 zHK9_2 cHK9_3 zHK9_3 cHK9_4 zHK9_4 lHK9 mHK9 HK9 HR7 cHK10_0 zHK10_0 cHK10_1 zHK10_1 cHK10_2 zHK10_2 cHK10_3 zHK10_3 cHK10_4 zHK10_4 cHK10_5 zHK10_5 lHK10 mHK10 HK10 HR8 cHK11_0 zHK11_0 cHK11_1 zHK11_1 cHK11_2 zHK11_2 cHK11_3 zHK11_3 cHK11_4 zHK11_4 cHK11_5 zHK11_5 lHK11 mHK11 HK11 hp19
    have HB := qHB
    clear qHB
    have HR := qHR
    clear qHR
    have HR1 := qHR1
    clear qHR1
    have HK1 := qHK1
    clear qHK1
    have cHK1_0 := HK1.out.cell (i := 0) rfl
    have zHK1_0 := HK1.out.frozen 0
    have cHK1_1 := HK1.out.cell (i := 1) rfl
    have zHK1_1 := HK1.out.frozen 1
    have cHK1_2 := HK1.out.cell (i := 2) rfl
    have zHK1_2 := HK1.out.frozen 2
    have cHK1_3 := HK1.out.cell (i := 3) rfl
    have zHK1_3 := HK1.out.frozen 3
    have cHK1_4 := HK1.out.cell (i := 4) rfl
    have zHK1_4 := HK1.out.frozen 4
    have cHK1_5 := HK1.out.cell (i := 5) rfl
    have zHK1_5 := HK1.out.frozen 5
    have lHK1 := HK1.out.lt
    have mHK1 := Nat.le_of_lt lHK1
    have HK2 := qHK2
    clear qHK2
    have cHK2_0 := HK2.out.cell (i := 0) rfl
    have zHK2_0 := HK2.out.frozen 0
    have cHK2_1 := HK2.out.cell (i := 1) rfl
    have zHK2_1 := HK2.out.frozen 1
    have cHK2_2 := HK2.out.cell (i := 2) rfl
    have zHK2_2 := HK2.out.frozen 2
    have cHK2_3 := HK2.out.cell (i := 3) rfl
    have zHK2_3 := HK2.out.frozen 3
    have cHK2_4 := HK2.out.cell (i := 4) rfl
    have zHK2_4 := HK2.out.frozen 4
    have lHK2 := HK2.out.lt
    have mHK2 := Nat.le_of_lt lHK2
    have HR2 := qHR2
    clear qHR2
    have HK3 := qHK3
    clear qHK3
    have cHK3_0 := HK3.out.cell (i := 0) rfl
    have zHK3_0 := HK3.out.frozen 0
    have cHK3_1 := HK3.out.cell (i := 1) rfl
    have zHK3_1 := HK3.out.frozen 1
    have cHK3_2 := HK3.out.cell (i := 2) rfl
    have zHK3_2 := HK3.out.frozen 2
    have cHK3_3 := HK3.out.cell (i := 3) rfl
    have zHK3_3 := HK3.out.frozen 3
    have cHK3_4 := HK3.out.cell (i := 4) rfl
    have zHK3_4 := HK3.out.frozen 4
    have cHK3_5 := HK3.out.cell (i := 5) rfl
    have zHK3_5 := HK3.out.frozen 5
    have lHK3 := HK3.out.lt
    have mHK3 := Nat.le_of_lt lHK3
    have HR4 := qHR4
    clear qHR4
    have HK5 := qHK5
    clear qHK5
    have cHK5_0 := HK5.out.cell (i := 0) rfl
    have zHK5_0 := HK5.out.frozen 0
    have cHK5_1 := HK5.out.cell (i := 1) rfl
    have zHK5_1 := HK5.out.frozen 1
    have cHK5_2 := HK5.out.cell (i := 2) rfl
    have zHK5_2 := HK5.out.frozen 2
    have cHK5_3 := HK5.out.cell (i := 3) rfl
    have zHK5_3 := HK5.out.frozen 3
    have cHK5_4 := HK5.out.cell (i := 4) rfl
    have zHK5_4 := HK5.out.frozen 4
    have cHK5_5 := HK5.out.cell (i := 5) rfl
    have zHK5_5 := HK5.out.frozen 5
    have lHK5 := HK5.out.lt
    have mHK5 := Nat.le_of_lt lHK5
    have HR5 := qHR5
    clear qHR5
    have HK6 := qHK6
    clear qHK6
    have cHK6_0 := HK6.out.cell (i := 0) rfl
    have zHK6_0 := HK6.out.frozen 0
    have cHK6_1 := HK6.out.cell (i := 1) rfl
    have zHK6_1 := HK6.out.frozen 1
    have cHK6_2 := HK6.out.cell (i := 2) rfl
    have zHK6_2 := HK6.out.frozen 2
    have cHK6_3 := HK6.out.cell (i := 3) rfl
    have zHK6_3 := HK6.out.frozen 3
    have cHK6_4 := HK6.out.cell (i := 4) rfl
    have zHK6_4 := HK6.out.frozen 4
    have cHK6_5 := HK6.out.cell (i := 5) rfl
    have zHK6_5 := HK6.out.frozen 5
    have lHK6 := HK6.out.lt
    have mHK6 := Nat.le_of_lt lHK6
    have HK7 := qHK7
    clear qHK7
    have cHK7_0 := HK7.out.cell (i := 0) rfl
    have zHK7_0 := HK7.out.frozen 0
    have cHK7_1 := HK7.out.cell (i := 1) rfl
    have zHK7_1 := HK7.out.frozen 1
    have cHK7_2 := HK7.out.cell (i := 2) rfl
    have zHK7_2 := HK7.out.frozen 2
    have cHK7_3 := HK7.out.cell (i := 3) rfl
    have zHK7_3 := HK7.out.frozen 3
    have cHK7_4 := HK7.out.cell (i := 4) rfl
    have zHK7_4 := HK7.out.frozen 4
    have lHK7 := HK7.out.lt
    have mHK7 := Nat.le_of_lt lHK7
    have HR6 := qHR6
    clear qHR6
    have HK8 := qHK8
    clear qHK8
    have cHK8_0 := HK8.out.cell (i := 0) rfl
    have zHK8_0 := HK8.out.frozen 0
    have cHK8_1 := HK8.out.cell (i := 1) rfl
    have zHK8_1 := HK8.out.frozen 1
    have cHK8_2 := HK8.out.cell (i := 2) rfl
    have zHK8_2 := HK8.out.frozen 2
    have cHK8_3 := HK8.out.cell (i := 3) rfl
    have zHK8_3 := HK8.out.frozen 3
    have cHK8_4 := HK8.out.cell (i := 4) rfl
    have zHK8_4 := HK8.out.frozen 4
    have cHK8_5 := HK8.out.cell (i := 5) rfl
    have zHK8_5 := HK8.out.frozen 5
    have lHK8 := HK8.out.lt
    have mHK8 := Nat.le_of_lt lHK8
    have HK9 := qHK9
    clear qHK9
    have cHK9_0 := HK9.out.cell (i := 0) rfl
    have zHK9_0 := HK9.out.frozen 0
    have cHK9_1 := HK9.out.cell (i := 1) rfl
    have zHK9_1 := HK9.out.frozen 1
    have cHK9_2 := HK9.out.cell (i := 2) rfl
    have zHK9_2 := HK9.out.frozen 2
    have cHK9_3 := HK9.out.cell (i := 3) rfl
    have zHK9_3 := HK9.out.frozen 3
    have cHK9_4 := HK9.out.cell (i := 4) rfl
    have zHK9_4 := HK9.out.frozen 4
    have lHK9 := HK9.out.lt
    have mHK9 := Nat.le_of_lt lHK9
    have HR7 := qHR7
    clear qHR7
    have HK10 := qHK10
    clear qHK10
    have cHK10_0 := HK10.out.cell (i := 0) rfl
    have zHK10_0 := HK10.out.frozen 0
    have cHK10_1 := HK10.out.cell (i := 1) rfl
    have zHK10_1 := HK10.out.frozen 1
    have cHK10_2 := HK10.out.cell (i := 2) rfl
    have zHK10_2 := HK10.out.frozen 2
    have cHK10_3 := HK10.out.cell (i := 3) rfl
    have zHK10_3 := HK10.out.frozen 3
    have cHK10_4 := HK10.out.cell (i := 4) rfl
    have zHK10_4 := HK10.out.frozen 4
    have cHK10_5 := HK10.out.cell (i := 5) rfl
    have zHK10_5 := HK10.out.frozen 5
    have lHK10 := HK10.out.lt
    have mHK10 := Nat.le_of_lt lHK10
    have HR8 := qHR8
    clear qHR8
    have HK11 := qHK11
    clear qHK11
    have cHK11_0 := HK11.out.cell (i := 0) rfl
    have zHK11_0 := HK11.out.frozen 0
    have cHK11_1 := HK11.out.cell (i := 1) rfl
    have zHK11_1 := HK11.out.frozen 1
    have cHK11_2 := HK11.out.cell (i := 2) rfl
    have zHK11_2 := HK11.out.frozen 2
    have cHK11_3 := HK11.out.cell (i := 3) rfl
    have zHK11_3 := HK11.out.frozen 3
    have cHK11_4 := HK11.out.cell (i := 4) rfl
    have zHK11_4 := HK11.out.frozen 4
    have cHK11_5 := HK11.out.cell (i := 5) rfl
    have zHK11_5 := HK11.out.frozen 5
    have lHK11 := HK11.out.lt
    have mHK11 := Nat.le_of_lt lHK11
    have hsW19 : w.heap.size ≤ W19.heap.size := HB.out.size
    have HR9 := Lib.hid (hO9.row)
    have HL9 := Lib.hid hl9
    clear hO9 hl9
    have hb9 : n9 ≤ 9 := by rw [← HL9.out]; exact h7l
    go_wp2_with fail
    refine calls_anchor (F := fun V => (∃ p : Later, V = later W19 p) ∧ Blk (W19.heap.size) [.int .i64 cap7, .slice A9 n9 c9, .int .i64 crB, .int .i64 bkB, .int .i64 st7, .int .i64 gt7] 28 V) ⟨later_of_below (by (repeat (first | with_reducible exact Below.refl _ _ | with_reducible refine Below.drew ?_ | with_reducible refine Below.alloc ?_ (by first | exact Nat.le_refl _ | (simp; done) | (simp; omega)) _))), (by (repeat (first | exact Blk.new _ _ [.int .i64 cap7, .slice A9 n9 c9, .int .i64 crB, .int .i64 bkB, .int .i64 st7, .int .i64 gt7] _ (by first | rfl | (simp; done)) | with_reducible refine Blk.alloc ?_ _)))⟩ (fun W20 hV => ?_)
    obtain ⟨⟨p, hp⟩, qHK120⟩ := hV
    have qHB := Lib.hid (below_to hp HB.out)
    have qHR := Lib.hid (row_to hp HR.out)
    have qHR1 := Lib.hid (row_to hp HR1.out)
    have qHK1 := Lib.hid (Blk.to hp HK1.out)
    have qHK2 := Lib.hid (Blk.to hp HK2.out)
    have qHR2 := Lib.hid (row_to hp HR2.out)
    have qHK3 := Lib.hid (Blk.to hp HK3.out)
    have qHR4 := Lib.hid (row_to hp HR4.out)
    have qHK5 := Lib.hid (Blk.to hp HK5.out)
    have qHR5 := Lib.hid (row_to hp HR5.out)
    have qHK6 := Lib.hid (Blk.to hp HK6.out)
    have qHK7 := Lib.hid (Blk.to hp HK7.out)
    have qHR6 := Lib.hid (row_to hp HR6.out)
    have qHK8 := Lib.hid (Blk.to hp HK8.out)
    have qHK9 := Lib.hid (Blk.to hp HK9.out)
    have qHR7 := Lib.hid (row_to hp HR7.out)
    have qHK10 := Lib.hid (Blk.to hp HK10.out)
    have qHR8 := Lib.hid (row_to hp HR8.out)
    have qHK11 := Lib.hid (Blk.to hp HK11.out)
    have qHR9 := Lib.hid (row_to hp HR9.out)
    clear HB HR HR1 cHK1_0 zHK1_0 cHK1_1 zHK1_1 cHK1_2 zHK1_2 cHK1_3 zHK1_3 cHK1_4 zHK1_4 cHK1_5 zHK1_5 lHK1 mHK1 HK1 cHK2_0 zHK2_0 cHK2_1 zHK2_1 cHK2_2 zHK2_2 cHK2_3 zHK2_3 cHK2_4 zHK2_4 lHK2 mHK2 HK2 HR2 cHK3_0 zHK3_0 cHK3_1 zHK3_1 cHK3_2 zHK3_2 cHK3_3 zHK3_3 cHK3_4 zHK3_4 cHK3_5 zHK3_5 lHK3 mHK3 HK3 HR4 cHK5_0 zHK5_0 cHK5_1 zHK5_1 cHK5_2 zHK5_2 cHK5_3 zHK5_3 cHK5_4 zHK5_4 cHK5_5 zHK5_5 lHK5 mHK5 HK5 HR5 cHK6_0 zHK6_0 cHK6_1 zHK6_1 cHK6_2 zHK6_2 cHK6_3 zHK6_3 cHK6_4 zHK6_4 cHK6_5 zHK6_5 lHK6 mHK6 HK6 cHK7_0 zHK7_0 cHK7_1 zHK7_1 cHK7_2 zHK7_2 cHK7_3 zHK7_3 cHK7_4 zHK7_4 lHK7 mHK7 HK7 HR6 cHK8_0 zHK8_0 cHK8_1 zHK8_1 cHK8_2 zHK8_2 cHK8_3 zHK8_3 cHK8_4 zHK8_4 cHK8_5 zHK8_5 lHK8 mHK8 HK8 cHK9_0 zHK9_0 cHK9_1 zHK9_1 cHK9_2 zHK9_2 cHK9_3 zHK9_3 cHK9_4 zHK9_4 lHK9 mHK9 HK9 HR7 cHK10_0 zHK10_0 cHK10_1 zHK10_1 cHK10_2 zHK10_2 cHK10_3 zHK10_3 cHK10_4 zHK10_4 cHK10_5 zHK10_5 lHK10 mHK10 HK10 HR8 cHK11_0 zHK11_0 cHK11_1 zHK11_1 cHK11_2 zHK11_2 cHK11_3 zHK11_3 cHK11_4 zHK11_4 cHK11_5 zHK11_5 lHK11 mHK11 HK11 HR9 hp
    have HB := qHB
    clear qHB
    have HR := qHR
    clear qHR
    have HR1 := qHR1
    clear qHR1
    have HK1 := qHK1
    clear qHK1
    have cHK1_0 := HK1.out.cell (i := 0) rfl
    have zHK1_0 := HK1.out.frozen 0
    have cHK1_1 := HK1.out.cell (i := 1) rfl
    have zHK1_1 := HK1.out.frozen 1
    have cHK1_2 := HK1.out.cell (i := 2) rfl
    have zHK1_2 := HK1.out.frozen 2
    have cHK1_3 := HK1.out.cell (i := 3) rfl
    have zHK1_3 := HK1.out.frozen 3
    have cHK1_4 := HK1.out.cell (i := 4) rfl
    have zHK1_4 := HK1.out.frozen 4
    have cHK1_5 := HK1.out.cell (i := 5) rfl
    have zHK1_5 := HK1.out.frozen 5
    have lHK1 := HK1.out.lt
    have mHK1 := Nat.le_of_lt lHK1
    have HK2 := qHK2
    clear qHK2
    have cHK2_0 := HK2.out.cell (i := 0) rfl
    have zHK2_0 := HK2.out.frozen 0
    have cHK2_1 := HK2.out.cell (i := 1) rfl
    have zHK2_1 := HK2.out.frozen 1
    have cHK2_2 := HK2.out.cell (i := 2) rfl
    have zHK2_2 := HK2.out.frozen 2
    have cHK2_3 := HK2.out.cell (i := 3) rfl
    have zHK2_3 := HK2.out.frozen 3
    have cHK2_4 := HK2.out.cell (i := 4) rfl
    have zHK2_4 := HK2.out.frozen 4
    have lHK2 := HK2.out.lt
    have mHK2 := Nat.le_of_lt lHK2
    have HR2 := qHR2
    clear qHR2
    have HK3 := qHK3
    clear qHK3
    have cHK3_0 := HK3.out.cell (i := 0) rfl
    have zHK3_0 := HK3.out.frozen 0
    have cHK3_1 := HK3.out.cell (i := 1) rfl
    have zHK3_1 := HK3.out.frozen 1
    have cHK3_2 := HK3.out.cell (i := 2) rfl
    have zHK3_2 := HK3.out.frozen 2
    have cHK3_3 := HK3.out.cell (i := 3) rfl
    have zHK3_3 := HK3.out.frozen 3
    have cHK3_4 := HK3.out.cell (i := 4) rfl
    have zHK3_4 := HK3.out.frozen 4
    have cHK3_5 := HK3.out.cell (i := 5) rfl
    have zHK3_5 := HK3.out.frozen 5
    have lHK3 := HK3.out.lt
    have mHK3 := Nat.le_of_lt lHK3
    have HR4 := qHR4
    clear qHR4
    have HK5 := qHK5
    clear qHK5
    have cHK5_0 := HK5.out.cell (i := 0) rfl
    have zHK5_0 := HK5.out.frozen 0
    have cHK5_1 := HK5.out.cell (i := 1) rfl
    have zHK5_1 := HK5.out.frozen 1
    have cHK5_2 := HK5.out.cell (i := 2) rfl
    have zHK5_2 := HK5.out.frozen 2
    have cHK5_3 := HK5.out.cell (i := 3) rfl
    have zHK5_3 := HK5.out.frozen 3
    have cHK5_4 := HK5.out.cell (i := 4) rfl
    have zHK5_4 := HK5.out.frozen 4
    have cHK5_5 := HK5.out.cell (i := 5) rfl
    have zHK5_5 := HK5.out.frozen 5
    have lHK5 := HK5.out.lt
    have mHK5 := Nat.le_of_lt lHK5
    have HR5 := qHR5
    clear qHR5
    have HK6 := qHK6
    clear qHK6
    have cHK6_0 := HK6.out.cell (i := 0) rfl
    have zHK6_0 := HK6.out.frozen 0
    have cHK6_1 := HK6.out.cell (i := 1) rfl
    have zHK6_1 := HK6.out.frozen 1
    have cHK6_2 := HK6.out.cell (i := 2) rfl
    have zHK6_2 := HK6.out.frozen 2
    have cHK6_3 := HK6.out.cell (i := 3) rfl
    have zHK6_3 := HK6.out.frozen 3
    have cHK6_4 := HK6.out.cell (i := 4) rfl
    have zHK6_4 := HK6.out.frozen 4
    have cHK6_5 := HK6.out.cell (i := 5) rfl
    have zHK6_5 := HK6.out.frozen 5
    have lHK6 := HK6.out.lt
    have mHK6 := Nat.le_of_lt lHK6
    have HK7 := qHK7
    clear qHK7
    have cHK7_0 := HK7.out.cell (i := 0) rfl
    have zHK7_0 := HK7.out.frozen 0
    have cHK7_1 := HK7.out.cell (i := 1) rfl
    have zHK7_1 := HK7.out.frozen 1
    have cHK7_2 := HK7.out.cell (i := 2) rfl
    have zHK7_2 := HK7.out.frozen 2
    have cHK7_3 := HK7.out.cell (i := 3) rfl
    have zHK7_3 := HK7.out.frozen 3
    have cHK7_4 := HK7.out.cell (i := 4) rfl
    have zHK7_4 := HK7.out.frozen 4
    have lHK7 := HK7.out.lt
    have mHK7 := Nat.le_of_lt lHK7
    have HR6 := qHR6
    clear qHR6
    have HK8 := qHK8
    clear qHK8
    have cHK8_0 := HK8.out.cell (i := 0) rfl
    have zHK8_0 := HK8.out.frozen 0
    have cHK8_1 := HK8.out.cell (i := 1) rfl
    have zHK8_1 := HK8.out.frozen 1
    have cHK8_2 := HK8.out.cell (i := 2) rfl
    have zHK8_2 := HK8.out.frozen 2
    have cHK8_3 := HK8.out.cell (i := 3) rfl
    have zHK8_3 := HK8.out.frozen 3
    have cHK8_4 := HK8.out.cell (i := 4) rfl
    have zHK8_4 := HK8.out.frozen 4
    have cHK8_5 := HK8.out.cell (i := 5) rfl
    have zHK8_5 := HK8.out.frozen 5
    have lHK8 := HK8.out.lt
    have mHK8 := Nat.le_of_lt lHK8
    have HK9 := qHK9
    clear qHK9
    have cHK9_0 := HK9.out.cell (i := 0) rfl
    have zHK9_0 := HK9.out.frozen 0
    have cHK9_1 := HK9.out.cell (i := 1) rfl
    have zHK9_1 := HK9.out.frozen 1
    have cHK9_2 := HK9.out.cell (i := 2) rfl
    have zHK9_2 := HK9.out.frozen 2
    have cHK9_3 := HK9.out.cell (i := 3) rfl
    have zHK9_3 := HK9.out.frozen 3
    have cHK9_4 := HK9.out.cell (i := 4) rfl
    have zHK9_4 := HK9.out.frozen 4
    have lHK9 := HK9.out.lt
    have mHK9 := Nat.le_of_lt lHK9
    have HR7 := qHR7
    clear qHR7
    have HK10 := qHK10
    clear qHK10
    have cHK10_0 := HK10.out.cell (i := 0) rfl
    have zHK10_0 := HK10.out.frozen 0
    have cHK10_1 := HK10.out.cell (i := 1) rfl
    have zHK10_1 := HK10.out.frozen 1
    have cHK10_2 := HK10.out.cell (i := 2) rfl
    have zHK10_2 := HK10.out.frozen 2
    have cHK10_3 := HK10.out.cell (i := 3) rfl
    have zHK10_3 := HK10.out.frozen 3
    have cHK10_4 := HK10.out.cell (i := 4) rfl
    have zHK10_4 := HK10.out.frozen 4
    have cHK10_5 := HK10.out.cell (i := 5) rfl
    have zHK10_5 := HK10.out.frozen 5
    have lHK10 := HK10.out.lt
    have mHK10 := Nat.le_of_lt lHK10
    have HR8 := qHR8
    clear qHR8
    have HK11 := qHK11
    clear qHK11
    have cHK11_0 := HK11.out.cell (i := 0) rfl
    have zHK11_0 := HK11.out.frozen 0
    have cHK11_1 := HK11.out.cell (i := 1) rfl
    have zHK11_1 := HK11.out.frozen 1
    have cHK11_2 := HK11.out.cell (i := 2) rfl
    have zHK11_2 := HK11.out.frozen 2
    have cHK11_3 := HK11.out.cell (i := 3) rfl
    have zHK11_3 := HK11.out.frozen 3
    have cHK11_4 := HK11.out.cell (i := 4) rfl
    have zHK11_4 := HK11.out.frozen 4
    have cHK11_5 := HK11.out.cell (i := 5) rfl
    have zHK11_5 := HK11.out.frozen 5
    have lHK11 := HK11.out.lt
    have mHK11 := Nat.le_of_lt lHK11
    have HR9 := qHR9
    clear qHR9
    have hsW20 : w.heap.size ≤ W20.heap.size := HB.out.size
    have HK12 := Lib.hid (qHK120)
    have cHK12_0 := HK12.out.cell (i := 0) rfl
    have zHK12_0 := HK12.out.frozen 0
    have cHK12_1 := HK12.out.cell (i := 1) rfl
    have zHK12_1 := HK12.out.frozen 1
    have cHK12_2 := HK12.out.cell (i := 2) rfl
    have zHK12_2 := HK12.out.frozen 2
    have cHK12_3 := HK12.out.cell (i := 3) rfl
    have zHK12_3 := HK12.out.frozen 3
    have cHK12_4 := HK12.out.cell (i := 4) rfl
    have zHK12_4 := HK12.out.frozen 4
    have cHK12_5 := HK12.out.cell (i := 5) rfl
    have zHK12_5 := HK12.out.frozen 5
    have lHK12 := HK12.out.lt
    have mHK12 := Nat.le_of_lt lHK12
    clear qHK120
    refine (c_sameLink cap4 cr4 bkT st4 gtT cap4 cr4 bkT st4 gtT A5 A6 n5 n6 c5 c6 yt yt _ true HL5.out HL6.out (by omega) (by omega) (HR5.out) (HR6.out) (by simp)).mono ?_
    rintro _ W21 ⟨rfl, p21, hp21⟩
    have qHB := Lib.hid (below_to hp21 HB.out)
    have qHR := Lib.hid (row_to hp21 HR.out)
    have qHR1 := Lib.hid (row_to hp21 HR1.out)
    have qHK1 := Lib.hid (Blk.to hp21 HK1.out)
    have qHK2 := Lib.hid (Blk.to hp21 HK2.out)
    have qHR2 := Lib.hid (row_to hp21 HR2.out)
    have qHK3 := Lib.hid (Blk.to hp21 HK3.out)
    have qHR4 := Lib.hid (row_to hp21 HR4.out)
    have qHK5 := Lib.hid (Blk.to hp21 HK5.out)
    have qHR5 := Lib.hid (row_to hp21 HR5.out)
    have qHK6 := Lib.hid (Blk.to hp21 HK6.out)
    have qHK7 := Lib.hid (Blk.to hp21 HK7.out)
    have qHR6 := Lib.hid (row_to hp21 HR6.out)
    have qHK8 := Lib.hid (Blk.to hp21 HK8.out)
    have qHK9 := Lib.hid (Blk.to hp21 HK9.out)
    have qHR7 := Lib.hid (row_to hp21 HR7.out)
    have qHK10 := Lib.hid (Blk.to hp21 HK10.out)
    have qHR8 := Lib.hid (row_to hp21 HR8.out)
    have qHK11 := Lib.hid (Blk.to hp21 HK11.out)
    have qHR9 := Lib.hid (row_to hp21 HR9.out)
    have qHK12 := Lib.hid (Blk.to hp21 HK12.out)
    clear HB HR HR1 cHK1_0 zHK1_0 cHK1_1 zHK1_1 cHK1_2 zHK1_2 cHK1_3 zHK1_3 cHK1_4 zHK1_4 cHK1_5 zHK1_5 lHK1 mHK1 HK1 cHK2_0 zHK2_0 cHK2_1 zHK2_1 cHK2_2 zHK2_2 cHK2_3 zHK2_3 cHK2_4 zHK2_4 lHK2 mHK2 HK2 HR2 cHK3_0 zHK3_0 cHK3_1 zHK3_1 cHK3_2 zHK3_2 cHK3_3 zHK3_3 cHK3_4 zHK3_4 cHK3_5 zHK3_5 lHK3 mHK3 HK3 HR4 cHK5_0 zHK5_0 cHK5_1 zHK5_1 cHK5_2 zHK5_2 cHK5_3 zHK5_3 cHK5_4 zHK5_4 cHK5_5 zHK5_5 lHK5 mHK5 HK5 HR5 cHK6_0 zHK6_0 cHK6_1 zHK6_1 cHK6_2 zHK6_2 cHK6_3 zHK6_3 cHK6_4 zHK6_4 cHK6_5 zHK6_5 lHK6 mHK6 HK6 cHK7_0 zHK7_0 cHK7_1 zHK7_1 cHK7_2 zHK7_2 cHK7_3 zHK7_3 cHK7_4 zHK7_4 lHK7 mHK7 HK7 HR6 cHK8_0 zHK8_0 cHK8_1 zHK8_1 cHK8_2 zHK8_2 cHK8_3 zHK8_3 cHK8_4 zHK8_4 cHK8_5 zHK8_5 lHK8 mHK8 HK8 cHK9_0 zHK9_0 cHK9_1 zHK9_1 cHK9_2 zHK9_2 cHK9_3 zHK9_3 cHK9_4 zHK9_4 lHK9 mHK9 HK9 HR7 cHK10_0 zHK10_0 cHK10_1 zHK10_1 cHK10_2 zHK10_2 cHK10_3 zHK10_3 cHK10_4 zHK10_4 cHK10_5 zHK10_5 lHK10 mHK10 HK10 HR8 cHK11_0 zHK11_0 cHK11_1 zHK11_1 cHK11_2 zHK11_2 cHK11_3 zHK11_3 cHK11_4 zHK11_4 cHK11_5 zHK11_5 lHK11 mHK11 HK11 HR9 cHK12_0 zHK12_0 cHK12_1 zHK12_1 cHK12_2 zHK12_2 cHK12_3 zHK12_3 cHK12_4 zHK12_4 cHK12_5 zHK12_5 lHK12 mHK12 HK12 hp21
    have HB := qHB
    clear qHB
    have HR := qHR
    clear qHR
    have HR1 := qHR1
    clear qHR1
    have HK1 := qHK1
    clear qHK1
    have cHK1_0 := HK1.out.cell (i := 0) rfl
    have zHK1_0 := HK1.out.frozen 0
    have cHK1_1 := HK1.out.cell (i := 1) rfl
    have zHK1_1 := HK1.out.frozen 1
    have cHK1_2 := HK1.out.cell (i := 2) rfl
    have zHK1_2 := HK1.out.frozen 2
    have cHK1_3 := HK1.out.cell (i := 3) rfl
    have zHK1_3 := HK1.out.frozen 3
    have cHK1_4 := HK1.out.cell (i := 4) rfl
    have zHK1_4 := HK1.out.frozen 4
    have cHK1_5 := HK1.out.cell (i := 5) rfl
    have zHK1_5 := HK1.out.frozen 5
    have lHK1 := HK1.out.lt
    have mHK1 := Nat.le_of_lt lHK1
    have HK2 := qHK2
    clear qHK2
    have cHK2_0 := HK2.out.cell (i := 0) rfl
    have zHK2_0 := HK2.out.frozen 0
    have cHK2_1 := HK2.out.cell (i := 1) rfl
    have zHK2_1 := HK2.out.frozen 1
    have cHK2_2 := HK2.out.cell (i := 2) rfl
    have zHK2_2 := HK2.out.frozen 2
    have cHK2_3 := HK2.out.cell (i := 3) rfl
    have zHK2_3 := HK2.out.frozen 3
    have cHK2_4 := HK2.out.cell (i := 4) rfl
    have zHK2_4 := HK2.out.frozen 4
    have lHK2 := HK2.out.lt
    have mHK2 := Nat.le_of_lt lHK2
    have HR2 := qHR2
    clear qHR2
    have HK3 := qHK3
    clear qHK3
    have cHK3_0 := HK3.out.cell (i := 0) rfl
    have zHK3_0 := HK3.out.frozen 0
    have cHK3_1 := HK3.out.cell (i := 1) rfl
    have zHK3_1 := HK3.out.frozen 1
    have cHK3_2 := HK3.out.cell (i := 2) rfl
    have zHK3_2 := HK3.out.frozen 2
    have cHK3_3 := HK3.out.cell (i := 3) rfl
    have zHK3_3 := HK3.out.frozen 3
    have cHK3_4 := HK3.out.cell (i := 4) rfl
    have zHK3_4 := HK3.out.frozen 4
    have cHK3_5 := HK3.out.cell (i := 5) rfl
    have zHK3_5 := HK3.out.frozen 5
    have lHK3 := HK3.out.lt
    have mHK3 := Nat.le_of_lt lHK3
    have HR4 := qHR4
    clear qHR4
    have HK5 := qHK5
    clear qHK5
    have cHK5_0 := HK5.out.cell (i := 0) rfl
    have zHK5_0 := HK5.out.frozen 0
    have cHK5_1 := HK5.out.cell (i := 1) rfl
    have zHK5_1 := HK5.out.frozen 1
    have cHK5_2 := HK5.out.cell (i := 2) rfl
    have zHK5_2 := HK5.out.frozen 2
    have cHK5_3 := HK5.out.cell (i := 3) rfl
    have zHK5_3 := HK5.out.frozen 3
    have cHK5_4 := HK5.out.cell (i := 4) rfl
    have zHK5_4 := HK5.out.frozen 4
    have cHK5_5 := HK5.out.cell (i := 5) rfl
    have zHK5_5 := HK5.out.frozen 5
    have lHK5 := HK5.out.lt
    have mHK5 := Nat.le_of_lt lHK5
    have HR5 := qHR5
    clear qHR5
    have HK6 := qHK6
    clear qHK6
    have cHK6_0 := HK6.out.cell (i := 0) rfl
    have zHK6_0 := HK6.out.frozen 0
    have cHK6_1 := HK6.out.cell (i := 1) rfl
    have zHK6_1 := HK6.out.frozen 1
    have cHK6_2 := HK6.out.cell (i := 2) rfl
    have zHK6_2 := HK6.out.frozen 2
    have cHK6_3 := HK6.out.cell (i := 3) rfl
    have zHK6_3 := HK6.out.frozen 3
    have cHK6_4 := HK6.out.cell (i := 4) rfl
    have zHK6_4 := HK6.out.frozen 4
    have cHK6_5 := HK6.out.cell (i := 5) rfl
    have zHK6_5 := HK6.out.frozen 5
    have lHK6 := HK6.out.lt
    have mHK6 := Nat.le_of_lt lHK6
    have HK7 := qHK7
    clear qHK7
    have cHK7_0 := HK7.out.cell (i := 0) rfl
    have zHK7_0 := HK7.out.frozen 0
    have cHK7_1 := HK7.out.cell (i := 1) rfl
    have zHK7_1 := HK7.out.frozen 1
    have cHK7_2 := HK7.out.cell (i := 2) rfl
    have zHK7_2 := HK7.out.frozen 2
    have cHK7_3 := HK7.out.cell (i := 3) rfl
    have zHK7_3 := HK7.out.frozen 3
    have cHK7_4 := HK7.out.cell (i := 4) rfl
    have zHK7_4 := HK7.out.frozen 4
    have lHK7 := HK7.out.lt
    have mHK7 := Nat.le_of_lt lHK7
    have HR6 := qHR6
    clear qHR6
    have HK8 := qHK8
    clear qHK8
    have cHK8_0 := HK8.out.cell (i := 0) rfl
    have zHK8_0 := HK8.out.frozen 0
    have cHK8_1 := HK8.out.cell (i := 1) rfl
    have zHK8_1 := HK8.out.frozen 1
    have cHK8_2 := HK8.out.cell (i := 2) rfl
    have zHK8_2 := HK8.out.frozen 2
    have cHK8_3 := HK8.out.cell (i := 3) rfl
    have zHK8_3 := HK8.out.frozen 3
    have cHK8_4 := HK8.out.cell (i := 4) rfl
    have zHK8_4 := HK8.out.frozen 4
    have cHK8_5 := HK8.out.cell (i := 5) rfl
    have zHK8_5 := HK8.out.frozen 5
    have lHK8 := HK8.out.lt
    have mHK8 := Nat.le_of_lt lHK8
    have HK9 := qHK9
    clear qHK9
    have cHK9_0 := HK9.out.cell (i := 0) rfl
    have zHK9_0 := HK9.out.frozen 0
    have cHK9_1 := HK9.out.cell (i := 1) rfl
    have zHK9_1 := HK9.out.frozen 1
    have cHK9_2 := HK9.out.cell (i := 2) rfl
    have zHK9_2 := HK9.out.frozen 2
    have cHK9_3 := HK9.out.cell (i := 3) rfl
    have zHK9_3 := HK9.out.frozen 3
    have cHK9_4 := HK9.out.cell (i := 4) rfl
    have zHK9_4 := HK9.out.frozen 4
    have lHK9 := HK9.out.lt
    have mHK9 := Nat.le_of_lt lHK9
    have HR7 := qHR7
    clear qHR7
    have HK10 := qHK10
    clear qHK10
    have cHK10_0 := HK10.out.cell (i := 0) rfl
    have zHK10_0 := HK10.out.frozen 0
    have cHK10_1 := HK10.out.cell (i := 1) rfl
    have zHK10_1 := HK10.out.frozen 1
    have cHK10_2 := HK10.out.cell (i := 2) rfl
    have zHK10_2 := HK10.out.frozen 2
    have cHK10_3 := HK10.out.cell (i := 3) rfl
    have zHK10_3 := HK10.out.frozen 3
    have cHK10_4 := HK10.out.cell (i := 4) rfl
    have zHK10_4 := HK10.out.frozen 4
    have cHK10_5 := HK10.out.cell (i := 5) rfl
    have zHK10_5 := HK10.out.frozen 5
    have lHK10 := HK10.out.lt
    have mHK10 := Nat.le_of_lt lHK10
    have HR8 := qHR8
    clear qHR8
    have HK11 := qHK11
    clear qHK11
    have cHK11_0 := HK11.out.cell (i := 0) rfl
    have zHK11_0 := HK11.out.frozen 0
    have cHK11_1 := HK11.out.cell (i := 1) rfl
    have zHK11_1 := HK11.out.frozen 1
    have cHK11_2 := HK11.out.cell (i := 2) rfl
    have zHK11_2 := HK11.out.frozen 2
    have cHK11_3 := HK11.out.cell (i := 3) rfl
    have zHK11_3 := HK11.out.frozen 3
    have cHK11_4 := HK11.out.cell (i := 4) rfl
    have zHK11_4 := HK11.out.frozen 4
    have cHK11_5 := HK11.out.cell (i := 5) rfl
    have zHK11_5 := HK11.out.frozen 5
    have lHK11 := HK11.out.lt
    have mHK11 := Nat.le_of_lt lHK11
    have HR9 := qHR9
    clear qHR9
    have HK12 := qHK12
    clear qHK12
    have cHK12_0 := HK12.out.cell (i := 0) rfl
    have zHK12_0 := HK12.out.frozen 0
    have cHK12_1 := HK12.out.cell (i := 1) rfl
    have zHK12_1 := HK12.out.frozen 1
    have cHK12_2 := HK12.out.cell (i := 2) rfl
    have zHK12_2 := HK12.out.frozen 2
    have cHK12_3 := HK12.out.cell (i := 3) rfl
    have zHK12_3 := HK12.out.frozen 3
    have cHK12_4 := HK12.out.cell (i := 4) rfl
    have zHK12_4 := HK12.out.frozen 4
    have cHK12_5 := HK12.out.cell (i := 5) rfl
    have zHK12_5 := HK12.out.frozen 5
    have lHK12 := HK12.out.lt
    have mHK12 := Nat.le_of_lt lHK12
    have hsW21 : w.heap.size ≤ W21.heap.size := HB.out.size
    go_wp2_with fail
    refine (c_sameLink cap7 crB bkB st7 gt7 cap7 crB bkB st7 gt7 A8 A9 n8 n9 c8 c9 xs7 xs7 _ true HL8.out HL9.out (by omega) (by omega) (HR8.out) (HR9.out) (by simp)).mono ?_
    rintro _ W22 ⟨rfl, p22, hp22⟩
    have qHB := Lib.hid (below_to hp22 HB.out)
    have qHR := Lib.hid (row_to hp22 HR.out)
    have qHR1 := Lib.hid (row_to hp22 HR1.out)
    have qHK1 := Lib.hid (Blk.to hp22 HK1.out)
    have qHK2 := Lib.hid (Blk.to hp22 HK2.out)
    have qHR2 := Lib.hid (row_to hp22 HR2.out)
    have qHK3 := Lib.hid (Blk.to hp22 HK3.out)
    have qHR4 := Lib.hid (row_to hp22 HR4.out)
    have qHK5 := Lib.hid (Blk.to hp22 HK5.out)
    have qHR5 := Lib.hid (row_to hp22 HR5.out)
    have qHK6 := Lib.hid (Blk.to hp22 HK6.out)
    have qHK7 := Lib.hid (Blk.to hp22 HK7.out)
    have qHR6 := Lib.hid (row_to hp22 HR6.out)
    have qHK8 := Lib.hid (Blk.to hp22 HK8.out)
    have qHK9 := Lib.hid (Blk.to hp22 HK9.out)
    have qHR7 := Lib.hid (row_to hp22 HR7.out)
    have qHK10 := Lib.hid (Blk.to hp22 HK10.out)
    have qHR8 := Lib.hid (row_to hp22 HR8.out)
    have qHK11 := Lib.hid (Blk.to hp22 HK11.out)
    have qHR9 := Lib.hid (row_to hp22 HR9.out)
    have qHK12 := Lib.hid (Blk.to hp22 HK12.out)
    clear HB HR HR1 cHK1_0 zHK1_0 cHK1_1 zHK1_1 cHK1_2 zHK1_2 cHK1_3 zHK1_3 cHK1_4 zHK1_4 cHK1_5 zHK1_5 lHK1 mHK1 HK1 cHK2_0 zHK2_0 cHK2_1 zHK2_1 cHK2_2 zHK2_2 cHK2_3 zHK2_3 cHK2_4 zHK2_4 lHK2 mHK2 HK2 HR2 cHK3_0 zHK3_0 cHK3_1 zHK3_1 cHK3_2 zHK3_2 cHK3_3 zHK3_3 cHK3_4 zHK3_4 cHK3_5 zHK3_5 lHK3 mHK3 HK3 HR4 cHK5_0 zHK5_0 cHK5_1 zHK5_1 cHK5_2 zHK5_2 cHK5_3 zHK5_3 cHK5_4 zHK5_4 cHK5_5 zHK5_5 lHK5 mHK5 HK5 HR5 cHK6_0 zHK6_0 cHK6_1 zHK6_1 cHK6_2 zHK6_2 cHK6_3 zHK6_3 cHK6_4 zHK6_4 cHK6_5 zHK6_5 lHK6 mHK6 HK6 cHK7_0 zHK7_0 cHK7_1 zHK7_1 cHK7_2 zHK7_2 cHK7_3 zHK7_3 cHK7_4 zHK7_4 lHK7 mHK7 HK7 HR6 cHK8_0 zHK8_0 cHK8_1 zHK8_1 cHK8_2 zHK8_2 cHK8_3 zHK8_3 cHK8_4 zHK8_4 cHK8_5 zHK8_5 lHK8 mHK8 HK8 cHK9_0 zHK9_0 cHK9_1 zHK9_1 cHK9_2 zHK9_2 cHK9_3 zHK9_3 cHK9_4 zHK9_4 lHK9 mHK9 HK9 HR7 cHK10_0 zHK10_0 cHK10_1 zHK10_1 cHK10_2 zHK10_2 cHK10_3 zHK10_3 cHK10_4 zHK10_4 cHK10_5 zHK10_5 lHK10 mHK10 HK10 HR8 cHK11_0 zHK11_0 cHK11_1 zHK11_1 cHK11_2 zHK11_2 cHK11_3 zHK11_3 cHK11_4 zHK11_4 cHK11_5 zHK11_5 lHK11 mHK11 HK11 HR9 cHK12_0 zHK12_0 cHK12_1 zHK12_1 cHK12_2 zHK12_2 cHK12_3 zHK12_3 cHK12_4 zHK12_4 cHK12_5 zHK12_5 lHK12 mHK12 HK12 hp22
    have HB := qHB
    clear qHB
    have HR := qHR
    clear qHR
    have HR1 := qHR1
    clear qHR1
    have HK1 := qHK1
    clear qHK1
    have cHK1_0 := HK1.out.cell (i := 0) rfl
    have zHK1_0 := HK1.out.frozen 0
    have cHK1_1 := HK1.out.cell (i := 1) rfl
    have zHK1_1 := HK1.out.frozen 1
    have cHK1_2 := HK1.out.cell (i := 2) rfl
    have zHK1_2 := HK1.out.frozen 2
    have cHK1_3 := HK1.out.cell (i := 3) rfl
    have zHK1_3 := HK1.out.frozen 3
    have cHK1_4 := HK1.out.cell (i := 4) rfl
    have zHK1_4 := HK1.out.frozen 4
    have cHK1_5 := HK1.out.cell (i := 5) rfl
    have zHK1_5 := HK1.out.frozen 5
    have lHK1 := HK1.out.lt
    have mHK1 := Nat.le_of_lt lHK1
    have HK2 := qHK2
    clear qHK2
    have cHK2_0 := HK2.out.cell (i := 0) rfl
    have zHK2_0 := HK2.out.frozen 0
    have cHK2_1 := HK2.out.cell (i := 1) rfl
    have zHK2_1 := HK2.out.frozen 1
    have cHK2_2 := HK2.out.cell (i := 2) rfl
    have zHK2_2 := HK2.out.frozen 2
    have cHK2_3 := HK2.out.cell (i := 3) rfl
    have zHK2_3 := HK2.out.frozen 3
    have cHK2_4 := HK2.out.cell (i := 4) rfl
    have zHK2_4 := HK2.out.frozen 4
    have lHK2 := HK2.out.lt
    have mHK2 := Nat.le_of_lt lHK2
    have HR2 := qHR2
    clear qHR2
    have HK3 := qHK3
    clear qHK3
    have cHK3_0 := HK3.out.cell (i := 0) rfl
    have zHK3_0 := HK3.out.frozen 0
    have cHK3_1 := HK3.out.cell (i := 1) rfl
    have zHK3_1 := HK3.out.frozen 1
    have cHK3_2 := HK3.out.cell (i := 2) rfl
    have zHK3_2 := HK3.out.frozen 2
    have cHK3_3 := HK3.out.cell (i := 3) rfl
    have zHK3_3 := HK3.out.frozen 3
    have cHK3_4 := HK3.out.cell (i := 4) rfl
    have zHK3_4 := HK3.out.frozen 4
    have cHK3_5 := HK3.out.cell (i := 5) rfl
    have zHK3_5 := HK3.out.frozen 5
    have lHK3 := HK3.out.lt
    have mHK3 := Nat.le_of_lt lHK3
    have HR4 := qHR4
    clear qHR4
    have HK5 := qHK5
    clear qHK5
    have cHK5_0 := HK5.out.cell (i := 0) rfl
    have zHK5_0 := HK5.out.frozen 0
    have cHK5_1 := HK5.out.cell (i := 1) rfl
    have zHK5_1 := HK5.out.frozen 1
    have cHK5_2 := HK5.out.cell (i := 2) rfl
    have zHK5_2 := HK5.out.frozen 2
    have cHK5_3 := HK5.out.cell (i := 3) rfl
    have zHK5_3 := HK5.out.frozen 3
    have cHK5_4 := HK5.out.cell (i := 4) rfl
    have zHK5_4 := HK5.out.frozen 4
    have cHK5_5 := HK5.out.cell (i := 5) rfl
    have zHK5_5 := HK5.out.frozen 5
    have lHK5 := HK5.out.lt
    have mHK5 := Nat.le_of_lt lHK5
    have HR5 := qHR5
    clear qHR5
    have HK6 := qHK6
    clear qHK6
    have cHK6_0 := HK6.out.cell (i := 0) rfl
    have zHK6_0 := HK6.out.frozen 0
    have cHK6_1 := HK6.out.cell (i := 1) rfl
    have zHK6_1 := HK6.out.frozen 1
    have cHK6_2 := HK6.out.cell (i := 2) rfl
    have zHK6_2 := HK6.out.frozen 2
    have cHK6_3 := HK6.out.cell (i := 3) rfl
    have zHK6_3 := HK6.out.frozen 3
    have cHK6_4 := HK6.out.cell (i := 4) rfl
    have zHK6_4 := HK6.out.frozen 4
    have cHK6_5 := HK6.out.cell (i := 5) rfl
    have zHK6_5 := HK6.out.frozen 5
    have lHK6 := HK6.out.lt
    have mHK6 := Nat.le_of_lt lHK6
    have HK7 := qHK7
    clear qHK7
    have cHK7_0 := HK7.out.cell (i := 0) rfl
    have zHK7_0 := HK7.out.frozen 0
    have cHK7_1 := HK7.out.cell (i := 1) rfl
    have zHK7_1 := HK7.out.frozen 1
    have cHK7_2 := HK7.out.cell (i := 2) rfl
    have zHK7_2 := HK7.out.frozen 2
    have cHK7_3 := HK7.out.cell (i := 3) rfl
    have zHK7_3 := HK7.out.frozen 3
    have cHK7_4 := HK7.out.cell (i := 4) rfl
    have zHK7_4 := HK7.out.frozen 4
    have lHK7 := HK7.out.lt
    have mHK7 := Nat.le_of_lt lHK7
    have HR6 := qHR6
    clear qHR6
    have HK8 := qHK8
    clear qHK8
    have cHK8_0 := HK8.out.cell (i := 0) rfl
    have zHK8_0 := HK8.out.frozen 0
    have cHK8_1 := HK8.out.cell (i := 1) rfl
    have zHK8_1 := HK8.out.frozen 1
    have cHK8_2 := HK8.out.cell (i := 2) rfl
    have zHK8_2 := HK8.out.frozen 2
    have cHK8_3 := HK8.out.cell (i := 3) rfl
    have zHK8_3 := HK8.out.frozen 3
    have cHK8_4 := HK8.out.cell (i := 4) rfl
    have zHK8_4 := HK8.out.frozen 4
    have cHK8_5 := HK8.out.cell (i := 5) rfl
    have zHK8_5 := HK8.out.frozen 5
    have lHK8 := HK8.out.lt
    have mHK8 := Nat.le_of_lt lHK8
    have HK9 := qHK9
    clear qHK9
    have cHK9_0 := HK9.out.cell (i := 0) rfl
    have zHK9_0 := HK9.out.frozen 0
    have cHK9_1 := HK9.out.cell (i := 1) rfl
    have zHK9_1 := HK9.out.frozen 1
    have cHK9_2 := HK9.out.cell (i := 2) rfl
    have zHK9_2 := HK9.out.frozen 2
    have cHK9_3 := HK9.out.cell (i := 3) rfl
    have zHK9_3 := HK9.out.frozen 3
    have cHK9_4 := HK9.out.cell (i := 4) rfl
    have zHK9_4 := HK9.out.frozen 4
    have lHK9 := HK9.out.lt
    have mHK9 := Nat.le_of_lt lHK9
    have HR7 := qHR7
    clear qHR7
    have HK10 := qHK10
    clear qHK10
    have cHK10_0 := HK10.out.cell (i := 0) rfl
    have zHK10_0 := HK10.out.frozen 0
    have cHK10_1 := HK10.out.cell (i := 1) rfl
    have zHK10_1 := HK10.out.frozen 1
    have cHK10_2 := HK10.out.cell (i := 2) rfl
    have zHK10_2 := HK10.out.frozen 2
    have cHK10_3 := HK10.out.cell (i := 3) rfl
    have zHK10_3 := HK10.out.frozen 3
    have cHK10_4 := HK10.out.cell (i := 4) rfl
    have zHK10_4 := HK10.out.frozen 4
    have cHK10_5 := HK10.out.cell (i := 5) rfl
    have zHK10_5 := HK10.out.frozen 5
    have lHK10 := HK10.out.lt
    have mHK10 := Nat.le_of_lt lHK10
    have HR8 := qHR8
    clear qHR8
    have HK11 := qHK11
    clear qHK11
    have cHK11_0 := HK11.out.cell (i := 0) rfl
    have zHK11_0 := HK11.out.frozen 0
    have cHK11_1 := HK11.out.cell (i := 1) rfl
    have zHK11_1 := HK11.out.frozen 1
    have cHK11_2 := HK11.out.cell (i := 2) rfl
    have zHK11_2 := HK11.out.frozen 2
    have cHK11_3 := HK11.out.cell (i := 3) rfl
    have zHK11_3 := HK11.out.frozen 3
    have cHK11_4 := HK11.out.cell (i := 4) rfl
    have zHK11_4 := HK11.out.frozen 4
    have cHK11_5 := HK11.out.cell (i := 5) rfl
    have zHK11_5 := HK11.out.frozen 5
    have lHK11 := HK11.out.lt
    have mHK11 := Nat.le_of_lt lHK11
    have HR9 := qHR9
    clear qHR9
    have HK12 := qHK12
    clear qHK12
    have cHK12_0 := HK12.out.cell (i := 0) rfl
    have zHK12_0 := HK12.out.frozen 0
    have cHK12_1 := HK12.out.cell (i := 1) rfl
    have zHK12_1 := HK12.out.frozen 1
    have cHK12_2 := HK12.out.cell (i := 2) rfl
    have zHK12_2 := HK12.out.frozen 2
    have cHK12_3 := HK12.out.cell (i := 3) rfl
    have zHK12_3 := HK12.out.frozen 3
    have cHK12_4 := HK12.out.cell (i := 4) rfl
    have zHK12_4 := HK12.out.frozen 4
    have cHK12_5 := HK12.out.cell (i := 5) rfl
    have zHK12_5 := HK12.out.frozen 5
    have lHK12 := HK12.out.lt
    have mHK12 := Nat.le_of_lt lHK12
    have hsW22 : w.heap.size ≤ W22.heap.size := HB.out.size
    go_upto_region 16 with fail
    clear cHK7_0 zHK7_0 cHK7_1 zHK7_1 cHK7_2 zHK7_2 cHK7_3 zHK7_3 cHK7_4 zHK7_4 lHK7 mHK7
    clear HK7
    clear cHK8_0 zHK8_0 cHK8_1 zHK8_1 cHK8_2 zHK8_2 cHK8_3 zHK8_3 cHK8_4 zHK8_4 cHK8_5 zHK8_5 lHK8 mHK8
    clear HK8
    clear cHK9_0 zHK9_0 cHK9_1 zHK9_1 cHK9_2 zHK9_2 cHK9_3 zHK9_3 cHK9_4 zHK9_4 lHK9 mHK9
    clear HK9
    clear cHK12_0 zHK12_0 cHK12_1 zHK12_1 cHK12_2 zHK12_2 cHK12_3 zHK12_3 cHK12_4 zHK12_4 cHK12_5 zHK12_5 lHK12 mHK12
    clear HK12
    clear HR6
    clear HR9
    go_cut [144] (fun sa wx => sa = .bool false ∧ ∃ p : Later, wx = later W22 p)
    case first =>
      cases tk
      · cases cm
        · go_wp2_with (first | ((with_reducible refine wp_region_later (by kernel_rfl) (by kernel_rfl) ?_); (try dsimp only [List.append]); (repeat (first | go_big_quiet_skip | go_big_quiet_step ((fail)) | quiet_step ((fail)))); refine wpQuiet_nil ?_; rintro _ ⟨p, rfl⟩))
          go_meet
          exact ⟨rfl, later_of_below (by (repeat (first | with_reducible exact Below.refl _ _ | with_reducible assumption | with_reducible refine Below.drew ?_ | with_reducible refine below_drewN ?_ _ | with_reducible exact HQ.out | with_reducible exact HBW.out | with_reducible refine below_ext ?_ _ _ | with_reducible refine below_then_later ?_ (by first | with_reducible exact Nat.le_refl _ | with_reducible exact HBW.out.size | with_reducible exact HQ.out.size | omega | (simp; done) | (simp; omega) | (simp [later_size]; done) | (simp [later_size]; omega)) _ | with_reducible refine Below.setCell ?_ (by first | with_reducible exact Nat.le_refl _ | with_reducible exact HBW.out.size | with_reducible exact HQ.out.size | omega | (simp; done) | (simp; omega) | (simp [later_size]; done) | (simp [later_size]; omega)) _ | with_reducible refine Below.alloc ?_ (by first | with_reducible exact Nat.le_refl _ | with_reducible exact HBW.out.size | with_reducible exact HQ.out.size | omega | (simp; done) | (simp; omega) | (simp [later_size]; done) | (simp [later_size]; omega)) _)))⟩
        · have HCO := Lib.hid (back_facts HZ7.out)
          go_wp2_with (first | (go_at_call 11; (with_reducible refine (c_sLinkOk cap7 crB bkB st7 gt7 A8 n8 c8 xs7 _ true HL8.out (by omega) hcrB.i64 hbkB.i64 hst7.i64 hgt7.i64 (HR8.out) HCO.out).mono ?_); rintro _ _ ⟨rfl, p, rfl⟩) | ((with_reducible refine wp_region_later (by kernel_rfl) (by kernel_rfl) ?_); (try dsimp only [List.append]); (repeat (first | go_big_quiet_skip | go_big_quiet_step ((first | (go_at_call 11; first | with_reducible exact calls_later (c_sLinkOk cap7 crB bkB st7 gt7 A8 n8 c8 xs7 _ true HL8.out (by omega) hcrB.i64 hbkB.i64 hst7.i64 hgt7.i64 (HR8.out) HCO.out) | with_reducible exact calls_later2 (c_sLinkOk cap7 crB bkB st7 gt7 A8 n8 c8 xs7 _ true HL8.out (by omega) hcrB.i64 hbkB.i64 hst7.i64 hgt7.i64 (HR8.out) HCO.out)))) | quiet_step ((first | (go_at_call 11; first | with_reducible exact calls_later (c_sLinkOk cap7 crB bkB st7 gt7 A8 n8 c8 xs7 _ true HL8.out (by omega) hcrB.i64 hbkB.i64 hst7.i64 hgt7.i64 (HR8.out) HCO.out) | with_reducible exact calls_later2 (c_sLinkOk cap7 crB bkB st7 gt7 A8 n8 c8 xs7 _ true HL8.out (by omega) hcrB.i64 hbkB.i64 hst7.i64 hgt7.i64 (HR8.out) HCO.out)))))); refine wpQuiet_nil ?_; rintro _ ⟨p, rfl⟩))
          go_meet
          exact ⟨rfl, later_of_below (by (repeat (first | with_reducible exact Below.refl _ _ | with_reducible assumption | with_reducible refine Below.drew ?_ | with_reducible refine below_drewN ?_ _ | with_reducible exact HQ.out | with_reducible exact HBW.out | with_reducible refine below_ext ?_ _ _ | with_reducible refine below_then_later ?_ (by first | with_reducible exact Nat.le_refl _ | with_reducible exact HBW.out.size | with_reducible exact HQ.out.size | omega | (simp; done) | (simp; omega) | (simp [later_size]; done) | (simp [later_size]; omega)) _ | with_reducible refine Below.setCell ?_ (by first | with_reducible exact Nat.le_refl _ | with_reducible exact HBW.out.size | with_reducible exact HQ.out.size | omega | (simp; done) | (simp; omega) | (simp [later_size]; done) | (simp [later_size]; omega)) _ | with_reducible refine Below.alloc ?_ (by first | with_reducible exact Nat.le_refl _ | with_reducible exact HBW.out.size | with_reducible exact HQ.out.size | omega | (simp; done) | (simp; omega) | (simp [later_size]; done) | (simp [later_size]; omega)) _)))⟩
      · cases cm
        · have HTO := Lib.hid ((take_facts HZ4.out).1)
          have hnl : n5 + 1 = n4 := by have h := (take_facts HZ4.out).2; rw [HL5.out, HL4.out] at h; exact h
          have hwn : IntKind.i64.wrap ((n4 : Int) - 1) = (n5 : Int) := by rw [IntWalk.i64_in _ (by omega)]; omega
          go_wp2_with (first | (go_at_call 11; (with_reducible refine (c_sLinkOk cap4 cr4 bkT st4 gtT A5 n5 c5 yt _ true HL5.out (by omega) hcr4.i64 hbkT.i64 hst4.i64 hgtT.i64 (HR5.out) HTO.out).mono ?_); rintro _ _ ⟨rfl, p, rfl⟩) | ((with_reducible refine wp_region_later (by kernel_rfl) (by kernel_rfl) ?_); (try dsimp only [List.append]); (repeat (first | go_big_quiet_skip | go_big_quiet_step ((first | (go_at_call 11; first | with_reducible exact calls_later (c_sLinkOk cap4 cr4 bkT st4 gtT A5 n5 c5 yt _ true HL5.out (by omega) hcr4.i64 hbkT.i64 hst4.i64 hgtT.i64 (HR5.out) HTO.out) | with_reducible exact calls_later2 (c_sLinkOk cap4 cr4 bkT st4 gtT A5 n5 c5 yt _ true HL5.out (by omega) hcr4.i64 hbkT.i64 hst4.i64 hgtT.i64 (HR5.out) HTO.out)))) | quiet_step ((first | (go_at_call 11; first | with_reducible exact calls_later (c_sLinkOk cap4 cr4 bkT st4 gtT A5 n5 c5 yt _ true HL5.out (by omega) hcr4.i64 hbkT.i64 hst4.i64 hgtT.i64 (HR5.out) HTO.out) | with_reducible exact calls_later2 (c_sLinkOk cap4 cr4 bkT st4 gtT A5 n5 c5 yt _ true HL5.out (by omega) hcr4.i64 hbkT.i64 hst4.i64 hgtT.i64 (HR5.out) HTO.out)))))); refine wpQuiet_nil ?_; rintro _ ⟨p, rfl⟩))
          go_meet
          exact ⟨rfl, later_of_below (by (repeat (first | with_reducible exact Below.refl _ _ | with_reducible assumption | with_reducible refine Below.drew ?_ | with_reducible refine below_drewN ?_ _ | with_reducible exact HQ.out | with_reducible exact HBW.out | with_reducible refine below_ext ?_ _ _ | with_reducible refine below_then_later ?_ (by first | with_reducible exact Nat.le_refl _ | with_reducible exact HBW.out.size | with_reducible exact HQ.out.size | omega | (simp; done) | (simp; omega) | (simp [later_size]; done) | (simp [later_size]; omega)) _ | with_reducible refine Below.setCell ?_ (by first | with_reducible exact Nat.le_refl _ | with_reducible exact HBW.out.size | with_reducible exact HQ.out.size | omega | (simp; done) | (simp; omega) | (simp [later_size]; done) | (simp [later_size]; omega)) _ | with_reducible refine Below.alloc ?_ (by first | with_reducible exact Nat.le_refl _ | with_reducible exact HBW.out.size | with_reducible exact HQ.out.size | omega | (simp; done) | (simp; omega) | (simp [later_size]; done) | (simp [later_size]; omega)) _)))⟩
        · have HTO := Lib.hid ((take_facts HZ4.out).1)
          have hnl : n5 + 1 = n4 := by have h := (take_facts HZ4.out).2; rw [HL5.out, HL4.out] at h; exact h
          have hwn : IntKind.i64.wrap ((n4 : Int) - 1) = (n5 : Int) := by rw [IntWalk.i64_in _ (by omega)]; omega
          have HCO := Lib.hid (back_facts HZ7.out)
          go_wp2_with (first | (go_at_call 11; (first | (with_reducible refine (c_sLinkOk cap4 cr4 bkT st4 gtT A5 n5 c5 yt _ true HL5.out (by omega) hcr4.i64 hbkT.i64 hst4.i64 hgtT.i64 (HR5.out) HTO.out).mono ?_) | (with_reducible refine (c_sLinkOk cap7 crB bkB st7 gt7 A8 n8 c8 xs7 _ true HL8.out (by omega) hcrB.i64 hbkB.i64 hst7.i64 hgt7.i64 (HR8.out.later _) HCO.out).mono ?_)); rintro _ _ ⟨rfl, p, rfl⟩) | ((with_reducible refine wp_region_later (by kernel_rfl) (by kernel_rfl) ?_); (try dsimp only [List.append]); (repeat (first | go_big_quiet_skip | go_big_quiet_step ((first | (go_at_call 11; first | with_reducible exact calls_later (c_sLinkOk cap4 cr4 bkT st4 gtT A5 n5 c5 yt _ true HL5.out (by omega) hcr4.i64 hbkT.i64 hst4.i64 hgtT.i64 (HR5.out) HTO.out) | with_reducible exact calls_later2 (c_sLinkOk cap4 cr4 bkT st4 gtT A5 n5 c5 yt _ true HL5.out (by omega) hcr4.i64 hbkT.i64 hst4.i64 hgtT.i64 (HR5.out) HTO.out) | with_reducible exact calls_later (c_sLinkOk cap7 crB bkB st7 gt7 A8 n8 c8 xs7 _ true HL8.out (by omega) hcrB.i64 hbkB.i64 hst7.i64 hgt7.i64 (HR8.out.later _) HCO.out) | with_reducible exact calls_later2 (c_sLinkOk cap7 crB bkB st7 gt7 A8 n8 c8 xs7 _ true HL8.out (by omega) hcrB.i64 hbkB.i64 hst7.i64 hgt7.i64 (HR8.out.later _) HCO.out)))) | quiet_step ((first | (go_at_call 11; first | with_reducible exact calls_later (c_sLinkOk cap4 cr4 bkT st4 gtT A5 n5 c5 yt _ true HL5.out (by omega) hcr4.i64 hbkT.i64 hst4.i64 hgtT.i64 (HR5.out) HTO.out) | with_reducible exact calls_later2 (c_sLinkOk cap4 cr4 bkT st4 gtT A5 n5 c5 yt _ true HL5.out (by omega) hcr4.i64 hbkT.i64 hst4.i64 hgtT.i64 (HR5.out) HTO.out) | with_reducible exact calls_later (c_sLinkOk cap7 crB bkB st7 gt7 A8 n8 c8 xs7 _ true HL8.out (by omega) hcrB.i64 hbkB.i64 hst7.i64 hgt7.i64 (HR8.out.later _) HCO.out) | with_reducible exact calls_later2 (c_sLinkOk cap7 crB bkB st7 gt7 A8 n8 c8 xs7 _ true HL8.out (by omega) hcrB.i64 hbkB.i64 hst7.i64 hgt7.i64 (HR8.out.later _) HCO.out)))))); refine wpQuiet_nil ?_; rintro _ ⟨p, rfl⟩))
          go_meet
          exact ⟨rfl, later_of_below (by (repeat (first | with_reducible exact Below.refl _ _ | with_reducible assumption | with_reducible refine Below.drew ?_ | with_reducible refine below_drewN ?_ _ | with_reducible exact HQ.out | with_reducible exact HBW.out | with_reducible refine below_ext ?_ _ _ | with_reducible refine below_then_later ?_ (by first | with_reducible exact Nat.le_refl _ | with_reducible exact HBW.out.size | with_reducible exact HQ.out.size | omega | (simp; done) | (simp; omega) | (simp [later_size]; done) | (simp [later_size]; omega)) _ | with_reducible refine Below.setCell ?_ (by first | with_reducible exact Nat.le_refl _ | with_reducible exact HBW.out.size | with_reducible exact HQ.out.size | omega | (simp; done) | (simp; omega) | (simp [later_size]; done) | (simp [later_size]; omega)) _ | with_reducible refine Below.alloc ?_ (by first | with_reducible exact Nat.le_refl _ | with_reducible exact HBW.out.size | with_reducible exact HQ.out.size | omega | (simp; done) | (simp; omega) | (simp [later_size]; done) | (simp [later_size]; omega)) _)))⟩
    case rest =>
    obtain ⟨rfl, p, hp⟩ := hcut
    obtain ⟨W23, hV⟩ : ∃ V, V = wc := ⟨_, rfl⟩
    subst hV
    have qHB := Lib.hid (below_to hp HB.out)
    have qHR := Lib.hid (row_to hp HR.out)
    have qHR1 := Lib.hid (row_to hp HR1.out)
    have qHK1 := Lib.hid (Blk.to hp HK1.out)
    have qHK2 := Lib.hid (Blk.to hp HK2.out)
    have qHR2 := Lib.hid (row_to hp HR2.out)
    have qHK3 := Lib.hid (Blk.to hp HK3.out)
    have qHR4 := Lib.hid (row_to hp HR4.out)
    have qHK5 := Lib.hid (Blk.to hp HK5.out)
    have qHR5 := Lib.hid (row_to hp HR5.out)
    have qHK6 := Lib.hid (Blk.to hp HK6.out)
    have qHR7 := Lib.hid (row_to hp HR7.out)
    have qHK10 := Lib.hid (Blk.to hp HK10.out)
    have qHR8 := Lib.hid (row_to hp HR8.out)
    have qHK11 := Lib.hid (Blk.to hp HK11.out)
    clear HB HR HR1 cHK1_0 zHK1_0 cHK1_1 zHK1_1 cHK1_2 zHK1_2 cHK1_3 zHK1_3 cHK1_4 zHK1_4 cHK1_5 zHK1_5 lHK1 mHK1 HK1 cHK2_0 zHK2_0 cHK2_1 zHK2_1 cHK2_2 zHK2_2 cHK2_3 zHK2_3 cHK2_4 zHK2_4 lHK2 mHK2 HK2 HR2 cHK3_0 zHK3_0 cHK3_1 zHK3_1 cHK3_2 zHK3_2 cHK3_3 zHK3_3 cHK3_4 zHK3_4 cHK3_5 zHK3_5 lHK3 mHK3 HK3 HR4 cHK5_0 zHK5_0 cHK5_1 zHK5_1 cHK5_2 zHK5_2 cHK5_3 zHK5_3 cHK5_4 zHK5_4 cHK5_5 zHK5_5 lHK5 mHK5 HK5 HR5 cHK6_0 zHK6_0 cHK6_1 zHK6_1 cHK6_2 zHK6_2 cHK6_3 zHK6_3 cHK6_4 zHK6_4 cHK6_5 zHK6_5 lHK6 mHK6 HK6 HR7 cHK10_0 zHK10_0 cHK10_1 zHK10_1 cHK10_2 zHK10_2 cHK10_3 zHK10_3 cHK10_4 zHK10_4 cHK10_5 zHK10_5 lHK10 mHK10 HK10 HR8 cHK11_0 zHK11_0 cHK11_1 zHK11_1 cHK11_2 zHK11_2 cHK11_3 zHK11_3 cHK11_4 zHK11_4 cHK11_5 zHK11_5 lHK11 mHK11 HK11 hp
    have HB := qHB
    clear qHB
    have HR := qHR
    clear qHR
    have HR1 := qHR1
    clear qHR1
    have HK1 := qHK1
    clear qHK1
    have cHK1_0 := HK1.out.cell (i := 0) rfl
    have zHK1_0 := HK1.out.frozen 0
    have cHK1_1 := HK1.out.cell (i := 1) rfl
    have zHK1_1 := HK1.out.frozen 1
    have cHK1_2 := HK1.out.cell (i := 2) rfl
    have zHK1_2 := HK1.out.frozen 2
    have cHK1_3 := HK1.out.cell (i := 3) rfl
    have zHK1_3 := HK1.out.frozen 3
    have cHK1_4 := HK1.out.cell (i := 4) rfl
    have zHK1_4 := HK1.out.frozen 4
    have cHK1_5 := HK1.out.cell (i := 5) rfl
    have zHK1_5 := HK1.out.frozen 5
    have lHK1 := HK1.out.lt
    have mHK1 := Nat.le_of_lt lHK1
    have HK2 := qHK2
    clear qHK2
    have cHK2_0 := HK2.out.cell (i := 0) rfl
    have zHK2_0 := HK2.out.frozen 0
    have cHK2_1 := HK2.out.cell (i := 1) rfl
    have zHK2_1 := HK2.out.frozen 1
    have cHK2_2 := HK2.out.cell (i := 2) rfl
    have zHK2_2 := HK2.out.frozen 2
    have cHK2_3 := HK2.out.cell (i := 3) rfl
    have zHK2_3 := HK2.out.frozen 3
    have cHK2_4 := HK2.out.cell (i := 4) rfl
    have zHK2_4 := HK2.out.frozen 4
    have lHK2 := HK2.out.lt
    have mHK2 := Nat.le_of_lt lHK2
    have HR2 := qHR2
    clear qHR2
    have HK3 := qHK3
    clear qHK3
    have cHK3_0 := HK3.out.cell (i := 0) rfl
    have zHK3_0 := HK3.out.frozen 0
    have cHK3_1 := HK3.out.cell (i := 1) rfl
    have zHK3_1 := HK3.out.frozen 1
    have cHK3_2 := HK3.out.cell (i := 2) rfl
    have zHK3_2 := HK3.out.frozen 2
    have cHK3_3 := HK3.out.cell (i := 3) rfl
    have zHK3_3 := HK3.out.frozen 3
    have cHK3_4 := HK3.out.cell (i := 4) rfl
    have zHK3_4 := HK3.out.frozen 4
    have cHK3_5 := HK3.out.cell (i := 5) rfl
    have zHK3_5 := HK3.out.frozen 5
    have lHK3 := HK3.out.lt
    have mHK3 := Nat.le_of_lt lHK3
    have HR4 := qHR4
    clear qHR4
    have HK5 := qHK5
    clear qHK5
    have cHK5_0 := HK5.out.cell (i := 0) rfl
    have zHK5_0 := HK5.out.frozen 0
    have cHK5_1 := HK5.out.cell (i := 1) rfl
    have zHK5_1 := HK5.out.frozen 1
    have cHK5_2 := HK5.out.cell (i := 2) rfl
    have zHK5_2 := HK5.out.frozen 2
    have cHK5_3 := HK5.out.cell (i := 3) rfl
    have zHK5_3 := HK5.out.frozen 3
    have cHK5_4 := HK5.out.cell (i := 4) rfl
    have zHK5_4 := HK5.out.frozen 4
    have cHK5_5 := HK5.out.cell (i := 5) rfl
    have zHK5_5 := HK5.out.frozen 5
    have lHK5 := HK5.out.lt
    have mHK5 := Nat.le_of_lt lHK5
    have HR5 := qHR5
    clear qHR5
    have HK6 := qHK6
    clear qHK6
    have cHK6_0 := HK6.out.cell (i := 0) rfl
    have zHK6_0 := HK6.out.frozen 0
    have cHK6_1 := HK6.out.cell (i := 1) rfl
    have zHK6_1 := HK6.out.frozen 1
    have cHK6_2 := HK6.out.cell (i := 2) rfl
    have zHK6_2 := HK6.out.frozen 2
    have cHK6_3 := HK6.out.cell (i := 3) rfl
    have zHK6_3 := HK6.out.frozen 3
    have cHK6_4 := HK6.out.cell (i := 4) rfl
    have zHK6_4 := HK6.out.frozen 4
    have cHK6_5 := HK6.out.cell (i := 5) rfl
    have zHK6_5 := HK6.out.frozen 5
    have lHK6 := HK6.out.lt
    have mHK6 := Nat.le_of_lt lHK6
    have HR7 := qHR7
    clear qHR7
    have HK10 := qHK10
    clear qHK10
    have cHK10_0 := HK10.out.cell (i := 0) rfl
    have zHK10_0 := HK10.out.frozen 0
    have cHK10_1 := HK10.out.cell (i := 1) rfl
    have zHK10_1 := HK10.out.frozen 1
    have cHK10_2 := HK10.out.cell (i := 2) rfl
    have zHK10_2 := HK10.out.frozen 2
    have cHK10_3 := HK10.out.cell (i := 3) rfl
    have zHK10_3 := HK10.out.frozen 3
    have cHK10_4 := HK10.out.cell (i := 4) rfl
    have zHK10_4 := HK10.out.frozen 4
    have cHK10_5 := HK10.out.cell (i := 5) rfl
    have zHK10_5 := HK10.out.frozen 5
    have lHK10 := HK10.out.lt
    have mHK10 := Nat.le_of_lt lHK10
    have HR8 := qHR8
    clear qHR8
    have HK11 := qHK11
    clear qHK11
    have cHK11_0 := HK11.out.cell (i := 0) rfl
    have zHK11_0 := HK11.out.frozen 0
    have cHK11_1 := HK11.out.cell (i := 1) rfl
    have zHK11_1 := HK11.out.frozen 1
    have cHK11_2 := HK11.out.cell (i := 2) rfl
    have zHK11_2 := HK11.out.frozen 2
    have cHK11_3 := HK11.out.cell (i := 3) rfl
    have zHK11_3 := HK11.out.frozen 3
    have cHK11_4 := HK11.out.cell (i := 4) rfl
    have zHK11_4 := HK11.out.frozen 4
    have cHK11_5 := HK11.out.cell (i := 5) rfl
    have zHK11_5 := HK11.out.frozen 5
    have lHK11 := HK11.out.lt
    have mHK11 := Nat.le_of_lt lHK11
    have hsW23 : w.heap.size ≤ W23.heap.size := HB.out.size
    clear cHK5_0 zHK5_0 cHK5_1 zHK5_1 cHK5_2 zHK5_2 cHK5_3 zHK5_3 cHK5_4 zHK5_4 cHK5_5 zHK5_5 lHK5 mHK5
    clear HK5
    clear cHK6_0 zHK6_0 cHK6_1 zHK6_1 cHK6_2 zHK6_2 cHK6_3 zHK6_3 cHK6_4 zHK6_4 cHK6_5 zHK6_5 lHK6 mHK6
    clear HK6
    clear cHK10_0 zHK10_0 cHK10_1 zHK10_1 cHK10_2 zHK10_2 cHK10_3 zHK10_3 cHK10_4 zHK10_4 cHK10_5 zHK10_5 lHK10 mHK10
    clear HK10
    clear cHK11_0 zHK11_0 cHK11_1 zHK11_1 cHK11_2 zHK11_2 cHK11_3 zHK11_3 cHK11_4 zHK11_4 cHK11_5 zHK11_5 lHK11 mHK11
    clear HK11
    clear HR4
    clear HR5
    clear HR7
    clear HR8
    go_wp2_with fail
    refine (c_drawInFlight _ _ _ xs _ HN.out (by omega) HR.out).mono ?_
    rintro _ W24 ⟨cap11, cr11, bk11, st11, gt11, A11, n11, c11, xs11, ep, rfl, hep, hl11, hn11, hcr11, hbk11, hst11, hgt11, hR11, p, hp⟩
    have qHB := Lib.hid (below_to hp HB.out)
    have qHR := Lib.hid (row_to hp HR.out)
    have qHR1 := Lib.hid (row_to hp HR1.out)
    have qHK1 := Lib.hid (Blk.to hp HK1.out)
    have qHK2 := Lib.hid (Blk.to hp HK2.out)
    have qHR2 := Lib.hid (row_to hp HR2.out)
    have qHK3 := Lib.hid (Blk.to hp HK3.out)
    clear HB HR HR1 cHK1_0 zHK1_0 cHK1_1 zHK1_1 cHK1_2 zHK1_2 cHK1_3 zHK1_3 cHK1_4 zHK1_4 cHK1_5 zHK1_5 lHK1 mHK1 HK1 cHK2_0 zHK2_0 cHK2_1 zHK2_1 cHK2_2 zHK2_2 cHK2_3 zHK2_3 cHK2_4 zHK2_4 lHK2 mHK2 HK2 HR2 cHK3_0 zHK3_0 cHK3_1 zHK3_1 cHK3_2 zHK3_2 cHK3_3 zHK3_3 cHK3_4 zHK3_4 cHK3_5 zHK3_5 lHK3 mHK3 HK3 hp
    have HB := qHB
    clear qHB
    have HR := qHR
    clear qHR
    have HR1 := qHR1
    clear qHR1
    have HK1 := qHK1
    clear qHK1
    have cHK1_0 := HK1.out.cell (i := 0) rfl
    have zHK1_0 := HK1.out.frozen 0
    have cHK1_1 := HK1.out.cell (i := 1) rfl
    have zHK1_1 := HK1.out.frozen 1
    have cHK1_2 := HK1.out.cell (i := 2) rfl
    have zHK1_2 := HK1.out.frozen 2
    have cHK1_3 := HK1.out.cell (i := 3) rfl
    have zHK1_3 := HK1.out.frozen 3
    have cHK1_4 := HK1.out.cell (i := 4) rfl
    have zHK1_4 := HK1.out.frozen 4
    have cHK1_5 := HK1.out.cell (i := 5) rfl
    have zHK1_5 := HK1.out.frozen 5
    have lHK1 := HK1.out.lt
    have mHK1 := Nat.le_of_lt lHK1
    have HK2 := qHK2
    clear qHK2
    have cHK2_0 := HK2.out.cell (i := 0) rfl
    have zHK2_0 := HK2.out.frozen 0
    have cHK2_1 := HK2.out.cell (i := 1) rfl
    have zHK2_1 := HK2.out.frozen 1
    have cHK2_2 := HK2.out.cell (i := 2) rfl
    have zHK2_2 := HK2.out.frozen 2
    have cHK2_3 := HK2.out.cell (i := 3) rfl
    have zHK2_3 := HK2.out.frozen 3
    have cHK2_4 := HK2.out.cell (i := 4) rfl
    have zHK2_4 := HK2.out.frozen 4
    have lHK2 := HK2.out.lt
    have mHK2 := Nat.le_of_lt lHK2
    have HR2 := qHR2
    clear qHR2
    have HK3 := qHK3
    clear qHK3
    have cHK3_0 := HK3.out.cell (i := 0) rfl
    have zHK3_0 := HK3.out.frozen 0
    have cHK3_1 := HK3.out.cell (i := 1) rfl
    have zHK3_1 := HK3.out.frozen 1
    have cHK3_2 := HK3.out.cell (i := 2) rfl
    have zHK3_2 := HK3.out.frozen 2
    have cHK3_3 := HK3.out.cell (i := 3) rfl
    have zHK3_3 := HK3.out.frozen 3
    have cHK3_4 := HK3.out.cell (i := 4) rfl
    have zHK3_4 := HK3.out.frozen 4
    have cHK3_5 := HK3.out.cell (i := 5) rfl
    have zHK3_5 := HK3.out.frozen 5
    have lHK3 := HK3.out.lt
    have mHK3 := Nat.le_of_lt lHK3
    have hsW24 : w.heap.size ≤ W24.heap.size := HB.out.size
    have HR11 := Lib.hid (hR11)
    have HL11 := Lib.hid hl11
    clear hl11 hR11
    go_wp2_with fail
    refine calls_anchor (F := fun V => (∃ p : Later, V = later W24 p) ∧ Blk (W24.heap.size) [.int .i64 cap11, .slice A11 n11 c11, .int .i64 cr11, .int .i64 bk11, .int .i64 st11, .int .i64 gt11] 28 V) ⟨later_of_below (by (repeat (first | with_reducible exact Below.refl _ _ | with_reducible refine Below.drew ?_ | with_reducible refine Below.alloc ?_ (by first | exact Nat.le_refl _ | (simp; done) | (simp; omega)) _))), (by (repeat (first | exact Blk.new _ _ [.int .i64 cap11, .slice A11 n11 c11, .int .i64 cr11, .int .i64 bk11, .int .i64 st11, .int .i64 gt11] _ (by first | rfl | (simp; done)) | with_reducible refine Blk.alloc ?_ _)))⟩ (fun W25 hV => ?_)
    obtain ⟨⟨p, hp⟩, qHK130⟩ := hV
    have qHB := Lib.hid (below_to hp HB.out)
    have qHR := Lib.hid (row_to hp HR.out)
    have qHR1 := Lib.hid (row_to hp HR1.out)
    have qHK1 := Lib.hid (Blk.to hp HK1.out)
    have qHK2 := Lib.hid (Blk.to hp HK2.out)
    have qHR2 := Lib.hid (row_to hp HR2.out)
    have qHK3 := Lib.hid (Blk.to hp HK3.out)
    have qHR11 := Lib.hid (row_to hp HR11.out)
    clear HB HR HR1 cHK1_0 zHK1_0 cHK1_1 zHK1_1 cHK1_2 zHK1_2 cHK1_3 zHK1_3 cHK1_4 zHK1_4 cHK1_5 zHK1_5 lHK1 mHK1 HK1 cHK2_0 zHK2_0 cHK2_1 zHK2_1 cHK2_2 zHK2_2 cHK2_3 zHK2_3 cHK2_4 zHK2_4 lHK2 mHK2 HK2 HR2 cHK3_0 zHK3_0 cHK3_1 zHK3_1 cHK3_2 zHK3_2 cHK3_3 zHK3_3 cHK3_4 zHK3_4 cHK3_5 zHK3_5 lHK3 mHK3 HK3 HR11 hp
    have HB := qHB
    clear qHB
    have HR := qHR
    clear qHR
    have HR1 := qHR1
    clear qHR1
    have HK1 := qHK1
    clear qHK1
    have cHK1_0 := HK1.out.cell (i := 0) rfl
    have zHK1_0 := HK1.out.frozen 0
    have cHK1_1 := HK1.out.cell (i := 1) rfl
    have zHK1_1 := HK1.out.frozen 1
    have cHK1_2 := HK1.out.cell (i := 2) rfl
    have zHK1_2 := HK1.out.frozen 2
    have cHK1_3 := HK1.out.cell (i := 3) rfl
    have zHK1_3 := HK1.out.frozen 3
    have cHK1_4 := HK1.out.cell (i := 4) rfl
    have zHK1_4 := HK1.out.frozen 4
    have cHK1_5 := HK1.out.cell (i := 5) rfl
    have zHK1_5 := HK1.out.frozen 5
    have lHK1 := HK1.out.lt
    have mHK1 := Nat.le_of_lt lHK1
    have HK2 := qHK2
    clear qHK2
    have cHK2_0 := HK2.out.cell (i := 0) rfl
    have zHK2_0 := HK2.out.frozen 0
    have cHK2_1 := HK2.out.cell (i := 1) rfl
    have zHK2_1 := HK2.out.frozen 1
    have cHK2_2 := HK2.out.cell (i := 2) rfl
    have zHK2_2 := HK2.out.frozen 2
    have cHK2_3 := HK2.out.cell (i := 3) rfl
    have zHK2_3 := HK2.out.frozen 3
    have cHK2_4 := HK2.out.cell (i := 4) rfl
    have zHK2_4 := HK2.out.frozen 4
    have lHK2 := HK2.out.lt
    have mHK2 := Nat.le_of_lt lHK2
    have HR2 := qHR2
    clear qHR2
    have HK3 := qHK3
    clear qHK3
    have cHK3_0 := HK3.out.cell (i := 0) rfl
    have zHK3_0 := HK3.out.frozen 0
    have cHK3_1 := HK3.out.cell (i := 1) rfl
    have zHK3_1 := HK3.out.frozen 1
    have cHK3_2 := HK3.out.cell (i := 2) rfl
    have zHK3_2 := HK3.out.frozen 2
    have cHK3_3 := HK3.out.cell (i := 3) rfl
    have zHK3_3 := HK3.out.frozen 3
    have cHK3_4 := HK3.out.cell (i := 4) rfl
    have zHK3_4 := HK3.out.frozen 4
    have cHK3_5 := HK3.out.cell (i := 5) rfl
    have zHK3_5 := HK3.out.frozen 5
    have lHK3 := HK3.out.lt
    have mHK3 := Nat.le_of_lt lHK3
    have HR11 := qHR11
    clear qHR11
    have hsW25 : w.heap.size ≤ W25.heap.size := HB.out.size
    have HK13 := Lib.hid (qHK130)
    have cHK13_0 := HK13.out.cell (i := 0) rfl
    have zHK13_0 := HK13.out.frozen 0
    have cHK13_1 := HK13.out.cell (i := 1) rfl
    have zHK13_1 := HK13.out.frozen 1
    have cHK13_2 := HK13.out.cell (i := 2) rfl
    have zHK13_2 := HK13.out.frozen 2
    have cHK13_3 := HK13.out.cell (i := 3) rfl
    have zHK13_3 := HK13.out.frozen 3
    have cHK13_4 := HK13.out.cell (i := 4) rfl
    have zHK13_4 := HK13.out.frozen 4
    have cHK13_5 := HK13.out.cell (i := 5) rfl
    have zHK13_5 := HK13.out.frozen 5
    have lHK13 := HK13.out.lt
    have mHK13 := Nat.le_of_lt lHK13
    clear qHK130
    refine (c_drawSameLink _ _ _ xs _ HN.out (by omega) HR.out).mono ?_
    rintro _ W26 ⟨cap12, cr12, bk12, st12, gt12, A12, n12, c12, xs12, cap13, cr13, bk13, st13, gt13, A13, n13, c13, xs13, rfl, hl12, hl13, hn12, hn13, hR12, hR13, p, hp⟩
    have qHB := Lib.hid (below_to hp HB.out)
    have qHR := Lib.hid (row_to hp HR.out)
    have qHR1 := Lib.hid (row_to hp HR1.out)
    have qHK1 := Lib.hid (Blk.to hp HK1.out)
    have qHK2 := Lib.hid (Blk.to hp HK2.out)
    have qHR2 := Lib.hid (row_to hp HR2.out)
    have qHK3 := Lib.hid (Blk.to hp HK3.out)
    have qHR11 := Lib.hid (row_to hp HR11.out)
    have qHK13 := Lib.hid (Blk.to hp HK13.out)
    clear HB HR HR1 cHK1_0 zHK1_0 cHK1_1 zHK1_1 cHK1_2 zHK1_2 cHK1_3 zHK1_3 cHK1_4 zHK1_4 cHK1_5 zHK1_5 lHK1 mHK1 HK1 cHK2_0 zHK2_0 cHK2_1 zHK2_1 cHK2_2 zHK2_2 cHK2_3 zHK2_3 cHK2_4 zHK2_4 lHK2 mHK2 HK2 HR2 cHK3_0 zHK3_0 cHK3_1 zHK3_1 cHK3_2 zHK3_2 cHK3_3 zHK3_3 cHK3_4 zHK3_4 cHK3_5 zHK3_5 lHK3 mHK3 HK3 HR11 cHK13_0 zHK13_0 cHK13_1 zHK13_1 cHK13_2 zHK13_2 cHK13_3 zHK13_3 cHK13_4 zHK13_4 cHK13_5 zHK13_5 lHK13 mHK13 HK13 hp
    have HB := qHB
    clear qHB
    have HR := qHR
    clear qHR
    have HR1 := qHR1
    clear qHR1
    have HK1 := qHK1
    clear qHK1
    have cHK1_0 := HK1.out.cell (i := 0) rfl
    have zHK1_0 := HK1.out.frozen 0
    have cHK1_1 := HK1.out.cell (i := 1) rfl
    have zHK1_1 := HK1.out.frozen 1
    have cHK1_2 := HK1.out.cell (i := 2) rfl
    have zHK1_2 := HK1.out.frozen 2
    have cHK1_3 := HK1.out.cell (i := 3) rfl
    have zHK1_3 := HK1.out.frozen 3
    have cHK1_4 := HK1.out.cell (i := 4) rfl
    have zHK1_4 := HK1.out.frozen 4
    have cHK1_5 := HK1.out.cell (i := 5) rfl
    have zHK1_5 := HK1.out.frozen 5
    have lHK1 := HK1.out.lt
    have mHK1 := Nat.le_of_lt lHK1
    have HK2 := qHK2
    clear qHK2
    have cHK2_0 := HK2.out.cell (i := 0) rfl
    have zHK2_0 := HK2.out.frozen 0
    have cHK2_1 := HK2.out.cell (i := 1) rfl
    have zHK2_1 := HK2.out.frozen 1
    have cHK2_2 := HK2.out.cell (i := 2) rfl
    have zHK2_2 := HK2.out.frozen 2
    have cHK2_3 := HK2.out.cell (i := 3) rfl
    have zHK2_3 := HK2.out.frozen 3
    have cHK2_4 := HK2.out.cell (i := 4) rfl
    have zHK2_4 := HK2.out.frozen 4
    have lHK2 := HK2.out.lt
    have mHK2 := Nat.le_of_lt lHK2
    have HR2 := qHR2
    clear qHR2
    have HK3 := qHK3
    clear qHK3
    have cHK3_0 := HK3.out.cell (i := 0) rfl
    have zHK3_0 := HK3.out.frozen 0
    have cHK3_1 := HK3.out.cell (i := 1) rfl
    have zHK3_1 := HK3.out.frozen 1
    have cHK3_2 := HK3.out.cell (i := 2) rfl
    have zHK3_2 := HK3.out.frozen 2
    have cHK3_3 := HK3.out.cell (i := 3) rfl
    have zHK3_3 := HK3.out.frozen 3
    have cHK3_4 := HK3.out.cell (i := 4) rfl
    have zHK3_4 := HK3.out.frozen 4
    have cHK3_5 := HK3.out.cell (i := 5) rfl
    have zHK3_5 := HK3.out.frozen 5
    have lHK3 := HK3.out.lt
    have mHK3 := Nat.le_of_lt lHK3
    have HR11 := qHR11
    clear qHR11
    have HK13 := qHK13
    clear qHK13
    have cHK13_0 := HK13.out.cell (i := 0) rfl
    have zHK13_0 := HK13.out.frozen 0
    have cHK13_1 := HK13.out.cell (i := 1) rfl
    have zHK13_1 := HK13.out.frozen 1
    have cHK13_2 := HK13.out.cell (i := 2) rfl
    have zHK13_2 := HK13.out.frozen 2
    have cHK13_3 := HK13.out.cell (i := 3) rfl
    have zHK13_3 := HK13.out.frozen 3
    have cHK13_4 := HK13.out.cell (i := 4) rfl
    have zHK13_4 := HK13.out.frozen 4
    have cHK13_5 := HK13.out.cell (i := 5) rfl
    have zHK13_5 := HK13.out.frozen 5
    have lHK13 := HK13.out.lt
    have mHK13 := Nat.le_of_lt lHK13
    have hsW26 : w.heap.size ≤ W26.heap.size := HB.out.size
    have HR12 := Lib.hid (hR12)
    have HL12 := Lib.hid hl12
    clear hl12 hR12
    have HR13 := Lib.hid (hR13)
    have HL13 := Lib.hid hl13
    clear hl13 hR13
    clear HR
    go_wp2_with fail
    refine calls_anchor (F := fun V => (∃ p : Later, V = later W26 p) ∧ Blk (W26.heap.size) [.int .i64 cap12, .slice A12 n12 c12, .int .i64 cr12, .int .i64 bk12, .int .i64 st12, .int .i64 gt12] 28 V ∧ Blk (W26.heap.size + 1) [.int .i64 cap13, .slice A13 n13 c13, .int .i64 cr13, .int .i64 bk13, .int .i64 st13, .int .i64 gt13] 28 V) ⟨later_of_below (by (repeat (first | with_reducible exact Below.refl _ _ | with_reducible refine Below.drew ?_ | with_reducible refine Below.alloc ?_ (by first | exact Nat.le_refl _ | (simp; done) | (simp; omega)) _))), (by (repeat (first | exact Blk.new _ _ [.int .i64 cap12, .slice A12 n12 c12, .int .i64 cr12, .int .i64 bk12, .int .i64 st12, .int .i64 gt12] _ (by first | rfl | (simp; done)) | with_reducible refine Blk.alloc ?_ _))), (by (repeat (first | exact Blk.new _ _ [.int .i64 cap13, .slice A13 n13 c13, .int .i64 cr13, .int .i64 bk13, .int .i64 st13, .int .i64 gt13] _ (by first | rfl | (simp; done)) | with_reducible refine Blk.alloc ?_ _)))⟩ (fun W27 hV => ?_)
    obtain ⟨⟨p, hp⟩, qHK140, qHK150⟩ := hV
    have qHB := Lib.hid (below_to hp HB.out)
    have qHR1 := Lib.hid (row_to hp HR1.out)
    have qHK1 := Lib.hid (Blk.to hp HK1.out)
    have qHK2 := Lib.hid (Blk.to hp HK2.out)
    have qHR2 := Lib.hid (row_to hp HR2.out)
    have qHK3 := Lib.hid (Blk.to hp HK3.out)
    have qHR11 := Lib.hid (row_to hp HR11.out)
    have qHK13 := Lib.hid (Blk.to hp HK13.out)
    have qHR12 := Lib.hid (row_to hp HR12.out)
    have qHR13 := Lib.hid (row_to hp HR13.out)
    clear HB HR1 cHK1_0 zHK1_0 cHK1_1 zHK1_1 cHK1_2 zHK1_2 cHK1_3 zHK1_3 cHK1_4 zHK1_4 cHK1_5 zHK1_5 lHK1 mHK1 HK1 cHK2_0 zHK2_0 cHK2_1 zHK2_1 cHK2_2 zHK2_2 cHK2_3 zHK2_3 cHK2_4 zHK2_4 lHK2 mHK2 HK2 HR2 cHK3_0 zHK3_0 cHK3_1 zHK3_1 cHK3_2 zHK3_2 cHK3_3 zHK3_3 cHK3_4 zHK3_4 cHK3_5 zHK3_5 lHK3 mHK3 HK3 HR11 cHK13_0 zHK13_0 cHK13_1 zHK13_1 cHK13_2 zHK13_2 cHK13_3 zHK13_3 cHK13_4 zHK13_4 cHK13_5 zHK13_5 lHK13 mHK13 HK13 HR12 HR13 hp
    have HB := qHB
    clear qHB
    have HR1 := qHR1
    clear qHR1
    have HK1 := qHK1
    clear qHK1
    have cHK1_0 := HK1.out.cell (i := 0) rfl
    have zHK1_0 := HK1.out.frozen 0
    have cHK1_1 := HK1.out.cell (i := 1) rfl
    have zHK1_1 := HK1.out.frozen 1
    have cHK1_2 := HK1.out.cell (i := 2) rfl
    have zHK1_2 := HK1.out.frozen 2
    have cHK1_3 := HK1.out.cell (i := 3) rfl
    have zHK1_3 := HK1.out.frozen 3
    have cHK1_4 := HK1.out.cell (i := 4) rfl
    have zHK1_4 := HK1.out.frozen 4
    have cHK1_5 := HK1.out.cell (i := 5) rfl
    have zHK1_5 := HK1.out.frozen 5
    have lHK1 := HK1.out.lt
    have mHK1 := Nat.le_of_lt lHK1
    have HK2 := qHK2
    clear qHK2
    have cHK2_0 := HK2.out.cell (i := 0) rfl
    have zHK2_0 := HK2.out.frozen 0
    have cHK2_1 := HK2.out.cell (i := 1) rfl
    have zHK2_1 := HK2.out.frozen 1
    have cHK2_2 := HK2.out.cell (i := 2) rfl
    have zHK2_2 := HK2.out.frozen 2
    have cHK2_3 := HK2.out.cell (i := 3) rfl
    have zHK2_3 := HK2.out.frozen 3
    have cHK2_4 := HK2.out.cell (i := 4) rfl
    have zHK2_4 := HK2.out.frozen 4
    have lHK2 := HK2.out.lt
    have mHK2 := Nat.le_of_lt lHK2
    have HR2 := qHR2
    clear qHR2
    have HK3 := qHK3
    clear qHK3
    have cHK3_0 := HK3.out.cell (i := 0) rfl
    have zHK3_0 := HK3.out.frozen 0
    have cHK3_1 := HK3.out.cell (i := 1) rfl
    have zHK3_1 := HK3.out.frozen 1
    have cHK3_2 := HK3.out.cell (i := 2) rfl
    have zHK3_2 := HK3.out.frozen 2
    have cHK3_3 := HK3.out.cell (i := 3) rfl
    have zHK3_3 := HK3.out.frozen 3
    have cHK3_4 := HK3.out.cell (i := 4) rfl
    have zHK3_4 := HK3.out.frozen 4
    have cHK3_5 := HK3.out.cell (i := 5) rfl
    have zHK3_5 := HK3.out.frozen 5
    have lHK3 := HK3.out.lt
    have mHK3 := Nat.le_of_lt lHK3
    have HR11 := qHR11
    clear qHR11
    have HK13 := qHK13
    clear qHK13
    have cHK13_0 := HK13.out.cell (i := 0) rfl
    have zHK13_0 := HK13.out.frozen 0
    have cHK13_1 := HK13.out.cell (i := 1) rfl
    have zHK13_1 := HK13.out.frozen 1
    have cHK13_2 := HK13.out.cell (i := 2) rfl
    have zHK13_2 := HK13.out.frozen 2
    have cHK13_3 := HK13.out.cell (i := 3) rfl
    have zHK13_3 := HK13.out.frozen 3
    have cHK13_4 := HK13.out.cell (i := 4) rfl
    have zHK13_4 := HK13.out.frozen 4
    have cHK13_5 := HK13.out.cell (i := 5) rfl
    have zHK13_5 := HK13.out.frozen 5
    have lHK13 := HK13.out.lt
    have mHK13 := Nat.le_of_lt lHK13
    have HR12 := qHR12
    clear qHR12
    have HR13 := qHR13
    clear qHR13
    have hsW27 : w.heap.size ≤ W27.heap.size := HB.out.size
    have HK14 := Lib.hid (qHK140)
    have cHK14_0 := HK14.out.cell (i := 0) rfl
    have zHK14_0 := HK14.out.frozen 0
    have cHK14_1 := HK14.out.cell (i := 1) rfl
    have zHK14_1 := HK14.out.frozen 1
    have cHK14_2 := HK14.out.cell (i := 2) rfl
    have zHK14_2 := HK14.out.frozen 2
    have cHK14_3 := HK14.out.cell (i := 3) rfl
    have zHK14_3 := HK14.out.frozen 3
    have cHK14_4 := HK14.out.cell (i := 4) rfl
    have zHK14_4 := HK14.out.frozen 4
    have cHK14_5 := HK14.out.cell (i := 5) rfl
    have zHK14_5 := HK14.out.frozen 5
    have lHK14 := HK14.out.lt
    have mHK14 := Nat.le_of_lt lHK14
    clear qHK140
    have HK15 := Lib.hid (qHK150)
    have cHK15_0 := HK15.out.cell (i := 0) rfl
    have zHK15_0 := HK15.out.frozen 0
    have cHK15_1 := HK15.out.cell (i := 1) rfl
    have zHK15_1 := HK15.out.frozen 1
    have cHK15_2 := HK15.out.cell (i := 2) rfl
    have zHK15_2 := HK15.out.frozen 2
    have cHK15_3 := HK15.out.cell (i := 3) rfl
    have zHK15_3 := HK15.out.frozen 3
    have cHK15_4 := HK15.out.cell (i := 4) rfl
    have zHK15_4 := HK15.out.frozen 4
    have cHK15_5 := HK15.out.cell (i := 5) rfl
    have zHK15_5 := HK15.out.frozen 5
    have lHK15 := HK15.out.lt
    have mHK15 := Nat.le_of_lt lHK15
    clear qHK150
    refine (o_new 2 _ (by omega) (by omega)).mono ?_
    rintro _ W28 ⟨rfl, p28, hp28⟩
    have qHB := Lib.hid (below_to hp28 HB.out)
    have qHR1 := Lib.hid (row_to hp28 HR1.out)
    have qHK1 := Lib.hid (Blk.to hp28 HK1.out)
    have qHK2 := Lib.hid (Blk.to hp28 HK2.out)
    have qHR2 := Lib.hid (row_to hp28 HR2.out)
    have qHK3 := Lib.hid (Blk.to hp28 HK3.out)
    have qHR11 := Lib.hid (row_to hp28 HR11.out)
    have qHK13 := Lib.hid (Blk.to hp28 HK13.out)
    have qHR12 := Lib.hid (row_to hp28 HR12.out)
    have qHR13 := Lib.hid (row_to hp28 HR13.out)
    have qHK14 := Lib.hid (Blk.to hp28 HK14.out)
    have qHK15 := Lib.hid (Blk.to hp28 HK15.out)
    clear HB HR1 cHK1_0 zHK1_0 cHK1_1 zHK1_1 cHK1_2 zHK1_2 cHK1_3 zHK1_3 cHK1_4 zHK1_4 cHK1_5 zHK1_5 lHK1 mHK1 HK1 cHK2_0 zHK2_0 cHK2_1 zHK2_1 cHK2_2 zHK2_2 cHK2_3 zHK2_3 cHK2_4 zHK2_4 lHK2 mHK2 HK2 HR2 cHK3_0 zHK3_0 cHK3_1 zHK3_1 cHK3_2 zHK3_2 cHK3_3 zHK3_3 cHK3_4 zHK3_4 cHK3_5 zHK3_5 lHK3 mHK3 HK3 HR11 cHK13_0 zHK13_0 cHK13_1 zHK13_1 cHK13_2 zHK13_2 cHK13_3 zHK13_3 cHK13_4 zHK13_4 cHK13_5 zHK13_5 lHK13 mHK13 HK13 HR12 HR13 cHK14_0 zHK14_0 cHK14_1 zHK14_1 cHK14_2 zHK14_2 cHK14_3 zHK14_3 cHK14_4 zHK14_4 cHK14_5 zHK14_5 lHK14 mHK14 HK14 cHK15_0 zHK15_0 cHK15_1 zHK15_1 cHK15_2 zHK15_2 cHK15_3 zHK15_3 cHK15_4 zHK15_4 cHK15_5 zHK15_5 lHK15 mHK15 HK15 hp28
    have HB := qHB
    clear qHB
    have HR1 := qHR1
    clear qHR1
    have HK1 := qHK1
    clear qHK1
    have cHK1_0 := HK1.out.cell (i := 0) rfl
    have zHK1_0 := HK1.out.frozen 0
    have cHK1_1 := HK1.out.cell (i := 1) rfl
    have zHK1_1 := HK1.out.frozen 1
    have cHK1_2 := HK1.out.cell (i := 2) rfl
    have zHK1_2 := HK1.out.frozen 2
    have cHK1_3 := HK1.out.cell (i := 3) rfl
    have zHK1_3 := HK1.out.frozen 3
    have cHK1_4 := HK1.out.cell (i := 4) rfl
    have zHK1_4 := HK1.out.frozen 4
    have cHK1_5 := HK1.out.cell (i := 5) rfl
    have zHK1_5 := HK1.out.frozen 5
    have lHK1 := HK1.out.lt
    have mHK1 := Nat.le_of_lt lHK1
    have HK2 := qHK2
    clear qHK2
    have cHK2_0 := HK2.out.cell (i := 0) rfl
    have zHK2_0 := HK2.out.frozen 0
    have cHK2_1 := HK2.out.cell (i := 1) rfl
    have zHK2_1 := HK2.out.frozen 1
    have cHK2_2 := HK2.out.cell (i := 2) rfl
    have zHK2_2 := HK2.out.frozen 2
    have cHK2_3 := HK2.out.cell (i := 3) rfl
    have zHK2_3 := HK2.out.frozen 3
    have cHK2_4 := HK2.out.cell (i := 4) rfl
    have zHK2_4 := HK2.out.frozen 4
    have lHK2 := HK2.out.lt
    have mHK2 := Nat.le_of_lt lHK2
    have HR2 := qHR2
    clear qHR2
    have HK3 := qHK3
    clear qHK3
    have cHK3_0 := HK3.out.cell (i := 0) rfl
    have zHK3_0 := HK3.out.frozen 0
    have cHK3_1 := HK3.out.cell (i := 1) rfl
    have zHK3_1 := HK3.out.frozen 1
    have cHK3_2 := HK3.out.cell (i := 2) rfl
    have zHK3_2 := HK3.out.frozen 2
    have cHK3_3 := HK3.out.cell (i := 3) rfl
    have zHK3_3 := HK3.out.frozen 3
    have cHK3_4 := HK3.out.cell (i := 4) rfl
    have zHK3_4 := HK3.out.frozen 4
    have cHK3_5 := HK3.out.cell (i := 5) rfl
    have zHK3_5 := HK3.out.frozen 5
    have lHK3 := HK3.out.lt
    have mHK3 := Nat.le_of_lt lHK3
    have HR11 := qHR11
    clear qHR11
    have HK13 := qHK13
    clear qHK13
    have cHK13_0 := HK13.out.cell (i := 0) rfl
    have zHK13_0 := HK13.out.frozen 0
    have cHK13_1 := HK13.out.cell (i := 1) rfl
    have zHK13_1 := HK13.out.frozen 1
    have cHK13_2 := HK13.out.cell (i := 2) rfl
    have zHK13_2 := HK13.out.frozen 2
    have cHK13_3 := HK13.out.cell (i := 3) rfl
    have zHK13_3 := HK13.out.frozen 3
    have cHK13_4 := HK13.out.cell (i := 4) rfl
    have zHK13_4 := HK13.out.frozen 4
    have cHK13_5 := HK13.out.cell (i := 5) rfl
    have zHK13_5 := HK13.out.frozen 5
    have lHK13 := HK13.out.lt
    have mHK13 := Nat.le_of_lt lHK13
    have HR12 := qHR12
    clear qHR12
    have HR13 := qHR13
    clear qHR13
    have HK14 := qHK14
    clear qHK14
    have cHK14_0 := HK14.out.cell (i := 0) rfl
    have zHK14_0 := HK14.out.frozen 0
    have cHK14_1 := HK14.out.cell (i := 1) rfl
    have zHK14_1 := HK14.out.frozen 1
    have cHK14_2 := HK14.out.cell (i := 2) rfl
    have zHK14_2 := HK14.out.frozen 2
    have cHK14_3 := HK14.out.cell (i := 3) rfl
    have zHK14_3 := HK14.out.frozen 3
    have cHK14_4 := HK14.out.cell (i := 4) rfl
    have zHK14_4 := HK14.out.frozen 4
    have cHK14_5 := HK14.out.cell (i := 5) rfl
    have zHK14_5 := HK14.out.frozen 5
    have lHK14 := HK14.out.lt
    have mHK14 := Nat.le_of_lt lHK14
    have HK15 := qHK15
    clear qHK15
    have cHK15_0 := HK15.out.cell (i := 0) rfl
    have zHK15_0 := HK15.out.frozen 0
    have cHK15_1 := HK15.out.cell (i := 1) rfl
    have zHK15_1 := HK15.out.frozen 1
    have cHK15_2 := HK15.out.cell (i := 2) rfl
    have zHK15_2 := HK15.out.frozen 2
    have cHK15_3 := HK15.out.cell (i := 3) rfl
    have zHK15_3 := HK15.out.frozen 3
    have cHK15_4 := HK15.out.cell (i := 4) rfl
    have zHK15_4 := HK15.out.frozen 4
    have cHK15_5 := HK15.out.cell (i := 5) rfl
    have zHK15_5 := HK15.out.frozen 5
    have lHK15 := HK15.out.lt
    have mHK15 := Nat.le_of_lt lHK15
    have hsW28 : w.heap.size ≤ W28.heap.size := HB.out.size
    go_wp2_with fail
    refine calls_anchor (F := fun V => (∃ p : Later, V = later W28 p) ∧ Blk (W28.heap.size) [.int .i64 2, .slice Option.none 0 0, .int .i64 2, .int .i64 0, .int .i64 0, .int .i64 0] 28 V) ⟨later_of_below (by (repeat (first | with_reducible exact Below.refl _ _ | with_reducible refine Below.drew ?_ | with_reducible refine Below.alloc ?_ (by first | exact Nat.le_refl _ | (simp; done) | (simp; omega)) _))), (by (repeat (first | exact Blk.new _ _ [.int .i64 2, .slice Option.none 0 0, .int .i64 2, .int .i64 0, .int .i64 0, .int .i64 0] _ (by first | rfl | (simp; done)) | with_reducible refine Blk.alloc ?_ _)))⟩ (fun W29 hV => ?_)
    obtain ⟨⟨p, hp⟩, qHK160⟩ := hV
    have qHB := Lib.hid (below_to hp HB.out)
    have qHR1 := Lib.hid (row_to hp HR1.out)
    have qHK1 := Lib.hid (Blk.to hp HK1.out)
    have qHK2 := Lib.hid (Blk.to hp HK2.out)
    have qHR2 := Lib.hid (row_to hp HR2.out)
    have qHK3 := Lib.hid (Blk.to hp HK3.out)
    have qHR11 := Lib.hid (row_to hp HR11.out)
    have qHK13 := Lib.hid (Blk.to hp HK13.out)
    have qHR12 := Lib.hid (row_to hp HR12.out)
    have qHR13 := Lib.hid (row_to hp HR13.out)
    have qHK14 := Lib.hid (Blk.to hp HK14.out)
    have qHK15 := Lib.hid (Blk.to hp HK15.out)
    clear HB HR1 cHK1_0 zHK1_0 cHK1_1 zHK1_1 cHK1_2 zHK1_2 cHK1_3 zHK1_3 cHK1_4 zHK1_4 cHK1_5 zHK1_5 lHK1 mHK1 HK1 cHK2_0 zHK2_0 cHK2_1 zHK2_1 cHK2_2 zHK2_2 cHK2_3 zHK2_3 cHK2_4 zHK2_4 lHK2 mHK2 HK2 HR2 cHK3_0 zHK3_0 cHK3_1 zHK3_1 cHK3_2 zHK3_2 cHK3_3 zHK3_3 cHK3_4 zHK3_4 cHK3_5 zHK3_5 lHK3 mHK3 HK3 HR11 cHK13_0 zHK13_0 cHK13_1 zHK13_1 cHK13_2 zHK13_2 cHK13_3 zHK13_3 cHK13_4 zHK13_4 cHK13_5 zHK13_5 lHK13 mHK13 HK13 HR12 HR13 cHK14_0 zHK14_0 cHK14_1 zHK14_1 cHK14_2 zHK14_2 cHK14_3 zHK14_3 cHK14_4 zHK14_4 cHK14_5 zHK14_5 lHK14 mHK14 HK14 cHK15_0 zHK15_0 cHK15_1 zHK15_1 cHK15_2 zHK15_2 cHK15_3 zHK15_3 cHK15_4 zHK15_4 cHK15_5 zHK15_5 lHK15 mHK15 HK15 hp
    have HB := qHB
    clear qHB
    have HR1 := qHR1
    clear qHR1
    have HK1 := qHK1
    clear qHK1
    have cHK1_0 := HK1.out.cell (i := 0) rfl
    have zHK1_0 := HK1.out.frozen 0
    have cHK1_1 := HK1.out.cell (i := 1) rfl
    have zHK1_1 := HK1.out.frozen 1
    have cHK1_2 := HK1.out.cell (i := 2) rfl
    have zHK1_2 := HK1.out.frozen 2
    have cHK1_3 := HK1.out.cell (i := 3) rfl
    have zHK1_3 := HK1.out.frozen 3
    have cHK1_4 := HK1.out.cell (i := 4) rfl
    have zHK1_4 := HK1.out.frozen 4
    have cHK1_5 := HK1.out.cell (i := 5) rfl
    have zHK1_5 := HK1.out.frozen 5
    have lHK1 := HK1.out.lt
    have mHK1 := Nat.le_of_lt lHK1
    have HK2 := qHK2
    clear qHK2
    have cHK2_0 := HK2.out.cell (i := 0) rfl
    have zHK2_0 := HK2.out.frozen 0
    have cHK2_1 := HK2.out.cell (i := 1) rfl
    have zHK2_1 := HK2.out.frozen 1
    have cHK2_2 := HK2.out.cell (i := 2) rfl
    have zHK2_2 := HK2.out.frozen 2
    have cHK2_3 := HK2.out.cell (i := 3) rfl
    have zHK2_3 := HK2.out.frozen 3
    have cHK2_4 := HK2.out.cell (i := 4) rfl
    have zHK2_4 := HK2.out.frozen 4
    have lHK2 := HK2.out.lt
    have mHK2 := Nat.le_of_lt lHK2
    have HR2 := qHR2
    clear qHR2
    have HK3 := qHK3
    clear qHK3
    have cHK3_0 := HK3.out.cell (i := 0) rfl
    have zHK3_0 := HK3.out.frozen 0
    have cHK3_1 := HK3.out.cell (i := 1) rfl
    have zHK3_1 := HK3.out.frozen 1
    have cHK3_2 := HK3.out.cell (i := 2) rfl
    have zHK3_2 := HK3.out.frozen 2
    have cHK3_3 := HK3.out.cell (i := 3) rfl
    have zHK3_3 := HK3.out.frozen 3
    have cHK3_4 := HK3.out.cell (i := 4) rfl
    have zHK3_4 := HK3.out.frozen 4
    have cHK3_5 := HK3.out.cell (i := 5) rfl
    have zHK3_5 := HK3.out.frozen 5
    have lHK3 := HK3.out.lt
    have mHK3 := Nat.le_of_lt lHK3
    have HR11 := qHR11
    clear qHR11
    have HK13 := qHK13
    clear qHK13
    have cHK13_0 := HK13.out.cell (i := 0) rfl
    have zHK13_0 := HK13.out.frozen 0
    have cHK13_1 := HK13.out.cell (i := 1) rfl
    have zHK13_1 := HK13.out.frozen 1
    have cHK13_2 := HK13.out.cell (i := 2) rfl
    have zHK13_2 := HK13.out.frozen 2
    have cHK13_3 := HK13.out.cell (i := 3) rfl
    have zHK13_3 := HK13.out.frozen 3
    have cHK13_4 := HK13.out.cell (i := 4) rfl
    have zHK13_4 := HK13.out.frozen 4
    have cHK13_5 := HK13.out.cell (i := 5) rfl
    have zHK13_5 := HK13.out.frozen 5
    have lHK13 := HK13.out.lt
    have mHK13 := Nat.le_of_lt lHK13
    have HR12 := qHR12
    clear qHR12
    have HR13 := qHR13
    clear qHR13
    have HK14 := qHK14
    clear qHK14
    have cHK14_0 := HK14.out.cell (i := 0) rfl
    have zHK14_0 := HK14.out.frozen 0
    have cHK14_1 := HK14.out.cell (i := 1) rfl
    have zHK14_1 := HK14.out.frozen 1
    have cHK14_2 := HK14.out.cell (i := 2) rfl
    have zHK14_2 := HK14.out.frozen 2
    have cHK14_3 := HK14.out.cell (i := 3) rfl
    have zHK14_3 := HK14.out.frozen 3
    have cHK14_4 := HK14.out.cell (i := 4) rfl
    have zHK14_4 := HK14.out.frozen 4
    have cHK14_5 := HK14.out.cell (i := 5) rfl
    have zHK14_5 := HK14.out.frozen 5
    have lHK14 := HK14.out.lt
    have mHK14 := Nat.le_of_lt lHK14
    have HK15 := qHK15
    clear qHK15
    have cHK15_0 := HK15.out.cell (i := 0) rfl
    have zHK15_0 := HK15.out.frozen 0
    have cHK15_1 := HK15.out.cell (i := 1) rfl
    have zHK15_1 := HK15.out.frozen 1
    have cHK15_2 := HK15.out.cell (i := 2) rfl
    have zHK15_2 := HK15.out.frozen 2
    have cHK15_3 := HK15.out.cell (i := 3) rfl
    have zHK15_3 := HK15.out.frozen 3
    have cHK15_4 := HK15.out.cell (i := 4) rfl
    have zHK15_4 := HK15.out.frozen 4
    have cHK15_5 := HK15.out.cell (i := 5) rfl
    have zHK15_5 := HK15.out.frozen 5
    have lHK15 := HK15.out.lt
    have mHK15 := Nat.le_of_lt lHK15
    have hsW29 : w.heap.size ≤ W29.heap.size := HB.out.size
    have HK16 := Lib.hid (qHK160)
    have cHK16_0 := HK16.out.cell (i := 0) rfl
    have zHK16_0 := HK16.out.frozen 0
    have cHK16_1 := HK16.out.cell (i := 1) rfl
    have zHK16_1 := HK16.out.frozen 1
    have cHK16_2 := HK16.out.cell (i := 2) rfl
    have zHK16_2 := HK16.out.frozen 2
    have cHK16_3 := HK16.out.cell (i := 3) rfl
    have zHK16_3 := HK16.out.frozen 3
    have cHK16_4 := HK16.out.cell (i := 4) rfl
    have zHK16_4 := HK16.out.frozen 4
    have cHK16_5 := HK16.out.cell (i := 5) rfl
    have zHK16_5 := HK16.out.frozen 5
    have lHK16 := HK16.out.lt
    have mHK16 := Nat.le_of_lt lHK16
    clear qHK160
    refine (c_iSendOn 2 2 0 0 0 Option.none 0 0 [] 0 0 0 0 0 _ 1 1 [(0, (0, 0), 0, 0)] true rfl (by omega) (by unfold I64; omega) (by unfold I64; omega) (by unfold I64; omega) (by unfold I64; omega) Row.nil two_a).mono ?_
    rintro _ W30 ⟨A14, n14, c14, rfl, hl14, hc14, hm14, hO14, p30, hp30⟩
    have qHB := Lib.hid (below_to hp30 HB.out)
    have qHR1 := Lib.hid (row_to hp30 HR1.out)
    have qHK1 := Lib.hid (Blk.to hp30 HK1.out)
    have qHK2 := Lib.hid (Blk.to hp30 HK2.out)
    have qHR2 := Lib.hid (row_to hp30 HR2.out)
    have qHK3 := Lib.hid (Blk.to hp30 HK3.out)
    have qHR11 := Lib.hid (row_to hp30 HR11.out)
    have qHK13 := Lib.hid (Blk.to hp30 HK13.out)
    have qHR12 := Lib.hid (row_to hp30 HR12.out)
    have qHR13 := Lib.hid (row_to hp30 HR13.out)
    have qHK14 := Lib.hid (Blk.to hp30 HK14.out)
    have qHK15 := Lib.hid (Blk.to hp30 HK15.out)
    have qHK16 := Lib.hid (Blk.to hp30 HK16.out)
    clear HB HR1 cHK1_0 zHK1_0 cHK1_1 zHK1_1 cHK1_2 zHK1_2 cHK1_3 zHK1_3 cHK1_4 zHK1_4 cHK1_5 zHK1_5 lHK1 mHK1 HK1 cHK2_0 zHK2_0 cHK2_1 zHK2_1 cHK2_2 zHK2_2 cHK2_3 zHK2_3 cHK2_4 zHK2_4 lHK2 mHK2 HK2 HR2 cHK3_0 zHK3_0 cHK3_1 zHK3_1 cHK3_2 zHK3_2 cHK3_3 zHK3_3 cHK3_4 zHK3_4 cHK3_5 zHK3_5 lHK3 mHK3 HK3 HR11 cHK13_0 zHK13_0 cHK13_1 zHK13_1 cHK13_2 zHK13_2 cHK13_3 zHK13_3 cHK13_4 zHK13_4 cHK13_5 zHK13_5 lHK13 mHK13 HK13 HR12 HR13 cHK14_0 zHK14_0 cHK14_1 zHK14_1 cHK14_2 zHK14_2 cHK14_3 zHK14_3 cHK14_4 zHK14_4 cHK14_5 zHK14_5 lHK14 mHK14 HK14 cHK15_0 zHK15_0 cHK15_1 zHK15_1 cHK15_2 zHK15_2 cHK15_3 zHK15_3 cHK15_4 zHK15_4 cHK15_5 zHK15_5 lHK15 mHK15 HK15 cHK16_0 zHK16_0 cHK16_1 zHK16_1 cHK16_2 zHK16_2 cHK16_3 zHK16_3 cHK16_4 zHK16_4 cHK16_5 zHK16_5 lHK16 mHK16 HK16 hp30
    have HB := qHB
    clear qHB
    have HR1 := qHR1
    clear qHR1
    have HK1 := qHK1
    clear qHK1
    have cHK1_0 := HK1.out.cell (i := 0) rfl
    have zHK1_0 := HK1.out.frozen 0
    have cHK1_1 := HK1.out.cell (i := 1) rfl
    have zHK1_1 := HK1.out.frozen 1
    have cHK1_2 := HK1.out.cell (i := 2) rfl
    have zHK1_2 := HK1.out.frozen 2
    have cHK1_3 := HK1.out.cell (i := 3) rfl
    have zHK1_3 := HK1.out.frozen 3
    have cHK1_4 := HK1.out.cell (i := 4) rfl
    have zHK1_4 := HK1.out.frozen 4
    have cHK1_5 := HK1.out.cell (i := 5) rfl
    have zHK1_5 := HK1.out.frozen 5
    have lHK1 := HK1.out.lt
    have mHK1 := Nat.le_of_lt lHK1
    have HK2 := qHK2
    clear qHK2
    have cHK2_0 := HK2.out.cell (i := 0) rfl
    have zHK2_0 := HK2.out.frozen 0
    have cHK2_1 := HK2.out.cell (i := 1) rfl
    have zHK2_1 := HK2.out.frozen 1
    have cHK2_2 := HK2.out.cell (i := 2) rfl
    have zHK2_2 := HK2.out.frozen 2
    have cHK2_3 := HK2.out.cell (i := 3) rfl
    have zHK2_3 := HK2.out.frozen 3
    have cHK2_4 := HK2.out.cell (i := 4) rfl
    have zHK2_4 := HK2.out.frozen 4
    have lHK2 := HK2.out.lt
    have mHK2 := Nat.le_of_lt lHK2
    have HR2 := qHR2
    clear qHR2
    have HK3 := qHK3
    clear qHK3
    have cHK3_0 := HK3.out.cell (i := 0) rfl
    have zHK3_0 := HK3.out.frozen 0
    have cHK3_1 := HK3.out.cell (i := 1) rfl
    have zHK3_1 := HK3.out.frozen 1
    have cHK3_2 := HK3.out.cell (i := 2) rfl
    have zHK3_2 := HK3.out.frozen 2
    have cHK3_3 := HK3.out.cell (i := 3) rfl
    have zHK3_3 := HK3.out.frozen 3
    have cHK3_4 := HK3.out.cell (i := 4) rfl
    have zHK3_4 := HK3.out.frozen 4
    have cHK3_5 := HK3.out.cell (i := 5) rfl
    have zHK3_5 := HK3.out.frozen 5
    have lHK3 := HK3.out.lt
    have mHK3 := Nat.le_of_lt lHK3
    have HR11 := qHR11
    clear qHR11
    have HK13 := qHK13
    clear qHK13
    have cHK13_0 := HK13.out.cell (i := 0) rfl
    have zHK13_0 := HK13.out.frozen 0
    have cHK13_1 := HK13.out.cell (i := 1) rfl
    have zHK13_1 := HK13.out.frozen 1
    have cHK13_2 := HK13.out.cell (i := 2) rfl
    have zHK13_2 := HK13.out.frozen 2
    have cHK13_3 := HK13.out.cell (i := 3) rfl
    have zHK13_3 := HK13.out.frozen 3
    have cHK13_4 := HK13.out.cell (i := 4) rfl
    have zHK13_4 := HK13.out.frozen 4
    have cHK13_5 := HK13.out.cell (i := 5) rfl
    have zHK13_5 := HK13.out.frozen 5
    have lHK13 := HK13.out.lt
    have mHK13 := Nat.le_of_lt lHK13
    have HR12 := qHR12
    clear qHR12
    have HR13 := qHR13
    clear qHR13
    have HK14 := qHK14
    clear qHK14
    have cHK14_0 := HK14.out.cell (i := 0) rfl
    have zHK14_0 := HK14.out.frozen 0
    have cHK14_1 := HK14.out.cell (i := 1) rfl
    have zHK14_1 := HK14.out.frozen 1
    have cHK14_2 := HK14.out.cell (i := 2) rfl
    have zHK14_2 := HK14.out.frozen 2
    have cHK14_3 := HK14.out.cell (i := 3) rfl
    have zHK14_3 := HK14.out.frozen 3
    have cHK14_4 := HK14.out.cell (i := 4) rfl
    have zHK14_4 := HK14.out.frozen 4
    have cHK14_5 := HK14.out.cell (i := 5) rfl
    have zHK14_5 := HK14.out.frozen 5
    have lHK14 := HK14.out.lt
    have mHK14 := Nat.le_of_lt lHK14
    have HK15 := qHK15
    clear qHK15
    have cHK15_0 := HK15.out.cell (i := 0) rfl
    have zHK15_0 := HK15.out.frozen 0
    have cHK15_1 := HK15.out.cell (i := 1) rfl
    have zHK15_1 := HK15.out.frozen 1
    have cHK15_2 := HK15.out.cell (i := 2) rfl
    have zHK15_2 := HK15.out.frozen 2
    have cHK15_3 := HK15.out.cell (i := 3) rfl
    have zHK15_3 := HK15.out.frozen 3
    have cHK15_4 := HK15.out.cell (i := 4) rfl
    have zHK15_4 := HK15.out.frozen 4
    have cHK15_5 := HK15.out.cell (i := 5) rfl
    have zHK15_5 := HK15.out.frozen 5
    have lHK15 := HK15.out.lt
    have mHK15 := Nat.le_of_lt lHK15
    have HK16 := qHK16
    clear qHK16
    have cHK16_0 := HK16.out.cell (i := 0) rfl
    have zHK16_0 := HK16.out.frozen 0
    have cHK16_1 := HK16.out.cell (i := 1) rfl
    have zHK16_1 := HK16.out.frozen 1
    have cHK16_2 := HK16.out.cell (i := 2) rfl
    have zHK16_2 := HK16.out.frozen 2
    have cHK16_3 := HK16.out.cell (i := 3) rfl
    have zHK16_3 := HK16.out.frozen 3
    have cHK16_4 := HK16.out.cell (i := 4) rfl
    have zHK16_4 := HK16.out.frozen 4
    have cHK16_5 := HK16.out.cell (i := 5) rfl
    have zHK16_5 := HK16.out.frozen 5
    have lHK16 := HK16.out.lt
    have mHK16 := Nat.le_of_lt lHK16
    have hsW30 : w.heap.size ≤ W30.heap.size := HB.out.size
    have HR14 := Lib.hid (hO14.row)
    have HL14 := Lib.hid hl14
    clear hO14 hl14
    obtain rfl : 1 = n14 := HL14.out
    go_wp2_with fail
    refine calls_anchor (F := fun V => (∃ p : Later, V = later W30 p) ∧ Blk (W30.heap.size) [.int .i64 2, .slice A14 1 c14, .int .i64 1, .int .i64 0, .int .i64 1, .int .i64 0] 28 V) ⟨later_of_below (by (repeat (first | with_reducible exact Below.refl _ _ | with_reducible refine Below.drew ?_ | with_reducible refine Below.alloc ?_ (by first | exact Nat.le_refl _ | (simp; done) | (simp; omega)) _))), (by (repeat (first | exact Blk.new _ _ [.int .i64 2, .slice A14 1 c14, .int .i64 1, .int .i64 0, .int .i64 1, .int .i64 0] _ (by first | rfl | (simp; done)) | with_reducible refine Blk.alloc ?_ _)))⟩ (fun W31 hV => ?_)
    obtain ⟨⟨p, hp⟩, qHK170⟩ := hV
    have qHB := Lib.hid (below_to hp HB.out)
    have qHR1 := Lib.hid (row_to hp HR1.out)
    have qHK1 := Lib.hid (Blk.to hp HK1.out)
    have qHK2 := Lib.hid (Blk.to hp HK2.out)
    have qHR2 := Lib.hid (row_to hp HR2.out)
    have qHK3 := Lib.hid (Blk.to hp HK3.out)
    have qHR11 := Lib.hid (row_to hp HR11.out)
    have qHK13 := Lib.hid (Blk.to hp HK13.out)
    have qHR12 := Lib.hid (row_to hp HR12.out)
    have qHR13 := Lib.hid (row_to hp HR13.out)
    have qHK14 := Lib.hid (Blk.to hp HK14.out)
    have qHK15 := Lib.hid (Blk.to hp HK15.out)
    have qHK16 := Lib.hid (Blk.to hp HK16.out)
    have qHR14 := Lib.hid (row_to hp HR14.out)
    clear HB HR1 cHK1_0 zHK1_0 cHK1_1 zHK1_1 cHK1_2 zHK1_2 cHK1_3 zHK1_3 cHK1_4 zHK1_4 cHK1_5 zHK1_5 lHK1 mHK1 HK1 cHK2_0 zHK2_0 cHK2_1 zHK2_1 cHK2_2 zHK2_2 cHK2_3 zHK2_3 cHK2_4 zHK2_4 lHK2 mHK2 HK2 HR2 cHK3_0 zHK3_0 cHK3_1 zHK3_1 cHK3_2 zHK3_2 cHK3_3 zHK3_3 cHK3_4 zHK3_4 cHK3_5 zHK3_5 lHK3 mHK3 HK3 HR11 cHK13_0 zHK13_0 cHK13_1 zHK13_1 cHK13_2 zHK13_2 cHK13_3 zHK13_3 cHK13_4 zHK13_4 cHK13_5 zHK13_5 lHK13 mHK13 HK13 HR12 HR13 cHK14_0 zHK14_0 cHK14_1 zHK14_1 cHK14_2 zHK14_2 cHK14_3 zHK14_3 cHK14_4 zHK14_4 cHK14_5 zHK14_5 lHK14 mHK14 HK14 cHK15_0 zHK15_0 cHK15_1 zHK15_1 cHK15_2 zHK15_2 cHK15_3 zHK15_3 cHK15_4 zHK15_4 cHK15_5 zHK15_5 lHK15 mHK15 HK15 cHK16_0 zHK16_0 cHK16_1 zHK16_1 cHK16_2 zHK16_2 cHK16_3 zHK16_3 cHK16_4 zHK16_4 cHK16_5 zHK16_5 lHK16 mHK16 HK16 HR14 hp
    have HB := qHB
    clear qHB
    have HR1 := qHR1
    clear qHR1
    have HK1 := qHK1
    clear qHK1
    have cHK1_0 := HK1.out.cell (i := 0) rfl
    have zHK1_0 := HK1.out.frozen 0
    have cHK1_1 := HK1.out.cell (i := 1) rfl
    have zHK1_1 := HK1.out.frozen 1
    have cHK1_2 := HK1.out.cell (i := 2) rfl
    have zHK1_2 := HK1.out.frozen 2
    have cHK1_3 := HK1.out.cell (i := 3) rfl
    have zHK1_3 := HK1.out.frozen 3
    have cHK1_4 := HK1.out.cell (i := 4) rfl
    have zHK1_4 := HK1.out.frozen 4
    have cHK1_5 := HK1.out.cell (i := 5) rfl
    have zHK1_5 := HK1.out.frozen 5
    have lHK1 := HK1.out.lt
    have mHK1 := Nat.le_of_lt lHK1
    have HK2 := qHK2
    clear qHK2
    have cHK2_0 := HK2.out.cell (i := 0) rfl
    have zHK2_0 := HK2.out.frozen 0
    have cHK2_1 := HK2.out.cell (i := 1) rfl
    have zHK2_1 := HK2.out.frozen 1
    have cHK2_2 := HK2.out.cell (i := 2) rfl
    have zHK2_2 := HK2.out.frozen 2
    have cHK2_3 := HK2.out.cell (i := 3) rfl
    have zHK2_3 := HK2.out.frozen 3
    have cHK2_4 := HK2.out.cell (i := 4) rfl
    have zHK2_4 := HK2.out.frozen 4
    have lHK2 := HK2.out.lt
    have mHK2 := Nat.le_of_lt lHK2
    have HR2 := qHR2
    clear qHR2
    have HK3 := qHK3
    clear qHK3
    have cHK3_0 := HK3.out.cell (i := 0) rfl
    have zHK3_0 := HK3.out.frozen 0
    have cHK3_1 := HK3.out.cell (i := 1) rfl
    have zHK3_1 := HK3.out.frozen 1
    have cHK3_2 := HK3.out.cell (i := 2) rfl
    have zHK3_2 := HK3.out.frozen 2
    have cHK3_3 := HK3.out.cell (i := 3) rfl
    have zHK3_3 := HK3.out.frozen 3
    have cHK3_4 := HK3.out.cell (i := 4) rfl
    have zHK3_4 := HK3.out.frozen 4
    have cHK3_5 := HK3.out.cell (i := 5) rfl
    have zHK3_5 := HK3.out.frozen 5
    have lHK3 := HK3.out.lt
    have mHK3 := Nat.le_of_lt lHK3
    have HR11 := qHR11
    clear qHR11
    have HK13 := qHK13
    clear qHK13
    have cHK13_0 := HK13.out.cell (i := 0) rfl
    have zHK13_0 := HK13.out.frozen 0
    have cHK13_1 := HK13.out.cell (i := 1) rfl
    have zHK13_1 := HK13.out.frozen 1
    have cHK13_2 := HK13.out.cell (i := 2) rfl
    have zHK13_2 := HK13.out.frozen 2
    have cHK13_3 := HK13.out.cell (i := 3) rfl
    have zHK13_3 := HK13.out.frozen 3
    have cHK13_4 := HK13.out.cell (i := 4) rfl
    have zHK13_4 := HK13.out.frozen 4
    have cHK13_5 := HK13.out.cell (i := 5) rfl
    have zHK13_5 := HK13.out.frozen 5
    have lHK13 := HK13.out.lt
    have mHK13 := Nat.le_of_lt lHK13
    have HR12 := qHR12
    clear qHR12
    have HR13 := qHR13
    clear qHR13
    have HK14 := qHK14
    clear qHK14
    have cHK14_0 := HK14.out.cell (i := 0) rfl
    have zHK14_0 := HK14.out.frozen 0
    have cHK14_1 := HK14.out.cell (i := 1) rfl
    have zHK14_1 := HK14.out.frozen 1
    have cHK14_2 := HK14.out.cell (i := 2) rfl
    have zHK14_2 := HK14.out.frozen 2
    have cHK14_3 := HK14.out.cell (i := 3) rfl
    have zHK14_3 := HK14.out.frozen 3
    have cHK14_4 := HK14.out.cell (i := 4) rfl
    have zHK14_4 := HK14.out.frozen 4
    have cHK14_5 := HK14.out.cell (i := 5) rfl
    have zHK14_5 := HK14.out.frozen 5
    have lHK14 := HK14.out.lt
    have mHK14 := Nat.le_of_lt lHK14
    have HK15 := qHK15
    clear qHK15
    have cHK15_0 := HK15.out.cell (i := 0) rfl
    have zHK15_0 := HK15.out.frozen 0
    have cHK15_1 := HK15.out.cell (i := 1) rfl
    have zHK15_1 := HK15.out.frozen 1
    have cHK15_2 := HK15.out.cell (i := 2) rfl
    have zHK15_2 := HK15.out.frozen 2
    have cHK15_3 := HK15.out.cell (i := 3) rfl
    have zHK15_3 := HK15.out.frozen 3
    have cHK15_4 := HK15.out.cell (i := 4) rfl
    have zHK15_4 := HK15.out.frozen 4
    have cHK15_5 := HK15.out.cell (i := 5) rfl
    have zHK15_5 := HK15.out.frozen 5
    have lHK15 := HK15.out.lt
    have mHK15 := Nat.le_of_lt lHK15
    have HK16 := qHK16
    clear qHK16
    have cHK16_0 := HK16.out.cell (i := 0) rfl
    have zHK16_0 := HK16.out.frozen 0
    have cHK16_1 := HK16.out.cell (i := 1) rfl
    have zHK16_1 := HK16.out.frozen 1
    have cHK16_2 := HK16.out.cell (i := 2) rfl
    have zHK16_2 := HK16.out.frozen 2
    have cHK16_3 := HK16.out.cell (i := 3) rfl
    have zHK16_3 := HK16.out.frozen 3
    have cHK16_4 := HK16.out.cell (i := 4) rfl
    have zHK16_4 := HK16.out.frozen 4
    have cHK16_5 := HK16.out.cell (i := 5) rfl
    have zHK16_5 := HK16.out.frozen 5
    have lHK16 := HK16.out.lt
    have mHK16 := Nat.le_of_lt lHK16
    have HR14 := qHR14
    clear qHR14
    have hsW31 : w.heap.size ≤ W31.heap.size := HB.out.size
    have HK17 := Lib.hid (qHK170)
    have cHK17_0 := HK17.out.cell (i := 0) rfl
    have zHK17_0 := HK17.out.frozen 0
    have cHK17_1 := HK17.out.cell (i := 1) rfl
    have zHK17_1 := HK17.out.frozen 1
    have cHK17_2 := HK17.out.cell (i := 2) rfl
    have zHK17_2 := HK17.out.frozen 2
    have cHK17_3 := HK17.out.cell (i := 3) rfl
    have zHK17_3 := HK17.out.frozen 3
    have cHK17_4 := HK17.out.cell (i := 4) rfl
    have zHK17_4 := HK17.out.frozen 4
    have cHK17_5 := HK17.out.cell (i := 5) rfl
    have zHK17_5 := HK17.out.frozen 5
    have lHK17 := HK17.out.lt
    have mHK17 := Nat.le_of_lt lHK17
    clear qHK170
    refine (c_iSendOn 2 1 0 1 0 A14 1 c14 [(0, (0, 0), 0, 0)] 0 0 0 1 0 _ 0 2 [(0, (0, 0), 0, 0), (0, (0, 0), 1, 0)] true rfl (by omega) (by unfold I64; omega) (by unfold I64; omega) (by unfold I64; omega) (by unfold I64; omega) HR14.out two_b).mono ?_
    rintro _ W32 ⟨A15, n15, c15, rfl, hl15, hc15, hm15, hO15, p32, hp32⟩
    have qHB := Lib.hid (below_to hp32 HB.out)
    have qHR1 := Lib.hid (row_to hp32 HR1.out)
    have qHK1 := Lib.hid (Blk.to hp32 HK1.out)
    have qHK2 := Lib.hid (Blk.to hp32 HK2.out)
    have qHR2 := Lib.hid (row_to hp32 HR2.out)
    have qHK3 := Lib.hid (Blk.to hp32 HK3.out)
    have qHR11 := Lib.hid (row_to hp32 HR11.out)
    have qHK13 := Lib.hid (Blk.to hp32 HK13.out)
    have qHR12 := Lib.hid (row_to hp32 HR12.out)
    have qHR13 := Lib.hid (row_to hp32 HR13.out)
    have qHK14 := Lib.hid (Blk.to hp32 HK14.out)
    have qHK15 := Lib.hid (Blk.to hp32 HK15.out)
    have qHK16 := Lib.hid (Blk.to hp32 HK16.out)
    have qHR14 := Lib.hid (row_to hp32 HR14.out)
    have qHK17 := Lib.hid (Blk.to hp32 HK17.out)
    clear HB HR1 cHK1_0 zHK1_0 cHK1_1 zHK1_1 cHK1_2 zHK1_2 cHK1_3 zHK1_3 cHK1_4 zHK1_4 cHK1_5 zHK1_5 lHK1 mHK1 HK1 cHK2_0 zHK2_0 cHK2_1 zHK2_1 cHK2_2 zHK2_2 cHK2_3 zHK2_3 cHK2_4 zHK2_4 lHK2 mHK2 HK2 HR2 cHK3_0 zHK3_0 cHK3_1 zHK3_1 cHK3_2 zHK3_2 cHK3_3 zHK3_3 cHK3_4 zHK3_4 cHK3_5 zHK3_5 lHK3 mHK3 HK3 HR11 cHK13_0 zHK13_0 cHK13_1 zHK13_1 cHK13_2 zHK13_2 cHK13_3 zHK13_3 cHK13_4 zHK13_4 cHK13_5 zHK13_5 lHK13 mHK13 HK13 HR12 HR13 cHK14_0 zHK14_0 cHK14_1 zHK14_1 cHK14_2 zHK14_2 cHK14_3 zHK14_3 cHK14_4 zHK14_4 cHK14_5 zHK14_5 lHK14 mHK14 HK14 cHK15_0 zHK15_0 cHK15_1 zHK15_1 cHK15_2 zHK15_2 cHK15_3 zHK15_3 cHK15_4 zHK15_4 cHK15_5 zHK15_5 lHK15 mHK15 HK15 cHK16_0 zHK16_0 cHK16_1 zHK16_1 cHK16_2 zHK16_2 cHK16_3 zHK16_3 cHK16_4 zHK16_4 cHK16_5 zHK16_5 lHK16 mHK16 HK16 HR14 cHK17_0 zHK17_0 cHK17_1 zHK17_1 cHK17_2 zHK17_2 cHK17_3 zHK17_3 cHK17_4 zHK17_4 cHK17_5 zHK17_5 lHK17 mHK17 HK17 hp32
    have HB := qHB
    clear qHB
    have HR1 := qHR1
    clear qHR1
    have HK1 := qHK1
    clear qHK1
    have cHK1_0 := HK1.out.cell (i := 0) rfl
    have zHK1_0 := HK1.out.frozen 0
    have cHK1_1 := HK1.out.cell (i := 1) rfl
    have zHK1_1 := HK1.out.frozen 1
    have cHK1_2 := HK1.out.cell (i := 2) rfl
    have zHK1_2 := HK1.out.frozen 2
    have cHK1_3 := HK1.out.cell (i := 3) rfl
    have zHK1_3 := HK1.out.frozen 3
    have cHK1_4 := HK1.out.cell (i := 4) rfl
    have zHK1_4 := HK1.out.frozen 4
    have cHK1_5 := HK1.out.cell (i := 5) rfl
    have zHK1_5 := HK1.out.frozen 5
    have lHK1 := HK1.out.lt
    have mHK1 := Nat.le_of_lt lHK1
    have HK2 := qHK2
    clear qHK2
    have cHK2_0 := HK2.out.cell (i := 0) rfl
    have zHK2_0 := HK2.out.frozen 0
    have cHK2_1 := HK2.out.cell (i := 1) rfl
    have zHK2_1 := HK2.out.frozen 1
    have cHK2_2 := HK2.out.cell (i := 2) rfl
    have zHK2_2 := HK2.out.frozen 2
    have cHK2_3 := HK2.out.cell (i := 3) rfl
    have zHK2_3 := HK2.out.frozen 3
    have cHK2_4 := HK2.out.cell (i := 4) rfl
    have zHK2_4 := HK2.out.frozen 4
    have lHK2 := HK2.out.lt
    have mHK2 := Nat.le_of_lt lHK2
    have HR2 := qHR2
    clear qHR2
    have HK3 := qHK3
    clear qHK3
    have cHK3_0 := HK3.out.cell (i := 0) rfl
    have zHK3_0 := HK3.out.frozen 0
    have cHK3_1 := HK3.out.cell (i := 1) rfl
    have zHK3_1 := HK3.out.frozen 1
    have cHK3_2 := HK3.out.cell (i := 2) rfl
    have zHK3_2 := HK3.out.frozen 2
    have cHK3_3 := HK3.out.cell (i := 3) rfl
    have zHK3_3 := HK3.out.frozen 3
    have cHK3_4 := HK3.out.cell (i := 4) rfl
    have zHK3_4 := HK3.out.frozen 4
    have cHK3_5 := HK3.out.cell (i := 5) rfl
    have zHK3_5 := HK3.out.frozen 5
    have lHK3 := HK3.out.lt
    have mHK3 := Nat.le_of_lt lHK3
    have HR11 := qHR11
    clear qHR11
    have HK13 := qHK13
    clear qHK13
    have cHK13_0 := HK13.out.cell (i := 0) rfl
    have zHK13_0 := HK13.out.frozen 0
    have cHK13_1 := HK13.out.cell (i := 1) rfl
    have zHK13_1 := HK13.out.frozen 1
    have cHK13_2 := HK13.out.cell (i := 2) rfl
    have zHK13_2 := HK13.out.frozen 2
    have cHK13_3 := HK13.out.cell (i := 3) rfl
    have zHK13_3 := HK13.out.frozen 3
    have cHK13_4 := HK13.out.cell (i := 4) rfl
    have zHK13_4 := HK13.out.frozen 4
    have cHK13_5 := HK13.out.cell (i := 5) rfl
    have zHK13_5 := HK13.out.frozen 5
    have lHK13 := HK13.out.lt
    have mHK13 := Nat.le_of_lt lHK13
    have HR12 := qHR12
    clear qHR12
    have HR13 := qHR13
    clear qHR13
    have HK14 := qHK14
    clear qHK14
    have cHK14_0 := HK14.out.cell (i := 0) rfl
    have zHK14_0 := HK14.out.frozen 0
    have cHK14_1 := HK14.out.cell (i := 1) rfl
    have zHK14_1 := HK14.out.frozen 1
    have cHK14_2 := HK14.out.cell (i := 2) rfl
    have zHK14_2 := HK14.out.frozen 2
    have cHK14_3 := HK14.out.cell (i := 3) rfl
    have zHK14_3 := HK14.out.frozen 3
    have cHK14_4 := HK14.out.cell (i := 4) rfl
    have zHK14_4 := HK14.out.frozen 4
    have cHK14_5 := HK14.out.cell (i := 5) rfl
    have zHK14_5 := HK14.out.frozen 5
    have lHK14 := HK14.out.lt
    have mHK14 := Nat.le_of_lt lHK14
    have HK15 := qHK15
    clear qHK15
    have cHK15_0 := HK15.out.cell (i := 0) rfl
    have zHK15_0 := HK15.out.frozen 0
    have cHK15_1 := HK15.out.cell (i := 1) rfl
    have zHK15_1 := HK15.out.frozen 1
    have cHK15_2 := HK15.out.cell (i := 2) rfl
    have zHK15_2 := HK15.out.frozen 2
    have cHK15_3 := HK15.out.cell (i := 3) rfl
    have zHK15_3 := HK15.out.frozen 3
    have cHK15_4 := HK15.out.cell (i := 4) rfl
    have zHK15_4 := HK15.out.frozen 4
    have cHK15_5 := HK15.out.cell (i := 5) rfl
    have zHK15_5 := HK15.out.frozen 5
    have lHK15 := HK15.out.lt
    have mHK15 := Nat.le_of_lt lHK15
    have HK16 := qHK16
    clear qHK16
    have cHK16_0 := HK16.out.cell (i := 0) rfl
    have zHK16_0 := HK16.out.frozen 0
    have cHK16_1 := HK16.out.cell (i := 1) rfl
    have zHK16_1 := HK16.out.frozen 1
    have cHK16_2 := HK16.out.cell (i := 2) rfl
    have zHK16_2 := HK16.out.frozen 2
    have cHK16_3 := HK16.out.cell (i := 3) rfl
    have zHK16_3 := HK16.out.frozen 3
    have cHK16_4 := HK16.out.cell (i := 4) rfl
    have zHK16_4 := HK16.out.frozen 4
    have cHK16_5 := HK16.out.cell (i := 5) rfl
    have zHK16_5 := HK16.out.frozen 5
    have lHK16 := HK16.out.lt
    have mHK16 := Nat.le_of_lt lHK16
    have HR14 := qHR14
    clear qHR14
    have HK17 := qHK17
    clear qHK17
    have cHK17_0 := HK17.out.cell (i := 0) rfl
    have zHK17_0 := HK17.out.frozen 0
    have cHK17_1 := HK17.out.cell (i := 1) rfl
    have zHK17_1 := HK17.out.frozen 1
    have cHK17_2 := HK17.out.cell (i := 2) rfl
    have zHK17_2 := HK17.out.frozen 2
    have cHK17_3 := HK17.out.cell (i := 3) rfl
    have zHK17_3 := HK17.out.frozen 3
    have cHK17_4 := HK17.out.cell (i := 4) rfl
    have zHK17_4 := HK17.out.frozen 4
    have cHK17_5 := HK17.out.cell (i := 5) rfl
    have zHK17_5 := HK17.out.frozen 5
    have lHK17 := HK17.out.lt
    have mHK17 := Nat.le_of_lt lHK17
    have hsW32 : w.heap.size ≤ W32.heap.size := HB.out.size
    have HR15 := Lib.hid (hO15.row)
    have HL15 := Lib.hid hl15
    clear hO15 hl15
    obtain rfl : 2 = n15 := HL15.out
    go_wp2_with fail
    refine calls_anchor (F := fun V => (∃ p : Later, V = later W32 p) ∧ Blk (W32.heap.size) [.int .i64 2, .slice A15 2 c15, .int .i64 0, .int .i64 0, .int .i64 2, .int .i64 0] 28 V) ⟨later_of_below (by (repeat (first | with_reducible exact Below.refl _ _ | with_reducible refine Below.drew ?_ | with_reducible refine Below.alloc ?_ (by first | exact Nat.le_refl _ | (simp; done) | (simp; omega)) _))), (by (repeat (first | exact Blk.new _ _ [.int .i64 2, .slice A15 2 c15, .int .i64 0, .int .i64 0, .int .i64 2, .int .i64 0] _ (by first | rfl | (simp; done)) | with_reducible refine Blk.alloc ?_ _)))⟩ (fun W33 hV => ?_)
    obtain ⟨⟨p, hp⟩, qHK180⟩ := hV
    have qHB := Lib.hid (below_to hp HB.out)
    have qHR1 := Lib.hid (row_to hp HR1.out)
    have qHK1 := Lib.hid (Blk.to hp HK1.out)
    have qHK2 := Lib.hid (Blk.to hp HK2.out)
    have qHR2 := Lib.hid (row_to hp HR2.out)
    have qHK3 := Lib.hid (Blk.to hp HK3.out)
    have qHR11 := Lib.hid (row_to hp HR11.out)
    have qHK13 := Lib.hid (Blk.to hp HK13.out)
    have qHR12 := Lib.hid (row_to hp HR12.out)
    have qHR13 := Lib.hid (row_to hp HR13.out)
    have qHK14 := Lib.hid (Blk.to hp HK14.out)
    have qHK15 := Lib.hid (Blk.to hp HK15.out)
    have qHK16 := Lib.hid (Blk.to hp HK16.out)
    have qHR14 := Lib.hid (row_to hp HR14.out)
    have qHK17 := Lib.hid (Blk.to hp HK17.out)
    have qHR15 := Lib.hid (row_to hp HR15.out)
    clear HB HR1 cHK1_0 zHK1_0 cHK1_1 zHK1_1 cHK1_2 zHK1_2 cHK1_3 zHK1_3 cHK1_4 zHK1_4 cHK1_5 zHK1_5 lHK1 mHK1 HK1 cHK2_0 zHK2_0 cHK2_1 zHK2_1 cHK2_2 zHK2_2 cHK2_3 zHK2_3 cHK2_4 zHK2_4 lHK2 mHK2 HK2 HR2 cHK3_0 zHK3_0 cHK3_1 zHK3_1 cHK3_2 zHK3_2 cHK3_3 zHK3_3 cHK3_4 zHK3_4 cHK3_5 zHK3_5 lHK3 mHK3 HK3 HR11 cHK13_0 zHK13_0 cHK13_1 zHK13_1 cHK13_2 zHK13_2 cHK13_3 zHK13_3 cHK13_4 zHK13_4 cHK13_5 zHK13_5 lHK13 mHK13 HK13 HR12 HR13 cHK14_0 zHK14_0 cHK14_1 zHK14_1 cHK14_2 zHK14_2 cHK14_3 zHK14_3 cHK14_4 zHK14_4 cHK14_5 zHK14_5 lHK14 mHK14 HK14 cHK15_0 zHK15_0 cHK15_1 zHK15_1 cHK15_2 zHK15_2 cHK15_3 zHK15_3 cHK15_4 zHK15_4 cHK15_5 zHK15_5 lHK15 mHK15 HK15 cHK16_0 zHK16_0 cHK16_1 zHK16_1 cHK16_2 zHK16_2 cHK16_3 zHK16_3 cHK16_4 zHK16_4 cHK16_5 zHK16_5 lHK16 mHK16 HK16 HR14 cHK17_0 zHK17_0 cHK17_1 zHK17_1 cHK17_2 zHK17_2 cHK17_3 zHK17_3 cHK17_4 zHK17_4 cHK17_5 zHK17_5 lHK17 mHK17 HK17 HR15 hp
    have HB := qHB
    clear qHB
    have HR1 := qHR1
    clear qHR1
    have HK1 := qHK1
    clear qHK1
    have cHK1_0 := HK1.out.cell (i := 0) rfl
    have zHK1_0 := HK1.out.frozen 0
    have cHK1_1 := HK1.out.cell (i := 1) rfl
    have zHK1_1 := HK1.out.frozen 1
    have cHK1_2 := HK1.out.cell (i := 2) rfl
    have zHK1_2 := HK1.out.frozen 2
    have cHK1_3 := HK1.out.cell (i := 3) rfl
    have zHK1_3 := HK1.out.frozen 3
    have cHK1_4 := HK1.out.cell (i := 4) rfl
    have zHK1_4 := HK1.out.frozen 4
    have cHK1_5 := HK1.out.cell (i := 5) rfl
    have zHK1_5 := HK1.out.frozen 5
    have lHK1 := HK1.out.lt
    have mHK1 := Nat.le_of_lt lHK1
    have HK2 := qHK2
    clear qHK2
    have cHK2_0 := HK2.out.cell (i := 0) rfl
    have zHK2_0 := HK2.out.frozen 0
    have cHK2_1 := HK2.out.cell (i := 1) rfl
    have zHK2_1 := HK2.out.frozen 1
    have cHK2_2 := HK2.out.cell (i := 2) rfl
    have zHK2_2 := HK2.out.frozen 2
    have cHK2_3 := HK2.out.cell (i := 3) rfl
    have zHK2_3 := HK2.out.frozen 3
    have cHK2_4 := HK2.out.cell (i := 4) rfl
    have zHK2_4 := HK2.out.frozen 4
    have lHK2 := HK2.out.lt
    have mHK2 := Nat.le_of_lt lHK2
    have HR2 := qHR2
    clear qHR2
    have HK3 := qHK3
    clear qHK3
    have cHK3_0 := HK3.out.cell (i := 0) rfl
    have zHK3_0 := HK3.out.frozen 0
    have cHK3_1 := HK3.out.cell (i := 1) rfl
    have zHK3_1 := HK3.out.frozen 1
    have cHK3_2 := HK3.out.cell (i := 2) rfl
    have zHK3_2 := HK3.out.frozen 2
    have cHK3_3 := HK3.out.cell (i := 3) rfl
    have zHK3_3 := HK3.out.frozen 3
    have cHK3_4 := HK3.out.cell (i := 4) rfl
    have zHK3_4 := HK3.out.frozen 4
    have cHK3_5 := HK3.out.cell (i := 5) rfl
    have zHK3_5 := HK3.out.frozen 5
    have lHK3 := HK3.out.lt
    have mHK3 := Nat.le_of_lt lHK3
    have HR11 := qHR11
    clear qHR11
    have HK13 := qHK13
    clear qHK13
    have cHK13_0 := HK13.out.cell (i := 0) rfl
    have zHK13_0 := HK13.out.frozen 0
    have cHK13_1 := HK13.out.cell (i := 1) rfl
    have zHK13_1 := HK13.out.frozen 1
    have cHK13_2 := HK13.out.cell (i := 2) rfl
    have zHK13_2 := HK13.out.frozen 2
    have cHK13_3 := HK13.out.cell (i := 3) rfl
    have zHK13_3 := HK13.out.frozen 3
    have cHK13_4 := HK13.out.cell (i := 4) rfl
    have zHK13_4 := HK13.out.frozen 4
    have cHK13_5 := HK13.out.cell (i := 5) rfl
    have zHK13_5 := HK13.out.frozen 5
    have lHK13 := HK13.out.lt
    have mHK13 := Nat.le_of_lt lHK13
    have HR12 := qHR12
    clear qHR12
    have HR13 := qHR13
    clear qHR13
    have HK14 := qHK14
    clear qHK14
    have cHK14_0 := HK14.out.cell (i := 0) rfl
    have zHK14_0 := HK14.out.frozen 0
    have cHK14_1 := HK14.out.cell (i := 1) rfl
    have zHK14_1 := HK14.out.frozen 1
    have cHK14_2 := HK14.out.cell (i := 2) rfl
    have zHK14_2 := HK14.out.frozen 2
    have cHK14_3 := HK14.out.cell (i := 3) rfl
    have zHK14_3 := HK14.out.frozen 3
    have cHK14_4 := HK14.out.cell (i := 4) rfl
    have zHK14_4 := HK14.out.frozen 4
    have cHK14_5 := HK14.out.cell (i := 5) rfl
    have zHK14_5 := HK14.out.frozen 5
    have lHK14 := HK14.out.lt
    have mHK14 := Nat.le_of_lt lHK14
    have HK15 := qHK15
    clear qHK15
    have cHK15_0 := HK15.out.cell (i := 0) rfl
    have zHK15_0 := HK15.out.frozen 0
    have cHK15_1 := HK15.out.cell (i := 1) rfl
    have zHK15_1 := HK15.out.frozen 1
    have cHK15_2 := HK15.out.cell (i := 2) rfl
    have zHK15_2 := HK15.out.frozen 2
    have cHK15_3 := HK15.out.cell (i := 3) rfl
    have zHK15_3 := HK15.out.frozen 3
    have cHK15_4 := HK15.out.cell (i := 4) rfl
    have zHK15_4 := HK15.out.frozen 4
    have cHK15_5 := HK15.out.cell (i := 5) rfl
    have zHK15_5 := HK15.out.frozen 5
    have lHK15 := HK15.out.lt
    have mHK15 := Nat.le_of_lt lHK15
    have HK16 := qHK16
    clear qHK16
    have cHK16_0 := HK16.out.cell (i := 0) rfl
    have zHK16_0 := HK16.out.frozen 0
    have cHK16_1 := HK16.out.cell (i := 1) rfl
    have zHK16_1 := HK16.out.frozen 1
    have cHK16_2 := HK16.out.cell (i := 2) rfl
    have zHK16_2 := HK16.out.frozen 2
    have cHK16_3 := HK16.out.cell (i := 3) rfl
    have zHK16_3 := HK16.out.frozen 3
    have cHK16_4 := HK16.out.cell (i := 4) rfl
    have zHK16_4 := HK16.out.frozen 4
    have cHK16_5 := HK16.out.cell (i := 5) rfl
    have zHK16_5 := HK16.out.frozen 5
    have lHK16 := HK16.out.lt
    have mHK16 := Nat.le_of_lt lHK16
    have HR14 := qHR14
    clear qHR14
    have HK17 := qHK17
    clear qHK17
    have cHK17_0 := HK17.out.cell (i := 0) rfl
    have zHK17_0 := HK17.out.frozen 0
    have cHK17_1 := HK17.out.cell (i := 1) rfl
    have zHK17_1 := HK17.out.frozen 1
    have cHK17_2 := HK17.out.cell (i := 2) rfl
    have zHK17_2 := HK17.out.frozen 2
    have cHK17_3 := HK17.out.cell (i := 3) rfl
    have zHK17_3 := HK17.out.frozen 3
    have cHK17_4 := HK17.out.cell (i := 4) rfl
    have zHK17_4 := HK17.out.frozen 4
    have cHK17_5 := HK17.out.cell (i := 5) rfl
    have zHK17_5 := HK17.out.frozen 5
    have lHK17 := HK17.out.lt
    have mHK17 := Nat.le_of_lt lHK17
    have HR15 := qHR15
    clear qHR15
    have hsW33 : w.heap.size ≤ W33.heap.size := HB.out.size
    have HK18 := Lib.hid (qHK180)
    have cHK18_0 := HK18.out.cell (i := 0) rfl
    have zHK18_0 := HK18.out.frozen 0
    have cHK18_1 := HK18.out.cell (i := 1) rfl
    have zHK18_1 := HK18.out.frozen 1
    have cHK18_2 := HK18.out.cell (i := 2) rfl
    have zHK18_2 := HK18.out.frozen 2
    have cHK18_3 := HK18.out.cell (i := 3) rfl
    have zHK18_3 := HK18.out.frozen 3
    have cHK18_4 := HK18.out.cell (i := 4) rfl
    have zHK18_4 := HK18.out.frozen 4
    have cHK18_5 := HK18.out.cell (i := 5) rfl
    have zHK18_5 := HK18.out.frozen 5
    have lHK18 := HK18.out.lt
    have mHK18 := Nat.le_of_lt lHK18
    clear qHK180
    refine (c_iSendOn 2 0 0 2 0 A15 2 c15 [(0, (0, 0), 0, 0), (0, (0, 0), 1, 0)] 0 0 0 0 0 _ 0 2 [(0, (0, 0), 0, 0), (0, (0, 0), 1, 0)] false rfl (by omega) (by unfold I64; omega) (by unfold I64; omega) (by unfold I64; omega) (by unfold I64; omega) HR15.out two_c).mono ?_
    rintro _ W34 ⟨A16, n16, c16, rfl, hl16, hc16, hm16, hO16, p34, hp34⟩
    have qHB := Lib.hid (below_to hp34 HB.out)
    have qHR1 := Lib.hid (row_to hp34 HR1.out)
    have qHK1 := Lib.hid (Blk.to hp34 HK1.out)
    have qHK2 := Lib.hid (Blk.to hp34 HK2.out)
    have qHR2 := Lib.hid (row_to hp34 HR2.out)
    have qHK3 := Lib.hid (Blk.to hp34 HK3.out)
    have qHR11 := Lib.hid (row_to hp34 HR11.out)
    have qHK13 := Lib.hid (Blk.to hp34 HK13.out)
    have qHR12 := Lib.hid (row_to hp34 HR12.out)
    have qHR13 := Lib.hid (row_to hp34 HR13.out)
    have qHK14 := Lib.hid (Blk.to hp34 HK14.out)
    have qHK15 := Lib.hid (Blk.to hp34 HK15.out)
    have qHK16 := Lib.hid (Blk.to hp34 HK16.out)
    have qHR14 := Lib.hid (row_to hp34 HR14.out)
    have qHK17 := Lib.hid (Blk.to hp34 HK17.out)
    have qHR15 := Lib.hid (row_to hp34 HR15.out)
    have qHK18 := Lib.hid (Blk.to hp34 HK18.out)
    clear HB HR1 cHK1_0 zHK1_0 cHK1_1 zHK1_1 cHK1_2 zHK1_2 cHK1_3 zHK1_3 cHK1_4 zHK1_4 cHK1_5 zHK1_5 lHK1 mHK1 HK1 cHK2_0 zHK2_0 cHK2_1 zHK2_1 cHK2_2 zHK2_2 cHK2_3 zHK2_3 cHK2_4 zHK2_4 lHK2 mHK2 HK2 HR2 cHK3_0 zHK3_0 cHK3_1 zHK3_1 cHK3_2 zHK3_2 cHK3_3 zHK3_3 cHK3_4 zHK3_4 cHK3_5 zHK3_5 lHK3 mHK3 HK3 HR11 cHK13_0 zHK13_0 cHK13_1 zHK13_1 cHK13_2 zHK13_2 cHK13_3 zHK13_3 cHK13_4 zHK13_4 cHK13_5 zHK13_5 lHK13 mHK13 HK13 HR12 HR13 cHK14_0 zHK14_0 cHK14_1 zHK14_1 cHK14_2 zHK14_2 cHK14_3 zHK14_3 cHK14_4 zHK14_4 cHK14_5 zHK14_5 lHK14 mHK14 HK14 cHK15_0 zHK15_0 cHK15_1 zHK15_1 cHK15_2 zHK15_2 cHK15_3 zHK15_3 cHK15_4 zHK15_4 cHK15_5 zHK15_5 lHK15 mHK15 HK15 cHK16_0 zHK16_0 cHK16_1 zHK16_1 cHK16_2 zHK16_2 cHK16_3 zHK16_3 cHK16_4 zHK16_4 cHK16_5 zHK16_5 lHK16 mHK16 HK16 HR14 cHK17_0 zHK17_0 cHK17_1 zHK17_1 cHK17_2 zHK17_2 cHK17_3 zHK17_3 cHK17_4 zHK17_4 cHK17_5 zHK17_5 lHK17 mHK17 HK17 HR15 cHK18_0 zHK18_0 cHK18_1 zHK18_1 cHK18_2 zHK18_2 cHK18_3 zHK18_3 cHK18_4 zHK18_4 cHK18_5 zHK18_5 lHK18 mHK18 HK18 hp34
    have HB := qHB
    clear qHB
    have HR1 := qHR1
    clear qHR1
    have HK1 := qHK1
    clear qHK1
    have cHK1_0 := HK1.out.cell (i := 0) rfl
    have zHK1_0 := HK1.out.frozen 0
    have cHK1_1 := HK1.out.cell (i := 1) rfl
    have zHK1_1 := HK1.out.frozen 1
    have cHK1_2 := HK1.out.cell (i := 2) rfl
    have zHK1_2 := HK1.out.frozen 2
    have cHK1_3 := HK1.out.cell (i := 3) rfl
    have zHK1_3 := HK1.out.frozen 3
    have cHK1_4 := HK1.out.cell (i := 4) rfl
    have zHK1_4 := HK1.out.frozen 4
    have cHK1_5 := HK1.out.cell (i := 5) rfl
    have zHK1_5 := HK1.out.frozen 5
    have lHK1 := HK1.out.lt
    have mHK1 := Nat.le_of_lt lHK1
    have HK2 := qHK2
    clear qHK2
    have cHK2_0 := HK2.out.cell (i := 0) rfl
    have zHK2_0 := HK2.out.frozen 0
    have cHK2_1 := HK2.out.cell (i := 1) rfl
    have zHK2_1 := HK2.out.frozen 1
    have cHK2_2 := HK2.out.cell (i := 2) rfl
    have zHK2_2 := HK2.out.frozen 2
    have cHK2_3 := HK2.out.cell (i := 3) rfl
    have zHK2_3 := HK2.out.frozen 3
    have cHK2_4 := HK2.out.cell (i := 4) rfl
    have zHK2_4 := HK2.out.frozen 4
    have lHK2 := HK2.out.lt
    have mHK2 := Nat.le_of_lt lHK2
    have HR2 := qHR2
    clear qHR2
    have HK3 := qHK3
    clear qHK3
    have cHK3_0 := HK3.out.cell (i := 0) rfl
    have zHK3_0 := HK3.out.frozen 0
    have cHK3_1 := HK3.out.cell (i := 1) rfl
    have zHK3_1 := HK3.out.frozen 1
    have cHK3_2 := HK3.out.cell (i := 2) rfl
    have zHK3_2 := HK3.out.frozen 2
    have cHK3_3 := HK3.out.cell (i := 3) rfl
    have zHK3_3 := HK3.out.frozen 3
    have cHK3_4 := HK3.out.cell (i := 4) rfl
    have zHK3_4 := HK3.out.frozen 4
    have cHK3_5 := HK3.out.cell (i := 5) rfl
    have zHK3_5 := HK3.out.frozen 5
    have lHK3 := HK3.out.lt
    have mHK3 := Nat.le_of_lt lHK3
    have HR11 := qHR11
    clear qHR11
    have HK13 := qHK13
    clear qHK13
    have cHK13_0 := HK13.out.cell (i := 0) rfl
    have zHK13_0 := HK13.out.frozen 0
    have cHK13_1 := HK13.out.cell (i := 1) rfl
    have zHK13_1 := HK13.out.frozen 1
    have cHK13_2 := HK13.out.cell (i := 2) rfl
    have zHK13_2 := HK13.out.frozen 2
    have cHK13_3 := HK13.out.cell (i := 3) rfl
    have zHK13_3 := HK13.out.frozen 3
    have cHK13_4 := HK13.out.cell (i := 4) rfl
    have zHK13_4 := HK13.out.frozen 4
    have cHK13_5 := HK13.out.cell (i := 5) rfl
    have zHK13_5 := HK13.out.frozen 5
    have lHK13 := HK13.out.lt
    have mHK13 := Nat.le_of_lt lHK13
    have HR12 := qHR12
    clear qHR12
    have HR13 := qHR13
    clear qHR13
    have HK14 := qHK14
    clear qHK14
    have cHK14_0 := HK14.out.cell (i := 0) rfl
    have zHK14_0 := HK14.out.frozen 0
    have cHK14_1 := HK14.out.cell (i := 1) rfl
    have zHK14_1 := HK14.out.frozen 1
    have cHK14_2 := HK14.out.cell (i := 2) rfl
    have zHK14_2 := HK14.out.frozen 2
    have cHK14_3 := HK14.out.cell (i := 3) rfl
    have zHK14_3 := HK14.out.frozen 3
    have cHK14_4 := HK14.out.cell (i := 4) rfl
    have zHK14_4 := HK14.out.frozen 4
    have cHK14_5 := HK14.out.cell (i := 5) rfl
    have zHK14_5 := HK14.out.frozen 5
    have lHK14 := HK14.out.lt
    have mHK14 := Nat.le_of_lt lHK14
    have HK15 := qHK15
    clear qHK15
    have cHK15_0 := HK15.out.cell (i := 0) rfl
    have zHK15_0 := HK15.out.frozen 0
    have cHK15_1 := HK15.out.cell (i := 1) rfl
    have zHK15_1 := HK15.out.frozen 1
    have cHK15_2 := HK15.out.cell (i := 2) rfl
    have zHK15_2 := HK15.out.frozen 2
    have cHK15_3 := HK15.out.cell (i := 3) rfl
    have zHK15_3 := HK15.out.frozen 3
    have cHK15_4 := HK15.out.cell (i := 4) rfl
    have zHK15_4 := HK15.out.frozen 4
    have cHK15_5 := HK15.out.cell (i := 5) rfl
    have zHK15_5 := HK15.out.frozen 5
    have lHK15 := HK15.out.lt
    have mHK15 := Nat.le_of_lt lHK15
    have HK16 := qHK16
    clear qHK16
    have cHK16_0 := HK16.out.cell (i := 0) rfl
    have zHK16_0 := HK16.out.frozen 0
    have cHK16_1 := HK16.out.cell (i := 1) rfl
    have zHK16_1 := HK16.out.frozen 1
    have cHK16_2 := HK16.out.cell (i := 2) rfl
    have zHK16_2 := HK16.out.frozen 2
    have cHK16_3 := HK16.out.cell (i := 3) rfl
    have zHK16_3 := HK16.out.frozen 3
    have cHK16_4 := HK16.out.cell (i := 4) rfl
    have zHK16_4 := HK16.out.frozen 4
    have cHK16_5 := HK16.out.cell (i := 5) rfl
    have zHK16_5 := HK16.out.frozen 5
    have lHK16 := HK16.out.lt
    have mHK16 := Nat.le_of_lt lHK16
    have HR14 := qHR14
    clear qHR14
    have HK17 := qHK17
    clear qHK17
    have cHK17_0 := HK17.out.cell (i := 0) rfl
    have zHK17_0 := HK17.out.frozen 0
    have cHK17_1 := HK17.out.cell (i := 1) rfl
    have zHK17_1 := HK17.out.frozen 1
    have cHK17_2 := HK17.out.cell (i := 2) rfl
    have zHK17_2 := HK17.out.frozen 2
    have cHK17_3 := HK17.out.cell (i := 3) rfl
    have zHK17_3 := HK17.out.frozen 3
    have cHK17_4 := HK17.out.cell (i := 4) rfl
    have zHK17_4 := HK17.out.frozen 4
    have cHK17_5 := HK17.out.cell (i := 5) rfl
    have zHK17_5 := HK17.out.frozen 5
    have lHK17 := HK17.out.lt
    have mHK17 := Nat.le_of_lt lHK17
    have HR15 := qHR15
    clear qHR15
    have HK18 := qHK18
    clear qHK18
    have cHK18_0 := HK18.out.cell (i := 0) rfl
    have zHK18_0 := HK18.out.frozen 0
    have cHK18_1 := HK18.out.cell (i := 1) rfl
    have zHK18_1 := HK18.out.frozen 1
    have cHK18_2 := HK18.out.cell (i := 2) rfl
    have zHK18_2 := HK18.out.frozen 2
    have cHK18_3 := HK18.out.cell (i := 3) rfl
    have zHK18_3 := HK18.out.frozen 3
    have cHK18_4 := HK18.out.cell (i := 4) rfl
    have zHK18_4 := HK18.out.frozen 4
    have cHK18_5 := HK18.out.cell (i := 5) rfl
    have zHK18_5 := HK18.out.frozen 5
    have lHK18 := HK18.out.lt
    have mHK18 := Nat.le_of_lt lHK18
    have hsW34 : w.heap.size ≤ W34.heap.size := HB.out.size
    have HR16 := Lib.hid (hO16.row)
    have HL16 := Lib.hid hl16
    clear hO16 hl16
    go_wp2_with fail
    refine calls_anchor (F := fun V => (∃ p : Later, V = later W34 p) ∧ Blk (W34.heap.size) [.int .i64 2, .slice A16 n16 c16, .int .i64 0, .int .i64 0, .int .i64 2, .int .i64 0] 28 V) ⟨later_of_below (by (repeat (first | with_reducible exact Below.refl _ _ | with_reducible refine Below.drew ?_ | with_reducible refine Below.alloc ?_ (by first | exact Nat.le_refl _ | (simp; done) | (simp; omega)) _))), (by (repeat (first | exact Blk.new _ _ [.int .i64 2, .slice A16 n16 c16, .int .i64 0, .int .i64 0, .int .i64 2, .int .i64 0] _ (by first | rfl | (simp; done)) | with_reducible refine Blk.alloc ?_ _)))⟩ (fun W35 hV => ?_)
    obtain ⟨⟨p, hp⟩, qHK190⟩ := hV
    have qHB := Lib.hid (below_to hp HB.out)
    have qHR1 := Lib.hid (row_to hp HR1.out)
    have qHK1 := Lib.hid (Blk.to hp HK1.out)
    have qHK2 := Lib.hid (Blk.to hp HK2.out)
    have qHR2 := Lib.hid (row_to hp HR2.out)
    have qHK3 := Lib.hid (Blk.to hp HK3.out)
    have qHR11 := Lib.hid (row_to hp HR11.out)
    have qHK13 := Lib.hid (Blk.to hp HK13.out)
    have qHR12 := Lib.hid (row_to hp HR12.out)
    have qHR13 := Lib.hid (row_to hp HR13.out)
    have qHK14 := Lib.hid (Blk.to hp HK14.out)
    have qHK15 := Lib.hid (Blk.to hp HK15.out)
    have qHK16 := Lib.hid (Blk.to hp HK16.out)
    have qHR14 := Lib.hid (row_to hp HR14.out)
    have qHK17 := Lib.hid (Blk.to hp HK17.out)
    have qHR15 := Lib.hid (row_to hp HR15.out)
    have qHK18 := Lib.hid (Blk.to hp HK18.out)
    have qHR16 := Lib.hid (row_to hp HR16.out)
    clear HB HR1 cHK1_0 zHK1_0 cHK1_1 zHK1_1 cHK1_2 zHK1_2 cHK1_3 zHK1_3 cHK1_4 zHK1_4 cHK1_5 zHK1_5 lHK1 mHK1 HK1 cHK2_0 zHK2_0 cHK2_1 zHK2_1 cHK2_2 zHK2_2 cHK2_3 zHK2_3 cHK2_4 zHK2_4 lHK2 mHK2 HK2 HR2 cHK3_0 zHK3_0 cHK3_1 zHK3_1 cHK3_2 zHK3_2 cHK3_3 zHK3_3 cHK3_4 zHK3_4 cHK3_5 zHK3_5 lHK3 mHK3 HK3 HR11 cHK13_0 zHK13_0 cHK13_1 zHK13_1 cHK13_2 zHK13_2 cHK13_3 zHK13_3 cHK13_4 zHK13_4 cHK13_5 zHK13_5 lHK13 mHK13 HK13 HR12 HR13 cHK14_0 zHK14_0 cHK14_1 zHK14_1 cHK14_2 zHK14_2 cHK14_3 zHK14_3 cHK14_4 zHK14_4 cHK14_5 zHK14_5 lHK14 mHK14 HK14 cHK15_0 zHK15_0 cHK15_1 zHK15_1 cHK15_2 zHK15_2 cHK15_3 zHK15_3 cHK15_4 zHK15_4 cHK15_5 zHK15_5 lHK15 mHK15 HK15 cHK16_0 zHK16_0 cHK16_1 zHK16_1 cHK16_2 zHK16_2 cHK16_3 zHK16_3 cHK16_4 zHK16_4 cHK16_5 zHK16_5 lHK16 mHK16 HK16 HR14 cHK17_0 zHK17_0 cHK17_1 zHK17_1 cHK17_2 zHK17_2 cHK17_3 zHK17_3 cHK17_4 zHK17_4 cHK17_5 zHK17_5 lHK17 mHK17 HK17 HR15 cHK18_0 zHK18_0 cHK18_1 zHK18_1 cHK18_2 zHK18_2 cHK18_3 zHK18_3 cHK18_4 zHK18_4 cHK18_5 zHK18_5 lHK18 mHK18 HK18 HR16 hp
    have HB := qHB
    clear qHB
    have HR1 := qHR1
    clear qHR1
    have HK1 := qHK1
    clear qHK1
    have cHK1_0 := HK1.out.cell (i := 0) rfl
    have zHK1_0 := HK1.out.frozen 0
    have cHK1_1 := HK1.out.cell (i := 1) rfl
    have zHK1_1 := HK1.out.frozen 1
    have cHK1_2 := HK1.out.cell (i := 2) rfl
    have zHK1_2 := HK1.out.frozen 2
    have cHK1_3 := HK1.out.cell (i := 3) rfl
    have zHK1_3 := HK1.out.frozen 3
    have cHK1_4 := HK1.out.cell (i := 4) rfl
    have zHK1_4 := HK1.out.frozen 4
    have cHK1_5 := HK1.out.cell (i := 5) rfl
    have zHK1_5 := HK1.out.frozen 5
    have lHK1 := HK1.out.lt
    have mHK1 := Nat.le_of_lt lHK1
    have HK2 := qHK2
    clear qHK2
    have cHK2_0 := HK2.out.cell (i := 0) rfl
    have zHK2_0 := HK2.out.frozen 0
    have cHK2_1 := HK2.out.cell (i := 1) rfl
    have zHK2_1 := HK2.out.frozen 1
    have cHK2_2 := HK2.out.cell (i := 2) rfl
    have zHK2_2 := HK2.out.frozen 2
    have cHK2_3 := HK2.out.cell (i := 3) rfl
    have zHK2_3 := HK2.out.frozen 3
    have cHK2_4 := HK2.out.cell (i := 4) rfl
    have zHK2_4 := HK2.out.frozen 4
    have lHK2 := HK2.out.lt
    have mHK2 := Nat.le_of_lt lHK2
    have HR2 := qHR2
    clear qHR2
    have HK3 := qHK3
    clear qHK3
    have cHK3_0 := HK3.out.cell (i := 0) rfl
    have zHK3_0 := HK3.out.frozen 0
    have cHK3_1 := HK3.out.cell (i := 1) rfl
    have zHK3_1 := HK3.out.frozen 1
    have cHK3_2 := HK3.out.cell (i := 2) rfl
    have zHK3_2 := HK3.out.frozen 2
    have cHK3_3 := HK3.out.cell (i := 3) rfl
    have zHK3_3 := HK3.out.frozen 3
    have cHK3_4 := HK3.out.cell (i := 4) rfl
    have zHK3_4 := HK3.out.frozen 4
    have cHK3_5 := HK3.out.cell (i := 5) rfl
    have zHK3_5 := HK3.out.frozen 5
    have lHK3 := HK3.out.lt
    have mHK3 := Nat.le_of_lt lHK3
    have HR11 := qHR11
    clear qHR11
    have HK13 := qHK13
    clear qHK13
    have cHK13_0 := HK13.out.cell (i := 0) rfl
    have zHK13_0 := HK13.out.frozen 0
    have cHK13_1 := HK13.out.cell (i := 1) rfl
    have zHK13_1 := HK13.out.frozen 1
    have cHK13_2 := HK13.out.cell (i := 2) rfl
    have zHK13_2 := HK13.out.frozen 2
    have cHK13_3 := HK13.out.cell (i := 3) rfl
    have zHK13_3 := HK13.out.frozen 3
    have cHK13_4 := HK13.out.cell (i := 4) rfl
    have zHK13_4 := HK13.out.frozen 4
    have cHK13_5 := HK13.out.cell (i := 5) rfl
    have zHK13_5 := HK13.out.frozen 5
    have lHK13 := HK13.out.lt
    have mHK13 := Nat.le_of_lt lHK13
    have HR12 := qHR12
    clear qHR12
    have HR13 := qHR13
    clear qHR13
    have HK14 := qHK14
    clear qHK14
    have cHK14_0 := HK14.out.cell (i := 0) rfl
    have zHK14_0 := HK14.out.frozen 0
    have cHK14_1 := HK14.out.cell (i := 1) rfl
    have zHK14_1 := HK14.out.frozen 1
    have cHK14_2 := HK14.out.cell (i := 2) rfl
    have zHK14_2 := HK14.out.frozen 2
    have cHK14_3 := HK14.out.cell (i := 3) rfl
    have zHK14_3 := HK14.out.frozen 3
    have cHK14_4 := HK14.out.cell (i := 4) rfl
    have zHK14_4 := HK14.out.frozen 4
    have cHK14_5 := HK14.out.cell (i := 5) rfl
    have zHK14_5 := HK14.out.frozen 5
    have lHK14 := HK14.out.lt
    have mHK14 := Nat.le_of_lt lHK14
    have HK15 := qHK15
    clear qHK15
    have cHK15_0 := HK15.out.cell (i := 0) rfl
    have zHK15_0 := HK15.out.frozen 0
    have cHK15_1 := HK15.out.cell (i := 1) rfl
    have zHK15_1 := HK15.out.frozen 1
    have cHK15_2 := HK15.out.cell (i := 2) rfl
    have zHK15_2 := HK15.out.frozen 2
    have cHK15_3 := HK15.out.cell (i := 3) rfl
    have zHK15_3 := HK15.out.frozen 3
    have cHK15_4 := HK15.out.cell (i := 4) rfl
    have zHK15_4 := HK15.out.frozen 4
    have cHK15_5 := HK15.out.cell (i := 5) rfl
    have zHK15_5 := HK15.out.frozen 5
    have lHK15 := HK15.out.lt
    have mHK15 := Nat.le_of_lt lHK15
    have HK16 := qHK16
    clear qHK16
    have cHK16_0 := HK16.out.cell (i := 0) rfl
    have zHK16_0 := HK16.out.frozen 0
    have cHK16_1 := HK16.out.cell (i := 1) rfl
    have zHK16_1 := HK16.out.frozen 1
    have cHK16_2 := HK16.out.cell (i := 2) rfl
    have zHK16_2 := HK16.out.frozen 2
    have cHK16_3 := HK16.out.cell (i := 3) rfl
    have zHK16_3 := HK16.out.frozen 3
    have cHK16_4 := HK16.out.cell (i := 4) rfl
    have zHK16_4 := HK16.out.frozen 4
    have cHK16_5 := HK16.out.cell (i := 5) rfl
    have zHK16_5 := HK16.out.frozen 5
    have lHK16 := HK16.out.lt
    have mHK16 := Nat.le_of_lt lHK16
    have HR14 := qHR14
    clear qHR14
    have HK17 := qHK17
    clear qHK17
    have cHK17_0 := HK17.out.cell (i := 0) rfl
    have zHK17_0 := HK17.out.frozen 0
    have cHK17_1 := HK17.out.cell (i := 1) rfl
    have zHK17_1 := HK17.out.frozen 1
    have cHK17_2 := HK17.out.cell (i := 2) rfl
    have zHK17_2 := HK17.out.frozen 2
    have cHK17_3 := HK17.out.cell (i := 3) rfl
    have zHK17_3 := HK17.out.frozen 3
    have cHK17_4 := HK17.out.cell (i := 4) rfl
    have zHK17_4 := HK17.out.frozen 4
    have cHK17_5 := HK17.out.cell (i := 5) rfl
    have zHK17_5 := HK17.out.frozen 5
    have lHK17 := HK17.out.lt
    have mHK17 := Nat.le_of_lt lHK17
    have HR15 := qHR15
    clear qHR15
    have HK18 := qHK18
    clear qHK18
    have cHK18_0 := HK18.out.cell (i := 0) rfl
    have zHK18_0 := HK18.out.frozen 0
    have cHK18_1 := HK18.out.cell (i := 1) rfl
    have zHK18_1 := HK18.out.frozen 1
    have cHK18_2 := HK18.out.cell (i := 2) rfl
    have zHK18_2 := HK18.out.frozen 2
    have cHK18_3 := HK18.out.cell (i := 3) rfl
    have zHK18_3 := HK18.out.frozen 3
    have cHK18_4 := HK18.out.cell (i := 4) rfl
    have zHK18_4 := HK18.out.frozen 4
    have cHK18_5 := HK18.out.cell (i := 5) rfl
    have zHK18_5 := HK18.out.frozen 5
    have lHK18 := HK18.out.lt
    have mHK18 := Nat.le_of_lt lHK18
    have HR16 := qHR16
    clear qHR16
    have hsW35 : w.heap.size ≤ W35.heap.size := HB.out.size
    have HK19 := Lib.hid (qHK190)
    have cHK19_0 := HK19.out.cell (i := 0) rfl
    have zHK19_0 := HK19.out.frozen 0
    have cHK19_1 := HK19.out.cell (i := 1) rfl
    have zHK19_1 := HK19.out.frozen 1
    have cHK19_2 := HK19.out.cell (i := 2) rfl
    have zHK19_2 := HK19.out.frozen 2
    have cHK19_3 := HK19.out.cell (i := 3) rfl
    have zHK19_3 := HK19.out.frozen 3
    have cHK19_4 := HK19.out.cell (i := 4) rfl
    have zHK19_4 := HK19.out.frozen 4
    have cHK19_5 := HK19.out.cell (i := 5) rfl
    have zHK19_5 := HK19.out.frozen 5
    have lHK19 := HK19.out.lt
    have mHK19 := Nat.le_of_lt lHK19
    clear qHK190
    refine (m_iTakeFrom 2 0 0 2 0 A15 2 c15 [(0, (0, 0), 0, 0), (0, (0, 0), 1, 0)] _ 1 1 [(0, (0, 0), 1, 0)] 0 0 0 0 0 true rfl (by omega) (by unfold I64; omega) (by unfold I64; omega) (by unfold I64; omega) (by unfold I64; omega) HR15.out two_d).mono ?_
    rintro _ W36 ⟨A17, n17, c17, rfl, hl17, hc17, hm17, hO17, p36, hp36⟩
    have qHB := Lib.hid (below_to hp36 HB.out)
    have qHR1 := Lib.hid (row_to hp36 HR1.out)
    have qHK1 := Lib.hid (Blk.to hp36 HK1.out)
    have qHK2 := Lib.hid (Blk.to hp36 HK2.out)
    have qHR2 := Lib.hid (row_to hp36 HR2.out)
    have qHK3 := Lib.hid (Blk.to hp36 HK3.out)
    have qHR11 := Lib.hid (row_to hp36 HR11.out)
    have qHK13 := Lib.hid (Blk.to hp36 HK13.out)
    have qHR12 := Lib.hid (row_to hp36 HR12.out)
    have qHR13 := Lib.hid (row_to hp36 HR13.out)
    have qHK14 := Lib.hid (Blk.to hp36 HK14.out)
    have qHK15 := Lib.hid (Blk.to hp36 HK15.out)
    have qHK16 := Lib.hid (Blk.to hp36 HK16.out)
    have qHR14 := Lib.hid (row_to hp36 HR14.out)
    have qHK17 := Lib.hid (Blk.to hp36 HK17.out)
    have qHR15 := Lib.hid (row_to hp36 HR15.out)
    have qHK18 := Lib.hid (Blk.to hp36 HK18.out)
    have qHR16 := Lib.hid (row_to hp36 HR16.out)
    have qHK19 := Lib.hid (Blk.to hp36 HK19.out)
    clear HB HR1 cHK1_0 zHK1_0 cHK1_1 zHK1_1 cHK1_2 zHK1_2 cHK1_3 zHK1_3 cHK1_4 zHK1_4 cHK1_5 zHK1_5 lHK1 mHK1 HK1 cHK2_0 zHK2_0 cHK2_1 zHK2_1 cHK2_2 zHK2_2 cHK2_3 zHK2_3 cHK2_4 zHK2_4 lHK2 mHK2 HK2 HR2 cHK3_0 zHK3_0 cHK3_1 zHK3_1 cHK3_2 zHK3_2 cHK3_3 zHK3_3 cHK3_4 zHK3_4 cHK3_5 zHK3_5 lHK3 mHK3 HK3 HR11 cHK13_0 zHK13_0 cHK13_1 zHK13_1 cHK13_2 zHK13_2 cHK13_3 zHK13_3 cHK13_4 zHK13_4 cHK13_5 zHK13_5 lHK13 mHK13 HK13 HR12 HR13 cHK14_0 zHK14_0 cHK14_1 zHK14_1 cHK14_2 zHK14_2 cHK14_3 zHK14_3 cHK14_4 zHK14_4 cHK14_5 zHK14_5 lHK14 mHK14 HK14 cHK15_0 zHK15_0 cHK15_1 zHK15_1 cHK15_2 zHK15_2 cHK15_3 zHK15_3 cHK15_4 zHK15_4 cHK15_5 zHK15_5 lHK15 mHK15 HK15 cHK16_0 zHK16_0 cHK16_1 zHK16_1 cHK16_2 zHK16_2 cHK16_3 zHK16_3 cHK16_4 zHK16_4 cHK16_5 zHK16_5 lHK16 mHK16 HK16 HR14 cHK17_0 zHK17_0 cHK17_1 zHK17_1 cHK17_2 zHK17_2 cHK17_3 zHK17_3 cHK17_4 zHK17_4 cHK17_5 zHK17_5 lHK17 mHK17 HK17 HR15 cHK18_0 zHK18_0 cHK18_1 zHK18_1 cHK18_2 zHK18_2 cHK18_3 zHK18_3 cHK18_4 zHK18_4 cHK18_5 zHK18_5 lHK18 mHK18 HK18 HR16 cHK19_0 zHK19_0 cHK19_1 zHK19_1 cHK19_2 zHK19_2 cHK19_3 zHK19_3 cHK19_4 zHK19_4 cHK19_5 zHK19_5 lHK19 mHK19 HK19 hp36
    have HB := qHB
    clear qHB
    have HR1 := qHR1
    clear qHR1
    have HK1 := qHK1
    clear qHK1
    have cHK1_0 := HK1.out.cell (i := 0) rfl
    have zHK1_0 := HK1.out.frozen 0
    have cHK1_1 := HK1.out.cell (i := 1) rfl
    have zHK1_1 := HK1.out.frozen 1
    have cHK1_2 := HK1.out.cell (i := 2) rfl
    have zHK1_2 := HK1.out.frozen 2
    have cHK1_3 := HK1.out.cell (i := 3) rfl
    have zHK1_3 := HK1.out.frozen 3
    have cHK1_4 := HK1.out.cell (i := 4) rfl
    have zHK1_4 := HK1.out.frozen 4
    have cHK1_5 := HK1.out.cell (i := 5) rfl
    have zHK1_5 := HK1.out.frozen 5
    have lHK1 := HK1.out.lt
    have mHK1 := Nat.le_of_lt lHK1
    have HK2 := qHK2
    clear qHK2
    have cHK2_0 := HK2.out.cell (i := 0) rfl
    have zHK2_0 := HK2.out.frozen 0
    have cHK2_1 := HK2.out.cell (i := 1) rfl
    have zHK2_1 := HK2.out.frozen 1
    have cHK2_2 := HK2.out.cell (i := 2) rfl
    have zHK2_2 := HK2.out.frozen 2
    have cHK2_3 := HK2.out.cell (i := 3) rfl
    have zHK2_3 := HK2.out.frozen 3
    have cHK2_4 := HK2.out.cell (i := 4) rfl
    have zHK2_4 := HK2.out.frozen 4
    have lHK2 := HK2.out.lt
    have mHK2 := Nat.le_of_lt lHK2
    have HR2 := qHR2
    clear qHR2
    have HK3 := qHK3
    clear qHK3
    have cHK3_0 := HK3.out.cell (i := 0) rfl
    have zHK3_0 := HK3.out.frozen 0
    have cHK3_1 := HK3.out.cell (i := 1) rfl
    have zHK3_1 := HK3.out.frozen 1
    have cHK3_2 := HK3.out.cell (i := 2) rfl
    have zHK3_2 := HK3.out.frozen 2
    have cHK3_3 := HK3.out.cell (i := 3) rfl
    have zHK3_3 := HK3.out.frozen 3
    have cHK3_4 := HK3.out.cell (i := 4) rfl
    have zHK3_4 := HK3.out.frozen 4
    have cHK3_5 := HK3.out.cell (i := 5) rfl
    have zHK3_5 := HK3.out.frozen 5
    have lHK3 := HK3.out.lt
    have mHK3 := Nat.le_of_lt lHK3
    have HR11 := qHR11
    clear qHR11
    have HK13 := qHK13
    clear qHK13
    have cHK13_0 := HK13.out.cell (i := 0) rfl
    have zHK13_0 := HK13.out.frozen 0
    have cHK13_1 := HK13.out.cell (i := 1) rfl
    have zHK13_1 := HK13.out.frozen 1
    have cHK13_2 := HK13.out.cell (i := 2) rfl
    have zHK13_2 := HK13.out.frozen 2
    have cHK13_3 := HK13.out.cell (i := 3) rfl
    have zHK13_3 := HK13.out.frozen 3
    have cHK13_4 := HK13.out.cell (i := 4) rfl
    have zHK13_4 := HK13.out.frozen 4
    have cHK13_5 := HK13.out.cell (i := 5) rfl
    have zHK13_5 := HK13.out.frozen 5
    have lHK13 := HK13.out.lt
    have mHK13 := Nat.le_of_lt lHK13
    have HR12 := qHR12
    clear qHR12
    have HR13 := qHR13
    clear qHR13
    have HK14 := qHK14
    clear qHK14
    have cHK14_0 := HK14.out.cell (i := 0) rfl
    have zHK14_0 := HK14.out.frozen 0
    have cHK14_1 := HK14.out.cell (i := 1) rfl
    have zHK14_1 := HK14.out.frozen 1
    have cHK14_2 := HK14.out.cell (i := 2) rfl
    have zHK14_2 := HK14.out.frozen 2
    have cHK14_3 := HK14.out.cell (i := 3) rfl
    have zHK14_3 := HK14.out.frozen 3
    have cHK14_4 := HK14.out.cell (i := 4) rfl
    have zHK14_4 := HK14.out.frozen 4
    have cHK14_5 := HK14.out.cell (i := 5) rfl
    have zHK14_5 := HK14.out.frozen 5
    have lHK14 := HK14.out.lt
    have mHK14 := Nat.le_of_lt lHK14
    have HK15 := qHK15
    clear qHK15
    have cHK15_0 := HK15.out.cell (i := 0) rfl
    have zHK15_0 := HK15.out.frozen 0
    have cHK15_1 := HK15.out.cell (i := 1) rfl
    have zHK15_1 := HK15.out.frozen 1
    have cHK15_2 := HK15.out.cell (i := 2) rfl
    have zHK15_2 := HK15.out.frozen 2
    have cHK15_3 := HK15.out.cell (i := 3) rfl
    have zHK15_3 := HK15.out.frozen 3
    have cHK15_4 := HK15.out.cell (i := 4) rfl
    have zHK15_4 := HK15.out.frozen 4
    have cHK15_5 := HK15.out.cell (i := 5) rfl
    have zHK15_5 := HK15.out.frozen 5
    have lHK15 := HK15.out.lt
    have mHK15 := Nat.le_of_lt lHK15
    have HK16 := qHK16
    clear qHK16
    have cHK16_0 := HK16.out.cell (i := 0) rfl
    have zHK16_0 := HK16.out.frozen 0
    have cHK16_1 := HK16.out.cell (i := 1) rfl
    have zHK16_1 := HK16.out.frozen 1
    have cHK16_2 := HK16.out.cell (i := 2) rfl
    have zHK16_2 := HK16.out.frozen 2
    have cHK16_3 := HK16.out.cell (i := 3) rfl
    have zHK16_3 := HK16.out.frozen 3
    have cHK16_4 := HK16.out.cell (i := 4) rfl
    have zHK16_4 := HK16.out.frozen 4
    have cHK16_5 := HK16.out.cell (i := 5) rfl
    have zHK16_5 := HK16.out.frozen 5
    have lHK16 := HK16.out.lt
    have mHK16 := Nat.le_of_lt lHK16
    have HR14 := qHR14
    clear qHR14
    have HK17 := qHK17
    clear qHK17
    have cHK17_0 := HK17.out.cell (i := 0) rfl
    have zHK17_0 := HK17.out.frozen 0
    have cHK17_1 := HK17.out.cell (i := 1) rfl
    have zHK17_1 := HK17.out.frozen 1
    have cHK17_2 := HK17.out.cell (i := 2) rfl
    have zHK17_2 := HK17.out.frozen 2
    have cHK17_3 := HK17.out.cell (i := 3) rfl
    have zHK17_3 := HK17.out.frozen 3
    have cHK17_4 := HK17.out.cell (i := 4) rfl
    have zHK17_4 := HK17.out.frozen 4
    have cHK17_5 := HK17.out.cell (i := 5) rfl
    have zHK17_5 := HK17.out.frozen 5
    have lHK17 := HK17.out.lt
    have mHK17 := Nat.le_of_lt lHK17
    have HR15 := qHR15
    clear qHR15
    have HK18 := qHK18
    clear qHK18
    have cHK18_0 := HK18.out.cell (i := 0) rfl
    have zHK18_0 := HK18.out.frozen 0
    have cHK18_1 := HK18.out.cell (i := 1) rfl
    have zHK18_1 := HK18.out.frozen 1
    have cHK18_2 := HK18.out.cell (i := 2) rfl
    have zHK18_2 := HK18.out.frozen 2
    have cHK18_3 := HK18.out.cell (i := 3) rfl
    have zHK18_3 := HK18.out.frozen 3
    have cHK18_4 := HK18.out.cell (i := 4) rfl
    have zHK18_4 := HK18.out.frozen 4
    have cHK18_5 := HK18.out.cell (i := 5) rfl
    have zHK18_5 := HK18.out.frozen 5
    have lHK18 := HK18.out.lt
    have mHK18 := Nat.le_of_lt lHK18
    have HR16 := qHR16
    clear qHR16
    have HK19 := qHK19
    clear qHK19
    have cHK19_0 := HK19.out.cell (i := 0) rfl
    have zHK19_0 := HK19.out.frozen 0
    have cHK19_1 := HK19.out.cell (i := 1) rfl
    have zHK19_1 := HK19.out.frozen 1
    have cHK19_2 := HK19.out.cell (i := 2) rfl
    have zHK19_2 := HK19.out.frozen 2
    have cHK19_3 := HK19.out.cell (i := 3) rfl
    have zHK19_3 := HK19.out.frozen 3
    have cHK19_4 := HK19.out.cell (i := 4) rfl
    have zHK19_4 := HK19.out.frozen 4
    have cHK19_5 := HK19.out.cell (i := 5) rfl
    have zHK19_5 := HK19.out.frozen 5
    have lHK19 := HK19.out.lt
    have mHK19 := Nat.le_of_lt lHK19
    have hsW36 : w.heap.size ≤ W36.heap.size := HB.out.size
    have HR17 := Lib.hid (hO17.row)
    have HL17 := Lib.hid hl17
    clear hO17 hl17
    go_wp2_with fail
    refine wp_anchor (F := fun V => (∃ p : Later, V = later W36 p) ∧ Blk (W36.heap.size) [.int .i64 2, .slice A17 n17 c17, .int .i64 0, .int .i64 1, .int .i64 2, .int .i64 1] 28 V ∧ Blk (W36.heap.size + 1) [.int .i64 0, .int .i64 0, .int .i64 0, .int .i64 0, .int .i64 0] 33 V) ⟨later_of_below (by (repeat (first | with_reducible exact Below.refl _ _ | with_reducible refine Below.drew ?_ | with_reducible refine Below.alloc ?_ (by first | exact Nat.le_refl _ | (simp; done) | (simp; omega)) _))), (by (repeat (first | exact Blk.new _ _ [.int .i64 2, .slice A17 n17 c17, .int .i64 0, .int .i64 1, .int .i64 2, .int .i64 1] _ (by first | rfl | (simp; done)) | with_reducible refine Blk.alloc ?_ _))), (by (repeat (first | exact Blk.new _ _ [.int .i64 0, .int .i64 0, .int .i64 0, .int .i64 0, .int .i64 0] _ (by first | rfl | (simp; done)) | with_reducible refine Blk.alloc ?_ _)))⟩ (fun W37 hV => ?_)
    obtain ⟨⟨p, hp⟩, qHK200, qHK210⟩ := hV
    have qHB := Lib.hid (below_to hp HB.out)
    have qHR1 := Lib.hid (row_to hp HR1.out)
    have qHK1 := Lib.hid (Blk.to hp HK1.out)
    have qHK2 := Lib.hid (Blk.to hp HK2.out)
    have qHR2 := Lib.hid (row_to hp HR2.out)
    have qHK3 := Lib.hid (Blk.to hp HK3.out)
    have qHR11 := Lib.hid (row_to hp HR11.out)
    have qHK13 := Lib.hid (Blk.to hp HK13.out)
    have qHR12 := Lib.hid (row_to hp HR12.out)
    have qHR13 := Lib.hid (row_to hp HR13.out)
    have qHK14 := Lib.hid (Blk.to hp HK14.out)
    have qHK15 := Lib.hid (Blk.to hp HK15.out)
    have qHK16 := Lib.hid (Blk.to hp HK16.out)
    have qHR14 := Lib.hid (row_to hp HR14.out)
    have qHK17 := Lib.hid (Blk.to hp HK17.out)
    have qHR15 := Lib.hid (row_to hp HR15.out)
    have qHK18 := Lib.hid (Blk.to hp HK18.out)
    have qHR16 := Lib.hid (row_to hp HR16.out)
    have qHK19 := Lib.hid (Blk.to hp HK19.out)
    have qHR17 := Lib.hid (row_to hp HR17.out)
    clear HB HR1 cHK1_0 zHK1_0 cHK1_1 zHK1_1 cHK1_2 zHK1_2 cHK1_3 zHK1_3 cHK1_4 zHK1_4 cHK1_5 zHK1_5 lHK1 mHK1 HK1 cHK2_0 zHK2_0 cHK2_1 zHK2_1 cHK2_2 zHK2_2 cHK2_3 zHK2_3 cHK2_4 zHK2_4 lHK2 mHK2 HK2 HR2 cHK3_0 zHK3_0 cHK3_1 zHK3_1 cHK3_2 zHK3_2 cHK3_3 zHK3_3 cHK3_4 zHK3_4 cHK3_5 zHK3_5 lHK3 mHK3 HK3 HR11 cHK13_0 zHK13_0 cHK13_1 zHK13_1 cHK13_2 zHK13_2 cHK13_3 zHK13_3 cHK13_4 zHK13_4 cHK13_5 zHK13_5 lHK13 mHK13 HK13 HR12 HR13 cHK14_0 zHK14_0 cHK14_1 zHK14_1 cHK14_2 zHK14_2 cHK14_3 zHK14_3 cHK14_4 zHK14_4 cHK14_5 zHK14_5 lHK14 mHK14 HK14 cHK15_0 zHK15_0 cHK15_1 zHK15_1 cHK15_2 zHK15_2 cHK15_3 zHK15_3 cHK15_4 zHK15_4 cHK15_5 zHK15_5 lHK15 mHK15 HK15 cHK16_0 zHK16_0 cHK16_1 zHK16_1 cHK16_2 zHK16_2 cHK16_3 zHK16_3 cHK16_4 zHK16_4 cHK16_5 zHK16_5 lHK16 mHK16 HK16 HR14 cHK17_0 zHK17_0 cHK17_1 zHK17_1 cHK17_2 zHK17_2 cHK17_3 zHK17_3 cHK17_4 zHK17_4 cHK17_5 zHK17_5 lHK17 mHK17 HK17 HR15 cHK18_0 zHK18_0 cHK18_1 zHK18_1 cHK18_2 zHK18_2 cHK18_3 zHK18_3 cHK18_4 zHK18_4 cHK18_5 zHK18_5 lHK18 mHK18 HK18 HR16 cHK19_0 zHK19_0 cHK19_1 zHK19_1 cHK19_2 zHK19_2 cHK19_3 zHK19_3 cHK19_4 zHK19_4 cHK19_5 zHK19_5 lHK19 mHK19 HK19 HR17 hp
    have HB := qHB
    clear qHB
    have HR1 := qHR1
    clear qHR1
    have HK1 := qHK1
    clear qHK1
    have cHK1_0 := HK1.out.cell (i := 0) rfl
    have zHK1_0 := HK1.out.frozen 0
    have cHK1_1 := HK1.out.cell (i := 1) rfl
    have zHK1_1 := HK1.out.frozen 1
    have cHK1_2 := HK1.out.cell (i := 2) rfl
    have zHK1_2 := HK1.out.frozen 2
    have cHK1_3 := HK1.out.cell (i := 3) rfl
    have zHK1_3 := HK1.out.frozen 3
    have cHK1_4 := HK1.out.cell (i := 4) rfl
    have zHK1_4 := HK1.out.frozen 4
    have cHK1_5 := HK1.out.cell (i := 5) rfl
    have zHK1_5 := HK1.out.frozen 5
    have lHK1 := HK1.out.lt
    have mHK1 := Nat.le_of_lt lHK1
    have HK2 := qHK2
    clear qHK2
    have cHK2_0 := HK2.out.cell (i := 0) rfl
    have zHK2_0 := HK2.out.frozen 0
    have cHK2_1 := HK2.out.cell (i := 1) rfl
    have zHK2_1 := HK2.out.frozen 1
    have cHK2_2 := HK2.out.cell (i := 2) rfl
    have zHK2_2 := HK2.out.frozen 2
    have cHK2_3 := HK2.out.cell (i := 3) rfl
    have zHK2_3 := HK2.out.frozen 3
    have cHK2_4 := HK2.out.cell (i := 4) rfl
    have zHK2_4 := HK2.out.frozen 4
    have lHK2 := HK2.out.lt
    have mHK2 := Nat.le_of_lt lHK2
    have HR2 := qHR2
    clear qHR2
    have HK3 := qHK3
    clear qHK3
    have cHK3_0 := HK3.out.cell (i := 0) rfl
    have zHK3_0 := HK3.out.frozen 0
    have cHK3_1 := HK3.out.cell (i := 1) rfl
    have zHK3_1 := HK3.out.frozen 1
    have cHK3_2 := HK3.out.cell (i := 2) rfl
    have zHK3_2 := HK3.out.frozen 2
    have cHK3_3 := HK3.out.cell (i := 3) rfl
    have zHK3_3 := HK3.out.frozen 3
    have cHK3_4 := HK3.out.cell (i := 4) rfl
    have zHK3_4 := HK3.out.frozen 4
    have cHK3_5 := HK3.out.cell (i := 5) rfl
    have zHK3_5 := HK3.out.frozen 5
    have lHK3 := HK3.out.lt
    have mHK3 := Nat.le_of_lt lHK3
    have HR11 := qHR11
    clear qHR11
    have HK13 := qHK13
    clear qHK13
    have cHK13_0 := HK13.out.cell (i := 0) rfl
    have zHK13_0 := HK13.out.frozen 0
    have cHK13_1 := HK13.out.cell (i := 1) rfl
    have zHK13_1 := HK13.out.frozen 1
    have cHK13_2 := HK13.out.cell (i := 2) rfl
    have zHK13_2 := HK13.out.frozen 2
    have cHK13_3 := HK13.out.cell (i := 3) rfl
    have zHK13_3 := HK13.out.frozen 3
    have cHK13_4 := HK13.out.cell (i := 4) rfl
    have zHK13_4 := HK13.out.frozen 4
    have cHK13_5 := HK13.out.cell (i := 5) rfl
    have zHK13_5 := HK13.out.frozen 5
    have lHK13 := HK13.out.lt
    have mHK13 := Nat.le_of_lt lHK13
    have HR12 := qHR12
    clear qHR12
    have HR13 := qHR13
    clear qHR13
    have HK14 := qHK14
    clear qHK14
    have cHK14_0 := HK14.out.cell (i := 0) rfl
    have zHK14_0 := HK14.out.frozen 0
    have cHK14_1 := HK14.out.cell (i := 1) rfl
    have zHK14_1 := HK14.out.frozen 1
    have cHK14_2 := HK14.out.cell (i := 2) rfl
    have zHK14_2 := HK14.out.frozen 2
    have cHK14_3 := HK14.out.cell (i := 3) rfl
    have zHK14_3 := HK14.out.frozen 3
    have cHK14_4 := HK14.out.cell (i := 4) rfl
    have zHK14_4 := HK14.out.frozen 4
    have cHK14_5 := HK14.out.cell (i := 5) rfl
    have zHK14_5 := HK14.out.frozen 5
    have lHK14 := HK14.out.lt
    have mHK14 := Nat.le_of_lt lHK14
    have HK15 := qHK15
    clear qHK15
    have cHK15_0 := HK15.out.cell (i := 0) rfl
    have zHK15_0 := HK15.out.frozen 0
    have cHK15_1 := HK15.out.cell (i := 1) rfl
    have zHK15_1 := HK15.out.frozen 1
    have cHK15_2 := HK15.out.cell (i := 2) rfl
    have zHK15_2 := HK15.out.frozen 2
    have cHK15_3 := HK15.out.cell (i := 3) rfl
    have zHK15_3 := HK15.out.frozen 3
    have cHK15_4 := HK15.out.cell (i := 4) rfl
    have zHK15_4 := HK15.out.frozen 4
    have cHK15_5 := HK15.out.cell (i := 5) rfl
    have zHK15_5 := HK15.out.frozen 5
    have lHK15 := HK15.out.lt
    have mHK15 := Nat.le_of_lt lHK15
    have HK16 := qHK16
    clear qHK16
    have cHK16_0 := HK16.out.cell (i := 0) rfl
    have zHK16_0 := HK16.out.frozen 0
    have cHK16_1 := HK16.out.cell (i := 1) rfl
    have zHK16_1 := HK16.out.frozen 1
    have cHK16_2 := HK16.out.cell (i := 2) rfl
    have zHK16_2 := HK16.out.frozen 2
    have cHK16_3 := HK16.out.cell (i := 3) rfl
    have zHK16_3 := HK16.out.frozen 3
    have cHK16_4 := HK16.out.cell (i := 4) rfl
    have zHK16_4 := HK16.out.frozen 4
    have cHK16_5 := HK16.out.cell (i := 5) rfl
    have zHK16_5 := HK16.out.frozen 5
    have lHK16 := HK16.out.lt
    have mHK16 := Nat.le_of_lt lHK16
    have HR14 := qHR14
    clear qHR14
    have HK17 := qHK17
    clear qHK17
    have cHK17_0 := HK17.out.cell (i := 0) rfl
    have zHK17_0 := HK17.out.frozen 0
    have cHK17_1 := HK17.out.cell (i := 1) rfl
    have zHK17_1 := HK17.out.frozen 1
    have cHK17_2 := HK17.out.cell (i := 2) rfl
    have zHK17_2 := HK17.out.frozen 2
    have cHK17_3 := HK17.out.cell (i := 3) rfl
    have zHK17_3 := HK17.out.frozen 3
    have cHK17_4 := HK17.out.cell (i := 4) rfl
    have zHK17_4 := HK17.out.frozen 4
    have cHK17_5 := HK17.out.cell (i := 5) rfl
    have zHK17_5 := HK17.out.frozen 5
    have lHK17 := HK17.out.lt
    have mHK17 := Nat.le_of_lt lHK17
    have HR15 := qHR15
    clear qHR15
    have HK18 := qHK18
    clear qHK18
    have cHK18_0 := HK18.out.cell (i := 0) rfl
    have zHK18_0 := HK18.out.frozen 0
    have cHK18_1 := HK18.out.cell (i := 1) rfl
    have zHK18_1 := HK18.out.frozen 1
    have cHK18_2 := HK18.out.cell (i := 2) rfl
    have zHK18_2 := HK18.out.frozen 2
    have cHK18_3 := HK18.out.cell (i := 3) rfl
    have zHK18_3 := HK18.out.frozen 3
    have cHK18_4 := HK18.out.cell (i := 4) rfl
    have zHK18_4 := HK18.out.frozen 4
    have cHK18_5 := HK18.out.cell (i := 5) rfl
    have zHK18_5 := HK18.out.frozen 5
    have lHK18 := HK18.out.lt
    have mHK18 := Nat.le_of_lt lHK18
    have HR16 := qHR16
    clear qHR16
    have HK19 := qHK19
    clear qHK19
    have cHK19_0 := HK19.out.cell (i := 0) rfl
    have zHK19_0 := HK19.out.frozen 0
    have cHK19_1 := HK19.out.cell (i := 1) rfl
    have zHK19_1 := HK19.out.frozen 1
    have cHK19_2 := HK19.out.cell (i := 2) rfl
    have zHK19_2 := HK19.out.frozen 2
    have cHK19_3 := HK19.out.cell (i := 3) rfl
    have zHK19_3 := HK19.out.frozen 3
    have cHK19_4 := HK19.out.cell (i := 4) rfl
    have zHK19_4 := HK19.out.frozen 4
    have cHK19_5 := HK19.out.cell (i := 5) rfl
    have zHK19_5 := HK19.out.frozen 5
    have lHK19 := HK19.out.lt
    have mHK19 := Nat.le_of_lt lHK19
    have HR17 := qHR17
    clear qHR17
    have hsW37 : w.heap.size ≤ W37.heap.size := HB.out.size
    have HK20 := Lib.hid (qHK200)
    have cHK20_0 := HK20.out.cell (i := 0) rfl
    have zHK20_0 := HK20.out.frozen 0
    have cHK20_1 := HK20.out.cell (i := 1) rfl
    have zHK20_1 := HK20.out.frozen 1
    have cHK20_2 := HK20.out.cell (i := 2) rfl
    have zHK20_2 := HK20.out.frozen 2
    have cHK20_3 := HK20.out.cell (i := 3) rfl
    have zHK20_3 := HK20.out.frozen 3
    have cHK20_4 := HK20.out.cell (i := 4) rfl
    have zHK20_4 := HK20.out.frozen 4
    have cHK20_5 := HK20.out.cell (i := 5) rfl
    have zHK20_5 := HK20.out.frozen 5
    have lHK20 := HK20.out.lt
    have mHK20 := Nat.le_of_lt lHK20
    clear qHK200
    have HK21 := Lib.hid (qHK210)
    have cHK21_0 := HK21.out.cell (i := 0) rfl
    have zHK21_0 := HK21.out.frozen 0
    have cHK21_1 := HK21.out.cell (i := 1) rfl
    have zHK21_1 := HK21.out.frozen 1
    have cHK21_2 := HK21.out.cell (i := 2) rfl
    have zHK21_2 := HK21.out.frozen 2
    have cHK21_3 := HK21.out.cell (i := 3) rfl
    have zHK21_3 := HK21.out.frozen 3
    have cHK21_4 := HK21.out.cell (i := 4) rfl
    have zHK21_4 := HK21.out.frozen 4
    have lHK21 := HK21.out.lt
    have mHK21 := Nat.le_of_lt lHK21
    clear qHK210
    clear cHK20_0 zHK20_0 cHK20_1 zHK20_1 cHK20_2 zHK20_2 cHK20_3 zHK20_3 cHK20_4 zHK20_4 cHK20_5 zHK20_5 lHK20 mHK20
    clear HK20
    clear cHK19_0 zHK19_0 cHK19_1 zHK19_1 cHK19_2 zHK19_2 cHK19_3 zHK19_3 cHK19_4 zHK19_4 cHK19_5 zHK19_5 lHK19 mHK19
    clear HK19
    clear cHK17_0 zHK17_0 cHK17_1 zHK17_1 cHK17_2 zHK17_2 cHK17_3 zHK17_3 cHK17_4 zHK17_4 cHK17_5 zHK17_5 lHK17 mHK17
    clear HK17
    clear cHK16_0 zHK16_0 cHK16_1 zHK16_1 cHK16_2 zHK16_2 cHK16_3 zHK16_3 cHK16_4 zHK16_4 cHK16_5 zHK16_5 lHK16 mHK16
    clear HK16
    clear HR14
    clear HR16
    clear HR17
    obtain ⟨fl, hfl⟩ : ∃ x, ((ofEp xs11 ep).length : Int) = x := ⟨_, rfl⟩
    obtain ⟨sl, hsl⟩ : ∃ x, decide (cap12 = cap13 ∧ cr12 = cr13 ∧ bk12 = bk13 ∧ st12 = st13 ∧ gt12 = gt13 ∧ xs12 = xs13) = x := ⟨_, rfl⟩
    have HFL := Lib.hid hfl
    have HSL := Lib.hid hsl
    clear hfl hsl
    cases ok
    · obtain ⟨rfl, rfl, rfl⟩ := (send_facts HZ1.out).2 rfl
      with_reducible refine wp_region_later (by kernel_rfl) (by kernel_rfl) ?_
      (try dsimp only [List.append])
      (repeat (first | go_big_quiet_skip | go_big_quiet_step ((first | (go_at_call 22; first | with_reducible exact calls_later (c_iInFlight cap11 cr11 bk11 st11 gt11 A11 n11 c11 xs11 ep _ fl HL11.out (by omega) (HR11.out.later _) HFL.out) | with_reducible exact calls_later2 (c_iInFlight cap11 cr11 bk11 st11 gt11 A11 n11 c11 xs11 ep _ fl HL11.out (by omega) (HR11.out.later _) HFL.out)) | (go_at_call 23; first | with_reducible exact calls_later (c_sInFlight cap11 cr11 bk11 st11 gt11 A11 n11 c11 xs11 ep _ fl HL11.out (by omega) (HR11.out.later _) HFL.out) | with_reducible exact calls_later2 (c_sInFlight cap11 cr11 bk11 st11 gt11 A11 n11 c11 xs11 ep _ fl HL11.out (by omega) (HR11.out.later _) HFL.out)) | (go_at_call 24; first | with_reducible exact calls_later (c_iSameLink cap12 cr12 bk12 st12 gt12 cap13 cr13 bk13 st13 gt13 A12 A13 n12 n13 c12 c13 xs12 xs13 _ sl HL12.out HL13.out (by omega) (by omega) (HR12.out.later _) (HR13.out.later _) HSL.out) | with_reducible exact calls_later2 (c_iSameLink cap12 cr12 bk12 st12 gt12 cap13 cr13 bk13 st13 gt13 A12 A13 n12 n13 c12 c13 xs12 xs13 _ sl HL12.out HL13.out (by omega) (by omega) (HR12.out.later _) (HR13.out.later _) HSL.out)) | (go_at_call 14; first | with_reducible exact calls_later (c_sameLink cap1 cr1 bk1 st1 gt1 cap1 cr1 bk1 st1 gt1 A2 A1 n2 n1 c2 c1 _ _ _ true HL2.out HL1.out (by omega) (by omega) (HR2.out.later _) (HR1.out.later _) (by simp)) | with_reducible exact calls_later2 (c_sameLink cap1 cr1 bk1 st1 gt1 cap1 cr1 bk1 st1 gt1 A2 A1 n2 n1 c2 c1 _ _ _ true HL2.out HL1.out (by omega) (by omega) (HR2.out.later _) (HR1.out.later _) (by simp)) | with_reducible exact calls_later (c_sameLink cap12 cr12 bk12 st12 gt12 cap13 cr13 bk13 st13 gt13 A12 A13 n12 n13 c12 c13 xs12 xs13 _ sl HL12.out HL13.out (by omega) (by omega) (HR12.out.later _) (HR13.out.later _) HSL.out) | with_reducible exact calls_later2 (c_sameLink cap12 cr12 bk12 st12 gt12 cap13 cr13 bk13 st13 gt13 A12 A13 n12 n13 c12 c13 xs12 xs13 _ sl HL12.out HL13.out (by omega) (by omega) (HR12.out.later _) (HR13.out.later _) HSL.out)))) | quiet_step ((first | (go_at_call 22; first | with_reducible exact calls_later (c_iInFlight cap11 cr11 bk11 st11 gt11 A11 n11 c11 xs11 ep _ fl HL11.out (by omega) (HR11.out.later _) HFL.out) | with_reducible exact calls_later2 (c_iInFlight cap11 cr11 bk11 st11 gt11 A11 n11 c11 xs11 ep _ fl HL11.out (by omega) (HR11.out.later _) HFL.out)) | (go_at_call 23; first | with_reducible exact calls_later (c_sInFlight cap11 cr11 bk11 st11 gt11 A11 n11 c11 xs11 ep _ fl HL11.out (by omega) (HR11.out.later _) HFL.out) | with_reducible exact calls_later2 (c_sInFlight cap11 cr11 bk11 st11 gt11 A11 n11 c11 xs11 ep _ fl HL11.out (by omega) (HR11.out.later _) HFL.out)) | (go_at_call 24; first | with_reducible exact calls_later (c_iSameLink cap12 cr12 bk12 st12 gt12 cap13 cr13 bk13 st13 gt13 A12 A13 n12 n13 c12 c13 xs12 xs13 _ sl HL12.out HL13.out (by omega) (by omega) (HR12.out.later _) (HR13.out.later _) HSL.out) | with_reducible exact calls_later2 (c_iSameLink cap12 cr12 bk12 st12 gt12 cap13 cr13 bk13 st13 gt13 A12 A13 n12 n13 c12 c13 xs12 xs13 _ sl HL12.out HL13.out (by omega) (by omega) (HR12.out.later _) (HR13.out.later _) HSL.out)) | (go_at_call 14; first | with_reducible exact calls_later (c_sameLink cap1 cr1 bk1 st1 gt1 cap1 cr1 bk1 st1 gt1 A2 A1 n2 n1 c2 c1 _ _ _ true HL2.out HL1.out (by omega) (by omega) (HR2.out.later _) (HR1.out.later _) (by simp)) | with_reducible exact calls_later2 (c_sameLink cap1 cr1 bk1 st1 gt1 cap1 cr1 bk1 st1 gt1 A2 A1 n2 n1 c2 c1 _ _ _ true HL2.out HL1.out (by omega) (by omega) (HR2.out.later _) (HR1.out.later _) (by simp)) | with_reducible exact calls_later (c_sameLink cap12 cr12 bk12 st12 gt12 cap13 cr13 bk13 st13 gt13 A12 A13 n12 n13 c12 c13 xs12 xs13 _ sl HL12.out HL13.out (by omega) (by omega) (HR12.out.later _) (HR13.out.later _) HSL.out) | with_reducible exact calls_later2 (c_sameLink cap12 cr12 bk12 st12 gt12 cap13 cr13 bk13 st13 gt13 A12 A13 n12 n13 c12 c13 xs12 xs13 _ sl HL12.out HL13.out (by omega) (by omega) (HR12.out.later _) (HR13.out.later _) HSL.out)))))); refine wpQuiet_nil ?_; rintro _ ⟨p, rfl⟩
      go_wp2_with fail
      go_ret
      exact Gives.mk (ret_bool (by first | rfl | simp)) (HB.out.trans ((below_later _ _).mono HB.out.size))
    · obtain ⟨hko, hcs⟩ := (send_facts HZ1.out).1 rfl
      have HKO := Lib.hid hko
      clear hko
      subst hcs
      have hwc : IntKind.i64.wrap (cr1 - 1) = cr1 - 1 := IntWalk.i64_in _ (by unfold Bd at hcr1; omega)
      with_reducible refine wp_region_later (by kernel_rfl) (by kernel_rfl) ?_
      (try dsimp only [List.append])
      (repeat (first | go_big_quiet_skip | go_big_quiet_step ((first | (go_at_call 22; first | with_reducible exact calls_later (c_iInFlight cap11 cr11 bk11 st11 gt11 A11 n11 c11 xs11 ep _ fl HL11.out (by omega) (HR11.out.later _) HFL.out) | with_reducible exact calls_later2 (c_iInFlight cap11 cr11 bk11 st11 gt11 A11 n11 c11 xs11 ep _ fl HL11.out (by omega) (HR11.out.later _) HFL.out)) | (go_at_call 23; first | with_reducible exact calls_later (c_sInFlight cap11 cr11 bk11 st11 gt11 A11 n11 c11 xs11 ep _ fl HL11.out (by omega) (HR11.out.later _) HFL.out) | with_reducible exact calls_later2 (c_sInFlight cap11 cr11 bk11 st11 gt11 A11 n11 c11 xs11 ep _ fl HL11.out (by omega) (HR11.out.later _) HFL.out)) | (go_at_call 24; first | with_reducible exact calls_later (c_iSameLink cap12 cr12 bk12 st12 gt12 cap13 cr13 bk13 st13 gt13 A12 A13 n12 n13 c12 c13 xs12 xs13 _ sl HL12.out HL13.out (by omega) (by omega) (HR12.out.later _) (HR13.out.later _) HSL.out) | with_reducible exact calls_later2 (c_iSameLink cap12 cr12 bk12 st12 gt12 cap13 cr13 bk13 st13 gt13 A12 A13 n12 n13 c12 c13 xs12 xs13 _ sl HL12.out HL13.out (by omega) (by omega) (HR12.out.later _) (HR13.out.later _) HSL.out)) | (go_at_call 11; first | with_reducible exact calls_later (c_sLinkOk cap1 (cr1 - 1) bk1 stS gt1 A2 n2 c2 ys _ true HL2.out (by omega) hcrS.i64 hbk1.i64 hstS.i64 hgt1.i64 (HR2.out.later _) HKO.out) | with_reducible exact calls_later2 (c_sLinkOk cap1 (cr1 - 1) bk1 stS gt1 A2 n2 c2 ys _ true HL2.out (by omega) hcrS.i64 hbk1.i64 hstS.i64 hgt1.i64 (HR2.out.later _) HKO.out)) | (go_at_call 14; first | with_reducible exact calls_later (c_sameLink cap12 cr12 bk12 st12 gt12 cap13 cr13 bk13 st13 gt13 A12 A13 n12 n13 c12 c13 xs12 xs13 _ sl HL12.out HL13.out (by omega) (by omega) (HR12.out.later _) (HR13.out.later _) HSL.out) | with_reducible exact calls_later2 (c_sameLink cap12 cr12 bk12 st12 gt12 cap13 cr13 bk13 st13 gt13 A12 A13 n12 n13 c12 c13 xs12 xs13 _ sl HL12.out HL13.out (by omega) (by omega) (HR12.out.later _) (HR13.out.later _) HSL.out)))) | quiet_step ((first | (go_at_call 22; first | with_reducible exact calls_later (c_iInFlight cap11 cr11 bk11 st11 gt11 A11 n11 c11 xs11 ep _ fl HL11.out (by omega) (HR11.out.later _) HFL.out) | with_reducible exact calls_later2 (c_iInFlight cap11 cr11 bk11 st11 gt11 A11 n11 c11 xs11 ep _ fl HL11.out (by omega) (HR11.out.later _) HFL.out)) | (go_at_call 23; first | with_reducible exact calls_later (c_sInFlight cap11 cr11 bk11 st11 gt11 A11 n11 c11 xs11 ep _ fl HL11.out (by omega) (HR11.out.later _) HFL.out) | with_reducible exact calls_later2 (c_sInFlight cap11 cr11 bk11 st11 gt11 A11 n11 c11 xs11 ep _ fl HL11.out (by omega) (HR11.out.later _) HFL.out)) | (go_at_call 24; first | with_reducible exact calls_later (c_iSameLink cap12 cr12 bk12 st12 gt12 cap13 cr13 bk13 st13 gt13 A12 A13 n12 n13 c12 c13 xs12 xs13 _ sl HL12.out HL13.out (by omega) (by omega) (HR12.out.later _) (HR13.out.later _) HSL.out) | with_reducible exact calls_later2 (c_iSameLink cap12 cr12 bk12 st12 gt12 cap13 cr13 bk13 st13 gt13 A12 A13 n12 n13 c12 c13 xs12 xs13 _ sl HL12.out HL13.out (by omega) (by omega) (HR12.out.later _) (HR13.out.later _) HSL.out)) | (go_at_call 11; first | with_reducible exact calls_later (c_sLinkOk cap1 (cr1 - 1) bk1 stS gt1 A2 n2 c2 ys _ true HL2.out (by omega) hcrS.i64 hbk1.i64 hstS.i64 hgt1.i64 (HR2.out.later _) HKO.out) | with_reducible exact calls_later2 (c_sLinkOk cap1 (cr1 - 1) bk1 stS gt1 A2 n2 c2 ys _ true HL2.out (by omega) hcrS.i64 hbk1.i64 hstS.i64 hgt1.i64 (HR2.out.later _) HKO.out)) | (go_at_call 14; first | with_reducible exact calls_later (c_sameLink cap12 cr12 bk12 st12 gt12 cap13 cr13 bk13 st13 gt13 A12 A13 n12 n13 c12 c13 xs12 xs13 _ sl HL12.out HL13.out (by omega) (by omega) (HR12.out.later _) (HR13.out.later _) HSL.out) | with_reducible exact calls_later2 (c_sameLink cap12 cr12 bk12 st12 gt12 cap13 cr13 bk13 st13 gt13 A12 A13 n12 n13 c12 c13 xs12 xs13 _ sl HL12.out HL13.out (by omega) (by omega) (HR12.out.later _) (HR13.out.later _) HSL.out)))))); refine wpQuiet_nil ?_; rintro _ ⟨p, rfl⟩
      go_wp2_with fail
      go_ret
      exact Gives.mk (ret_bool (by first | rfl | simp)) (HB.out.trans ((below_later _ _).mono HB.out.size))


set_option maxRecDepth 100000 in
theorem liftedFnLinks (os : Os) (started : os.Started) (H : Type) (enc : TypeId × Value → H) :
    ReturnsInHanded {} Try.checked os 4 .any (Rows.fnLinksSpec.pre6 enc Try.prog Try.f4 Rows.fnLinksRow.domain false) (Rows.fnLinksSpec.post enc Try.prog Try.f4 false true false false) := by
  refine returnsInHanded_of_change (C := Try.checked) own started (by kernel_rfl) Try.func4
    (ChangeSpec.witness6 (enc := enc) (C := Try.checked) false ⟨#[], #[.slice Option.none 0 0], []⟩ 8 (by as_aux_lemma => kernel_rfl) (by as_aux_lemma => kernel_rfl) (by as_aux_lemma => kernel_rfl) (by as_aux_lemma => kernel_rfl)) ?_
  intro W base args ds gs before hval0 hW0 _ _
  have hval : ∀ (j : Nat) t v, Try.f4.params[j]? = some t → args[j]? = some v → Value.okWide Try.prog W .any base t v := hval0
  have hW : DataW.Whole enc Try.prog Try.f4.params.toList Rows.fnLinksSpec.vars false W args.toList ds gs before := hW0
  obtain ⟨p, q, hA0, hV, hpq, hfz, hnd⟩ := id hW
  have hA : DataW.TrodAll enc Try.prog W 0 (fun _ => true) true Try.f4.params.toList args.toList ds p := hA0
  rw [Try.params4] at hA hval
  obtain ⟨v0, vs0, d0, ds0, p0, q0, hargs, rfl, rfl, h0, r0⟩ := trodAll_cons hA
  obtain ⟨rfl, rfl, rfl⟩ := trodAll_nil r0
  obtain rfl : args = #[v0] := by cases args; simp_all
  obtain ⟨rfl, rfl⟩ := trodVars_none hV
  obtain ⟨A0, n0, cap0, x0, rfl, hn0, hc0, hm0, hr0, -⟩ := open_bytes Try.underlying22 Try.underlying5 (by kernel_rfl) (hval 0 22 v0 rfl rfl) h0
  refine (w_Links A0 n0 cap0 x0 hn0 W hr0).mono fun e W' hg => ?_
  obtain ⟨he, hb⟩ := hg.below
  exact ⟨_, he, law_post laidOut rfl (by kernel_rfl) Try.underlying4 (by kernel_rfl) hW rfl hb⟩

set_option maxHeartbeats 3200000 in
theorem closedFnLinks : joinedFacts Try.checked.prog 4 Try.f4 Rows.fnLinksSpec Rows.fnLinksRow = true := by
  unfold joinedFacts
  repeat' (with_reducible refine and_mk ?_ ?_)
  all_goals (as_aux_lemma => kernel_rfl)
theorem namedFnLinks : Try.checked.prog.funcNamed Rows.fnLinksRow.func = some 4 := by as_aux_lemma => kernel_rfl
theorem instFnLinks : Try.f4.isInstance Try.checked.prog Rows.fnLinksRow.origin Rows.fnLinksRow.targs := of_decide_eq_true (by as_aux_lemma => kernel_rfl)
theorem wrapFnLinks : Try.f4.isWrapper Try.checked.prog Rows.fnLinksRow.wrapper Rows.fnLinksRow.mainSum := by unfold Func.isWrapper; first | (rw [if_pos (by decide +kernel)]; kernel_rfl) | (rw [if_neg (by decide +kernel)]; exact ⟨rfl, rfl⟩)
theorem holdsFnLinks : Rows.FnLinksSaid :=
  OpenClaim.holds_of_wide 4 Try.f4 rfl rfl rfl rfl rfl rfl rfl ⟨rfl, rfl, rfl, rfl, rfl⟩ rfl rfl rfl rfl rfl namedFnLinks Try.func4 closedFnLinks instFnLinks wrapFnLinks
    (fun os started H enc _ => liftedFnLinks os started H enc)
end Go.Proofs.Ytcmhmdccfihhiaa
