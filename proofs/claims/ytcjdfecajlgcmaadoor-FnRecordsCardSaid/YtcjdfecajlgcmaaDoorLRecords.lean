/-
  The law FnRecords returns true for every input, and its argument reads afterwards as before; the listed tables of the library are tied to the program's text. Conditions: none.
-/
import Derived.Test.YtcjdfecajlgcmaaDoorDrawR3
import Derived.Test.YtcjdfecajlgcmaaDoorCor
import Derived.Test.YtcjdfecajlgcmaaDoorOfe
import Derived.Test.YtcjdfecajlgcmaaDoorOpenB
import Derived.Test.YtcjdfecajlgcmaaDoorScal
import Derived.Test.YtcjdfecajlgcmaaDoorEq2
import Derived.Test.YtcjdfecajlgcmaaDoorItoa
import Derived.Test.YtcjdfecajlgcmaaDoorTab
namespace Go.Proofs.YtcjdfecajlgcmaaDoor
open Go.ChangeShapes Go.WideShapes Go.ChangeAt Go.RowKit Go.Deep Go.Joins
set_option linter.unusedVariables false
open Go.Sort
theorem z_sameR (A B : Option Addr) (n m c d : Nat) (xs ys : List (Int × (Int × Int) × Int × Int)) (w : World) (hn : xs.length = n) (hm : ys.length = m) (hn2 : n ≤ 9223372036854775807) (hm2 : m ≤ 9223372036854775807)
    (ha : Row encR 5 w A xs) (hb : Row encR 5 w B ys) (h : xs = ys) : Calls Tryd.prog 7 #[.slice A n c, .slice B m d] w (Gives (.bool true) w) := by
  have := c_sameRecords A B n m c d xs ys w hn hm hn2 hm2 ha hb
  rwa [decide_eq_true h] at this
theorem z_sameC (A B : Option Addr) (n m c d : Nat) (xs ys : List ((Int × Int) × Int)) (w : World) (hn : xs.length = n) (hm : ys.length = m) (hn2 : n ≤ 9223372036854775807) (hm2 : m ≤ 9223372036854775807)
    (ha : Row encC 3 w A xs) (hb : Row encC 3 w B ys) (h : xs = ys) : Calls Tryd.prog 23 #[.slice A n c, .slice B m d] w (Gives (.bool true) w) := by
  have := c_sameCounts A B n m c d xs ys w hn hm hn2 hm2 ha hb
  rwa [decide_eq_true h] at this
theorem g_int {P : Program} {f : FuncId} {args : Array Value} {w : World} {x y : Int} (hc : Calls P f args w (Gives (.int .i64 x) w)) (h : x = y) : Calls P f args w (Gives (.int .i64 y) w) := by subst h; exact hc
theorem g_bool {P : Program} {f : FuncId} {args : Array Value} {w : World} {x y : Bool} (hc : Calls P f args w (Gives (.bool x) w)) (h : x = y) : Calls P f args w (Gives (.bool y) w) := by subst h; exact hc
theorem g_str {P : Program} {f : FuncId} {args : Array Value} {w : World} {x y : ByteArray} (hc : Calls P f args w (Gives (.string x) w)) (h : x = y) : Calls P f args w (Gives (.string y) w) := by subst h; exact hc
theorem m_iCountsOf (A : Option Addr) (n c : Nat) (xs : List Rc) (T : List Ct) (w : World) (hn : xs.length = n) (hn2 : n ≤ 4294967296) (hr : Row encR 5 w A xs) (h : cntI (srt rcF xs) = T) : Calls Tryd.prog 24 #[.slice A n c] w (MadeOwn encC 3 id T w) := h ▸ c_iCountsOf A n c xs w hn hn2 hr
theorem m_sCountsOf (A : Option Addr) (n c : Nat) (xs : List Rc) (T : List Ct) (w : World) (hn : xs.length = n) (hn2 : n ≤ 4294967296) (hr : Row encR 5 w A xs) (h : cntS xs = T) : Calls Tryd.prog 25 #[.slice A n c] w (MadeOwn encC 3 id T w) := h ▸ c_sCountsOf A n c xs w hn hn2 hr
theorem ord_anti (a b : Int) : ord a b = -ord b a := by unfold ord; repeat' split <;> omega
theorem ord_rng9 (a b : Int) : -1 ≤ ord a b ∧ ord a b ≤ 1 := by unfold ord; repeat' split <;> omega
theorem so_anti (a b c d : Int) : stOrd a b c d = -stOrd c d a b := by
  rw [stOrd_def, stOrd_def]
  have h1 := ord_anti a c
  have h2 := ord_anti b d
  by_cases e : a = c
  · rw [if_pos e, if_pos e.symm]; omega
  · rw [if_neg e, if_neg (fun h => e h.symm)]; omega
theorem so_rng (a b c d : Int) : -1 ≤ stOrd a b c d ∧ stOrd a b c d ≤ 1 := by
  rw [stOrd_def]
  split
  · exact ord_rng9 _ _
  · exact ord_rng9 _ _
theorem rc_anti (x y : Rc) : rcF x y = -rcF y x := by
  unfold rcF rcOrd
  have h0 := so_anti x.2.1.1 x.2.1.2 y.2.1.1 y.2.1.2
  have h1 := ord_anti x.1 y.1
  have h2 := ord_anti x.2.2.1 y.2.2.1
  have h3 := ord_anti x.2.2.2 y.2.2.2
  simp only [cmpL]
  generalize stOrd x.2.1.1 x.2.1.2 y.2.1.1 y.2.1.2 = s at *
  generalize stOrd y.2.1.1 y.2.1.2 x.2.1.1 x.2.1.2 = s' at *
  generalize ord x.1 y.1 = u at *
  generalize ord y.1 x.1 = u' at *
  generalize ord x.2.2.1 y.2.2.1 = v at *
  generalize ord y.2.2.1 x.2.2.1 = v' at *
  generalize ord x.2.2.2 y.2.2.2 = t at *
  generalize ord y.2.2.2 x.2.2.2 = t' at *
  repeat' split
  all_goals omega
theorem rc_rng (x y : Rc) : -1 ≤ rcF x y ∧ rcF x y ≤ 1 := by
  unfold rcF rcOrd
  have h0 := so_rng x.2.1.1 x.2.1.2 y.2.1.1 y.2.1.2
  have h1 := ord_rng9 x.1 y.1
  have h2 := ord_rng9 x.2.2.1 y.2.2.1
  have h3 := ord_rng9 x.2.2.2 y.2.2.2
  simp only [cmpL]
  repeat' split
  all_goals omega
theorem stepI_len (t : List Ct) (r : Rc) : (stepI t r).length ≤ t.length + 1 := by
  unfold stepI
  split
  · split
    · split
      · simp only [List.length_append, List.length_dropLast, List.length_singleton]; omega
      · simp
    · simp
  · omega
theorem cntI_len (xs : List Rc) : (cntI xs).length ≤ xs.length := by
  refine snoc_ind (p := fun xs => (cntI xs).length ≤ xs.length) (by simp [cntI]) (fun xs r ih => ?_) xs.length xs rfl
  rw [cntI_snoc, List.length_append, List.length_singleton]
  have := stepI_len (cntI xs) r
  omega
theorem rec7 : recT 0 0 0 7 0 = ⟨#[48, 58, 48, 46, 48, 58, 55, 58, 48]⟩ := by decide +kernel

set_option maxRecDepth 100000 in
set_option maxHeartbeats 12800000 in
theorem w_Records (A : Option Addr) (n c : Nat) (xs : List UInt8) (hn : xs.length = n) (w : World) (hr : Row encB 1 w A xs) (ht : Tab w) : Calls Tryd.prog 3 #[.slice A n c] w (Gives (.bool true) w) := by
  have HR := Lib.hid hr
  have HN := Lib.hid hn
  clear hr hn
  have HT := Lib.hid ht
  clear ht
  by_cases hbig : 1048576 < n
  · have hz : decide (1048576 < n) = true := by simpa using hbig
    go_enter Tryd.func3, Tryd.ntmps3
    go_wp2_with (first | (go_at_call 4; (refine (c_big _ _ _ _ _ hz).mono ?_); rintro _ _ ⟨rfl, p, rfl⟩) | ((with_reducible refine wp_region_later (by kernel_rfl) (by kernel_rfl) ?_); (try dsimp only [List.append]); (repeat (first | go_big_quiet_skip | go_big_quiet_step ((first | (go_at_call 4; first | exact calls_later (c_big _ _ _ _ _ hz) | exact calls_later2 (c_big _ _ _ _ _ hz)))) | quiet_step ((first | (go_at_call 4; first | exact calls_later (c_big _ _ _ _ _ hz) | exact calls_later2 (c_big _ _ _ _ _ hz)))))); refine wpQuiet_nil ?_; rintro _ ⟨p, rfl⟩))
    go_ret
    exact Gives.mk rfl (by (repeat (first | with_reducible exact Below.refl _ _ | with_reducible assumption | with_reducible refine Below.drew ?_ | with_reducible refine below_drewN ?_ _ | with_reducible exact HQ.out | with_reducible exact HBW.out | with_reducible refine below_ext ?_ _ _ | with_reducible refine below_then_later ?_ (by first | with_reducible exact Nat.le_refl _ | with_reducible exact HBW.out.size | with_reducible exact HQ.out.size | omega | (simp; done) | (simp; omega) | (simp [later_size]; done) | (simp [later_size]; omega)) _ | with_reducible refine Below.setCell ?_ (by first | with_reducible exact Nat.le_refl _ | with_reducible exact HBW.out.size | with_reducible exact HQ.out.size | omega | (simp; done) | (simp; omega) | (simp [later_size]; done) | (simp [later_size]; omega)) _ | with_reducible refine Below.alloc ?_ (by first | with_reducible exact Nat.le_refl _ | with_reducible exact HBW.out.size | with_reducible exact HQ.out.size | omega | (simp; done) | (simp; omega) | (simp [later_size]; done) | (simp [later_size]; omega)) _)))
  · have hz : decide (1048576 < n) = false := by simpa using hbig
    go_enter Tryd.func3, Tryd.ntmps3
    have HB := Lib.hid (below_self w)
    go_wp2_with fail
    refine (c_big _ _ _ _ _ hz).mono ?_
    rintro _ W1 ⟨rfl, p1, hp1⟩
    have qHB := Lib.hid (below_to hp1 HB.out)
    have qHR := Lib.hid (row_to hp1 HR.out)
    clear HB HR hp1
    have HB := qHB
    clear qHB
    have HR := qHR
    clear qHR
    have hsW1 : w.heap.size ≤ W1.heap.size := HB.out.size
    go_wp2_with fail
    refine (c_drawSortRecords _ _ _ xs _ HN.out (by omega) HR.out).mono ?_
    rintro _ W2 ⟨A1, n1, c1, xs1, rfl, hl1, hn1, -, hR1, p, hp⟩
    have qHB := Lib.hid (below_to hp HB.out)
    have qHR := Lib.hid (row_to hp HR.out)
    clear HB HR hp
    have HB := qHB
    clear qHB
    have HR := qHR
    clear qHR
    have hsW2 : w.heap.size ≤ W2.heap.size := HB.out.size
    have HR1 := Lib.hid (hR1)
    have HL1 := Lib.hid hl1
    clear hl1 hR1
    obtain ⟨Y, hY⟩ : ∃ Y, srt rcF xs1 = Y := ⟨_, rfl⟩
    have HY := Lib.hid hY
    have HYY := Lib.hid (show decide (srt rcF Y = srt rcF xs1) = true by rw [← hY, srt_of_perm tot_rc (srt_perm rcF xs1)]; exact decide_eq_true rfl)
    have HSO := Lib.hid (show Sorted rcF Y by rw [← hY]; exact srt_sorted tot_rc xs1)
    have HYL := Lib.hid (show Y.length = n1 by rw [← hY, srt_len]; exact HL1.out)
    have HCR := Lib.hid (show cntI Y = cntS xs1 by rw [← hY]; exact cor_eq (by rw [HL1.out]; omega))
    clear hY
    go_wp2_with fail
    refine (m_iSortRecords A1 n1 c1 xs1 Y _ HL1.out (by omega) HR1.out HY.out).mono ?_
    rintro _ W3 ⟨A2, n2, c2, rfl, hl2, hc2, hm2, hO2, p3, hp3⟩
    have qHB := Lib.hid (below_to hp3 HB.out)
    have qHR := Lib.hid (row_to hp3 HR.out)
    have qHR1 := Lib.hid (row_to hp3 HR1.out)
    clear HB HR HR1 hp3
    have HB := qHB
    clear qHB
    have HR := qHR
    clear qHR
    have HR1 := qHR1
    clear qHR1
    have hsW3 : w.heap.size ≤ W3.heap.size := HB.out.size
    have HR2 := Lib.hid (hO2.row)
    have HL2 := Lib.hid hl2
    clear hO2 hl2
    obtain rfl : n1 = n2 := HYL.out.symm.trans HL2.out
    go_wp2_with fail
    refine (m_sSortRecords A1 n1 c1 xs1 Y _ HL1.out (by omega) HR1.out HY.out).mono ?_
    rintro _ W4 ⟨A3, n3, c3, rfl, hl3, hc3, hm3, hO3, p4, hp4⟩
    have qHB := Lib.hid (below_to hp4 HB.out)
    have qHR := Lib.hid (row_to hp4 HR.out)
    have qHR1 := Lib.hid (row_to hp4 HR1.out)
    have qHR2 := Lib.hid (row_to hp4 HR2.out)
    clear HB HR HR1 HR2 hp4
    have HB := qHB
    clear qHB
    have HR := qHR
    clear qHR
    have HR1 := qHR1
    clear qHR1
    have HR2 := qHR2
    clear qHR2
    have hsW4 : w.heap.size ≤ W4.heap.size := HB.out.size
    have HR3 := Lib.hid (hO3.row)
    have HL3 := Lib.hid hl3
    clear hO3 hl3
    obtain rfl : n1 = n3 := HYL.out.symm.trans HL3.out
    go_wp2_with fail
    refine (z_sameR A2 A3 n1 n1 c2 c3 Y Y _ HL2.out HL3.out (by omega) (by omega) HR2.out HR3.out rfl).mono ?_
    rintro _ W5 ⟨rfl, p5, hp5⟩
    have qHB := Lib.hid (below_to hp5 HB.out)
    have qHR := Lib.hid (row_to hp5 HR.out)
    have qHR1 := Lib.hid (row_to hp5 HR1.out)
    have qHR2 := Lib.hid (row_to hp5 HR2.out)
    have qHR3 := Lib.hid (row_to hp5 HR3.out)
    clear HB HR HR1 HR2 HR3 hp5
    have HB := qHB
    clear qHB
    have HR := qHR
    clear qHR
    have HR1 := qHR1
    clear qHR1
    have HR2 := qHR2
    clear qHR2
    have HR3 := qHR3
    clear qHR3
    have hsW5 : w.heap.size ≤ W5.heap.size := HB.out.size
    clear HR3
    go_wp2_with fail
    refine (c_iSameBag A2 A1 n1 n1 c2 c1 Y xs1 true _ HL2.out HL1.out (by omega) (by omega) HR2.out HR1.out HYY.out).mono ?_
    rintro _ W6 ⟨rfl, p6, hp6⟩
    have qHB := Lib.hid (below_to hp6 HB.out)
    have qHR := Lib.hid (row_to hp6 HR.out)
    have qHR1 := Lib.hid (row_to hp6 HR1.out)
    have qHR2 := Lib.hid (row_to hp6 HR2.out)
    clear HB HR HR1 HR2 hp6
    have HB := qHB
    clear qHB
    have HR := qHR
    clear qHR
    have HR1 := qHR1
    clear qHR1
    have HR2 := qHR2
    clear qHR2
    have hsW6 : w.heap.size ≤ W6.heap.size := HB.out.size
    go_wp2_with fail
    go_loopw [5] (fun ii wr => ∃ j : Nat, ii = .int .i64 j ∧ 1 ≤ j ∧ j ≤ 7 ∧ Below w.heap.size w wr ∧ Row encB 1 wr A xs ∧ Row encR 5 wr A1 xs1 ∧ Row encR 5 wr A2 Y) (fun ii _ => 7 - (intOf ii).toNat)
    case atStart => exact ⟨1, rfl, Nat.le_refl _, by omega, HB.out, HR.out, HR1.out, HR2.out⟩
    case round =>
      obtain ⟨j, rfl, hj1, hj7, hb, hr0, hr1, hr2⟩ := hrel
      have hsw : w.heap.size ≤ W6.heap.size := HB.out.size
      clear HB HR HR1 HR2 hsw
      by_cases hlt : j < n1
      · obtain ⟨u, hu⟩ : ∃ u, Y[j - 1]? = some u := ⟨_, List.getElem?_eq_getElem (by rw [HYL.out]; omega)⟩
        obtain ⟨v, hv⟩ : ∃ v, Y[j]? = some v := ⟨_, List.getElem?_eq_getElem (by rw [HYL.out]; omega)⟩
        have hz0 : ¬ rcF v u < 0 := by
          have hS := HSO.out
          unfold Sorted at hS
          rw [List.pairwise_iff_getElem] at hS
          obtain ⟨h1, e1⟩ := List.getElem?_eq_some_iff.1 hu
          obtain ⟨h2, e2⟩ := List.getElem?_eq_some_iff.1 hv
          have := hS (j - 1) j h1 h2 (by omega)
          rw [e1, e2] at this
          unfold ltOf at this
          simpa using this
        have hz2 := rc_anti u v
        obtain ⟨b, off, rfl, cx⟩ := hr2.at_ hu
        obtain ⟨b', off', eb, cy⟩ := hr2.at_ hv
        cases eb
        obtain ⟨m, rfl⟩ : ∃ m, j = m + 1 := ⟨j - 1, by omega⟩
        rw [Nat.add_sub_cancel] at cx hu
        obtain ⟨u1, ⟨u2, u3⟩, u4, u5⟩ := u
        obtain ⟨v1, ⟨v2, v3⟩, v4, v5⟩ := v
        have x0 := cx 0 _ rfl
        have x1 := cx 1 _ rfl
        have x2 := cx 2 _ rfl
        have x3 := cx 3 _ rfl
        have x4 := cx 4 _ rfl
        have y0 := cy 0 _ rfl
        have y1 := cy 1 _ rfl
        have y2 := cy 2 _ rfl
        have y3 := cy 3 _ rfl
        have y4 := cy 4 _ rfl
        simp only [Nat.add_zero] at x0 y0
        have hbl := World.block_lt_of_cell? _ _ x0
        simp only at hbl
        have hbl' := Nat.le_of_lt hbl
        obtain ⟨zz, hzz⟩ : ∃ zz, rcF (u1, (u2, u3), u4, u5) (v1, (v2, v3), v4, v5) = zz := ⟨_, rfl⟩
        have hle : zz ≤ 0 := by omega
        have hd : decide (0 < zz) = false := decide_eq_false (by omega)
        have HZZ := Lib.hid (show rcOrd u1 u2 u3 u4 u5 v1 v2 v3 v4 v5 = zz from hzz)
        have HU := Lib.hid hb
        have H0 := Lib.hid hr0
        have H1 := Lib.hid hr1
        have H2 := Lib.hid hr2
        clear cx cy hu hv hz0 hz2 hzz hb hr0 hr1 hr2
        have e1 : (m : Int) + 1 - 1 = m := by omega
        have e2 : ((m : Int) + 1).toNat = m + 1 := by omega
        have e3 : IntKind.i64.wrap ((m : Int) + 1 - 1) = m := by rw [IntWalk.i64_in _ (by omega)]; omega
        have e4 : (m : Int) < n1 := by omega
        go_wp2_with (first | (go_at_call 10; (with_reducible refine (g_int (c_iRecordOrder u1 u2 u3 u4 u5 v1 v2 v3 v4 v5 _) HZZ.out).mono ?_); rintro _ _ ⟨rfl, p, rfl⟩) | ((with_reducible refine wp_region_later (by kernel_rfl) (by kernel_rfl) ?_); (try dsimp only [List.append]); (repeat (first | go_big_quiet_skip | go_big_quiet_step ((first | (go_at_call 10; first | with_reducible exact calls_later (g_int (c_iRecordOrder u1 u2 u3 u4 u5 v1 v2 v3 v4 v5 _) HZZ.out) | with_reducible exact calls_later2 (g_int (c_iRecordOrder u1 u2 u3 u4 u5 v1 v2 v3 v4 v5 _) HZZ.out)))) | quiet_step ((first | (go_at_call 10; first | with_reducible exact calls_later (g_int (c_iRecordOrder u1 u2 u3 u4 u5 v1 v2 v3 v4 v5 _) HZZ.out) | with_reducible exact calls_later2 (g_int (c_iRecordOrder u1 u2 u3 u4 u5 v1 v2 v3 v4 v5 _) HZZ.out)))))); refine wpQuiet_nil ?_; rintro _ ⟨p, rfl⟩))
        go_roundw
        case rel => exact ⟨m + 1 + 1, by go_num, by omega, by omega, HU.out.trans ((below_later _ _).mono HU.out.size), H0.out.later _, H1.out.later _, H2.out.later _⟩
        case measure => simp [intOf]; omega
      · have HB := Lib.hid hb
        have HR := Lib.hid hr0
        have HR1 := Lib.hid hr1
        have hsz := hb.size
        clear hb hr0 hr1 hr2
        go_wp2_with fail
        refine (c_drawSameBag _ _ _ xs _ HN.out (by omega) HR.out).mono ?_
        rintro _ W7 ⟨A4, n4, c4, xs4, A5, n5, c5, xs5, rfl, hl4, hl5, hn4, hn5, hR4, hR5, p, hp⟩
        have qHB := Lib.hid (below_to hp HB.out)
        have qHR := Lib.hid (row_to hp HR.out)
        have qHR1 := Lib.hid (row_to hp HR1.out)
        clear HB HR HR1 hp
        have HB := qHB
        clear qHB
        have HR := qHR
        clear qHR
        have HR1 := qHR1
        clear qHR1
        have hsW7 : w.heap.size ≤ W7.heap.size := HB.out.size
        have HR4 := Lib.hid (hR4)
        have HL4 := Lib.hid hl4
        clear hl4 hR4
        have HR5 := Lib.hid (hR5)
        have HL5 := Lib.hid hl5
        clear hl5 hR5
        obtain ⟨sb, hsb⟩ : ∃ x, decide (srt rcF xs4 = srt rcF xs5) = x := ⟨_, rfl⟩
        have HSB := Lib.hid hsb
        clear hsb
        go_wp2_with fail
        refine (c_drawRecordOk _ _ _ xs _ HN.out (by omega) HR.out).mono ?_
        rintro _ W8 ⟨_, rfl, ⟨o1, a1, b1, k1, e1, rfl, ho1, ha1, hb1, hk1, he1⟩, p, hp⟩
        have qHB := Lib.hid (below_to hp HB.out)
        have qHR := Lib.hid (row_to hp HR.out)
        have qHR1 := Lib.hid (row_to hp HR1.out)
        have qHR4 := Lib.hid (row_to hp HR4.out)
        have qHR5 := Lib.hid (row_to hp HR5.out)
        clear HB HR HR1 HR4 HR5 hp
        have HB := qHB
        clear qHB
        have HR := qHR
        clear qHR
        have HR1 := qHR1
        clear qHR1
        have HR4 := qHR4
        clear qHR4
        have HR5 := qHR5
        clear qHR5
        have hsW8 : w.heap.size ≤ W8.heap.size := HB.out.size
        have HI1 := Lib.hid (And.intro ho1 (And.intro ha1 (And.intro hb1 (And.intro hk1 he1))))
        clear ho1 ha1 hb1 hk1 he1
        go_wp2_with fail
        refine calls_anchor (F := fun V => (∃ p : Later, V = later W8 p) ∧ Blk (W8.heap.size) [.int .i64 o1, .int .i64 a1, .int .i64 b1, .int .i64 k1, .int .i64 e1] 32 V) ⟨later_of_below (by (repeat (first | with_reducible exact Below.refl _ _ | with_reducible refine Below.drew ?_ | with_reducible refine Below.alloc ?_ (by first | exact Nat.le_refl _ | (simp; done) | (simp; omega)) _))), (by (repeat (first | exact Blk.new _ _ [.int .i64 o1, .int .i64 a1, .int .i64 b1, .int .i64 k1, .int .i64 e1] _ (by first | rfl | (simp; done)) | with_reducible refine Blk.alloc ?_ _)))⟩ (fun W9 hV => ?_)
        obtain ⟨⟨p, hp⟩, qHK10⟩ := hV
        have qHB := Lib.hid (below_to hp HB.out)
        have qHR := Lib.hid (row_to hp HR.out)
        have qHR1 := Lib.hid (row_to hp HR1.out)
        have qHR4 := Lib.hid (row_to hp HR4.out)
        have qHR5 := Lib.hid (row_to hp HR5.out)
        clear HB HR HR1 HR4 HR5 hp
        have HB := qHB
        clear qHB
        have HR := qHR
        clear qHR
        have HR1 := qHR1
        clear qHR1
        have HR4 := qHR4
        clear qHR4
        have HR5 := qHR5
        clear qHR5
        have hsW9 : w.heap.size ≤ W9.heap.size := HB.out.size
        have HK1 := Lib.hid (qHK10)
        have cHK1_0 := HK1.out.cell (i := 0) rfl
        have zHK1_0 := HK1.out.frozen 0
        have cHK1_1 := HK1.out.cell (i := 1) rfl
        have zHK1_1 := HK1.out.frozen 1
        have cHK1_2 := HK1.out.cell (i := 2) rfl
        have zHK1_2 := HK1.out.frozen 2
        have cHK1_3 := HK1.out.cell (i := 3) rfl
        have zHK1_3 := HK1.out.frozen 3
        have cHK1_4 := HK1.out.cell (i := 4) rfl
        have zHK1_4 := HK1.out.frozen 4
        have lHK1 := HK1.out.lt
        have mHK1 := Nat.le_of_lt lHK1
        clear qHK10
        refine (c_drawRecordOrder _ _ _ xs _ HN.out (by omega) HR.out).mono ?_
        rintro _ W10 ⟨_, _, rfl, ⟨o2, a2, b2, k2, e2, rfl, -, -, -, -, -⟩, ⟨o3, a3, b3, k3, e3, rfl, -, -, -, -, -⟩, p, hp⟩
        have qHB := Lib.hid (below_to hp HB.out)
        have qHR := Lib.hid (row_to hp HR.out)
        have qHR1 := Lib.hid (row_to hp HR1.out)
        have qHR4 := Lib.hid (row_to hp HR4.out)
        have qHR5 := Lib.hid (row_to hp HR5.out)
        have qHK1 := Lib.hid (Blk.to hp HK1.out)
        clear HB HR HR1 HR4 HR5 cHK1_0 zHK1_0 cHK1_1 zHK1_1 cHK1_2 zHK1_2 cHK1_3 zHK1_3 cHK1_4 zHK1_4 lHK1 mHK1 HK1 hp
        have HB := qHB
        clear qHB
        have HR := qHR
        clear qHR
        have HR1 := qHR1
        clear qHR1
        have HR4 := qHR4
        clear qHR4
        have HR5 := qHR5
        clear qHR5
        have HK1 := qHK1
        clear qHK1
        have cHK1_0 := HK1.out.cell (i := 0) rfl
        have zHK1_0 := HK1.out.frozen 0
        have cHK1_1 := HK1.out.cell (i := 1) rfl
        have zHK1_1 := HK1.out.frozen 1
        have cHK1_2 := HK1.out.cell (i := 2) rfl
        have zHK1_2 := HK1.out.frozen 2
        have cHK1_3 := HK1.out.cell (i := 3) rfl
        have zHK1_3 := HK1.out.frozen 3
        have cHK1_4 := HK1.out.cell (i := 4) rfl
        have zHK1_4 := HK1.out.frozen 4
        have lHK1 := HK1.out.lt
        have mHK1 := Nat.le_of_lt lHK1
        have hsW10 : w.heap.size ≤ W10.heap.size := HB.out.size
        go_wp2_with fail
        refine calls_anchor (F := fun V => (∃ p : Later, V = later W10 p) ∧ Blk (W10.heap.size) [.int .i64 o2, .int .i64 a2, .int .i64 b2, .int .i64 k2, .int .i64 e2] 32 V ∧ Blk (W10.heap.size + 1) [.int .i64 o3, .int .i64 a3, .int .i64 b3, .int .i64 k3, .int .i64 e3] 32 V) ⟨later_of_below (by (repeat (first | with_reducible exact Below.refl _ _ | with_reducible refine Below.drew ?_ | with_reducible refine Below.alloc ?_ (by first | exact Nat.le_refl _ | (simp; done) | (simp; omega)) _))), (by (repeat (first | exact Blk.new _ _ [.int .i64 o2, .int .i64 a2, .int .i64 b2, .int .i64 k2, .int .i64 e2] _ (by first | rfl | (simp; done)) | with_reducible refine Blk.alloc ?_ _))), (by (repeat (first | exact Blk.new _ _ [.int .i64 o3, .int .i64 a3, .int .i64 b3, .int .i64 k3, .int .i64 e3] _ (by first | rfl | (simp; done)) | with_reducible refine Blk.alloc ?_ _)))⟩ (fun W11 hV => ?_)
        obtain ⟨⟨p, hp⟩, qHK20, qHK30⟩ := hV
        have qHB := Lib.hid (below_to hp HB.out)
        have qHR := Lib.hid (row_to hp HR.out)
        have qHR1 := Lib.hid (row_to hp HR1.out)
        have qHR4 := Lib.hid (row_to hp HR4.out)
        have qHR5 := Lib.hid (row_to hp HR5.out)
        have qHK1 := Lib.hid (Blk.to hp HK1.out)
        clear HB HR HR1 HR4 HR5 cHK1_0 zHK1_0 cHK1_1 zHK1_1 cHK1_2 zHK1_2 cHK1_3 zHK1_3 cHK1_4 zHK1_4 lHK1 mHK1 HK1 hp
        have HB := qHB
        clear qHB
        have HR := qHR
        clear qHR
        have HR1 := qHR1
        clear qHR1
        have HR4 := qHR4
        clear qHR4
        have HR5 := qHR5
        clear qHR5
        have HK1 := qHK1
        clear qHK1
        have cHK1_0 := HK1.out.cell (i := 0) rfl
        have zHK1_0 := HK1.out.frozen 0
        have cHK1_1 := HK1.out.cell (i := 1) rfl
        have zHK1_1 := HK1.out.frozen 1
        have cHK1_2 := HK1.out.cell (i := 2) rfl
        have zHK1_2 := HK1.out.frozen 2
        have cHK1_3 := HK1.out.cell (i := 3) rfl
        have zHK1_3 := HK1.out.frozen 3
        have cHK1_4 := HK1.out.cell (i := 4) rfl
        have zHK1_4 := HK1.out.frozen 4
        have lHK1 := HK1.out.lt
        have mHK1 := Nat.le_of_lt lHK1
        have hsW11 : w.heap.size ≤ W11.heap.size := HB.out.size
        have HK2 := Lib.hid (qHK20)
        have cHK2_0 := HK2.out.cell (i := 0) rfl
        have zHK2_0 := HK2.out.frozen 0
        have cHK2_1 := HK2.out.cell (i := 1) rfl
        have zHK2_1 := HK2.out.frozen 1
        have cHK2_2 := HK2.out.cell (i := 2) rfl
        have zHK2_2 := HK2.out.frozen 2
        have cHK2_3 := HK2.out.cell (i := 3) rfl
        have zHK2_3 := HK2.out.frozen 3
        have cHK2_4 := HK2.out.cell (i := 4) rfl
        have zHK2_4 := HK2.out.frozen 4
        have lHK2 := HK2.out.lt
        have mHK2 := Nat.le_of_lt lHK2
        clear qHK20
        have HK3 := Lib.hid (qHK30)
        have cHK3_0 := HK3.out.cell (i := 0) rfl
        have zHK3_0 := HK3.out.frozen 0
        have cHK3_1 := HK3.out.cell (i := 1) rfl
        have zHK3_1 := HK3.out.frozen 1
        have cHK3_2 := HK3.out.cell (i := 2) rfl
        have zHK3_2 := HK3.out.frozen 2
        have cHK3_3 := HK3.out.cell (i := 3) rfl
        have zHK3_3 := HK3.out.frozen 3
        have cHK3_4 := HK3.out.cell (i := 4) rfl
        have zHK3_4 := HK3.out.frozen 4
        have lHK3 := HK3.out.lt
        have mHK3 := Nat.le_of_lt lHK3
        clear qHK30
        refine (c_drawOfEpoch _ _ _ xs _ HN.out (by omega) HR.out).mono ?_
        rintro _ W12 ⟨A6, n6, c6, xs6, ep, rfl, hl6, hn6, hR6, -, -, p, hp⟩
        have qHB := Lib.hid (below_to hp HB.out)
        have qHR := Lib.hid (row_to hp HR.out)
        have qHR1 := Lib.hid (row_to hp HR1.out)
        have qHR4 := Lib.hid (row_to hp HR4.out)
        have qHR5 := Lib.hid (row_to hp HR5.out)
        have qHK1 := Lib.hid (Blk.to hp HK1.out)
        have qHK2 := Lib.hid (Blk.to hp HK2.out)
        have qHK3 := Lib.hid (Blk.to hp HK3.out)
        clear HB HR HR1 HR4 HR5 cHK1_0 zHK1_0 cHK1_1 zHK1_1 cHK1_2 zHK1_2 cHK1_3 zHK1_3 cHK1_4 zHK1_4 lHK1 mHK1 HK1 cHK2_0 zHK2_0 cHK2_1 zHK2_1 cHK2_2 zHK2_2 cHK2_3 zHK2_3 cHK2_4 zHK2_4 lHK2 mHK2 HK2 cHK3_0 zHK3_0 cHK3_1 zHK3_1 cHK3_2 zHK3_2 cHK3_3 zHK3_3 cHK3_4 zHK3_4 lHK3 mHK3 HK3 hp
        have HB := qHB
        clear qHB
        have HR := qHR
        clear qHR
        have HR1 := qHR1
        clear qHR1
        have HR4 := qHR4
        clear qHR4
        have HR5 := qHR5
        clear qHR5
        have HK1 := qHK1
        clear qHK1
        have cHK1_0 := HK1.out.cell (i := 0) rfl
        have zHK1_0 := HK1.out.frozen 0
        have cHK1_1 := HK1.out.cell (i := 1) rfl
        have zHK1_1 := HK1.out.frozen 1
        have cHK1_2 := HK1.out.cell (i := 2) rfl
        have zHK1_2 := HK1.out.frozen 2
        have cHK1_3 := HK1.out.cell (i := 3) rfl
        have zHK1_3 := HK1.out.frozen 3
        have cHK1_4 := HK1.out.cell (i := 4) rfl
        have zHK1_4 := HK1.out.frozen 4
        have lHK1 := HK1.out.lt
        have mHK1 := Nat.le_of_lt lHK1
        have HK2 := qHK2
        clear qHK2
        have cHK2_0 := HK2.out.cell (i := 0) rfl
        have zHK2_0 := HK2.out.frozen 0
        have cHK2_1 := HK2.out.cell (i := 1) rfl
        have zHK2_1 := HK2.out.frozen 1
        have cHK2_2 := HK2.out.cell (i := 2) rfl
        have zHK2_2 := HK2.out.frozen 2
        have cHK2_3 := HK2.out.cell (i := 3) rfl
        have zHK2_3 := HK2.out.frozen 3
        have cHK2_4 := HK2.out.cell (i := 4) rfl
        have zHK2_4 := HK2.out.frozen 4
        have lHK2 := HK2.out.lt
        have mHK2 := Nat.le_of_lt lHK2
        have HK3 := qHK3
        clear qHK3
        have cHK3_0 := HK3.out.cell (i := 0) rfl
        have zHK3_0 := HK3.out.frozen 0
        have cHK3_1 := HK3.out.cell (i := 1) rfl
        have zHK3_1 := HK3.out.frozen 1
        have cHK3_2 := HK3.out.cell (i := 2) rfl
        have zHK3_2 := HK3.out.frozen 2
        have cHK3_3 := HK3.out.cell (i := 3) rfl
        have zHK3_3 := HK3.out.frozen 3
        have cHK3_4 := HK3.out.cell (i := 4) rfl
        have zHK3_4 := HK3.out.frozen 4
        have lHK3 := HK3.out.lt
        have mHK3 := Nat.le_of_lt lHK3
        have hsW12 : w.heap.size ≤ W12.heap.size := HB.out.size
        have HR6 := Lib.hid (hR6)
        have HL6 := Lib.hid hl6
        clear hl6 hR6
        clear HR
        obtain ⟨E, hE⟩ : ∃ E, ofEp xs6 ep = E := ⟨_, rfl⟩
        have HE := Lib.hid hE
        have hEl : E.length ≤ 6 := by rw [← hE]; have h1 := ofEp_len xs6 ep; rw [HL6.out] at h1; omega
        clear hE
        obtain ⟨rk, hrk⟩ : ∃ x, rcOk o1 a1 b1 k1 e1 = x := ⟨_, rfl⟩
        have HRK := Lib.hid hrk
        obtain ⟨S, hS⟩ : ∃ x, recT o1 a1 b1 k1 e1 = x := ⟨_, rfl⟩
        have HS9 := Lib.hid hS
        obtain ⟨z1, hz1⟩ : ∃ x, rcF (o2, (a2, b2), k2, e2) (o3, (a3, b3), k3, e3) = x := ⟨_, rfl⟩
        obtain ⟨z2, hz2⟩ : ∃ x, rcF (o3, (a3, b3), k3, e3) (o2, (a2, b2), k2, e2) = x := ⟨_, rfl⟩
        have hz3 := rc_anti (o2, (a2, b2), k2, e2) (o3, (a3, b3), k3, e3)
        have hz4 := rc_rng (o2, (a2, b2), k2, e2) (o3, (a3, b3), k3, e3)
        rw [hz1, hz2] at hz3
        rw [hz1] at hz4
        have HZ1 := Lib.hid hz1
        have HZ2 := Lib.hid hz2
        have HZN := Lib.hid (show IntKind.i64.wrap (-z2) = z1 by rw [IntWalk.i64_in _ (by omega)]; omega)
        have HZM := Lib.hid (show wrap64 (-z2) = z1 by unfold wrap64; omega)
        clear hrk hS hz1 hz2 hz3 hz4
        have hcl : (cntS xs1).length ≤ 6 := by rw [← HCR.out]; have h1 := cntI_len Y; rw [HYL.out] at h1; omega
        obtain ⟨T, hT⟩ : ∃ T, cntS xs1 = T := ⟨_, rfl⟩
        rw [hT] at hcl
        have HTS := Lib.hid hT
        have HTI := Lib.hid (show cntI (srt rcF xs1) = T by rw [HY.out, HCR.out]; exact hT)
        clear hT
        go_wp2_with fail
        with_reducible refine wp_region_plan [(true, 0), (true, 1), (true, 3), (true, 4), (false, 2), (false, 5), (true, 6), (true, 7), (true, 8), (true, 10), (false, 9), (false, 11), (true, 12), (true, 13), (true, 14), (true, 15), (true, 17), (false, 16), (false, 18), (true, 19), (true, 20), (true, 21), (true, 22), (true, 23), (true, 25), (true, 26), (false, 24), (false, 27), (true, 28), (true, 29), (true, 30), (true, 31), (true, 32), (true, 34), (true, 35), (false, 33), (false, 36), (true, 37), (true, 38), (true, 39), (true, 40), (true, 41), (true, 42), (true, 44), (true, 45), (false, 43), (false, 46), (false, 47), (true, 48), (true, 49), (true, 50), (true, 52), (false, 51), (false, 53), (false, 54), (true, 55), (true, 56), (true, 57), (false, 58), (true, 59), (true, 60), (true, 61)] (by kernel_rfl) (by kernel_rfl) ?_
        rintro W13 ⟨p, hp⟩
        have HQ := Lib.hid (below_self W12)
        have bHK1_0 := cHK1_0
        have bHK1_1 := cHK1_1
        have bHK1_2 := cHK1_2
        have bHK1_3 := cHK1_3
        have bHK1_4 := cHK1_4
        have blHK1 := lHK1
        have bHK2_0 := cHK2_0
        have bHK2_1 := cHK2_1
        have bHK2_2 := cHK2_2
        have bHK2_3 := cHK2_3
        have bHK2_4 := cHK2_4
        have blHK2 := lHK2
        have bHK3_0 := cHK3_0
        have bHK3_1 := cHK3_1
        have bHK3_2 := cHK3_2
        have bHK3_3 := cHK3_3
        have bHK3_4 := cHK3_4
        have blHK3 := lHK3
        have qHB := Lib.hid (below_to hp HB.out)
        have qHR1 := Lib.hid (row_to hp HR1.out)
        have qHR4 := Lib.hid (row_to hp HR4.out)
        have qHR5 := Lib.hid (row_to hp HR5.out)
        have qHK1 := Lib.hid (Blk.to hp HK1.out)
        have qHK2 := Lib.hid (Blk.to hp HK2.out)
        have qHK3 := Lib.hid (Blk.to hp HK3.out)
        have qHR6 := Lib.hid (row_to hp HR6.out)
        have qHQ := Lib.hid (below_to hp HQ.out)
        clear HB HR1 HR4 HR5 cHK1_0 zHK1_0 cHK1_1 zHK1_1 cHK1_2 zHK1_2 cHK1_3 zHK1_3 cHK1_4 zHK1_4 lHK1 mHK1 HK1 cHK2_0 zHK2_0 cHK2_1 zHK2_1 cHK2_2 zHK2_2 cHK2_3 zHK2_3 cHK2_4 zHK2_4 lHK2 mHK2 HK2 cHK3_0 zHK3_0 cHK3_1 zHK3_1 cHK3_2 zHK3_2 cHK3_3 zHK3_3 cHK3_4 zHK3_4 lHK3 mHK3 HK3 HR6 HQ hp
        have HB := qHB
        clear qHB
        have HR1 := qHR1
        clear qHR1
        have HR4 := qHR4
        clear qHR4
        have HR5 := qHR5
        clear qHR5
        have HK1 := qHK1
        clear qHK1
        have cHK1_0 := HK1.out.cell (i := 0) rfl
        have zHK1_0 := HK1.out.frozen 0
        have cHK1_1 := HK1.out.cell (i := 1) rfl
        have zHK1_1 := HK1.out.frozen 1
        have cHK1_2 := HK1.out.cell (i := 2) rfl
        have zHK1_2 := HK1.out.frozen 2
        have cHK1_3 := HK1.out.cell (i := 3) rfl
        have zHK1_3 := HK1.out.frozen 3
        have cHK1_4 := HK1.out.cell (i := 4) rfl
        have zHK1_4 := HK1.out.frozen 4
        have lHK1 := HK1.out.lt
        have mHK1 := Nat.le_of_lt lHK1
        have HK2 := qHK2
        clear qHK2
        have cHK2_0 := HK2.out.cell (i := 0) rfl
        have zHK2_0 := HK2.out.frozen 0
        have cHK2_1 := HK2.out.cell (i := 1) rfl
        have zHK2_1 := HK2.out.frozen 1
        have cHK2_2 := HK2.out.cell (i := 2) rfl
        have zHK2_2 := HK2.out.frozen 2
        have cHK2_3 := HK2.out.cell (i := 3) rfl
        have zHK2_3 := HK2.out.frozen 3
        have cHK2_4 := HK2.out.cell (i := 4) rfl
        have zHK2_4 := HK2.out.frozen 4
        have lHK2 := HK2.out.lt
        have mHK2 := Nat.le_of_lt lHK2
        have HK3 := qHK3
        clear qHK3
        have cHK3_0 := HK3.out.cell (i := 0) rfl
        have zHK3_0 := HK3.out.frozen 0
        have cHK3_1 := HK3.out.cell (i := 1) rfl
        have zHK3_1 := HK3.out.frozen 1
        have cHK3_2 := HK3.out.cell (i := 2) rfl
        have zHK3_2 := HK3.out.frozen 2
        have cHK3_3 := HK3.out.cell (i := 3) rfl
        have zHK3_3 := HK3.out.frozen 3
        have cHK3_4 := HK3.out.cell (i := 4) rfl
        have zHK3_4 := HK3.out.frozen 4
        have lHK3 := HK3.out.lt
        have mHK3 := Nat.le_of_lt lHK3
        have HR6 := qHR6
        clear qHR6
        have HQ := qHQ
        clear qHQ
        have hsW13 : w.heap.size ≤ W13.heap.size := HB.out.size
        simp only [List.map_cons, List.map_nil, List.getD_cons_zero, List.getD_cons_succ]
        (repeat (refine wpPlan_pick (fun J hJ => ?_); go_simp; refine hJ _ ?_; clear hJ J))
        refine wpPlan_seq (fun J hJ => ?_)
        go_wp2_with fail
        refine (c_iSameBag A4 A5 n4 n5 c4 c5 xs4 xs5 sb _ HL4.out HL5.out (by omega) (by omega) HR4.out HR5.out HSB.out).mono ?_
        rintro _ W14 ⟨rfl, p14, hp14⟩
        have qHB := Lib.hid (below_to hp14 HB.out)
        have qHR1 := Lib.hid (row_to hp14 HR1.out)
        have qHR4 := Lib.hid (row_to hp14 HR4.out)
        have qHR5 := Lib.hid (row_to hp14 HR5.out)
        have qHK1 := Lib.hid (Blk.to hp14 HK1.out)
        have qHK2 := Lib.hid (Blk.to hp14 HK2.out)
        have qHK3 := Lib.hid (Blk.to hp14 HK3.out)
        have qHR6 := Lib.hid (row_to hp14 HR6.out)
        have qHQ := Lib.hid (below_to hp14 HQ.out)
        clear HB HR1 HR4 HR5 cHK1_0 zHK1_0 cHK1_1 zHK1_1 cHK1_2 zHK1_2 cHK1_3 zHK1_3 cHK1_4 zHK1_4 lHK1 mHK1 HK1 cHK2_0 zHK2_0 cHK2_1 zHK2_1 cHK2_2 zHK2_2 cHK2_3 zHK2_3 cHK2_4 zHK2_4 lHK2 mHK2 HK2 cHK3_0 zHK3_0 cHK3_1 zHK3_1 cHK3_2 zHK3_2 cHK3_3 zHK3_3 cHK3_4 zHK3_4 lHK3 mHK3 HK3 HR6 HQ hp14
        have HB := qHB
        clear qHB
        have HR1 := qHR1
        clear qHR1
        have HR4 := qHR4
        clear qHR4
        have HR5 := qHR5
        clear qHR5
        have HK1 := qHK1
        clear qHK1
        have cHK1_0 := HK1.out.cell (i := 0) rfl
        have zHK1_0 := HK1.out.frozen 0
        have cHK1_1 := HK1.out.cell (i := 1) rfl
        have zHK1_1 := HK1.out.frozen 1
        have cHK1_2 := HK1.out.cell (i := 2) rfl
        have zHK1_2 := HK1.out.frozen 2
        have cHK1_3 := HK1.out.cell (i := 3) rfl
        have zHK1_3 := HK1.out.frozen 3
        have cHK1_4 := HK1.out.cell (i := 4) rfl
        have zHK1_4 := HK1.out.frozen 4
        have lHK1 := HK1.out.lt
        have mHK1 := Nat.le_of_lt lHK1
        have HK2 := qHK2
        clear qHK2
        have cHK2_0 := HK2.out.cell (i := 0) rfl
        have zHK2_0 := HK2.out.frozen 0
        have cHK2_1 := HK2.out.cell (i := 1) rfl
        have zHK2_1 := HK2.out.frozen 1
        have cHK2_2 := HK2.out.cell (i := 2) rfl
        have zHK2_2 := HK2.out.frozen 2
        have cHK2_3 := HK2.out.cell (i := 3) rfl
        have zHK2_3 := HK2.out.frozen 3
        have cHK2_4 := HK2.out.cell (i := 4) rfl
        have zHK2_4 := HK2.out.frozen 4
        have lHK2 := HK2.out.lt
        have mHK2 := Nat.le_of_lt lHK2
        have HK3 := qHK3
        clear qHK3
        have cHK3_0 := HK3.out.cell (i := 0) rfl
        have zHK3_0 := HK3.out.frozen 0
        have cHK3_1 := HK3.out.cell (i := 1) rfl
        have zHK3_1 := HK3.out.frozen 1
        have cHK3_2 := HK3.out.cell (i := 2) rfl
        have zHK3_2 := HK3.out.frozen 2
        have cHK3_3 := HK3.out.cell (i := 3) rfl
        have zHK3_3 := HK3.out.frozen 3
        have cHK3_4 := HK3.out.cell (i := 4) rfl
        have zHK3_4 := HK3.out.frozen 4
        have lHK3 := HK3.out.lt
        have mHK3 := Nat.le_of_lt lHK3
        have HR6 := qHR6
        clear qHR6
        have HQ := qHQ
        clear qHQ
        have hsW14 : w.heap.size ≤ W14.heap.size := HB.out.size
        go_wp2_with fail
        refine onward_mk HQ.out (hJ _ _ ?_)
        clear hJ J
        refine wpPlan_seq (fun J hJ => ?_)
        go_wp2_with fail
        refine (c_sSameBag A4 A5 n4 n5 c4 c5 xs4 xs5 sb _ HL4.out HL5.out (by omega) (by omega) HR4.out HR5.out HSB.out).mono ?_
        rintro _ W15 ⟨rfl, p15, hp15⟩
        have qHB := Lib.hid (below_to hp15 HB.out)
        have qHR1 := Lib.hid (row_to hp15 HR1.out)
        have qHR4 := Lib.hid (row_to hp15 HR4.out)
        have qHR5 := Lib.hid (row_to hp15 HR5.out)
        have qHK1 := Lib.hid (Blk.to hp15 HK1.out)
        have qHK2 := Lib.hid (Blk.to hp15 HK2.out)
        have qHK3 := Lib.hid (Blk.to hp15 HK3.out)
        have qHR6 := Lib.hid (row_to hp15 HR6.out)
        have qHQ := Lib.hid (below_to hp15 HQ.out)
        clear HB HR1 HR4 HR5 cHK1_0 zHK1_0 cHK1_1 zHK1_1 cHK1_2 zHK1_2 cHK1_3 zHK1_3 cHK1_4 zHK1_4 lHK1 mHK1 HK1 cHK2_0 zHK2_0 cHK2_1 zHK2_1 cHK2_2 zHK2_2 cHK2_3 zHK2_3 cHK2_4 zHK2_4 lHK2 mHK2 HK2 cHK3_0 zHK3_0 cHK3_1 zHK3_1 cHK3_2 zHK3_2 cHK3_3 zHK3_3 cHK3_4 zHK3_4 lHK3 mHK3 HK3 HR6 HQ hp15
        have HB := qHB
        clear qHB
        have HR1 := qHR1
        clear qHR1
        have HR4 := qHR4
        clear qHR4
        have HR5 := qHR5
        clear qHR5
        have HK1 := qHK1
        clear qHK1
        have cHK1_0 := HK1.out.cell (i := 0) rfl
        have zHK1_0 := HK1.out.frozen 0
        have cHK1_1 := HK1.out.cell (i := 1) rfl
        have zHK1_1 := HK1.out.frozen 1
        have cHK1_2 := HK1.out.cell (i := 2) rfl
        have zHK1_2 := HK1.out.frozen 2
        have cHK1_3 := HK1.out.cell (i := 3) rfl
        have zHK1_3 := HK1.out.frozen 3
        have cHK1_4 := HK1.out.cell (i := 4) rfl
        have zHK1_4 := HK1.out.frozen 4
        have lHK1 := HK1.out.lt
        have mHK1 := Nat.le_of_lt lHK1
        have HK2 := qHK2
        clear qHK2
        have cHK2_0 := HK2.out.cell (i := 0) rfl
        have zHK2_0 := HK2.out.frozen 0
        have cHK2_1 := HK2.out.cell (i := 1) rfl
        have zHK2_1 := HK2.out.frozen 1
        have cHK2_2 := HK2.out.cell (i := 2) rfl
        have zHK2_2 := HK2.out.frozen 2
        have cHK2_3 := HK2.out.cell (i := 3) rfl
        have zHK2_3 := HK2.out.frozen 3
        have cHK2_4 := HK2.out.cell (i := 4) rfl
        have zHK2_4 := HK2.out.frozen 4
        have lHK2 := HK2.out.lt
        have mHK2 := Nat.le_of_lt lHK2
        have HK3 := qHK3
        clear qHK3
        have cHK3_0 := HK3.out.cell (i := 0) rfl
        have zHK3_0 := HK3.out.frozen 0
        have cHK3_1 := HK3.out.cell (i := 1) rfl
        have zHK3_1 := HK3.out.frozen 1
        have cHK3_2 := HK3.out.cell (i := 2) rfl
        have zHK3_2 := HK3.out.frozen 2
        have cHK3_3 := HK3.out.cell (i := 3) rfl
        have zHK3_3 := HK3.out.frozen 3
        have cHK3_4 := HK3.out.cell (i := 4) rfl
        have zHK3_4 := HK3.out.frozen 4
        have lHK3 := HK3.out.lt
        have mHK3 := Nat.le_of_lt lHK3
        have HR6 := qHR6
        clear qHR6
        have HQ := qHQ
        clear qHQ
        have hsW15 : w.heap.size ≤ W15.heap.size := HB.out.size
        go_wp2_with fail
        refine onward_mk HQ.out (hJ _ _ ?_)
        clear hJ J
        (repeat (refine wpPlan_pick (fun J hJ => ?_); go_simp; refine hJ _ ?_; clear hJ J))
        refine wpPlan_seq (fun J hJ => ?_)
        go_wp2_with fail
        refine (g_bool (c_iRecordOk o1 a1 b1 k1 e1 _) HRK.out).mono ?_
        rintro _ W16 ⟨rfl, p16, hp16⟩
        have qHB := Lib.hid (below_to hp16 HB.out)
        have qHR1 := Lib.hid (row_to hp16 HR1.out)
        have qHR4 := Lib.hid (row_to hp16 HR4.out)
        have qHR5 := Lib.hid (row_to hp16 HR5.out)
        have qHK1 := Lib.hid (Blk.to hp16 HK1.out)
        have qHK2 := Lib.hid (Blk.to hp16 HK2.out)
        have qHK3 := Lib.hid (Blk.to hp16 HK3.out)
        have qHR6 := Lib.hid (row_to hp16 HR6.out)
        have qHQ := Lib.hid (below_to hp16 HQ.out)
        clear HB HR1 HR4 HR5 cHK1_0 zHK1_0 cHK1_1 zHK1_1 cHK1_2 zHK1_2 cHK1_3 zHK1_3 cHK1_4 zHK1_4 lHK1 mHK1 HK1 cHK2_0 zHK2_0 cHK2_1 zHK2_1 cHK2_2 zHK2_2 cHK2_3 zHK2_3 cHK2_4 zHK2_4 lHK2 mHK2 HK2 cHK3_0 zHK3_0 cHK3_1 zHK3_1 cHK3_2 zHK3_2 cHK3_3 zHK3_3 cHK3_4 zHK3_4 lHK3 mHK3 HK3 HR6 HQ hp16
        have HB := qHB
        clear qHB
        have HR1 := qHR1
        clear qHR1
        have HR4 := qHR4
        clear qHR4
        have HR5 := qHR5
        clear qHR5
        have HK1 := qHK1
        clear qHK1
        have cHK1_0 := HK1.out.cell (i := 0) rfl
        have zHK1_0 := HK1.out.frozen 0
        have cHK1_1 := HK1.out.cell (i := 1) rfl
        have zHK1_1 := HK1.out.frozen 1
        have cHK1_2 := HK1.out.cell (i := 2) rfl
        have zHK1_2 := HK1.out.frozen 2
        have cHK1_3 := HK1.out.cell (i := 3) rfl
        have zHK1_3 := HK1.out.frozen 3
        have cHK1_4 := HK1.out.cell (i := 4) rfl
        have zHK1_4 := HK1.out.frozen 4
        have lHK1 := HK1.out.lt
        have mHK1 := Nat.le_of_lt lHK1
        have HK2 := qHK2
        clear qHK2
        have cHK2_0 := HK2.out.cell (i := 0) rfl
        have zHK2_0 := HK2.out.frozen 0
        have cHK2_1 := HK2.out.cell (i := 1) rfl
        have zHK2_1 := HK2.out.frozen 1
        have cHK2_2 := HK2.out.cell (i := 2) rfl
        have zHK2_2 := HK2.out.frozen 2
        have cHK2_3 := HK2.out.cell (i := 3) rfl
        have zHK2_3 := HK2.out.frozen 3
        have cHK2_4 := HK2.out.cell (i := 4) rfl
        have zHK2_4 := HK2.out.frozen 4
        have lHK2 := HK2.out.lt
        have mHK2 := Nat.le_of_lt lHK2
        have HK3 := qHK3
        clear qHK3
        have cHK3_0 := HK3.out.cell (i := 0) rfl
        have zHK3_0 := HK3.out.frozen 0
        have cHK3_1 := HK3.out.cell (i := 1) rfl
        have zHK3_1 := HK3.out.frozen 1
        have cHK3_2 := HK3.out.cell (i := 2) rfl
        have zHK3_2 := HK3.out.frozen 2
        have cHK3_3 := HK3.out.cell (i := 3) rfl
        have zHK3_3 := HK3.out.frozen 3
        have cHK3_4 := HK3.out.cell (i := 4) rfl
        have zHK3_4 := HK3.out.frozen 4
        have lHK3 := HK3.out.lt
        have mHK3 := Nat.le_of_lt lHK3
        have HR6 := qHR6
        clear qHR6
        have HQ := qHQ
        clear qHQ
        have hsW16 : w.heap.size ≤ W16.heap.size := HB.out.size
        go_wp2_with fail
        refine onward_mk HQ.out (hJ _ _ ?_)
        clear hJ J
        refine wpPlan_seq (fun J hJ => ?_)
        go_wp2_with fail
        refine (g_bool (c_sRecordOk o1 a1 b1 k1 e1 _) HRK.out).mono ?_
        rintro _ W17 ⟨rfl, p17, hp17⟩
        have qHB := Lib.hid (below_to hp17 HB.out)
        have qHR1 := Lib.hid (row_to hp17 HR1.out)
        have qHR4 := Lib.hid (row_to hp17 HR4.out)
        have qHR5 := Lib.hid (row_to hp17 HR5.out)
        have qHK1 := Lib.hid (Blk.to hp17 HK1.out)
        have qHK2 := Lib.hid (Blk.to hp17 HK2.out)
        have qHK3 := Lib.hid (Blk.to hp17 HK3.out)
        have qHR6 := Lib.hid (row_to hp17 HR6.out)
        have qHQ := Lib.hid (below_to hp17 HQ.out)
        clear HB HR1 HR4 HR5 cHK1_0 zHK1_0 cHK1_1 zHK1_1 cHK1_2 zHK1_2 cHK1_3 zHK1_3 cHK1_4 zHK1_4 lHK1 mHK1 HK1 cHK2_0 zHK2_0 cHK2_1 zHK2_1 cHK2_2 zHK2_2 cHK2_3 zHK2_3 cHK2_4 zHK2_4 lHK2 mHK2 HK2 cHK3_0 zHK3_0 cHK3_1 zHK3_1 cHK3_2 zHK3_2 cHK3_3 zHK3_3 cHK3_4 zHK3_4 lHK3 mHK3 HK3 HR6 HQ hp17
        have HB := qHB
        clear qHB
        have HR1 := qHR1
        clear qHR1
        have HR4 := qHR4
        clear qHR4
        have HR5 := qHR5
        clear qHR5
        have HK1 := qHK1
        clear qHK1
        have cHK1_0 := HK1.out.cell (i := 0) rfl
        have zHK1_0 := HK1.out.frozen 0
        have cHK1_1 := HK1.out.cell (i := 1) rfl
        have zHK1_1 := HK1.out.frozen 1
        have cHK1_2 := HK1.out.cell (i := 2) rfl
        have zHK1_2 := HK1.out.frozen 2
        have cHK1_3 := HK1.out.cell (i := 3) rfl
        have zHK1_3 := HK1.out.frozen 3
        have cHK1_4 := HK1.out.cell (i := 4) rfl
        have zHK1_4 := HK1.out.frozen 4
        have lHK1 := HK1.out.lt
        have mHK1 := Nat.le_of_lt lHK1
        have HK2 := qHK2
        clear qHK2
        have cHK2_0 := HK2.out.cell (i := 0) rfl
        have zHK2_0 := HK2.out.frozen 0
        have cHK2_1 := HK2.out.cell (i := 1) rfl
        have zHK2_1 := HK2.out.frozen 1
        have cHK2_2 := HK2.out.cell (i := 2) rfl
        have zHK2_2 := HK2.out.frozen 2
        have cHK2_3 := HK2.out.cell (i := 3) rfl
        have zHK2_3 := HK2.out.frozen 3
        have cHK2_4 := HK2.out.cell (i := 4) rfl
        have zHK2_4 := HK2.out.frozen 4
        have lHK2 := HK2.out.lt
        have mHK2 := Nat.le_of_lt lHK2
        have HK3 := qHK3
        clear qHK3
        have cHK3_0 := HK3.out.cell (i := 0) rfl
        have zHK3_0 := HK3.out.frozen 0
        have cHK3_1 := HK3.out.cell (i := 1) rfl
        have zHK3_1 := HK3.out.frozen 1
        have cHK3_2 := HK3.out.cell (i := 2) rfl
        have zHK3_2 := HK3.out.frozen 2
        have cHK3_3 := HK3.out.cell (i := 3) rfl
        have zHK3_3 := HK3.out.frozen 3
        have cHK3_4 := HK3.out.cell (i := 4) rfl
        have zHK3_4 := HK3.out.frozen 4
        have lHK3 := HK3.out.lt
        have mHK3 := Nat.le_of_lt lHK3
        have HR6 := qHR6
        clear qHR6
        have HQ := qHQ
        clear qHQ
        have hsW17 : w.heap.size ≤ W17.heap.size := HB.out.size
        go_wp2_with fail
        refine onward_mk HQ.out (hJ _ _ ?_)
        clear hJ J
        (repeat (refine wpPlan_pick (fun J hJ => ?_); go_simp; refine hJ _ ?_; clear hJ J))
        refine wpPlan_seq (fun J hJ => ?_)
        go_wp2_with fail
        refine (g_str (t_implRecord o1 a1 b1 k1 e1 _ HI1.out.1 HI1.out.2.1 HI1.out.2.2.1 HI1.out.2.2.2.1 HI1.out.2.2.2.2 (HT.out.on HB.out)) HS9.out).mono ?_
        rintro _ W18 ⟨rfl, p18, hp18⟩
        have qHB := Lib.hid (below_to hp18 HB.out)
        have qHR1 := Lib.hid (row_to hp18 HR1.out)
        have qHR4 := Lib.hid (row_to hp18 HR4.out)
        have qHR5 := Lib.hid (row_to hp18 HR5.out)
        have qHK1 := Lib.hid (Blk.to hp18 HK1.out)
        have qHK2 := Lib.hid (Blk.to hp18 HK2.out)
        have qHK3 := Lib.hid (Blk.to hp18 HK3.out)
        have qHR6 := Lib.hid (row_to hp18 HR6.out)
        have qHQ := Lib.hid (below_to hp18 HQ.out)
        clear HB HR1 HR4 HR5 cHK1_0 zHK1_0 cHK1_1 zHK1_1 cHK1_2 zHK1_2 cHK1_3 zHK1_3 cHK1_4 zHK1_4 lHK1 mHK1 HK1 cHK2_0 zHK2_0 cHK2_1 zHK2_1 cHK2_2 zHK2_2 cHK2_3 zHK2_3 cHK2_4 zHK2_4 lHK2 mHK2 HK2 cHK3_0 zHK3_0 cHK3_1 zHK3_1 cHK3_2 zHK3_2 cHK3_3 zHK3_3 cHK3_4 zHK3_4 lHK3 mHK3 HK3 HR6 HQ hp18
        have HB := qHB
        clear qHB
        have HR1 := qHR1
        clear qHR1
        have HR4 := qHR4
        clear qHR4
        have HR5 := qHR5
        clear qHR5
        have HK1 := qHK1
        clear qHK1
        have cHK1_0 := HK1.out.cell (i := 0) rfl
        have zHK1_0 := HK1.out.frozen 0
        have cHK1_1 := HK1.out.cell (i := 1) rfl
        have zHK1_1 := HK1.out.frozen 1
        have cHK1_2 := HK1.out.cell (i := 2) rfl
        have zHK1_2 := HK1.out.frozen 2
        have cHK1_3 := HK1.out.cell (i := 3) rfl
        have zHK1_3 := HK1.out.frozen 3
        have cHK1_4 := HK1.out.cell (i := 4) rfl
        have zHK1_4 := HK1.out.frozen 4
        have lHK1 := HK1.out.lt
        have mHK1 := Nat.le_of_lt lHK1
        have HK2 := qHK2
        clear qHK2
        have cHK2_0 := HK2.out.cell (i := 0) rfl
        have zHK2_0 := HK2.out.frozen 0
        have cHK2_1 := HK2.out.cell (i := 1) rfl
        have zHK2_1 := HK2.out.frozen 1
        have cHK2_2 := HK2.out.cell (i := 2) rfl
        have zHK2_2 := HK2.out.frozen 2
        have cHK2_3 := HK2.out.cell (i := 3) rfl
        have zHK2_3 := HK2.out.frozen 3
        have cHK2_4 := HK2.out.cell (i := 4) rfl
        have zHK2_4 := HK2.out.frozen 4
        have lHK2 := HK2.out.lt
        have mHK2 := Nat.le_of_lt lHK2
        have HK3 := qHK3
        clear qHK3
        have cHK3_0 := HK3.out.cell (i := 0) rfl
        have zHK3_0 := HK3.out.frozen 0
        have cHK3_1 := HK3.out.cell (i := 1) rfl
        have zHK3_1 := HK3.out.frozen 1
        have cHK3_2 := HK3.out.cell (i := 2) rfl
        have zHK3_2 := HK3.out.frozen 2
        have cHK3_3 := HK3.out.cell (i := 3) rfl
        have zHK3_3 := HK3.out.frozen 3
        have cHK3_4 := HK3.out.cell (i := 4) rfl
        have zHK3_4 := HK3.out.frozen 4
        have lHK3 := HK3.out.lt
        have mHK3 := Nat.le_of_lt lHK3
        have HR6 := qHR6
        clear qHR6
        have HQ := qHQ
        clear qHQ
        have hsW18 : w.heap.size ≤ W18.heap.size := HB.out.size
        go_wp2_with fail
        refine onward_mk HQ.out (hJ _ _ ?_)
        clear hJ J
        refine wpPlan_seq (fun J hJ => ?_)
        go_wp2_with fail
        refine (g_str (t_specRecord o1 a1 b1 k1 e1 _ HI1.out.1 HI1.out.2.1 HI1.out.2.2.1 HI1.out.2.2.2.1 HI1.out.2.2.2.2 (HT.out.on HB.out)) HS9.out).mono ?_
        rintro _ W19 ⟨rfl, p19, hp19⟩
        have qHB := Lib.hid (below_to hp19 HB.out)
        have qHR1 := Lib.hid (row_to hp19 HR1.out)
        have qHR4 := Lib.hid (row_to hp19 HR4.out)
        have qHR5 := Lib.hid (row_to hp19 HR5.out)
        have qHK1 := Lib.hid (Blk.to hp19 HK1.out)
        have qHK2 := Lib.hid (Blk.to hp19 HK2.out)
        have qHK3 := Lib.hid (Blk.to hp19 HK3.out)
        have qHR6 := Lib.hid (row_to hp19 HR6.out)
        have qHQ := Lib.hid (below_to hp19 HQ.out)
        clear HB HR1 HR4 HR5 cHK1_0 zHK1_0 cHK1_1 zHK1_1 cHK1_2 zHK1_2 cHK1_3 zHK1_3 cHK1_4 zHK1_4 lHK1 mHK1 HK1 cHK2_0 zHK2_0 cHK2_1 zHK2_1 cHK2_2 zHK2_2 cHK2_3 zHK2_3 cHK2_4 zHK2_4 lHK2 mHK2 HK2 cHK3_0 zHK3_0 cHK3_1 zHK3_1 cHK3_2 zHK3_2 cHK3_3 zHK3_3 cHK3_4 zHK3_4 lHK3 mHK3 HK3 HR6 HQ hp19
        have HB := qHB
        clear qHB
        have HR1 := qHR1
        clear qHR1
        have HR4 := qHR4
        clear qHR4
        have HR5 := qHR5
        clear qHR5
        have HK1 := qHK1
        clear qHK1
        have cHK1_0 := HK1.out.cell (i := 0) rfl
        have zHK1_0 := HK1.out.frozen 0
        have cHK1_1 := HK1.out.cell (i := 1) rfl
        have zHK1_1 := HK1.out.frozen 1
        have cHK1_2 := HK1.out.cell (i := 2) rfl
        have zHK1_2 := HK1.out.frozen 2
        have cHK1_3 := HK1.out.cell (i := 3) rfl
        have zHK1_3 := HK1.out.frozen 3
        have cHK1_4 := HK1.out.cell (i := 4) rfl
        have zHK1_4 := HK1.out.frozen 4
        have lHK1 := HK1.out.lt
        have mHK1 := Nat.le_of_lt lHK1
        have HK2 := qHK2
        clear qHK2
        have cHK2_0 := HK2.out.cell (i := 0) rfl
        have zHK2_0 := HK2.out.frozen 0
        have cHK2_1 := HK2.out.cell (i := 1) rfl
        have zHK2_1 := HK2.out.frozen 1
        have cHK2_2 := HK2.out.cell (i := 2) rfl
        have zHK2_2 := HK2.out.frozen 2
        have cHK2_3 := HK2.out.cell (i := 3) rfl
        have zHK2_3 := HK2.out.frozen 3
        have cHK2_4 := HK2.out.cell (i := 4) rfl
        have zHK2_4 := HK2.out.frozen 4
        have lHK2 := HK2.out.lt
        have mHK2 := Nat.le_of_lt lHK2
        have HK3 := qHK3
        clear qHK3
        have cHK3_0 := HK3.out.cell (i := 0) rfl
        have zHK3_0 := HK3.out.frozen 0
        have cHK3_1 := HK3.out.cell (i := 1) rfl
        have zHK3_1 := HK3.out.frozen 1
        have cHK3_2 := HK3.out.cell (i := 2) rfl
        have zHK3_2 := HK3.out.frozen 2
        have cHK3_3 := HK3.out.cell (i := 3) rfl
        have zHK3_3 := HK3.out.frozen 3
        have cHK3_4 := HK3.out.cell (i := 4) rfl
        have zHK3_4 := HK3.out.frozen 4
        have lHK3 := HK3.out.lt
        have mHK3 := Nat.le_of_lt lHK3
        have HR6 := qHR6
        clear qHR6
        have HQ := qHQ
        clear qHQ
        have hsW19 : w.heap.size ≤ W19.heap.size := HB.out.size
        go_wp2_with fail
        refine onward_mk HQ.out (hJ _ _ ?_)
        clear hJ J
        (repeat (refine wpPlan_pick (fun J hJ => ?_); go_simp; refine hJ _ ?_; clear hJ J))
        refine wpPlan_seq (fun J hJ => ?_)
        go_wp2_with fail
        refine (g_int (c_iRecordOrder o2 a2 b2 k2 e2 o3 a3 b3 k3 e3 _) HZ1.out).mono ?_
        rintro _ W20 ⟨rfl, p20, hp20⟩
        have qHB := Lib.hid (below_to hp20 HB.out)
        have qHR1 := Lib.hid (row_to hp20 HR1.out)
        have qHR4 := Lib.hid (row_to hp20 HR4.out)
        have qHR5 := Lib.hid (row_to hp20 HR5.out)
        have qHK1 := Lib.hid (Blk.to hp20 HK1.out)
        have qHK2 := Lib.hid (Blk.to hp20 HK2.out)
        have qHK3 := Lib.hid (Blk.to hp20 HK3.out)
        have qHR6 := Lib.hid (row_to hp20 HR6.out)
        have qHQ := Lib.hid (below_to hp20 HQ.out)
        clear HB HR1 HR4 HR5 cHK1_0 zHK1_0 cHK1_1 zHK1_1 cHK1_2 zHK1_2 cHK1_3 zHK1_3 cHK1_4 zHK1_4 lHK1 mHK1 HK1 cHK2_0 zHK2_0 cHK2_1 zHK2_1 cHK2_2 zHK2_2 cHK2_3 zHK2_3 cHK2_4 zHK2_4 lHK2 mHK2 HK2 cHK3_0 zHK3_0 cHK3_1 zHK3_1 cHK3_2 zHK3_2 cHK3_3 zHK3_3 cHK3_4 zHK3_4 lHK3 mHK3 HK3 HR6 HQ hp20
        have HB := qHB
        clear qHB
        have HR1 := qHR1
        clear qHR1
        have HR4 := qHR4
        clear qHR4
        have HR5 := qHR5
        clear qHR5
        have HK1 := qHK1
        clear qHK1
        have cHK1_0 := HK1.out.cell (i := 0) rfl
        have zHK1_0 := HK1.out.frozen 0
        have cHK1_1 := HK1.out.cell (i := 1) rfl
        have zHK1_1 := HK1.out.frozen 1
        have cHK1_2 := HK1.out.cell (i := 2) rfl
        have zHK1_2 := HK1.out.frozen 2
        have cHK1_3 := HK1.out.cell (i := 3) rfl
        have zHK1_3 := HK1.out.frozen 3
        have cHK1_4 := HK1.out.cell (i := 4) rfl
        have zHK1_4 := HK1.out.frozen 4
        have lHK1 := HK1.out.lt
        have mHK1 := Nat.le_of_lt lHK1
        have HK2 := qHK2
        clear qHK2
        have cHK2_0 := HK2.out.cell (i := 0) rfl
        have zHK2_0 := HK2.out.frozen 0
        have cHK2_1 := HK2.out.cell (i := 1) rfl
        have zHK2_1 := HK2.out.frozen 1
        have cHK2_2 := HK2.out.cell (i := 2) rfl
        have zHK2_2 := HK2.out.frozen 2
        have cHK2_3 := HK2.out.cell (i := 3) rfl
        have zHK2_3 := HK2.out.frozen 3
        have cHK2_4 := HK2.out.cell (i := 4) rfl
        have zHK2_4 := HK2.out.frozen 4
        have lHK2 := HK2.out.lt
        have mHK2 := Nat.le_of_lt lHK2
        have HK3 := qHK3
        clear qHK3
        have cHK3_0 := HK3.out.cell (i := 0) rfl
        have zHK3_0 := HK3.out.frozen 0
        have cHK3_1 := HK3.out.cell (i := 1) rfl
        have zHK3_1 := HK3.out.frozen 1
        have cHK3_2 := HK3.out.cell (i := 2) rfl
        have zHK3_2 := HK3.out.frozen 2
        have cHK3_3 := HK3.out.cell (i := 3) rfl
        have zHK3_3 := HK3.out.frozen 3
        have cHK3_4 := HK3.out.cell (i := 4) rfl
        have zHK3_4 := HK3.out.frozen 4
        have lHK3 := HK3.out.lt
        have mHK3 := Nat.le_of_lt lHK3
        have HR6 := qHR6
        clear qHR6
        have HQ := qHQ
        clear qHQ
        have hsW20 : w.heap.size ≤ W20.heap.size := HB.out.size
        go_wp2_with fail
        refine onward_mk HQ.out (hJ _ _ ?_)
        clear hJ J
        refine wpPlan_seq (fun J hJ => ?_)
        go_wp2_with fail
        refine (g_int (c_sRecordOrder o2 a2 b2 k2 e2 o3 a3 b3 k3 e3 _) HZ1.out).mono ?_
        rintro _ W21 ⟨rfl, p21, hp21⟩
        have qHB := Lib.hid (below_to hp21 HB.out)
        have qHR1 := Lib.hid (row_to hp21 HR1.out)
        have qHR4 := Lib.hid (row_to hp21 HR4.out)
        have qHR5 := Lib.hid (row_to hp21 HR5.out)
        have qHK1 := Lib.hid (Blk.to hp21 HK1.out)
        have qHK2 := Lib.hid (Blk.to hp21 HK2.out)
        have qHK3 := Lib.hid (Blk.to hp21 HK3.out)
        have qHR6 := Lib.hid (row_to hp21 HR6.out)
        have qHQ := Lib.hid (below_to hp21 HQ.out)
        clear HB HR1 HR4 HR5 cHK1_0 zHK1_0 cHK1_1 zHK1_1 cHK1_2 zHK1_2 cHK1_3 zHK1_3 cHK1_4 zHK1_4 lHK1 mHK1 HK1 cHK2_0 zHK2_0 cHK2_1 zHK2_1 cHK2_2 zHK2_2 cHK2_3 zHK2_3 cHK2_4 zHK2_4 lHK2 mHK2 HK2 cHK3_0 zHK3_0 cHK3_1 zHK3_1 cHK3_2 zHK3_2 cHK3_3 zHK3_3 cHK3_4 zHK3_4 lHK3 mHK3 HK3 HR6 HQ hp21
        have HB := qHB
        clear qHB
        have HR1 := qHR1
        clear qHR1
        have HR4 := qHR4
        clear qHR4
        have HR5 := qHR5
        clear qHR5
        have HK1 := qHK1
        clear qHK1
        have cHK1_0 := HK1.out.cell (i := 0) rfl
        have zHK1_0 := HK1.out.frozen 0
        have cHK1_1 := HK1.out.cell (i := 1) rfl
        have zHK1_1 := HK1.out.frozen 1
        have cHK1_2 := HK1.out.cell (i := 2) rfl
        have zHK1_2 := HK1.out.frozen 2
        have cHK1_3 := HK1.out.cell (i := 3) rfl
        have zHK1_3 := HK1.out.frozen 3
        have cHK1_4 := HK1.out.cell (i := 4) rfl
        have zHK1_4 := HK1.out.frozen 4
        have lHK1 := HK1.out.lt
        have mHK1 := Nat.le_of_lt lHK1
        have HK2 := qHK2
        clear qHK2
        have cHK2_0 := HK2.out.cell (i := 0) rfl
        have zHK2_0 := HK2.out.frozen 0
        have cHK2_1 := HK2.out.cell (i := 1) rfl
        have zHK2_1 := HK2.out.frozen 1
        have cHK2_2 := HK2.out.cell (i := 2) rfl
        have zHK2_2 := HK2.out.frozen 2
        have cHK2_3 := HK2.out.cell (i := 3) rfl
        have zHK2_3 := HK2.out.frozen 3
        have cHK2_4 := HK2.out.cell (i := 4) rfl
        have zHK2_4 := HK2.out.frozen 4
        have lHK2 := HK2.out.lt
        have mHK2 := Nat.le_of_lt lHK2
        have HK3 := qHK3
        clear qHK3
        have cHK3_0 := HK3.out.cell (i := 0) rfl
        have zHK3_0 := HK3.out.frozen 0
        have cHK3_1 := HK3.out.cell (i := 1) rfl
        have zHK3_1 := HK3.out.frozen 1
        have cHK3_2 := HK3.out.cell (i := 2) rfl
        have zHK3_2 := HK3.out.frozen 2
        have cHK3_3 := HK3.out.cell (i := 3) rfl
        have zHK3_3 := HK3.out.frozen 3
        have cHK3_4 := HK3.out.cell (i := 4) rfl
        have zHK3_4 := HK3.out.frozen 4
        have lHK3 := HK3.out.lt
        have mHK3 := Nat.le_of_lt lHK3
        have HR6 := qHR6
        clear qHR6
        have HQ := qHQ
        clear qHQ
        have hsW21 : w.heap.size ≤ W21.heap.size := HB.out.size
        go_wp2_with fail
        refine onward_mk HQ.out (hJ _ _ ?_)
        clear hJ J
        (repeat (refine wpPlan_pick (fun J hJ => ?_); go_simp; refine hJ _ ?_; clear hJ J))
        refine wpPlan_seq (fun J hJ => ?_)
        go_wp2_with fail
        refine (g_int (c_iRecordOrder o2 a2 b2 k2 e2 o3 a3 b3 k3 e3 _) HZ1.out).mono ?_
        rintro _ W22 ⟨rfl, p22, hp22⟩
        have qHB := Lib.hid (below_to hp22 HB.out)
        have qHR1 := Lib.hid (row_to hp22 HR1.out)
        have qHR4 := Lib.hid (row_to hp22 HR4.out)
        have qHR5 := Lib.hid (row_to hp22 HR5.out)
        have qHK1 := Lib.hid (Blk.to hp22 HK1.out)
        have qHK2 := Lib.hid (Blk.to hp22 HK2.out)
        have qHK3 := Lib.hid (Blk.to hp22 HK3.out)
        have qHR6 := Lib.hid (row_to hp22 HR6.out)
        have qHQ := Lib.hid (below_to hp22 HQ.out)
        clear HB HR1 HR4 HR5 cHK1_0 zHK1_0 cHK1_1 zHK1_1 cHK1_2 zHK1_2 cHK1_3 zHK1_3 cHK1_4 zHK1_4 lHK1 mHK1 HK1 cHK2_0 zHK2_0 cHK2_1 zHK2_1 cHK2_2 zHK2_2 cHK2_3 zHK2_3 cHK2_4 zHK2_4 lHK2 mHK2 HK2 cHK3_0 zHK3_0 cHK3_1 zHK3_1 cHK3_2 zHK3_2 cHK3_3 zHK3_3 cHK3_4 zHK3_4 lHK3 mHK3 HK3 HR6 HQ hp22
        have HB := qHB
        clear qHB
        have HR1 := qHR1
        clear qHR1
        have HR4 := qHR4
        clear qHR4
        have HR5 := qHR5
        clear qHR5
        have HK1 := qHK1
        clear qHK1
        have cHK1_0 := HK1.out.cell (i := 0) rfl
        have zHK1_0 := HK1.out.frozen 0
        have cHK1_1 := HK1.out.cell (i := 1) rfl
        have zHK1_1 := HK1.out.frozen 1
        have cHK1_2 := HK1.out.cell (i := 2) rfl
        have zHK1_2 := HK1.out.frozen 2
        have cHK1_3 := HK1.out.cell (i := 3) rfl
        have zHK1_3 := HK1.out.frozen 3
        have cHK1_4 := HK1.out.cell (i := 4) rfl
        have zHK1_4 := HK1.out.frozen 4
        have lHK1 := HK1.out.lt
        have mHK1 := Nat.le_of_lt lHK1
        have HK2 := qHK2
        clear qHK2
        have cHK2_0 := HK2.out.cell (i := 0) rfl
        have zHK2_0 := HK2.out.frozen 0
        have cHK2_1 := HK2.out.cell (i := 1) rfl
        have zHK2_1 := HK2.out.frozen 1
        have cHK2_2 := HK2.out.cell (i := 2) rfl
        have zHK2_2 := HK2.out.frozen 2
        have cHK2_3 := HK2.out.cell (i := 3) rfl
        have zHK2_3 := HK2.out.frozen 3
        have cHK2_4 := HK2.out.cell (i := 4) rfl
        have zHK2_4 := HK2.out.frozen 4
        have lHK2 := HK2.out.lt
        have mHK2 := Nat.le_of_lt lHK2
        have HK3 := qHK3
        clear qHK3
        have cHK3_0 := HK3.out.cell (i := 0) rfl
        have zHK3_0 := HK3.out.frozen 0
        have cHK3_1 := HK3.out.cell (i := 1) rfl
        have zHK3_1 := HK3.out.frozen 1
        have cHK3_2 := HK3.out.cell (i := 2) rfl
        have zHK3_2 := HK3.out.frozen 2
        have cHK3_3 := HK3.out.cell (i := 3) rfl
        have zHK3_3 := HK3.out.frozen 3
        have cHK3_4 := HK3.out.cell (i := 4) rfl
        have zHK3_4 := HK3.out.frozen 4
        have lHK3 := HK3.out.lt
        have mHK3 := Nat.le_of_lt lHK3
        have HR6 := qHR6
        clear qHR6
        have HQ := qHQ
        clear qHQ
        have hsW22 : w.heap.size ≤ W22.heap.size := HB.out.size
        go_wp2_with fail
        refine onward_mk HQ.out (hJ _ _ ?_)
        clear hJ J
        refine wpPlan_seq (fun J hJ => ?_)
        go_wp2_with fail
        refine (g_int (c_iRecordOrder o3 a3 b3 k3 e3 o2 a2 b2 k2 e2 _) HZ2.out).mono ?_
        rintro _ W23 ⟨rfl, p23, hp23⟩
        have qHB := Lib.hid (below_to hp23 HB.out)
        have qHR1 := Lib.hid (row_to hp23 HR1.out)
        have qHR4 := Lib.hid (row_to hp23 HR4.out)
        have qHR5 := Lib.hid (row_to hp23 HR5.out)
        have qHK1 := Lib.hid (Blk.to hp23 HK1.out)
        have qHK2 := Lib.hid (Blk.to hp23 HK2.out)
        have qHK3 := Lib.hid (Blk.to hp23 HK3.out)
        have qHR6 := Lib.hid (row_to hp23 HR6.out)
        have qHQ := Lib.hid (below_to hp23 HQ.out)
        clear HB HR1 HR4 HR5 cHK1_0 zHK1_0 cHK1_1 zHK1_1 cHK1_2 zHK1_2 cHK1_3 zHK1_3 cHK1_4 zHK1_4 lHK1 mHK1 HK1 cHK2_0 zHK2_0 cHK2_1 zHK2_1 cHK2_2 zHK2_2 cHK2_3 zHK2_3 cHK2_4 zHK2_4 lHK2 mHK2 HK2 cHK3_0 zHK3_0 cHK3_1 zHK3_1 cHK3_2 zHK3_2 cHK3_3 zHK3_3 cHK3_4 zHK3_4 lHK3 mHK3 HK3 HR6 HQ hp23
        have HB := qHB
        clear qHB
        have HR1 := qHR1
        clear qHR1
        have HR4 := qHR4
        clear qHR4
        have HR5 := qHR5
        clear qHR5
        have HK1 := qHK1
        clear qHK1
        have cHK1_0 := HK1.out.cell (i := 0) rfl
        have zHK1_0 := HK1.out.frozen 0
        have cHK1_1 := HK1.out.cell (i := 1) rfl
        have zHK1_1 := HK1.out.frozen 1
        have cHK1_2 := HK1.out.cell (i := 2) rfl
        have zHK1_2 := HK1.out.frozen 2
        have cHK1_3 := HK1.out.cell (i := 3) rfl
        have zHK1_3 := HK1.out.frozen 3
        have cHK1_4 := HK1.out.cell (i := 4) rfl
        have zHK1_4 := HK1.out.frozen 4
        have lHK1 := HK1.out.lt
        have mHK1 := Nat.le_of_lt lHK1
        have HK2 := qHK2
        clear qHK2
        have cHK2_0 := HK2.out.cell (i := 0) rfl
        have zHK2_0 := HK2.out.frozen 0
        have cHK2_1 := HK2.out.cell (i := 1) rfl
        have zHK2_1 := HK2.out.frozen 1
        have cHK2_2 := HK2.out.cell (i := 2) rfl
        have zHK2_2 := HK2.out.frozen 2
        have cHK2_3 := HK2.out.cell (i := 3) rfl
        have zHK2_3 := HK2.out.frozen 3
        have cHK2_4 := HK2.out.cell (i := 4) rfl
        have zHK2_4 := HK2.out.frozen 4
        have lHK2 := HK2.out.lt
        have mHK2 := Nat.le_of_lt lHK2
        have HK3 := qHK3
        clear qHK3
        have cHK3_0 := HK3.out.cell (i := 0) rfl
        have zHK3_0 := HK3.out.frozen 0
        have cHK3_1 := HK3.out.cell (i := 1) rfl
        have zHK3_1 := HK3.out.frozen 1
        have cHK3_2 := HK3.out.cell (i := 2) rfl
        have zHK3_2 := HK3.out.frozen 2
        have cHK3_3 := HK3.out.cell (i := 3) rfl
        have zHK3_3 := HK3.out.frozen 3
        have cHK3_4 := HK3.out.cell (i := 4) rfl
        have zHK3_4 := HK3.out.frozen 4
        have lHK3 := HK3.out.lt
        have mHK3 := Nat.le_of_lt lHK3
        have HR6 := qHR6
        clear qHR6
        have HQ := qHQ
        clear qHQ
        have hsW23 : w.heap.size ≤ W23.heap.size := HB.out.size
        go_wp2_with fail
        refine onward_mk HQ.out (hJ _ _ ?_)
        clear hJ J
        have hzn := HZN.out
        have hzm := HZM.out
        (repeat (refine wpPlan_pick (fun J hJ => ?_); go_simp; refine hJ _ ?_; clear hJ J))
        refine wpPlan_seq (fun J hJ => ?_)
        go_wp2_with fail
        refine (m_iOfEpoch A6 n6 c6 xs6 ep _ E HL6.out (by omega) HR6.out HE.out).mono ?_
        rintro _ W24 ⟨A7, n7, c7, rfl, hl7, hc7, hm7, hO7, p24, hp24⟩
        have qHB := Lib.hid (below_to hp24 HB.out)
        have qHR1 := Lib.hid (row_to hp24 HR1.out)
        have qHR4 := Lib.hid (row_to hp24 HR4.out)
        have qHR5 := Lib.hid (row_to hp24 HR5.out)
        have qHK1 := Lib.hid (Blk.to hp24 HK1.out)
        have qHK2 := Lib.hid (Blk.to hp24 HK2.out)
        have qHK3 := Lib.hid (Blk.to hp24 HK3.out)
        have qHR6 := Lib.hid (row_to hp24 HR6.out)
        have qHQ := Lib.hid (below_to hp24 HQ.out)
        clear HB HR1 HR4 HR5 cHK1_0 zHK1_0 cHK1_1 zHK1_1 cHK1_2 zHK1_2 cHK1_3 zHK1_3 cHK1_4 zHK1_4 lHK1 mHK1 HK1 cHK2_0 zHK2_0 cHK2_1 zHK2_1 cHK2_2 zHK2_2 cHK2_3 zHK2_3 cHK2_4 zHK2_4 lHK2 mHK2 HK2 cHK3_0 zHK3_0 cHK3_1 zHK3_1 cHK3_2 zHK3_2 cHK3_3 zHK3_3 cHK3_4 zHK3_4 lHK3 mHK3 HK3 HR6 HQ hp24
        have HB := qHB
        clear qHB
        have HR1 := qHR1
        clear qHR1
        have HR4 := qHR4
        clear qHR4
        have HR5 := qHR5
        clear qHR5
        have HK1 := qHK1
        clear qHK1
        have cHK1_0 := HK1.out.cell (i := 0) rfl
        have zHK1_0 := HK1.out.frozen 0
        have cHK1_1 := HK1.out.cell (i := 1) rfl
        have zHK1_1 := HK1.out.frozen 1
        have cHK1_2 := HK1.out.cell (i := 2) rfl
        have zHK1_2 := HK1.out.frozen 2
        have cHK1_3 := HK1.out.cell (i := 3) rfl
        have zHK1_3 := HK1.out.frozen 3
        have cHK1_4 := HK1.out.cell (i := 4) rfl
        have zHK1_4 := HK1.out.frozen 4
        have lHK1 := HK1.out.lt
        have mHK1 := Nat.le_of_lt lHK1
        have HK2 := qHK2
        clear qHK2
        have cHK2_0 := HK2.out.cell (i := 0) rfl
        have zHK2_0 := HK2.out.frozen 0
        have cHK2_1 := HK2.out.cell (i := 1) rfl
        have zHK2_1 := HK2.out.frozen 1
        have cHK2_2 := HK2.out.cell (i := 2) rfl
        have zHK2_2 := HK2.out.frozen 2
        have cHK2_3 := HK2.out.cell (i := 3) rfl
        have zHK2_3 := HK2.out.frozen 3
        have cHK2_4 := HK2.out.cell (i := 4) rfl
        have zHK2_4 := HK2.out.frozen 4
        have lHK2 := HK2.out.lt
        have mHK2 := Nat.le_of_lt lHK2
        have HK3 := qHK3
        clear qHK3
        have cHK3_0 := HK3.out.cell (i := 0) rfl
        have zHK3_0 := HK3.out.frozen 0
        have cHK3_1 := HK3.out.cell (i := 1) rfl
        have zHK3_1 := HK3.out.frozen 1
        have cHK3_2 := HK3.out.cell (i := 2) rfl
        have zHK3_2 := HK3.out.frozen 2
        have cHK3_3 := HK3.out.cell (i := 3) rfl
        have zHK3_3 := HK3.out.frozen 3
        have cHK3_4 := HK3.out.cell (i := 4) rfl
        have zHK3_4 := HK3.out.frozen 4
        have lHK3 := HK3.out.lt
        have mHK3 := Nat.le_of_lt lHK3
        have HR6 := qHR6
        clear qHR6
        have HQ := qHQ
        clear qHQ
        have hsW24 : w.heap.size ≤ W24.heap.size := HB.out.size
        have HR7 := Lib.hid (hO7.row)
        have HL7 := Lib.hid hl7
        clear hO7 hl7
        go_wp2_with fail
        refine onward_mk HQ.out (hJ _ _ ?_)
        clear hJ J
        refine wpPlan_seq (fun J hJ => ?_)
        go_wp2_with fail
        refine (m_sOfEpoch A6 n6 c6 xs6 ep _ E HL6.out (by omega) HR6.out HE.out).mono ?_
        rintro _ W25 ⟨A8, n8, c8, rfl, hl8, hc8, hm8, hO8, p25, hp25⟩
        have qHB := Lib.hid (below_to hp25 HB.out)
        have qHR1 := Lib.hid (row_to hp25 HR1.out)
        have qHR4 := Lib.hid (row_to hp25 HR4.out)
        have qHR5 := Lib.hid (row_to hp25 HR5.out)
        have qHK1 := Lib.hid (Blk.to hp25 HK1.out)
        have qHK2 := Lib.hid (Blk.to hp25 HK2.out)
        have qHK3 := Lib.hid (Blk.to hp25 HK3.out)
        have qHR6 := Lib.hid (row_to hp25 HR6.out)
        have qHQ := Lib.hid (below_to hp25 HQ.out)
        have qHR7 := Lib.hid (row_to hp25 HR7.out)
        clear HB HR1 HR4 HR5 cHK1_0 zHK1_0 cHK1_1 zHK1_1 cHK1_2 zHK1_2 cHK1_3 zHK1_3 cHK1_4 zHK1_4 lHK1 mHK1 HK1 cHK2_0 zHK2_0 cHK2_1 zHK2_1 cHK2_2 zHK2_2 cHK2_3 zHK2_3 cHK2_4 zHK2_4 lHK2 mHK2 HK2 cHK3_0 zHK3_0 cHK3_1 zHK3_1 cHK3_2 zHK3_2 cHK3_3 zHK3_3 cHK3_4 zHK3_4 lHK3 mHK3 HK3 HR6 HQ HR7 hp25
        have HB := qHB
        clear qHB
        have HR1 := qHR1
        clear qHR1
        have HR4 := qHR4
        clear qHR4
        have HR5 := qHR5
        clear qHR5
        have HK1 := qHK1
        clear qHK1
        have cHK1_0 := HK1.out.cell (i := 0) rfl
        have zHK1_0 := HK1.out.frozen 0
        have cHK1_1 := HK1.out.cell (i := 1) rfl
        have zHK1_1 := HK1.out.frozen 1
        have cHK1_2 := HK1.out.cell (i := 2) rfl
        have zHK1_2 := HK1.out.frozen 2
        have cHK1_3 := HK1.out.cell (i := 3) rfl
        have zHK1_3 := HK1.out.frozen 3
        have cHK1_4 := HK1.out.cell (i := 4) rfl
        have zHK1_4 := HK1.out.frozen 4
        have lHK1 := HK1.out.lt
        have mHK1 := Nat.le_of_lt lHK1
        have HK2 := qHK2
        clear qHK2
        have cHK2_0 := HK2.out.cell (i := 0) rfl
        have zHK2_0 := HK2.out.frozen 0
        have cHK2_1 := HK2.out.cell (i := 1) rfl
        have zHK2_1 := HK2.out.frozen 1
        have cHK2_2 := HK2.out.cell (i := 2) rfl
        have zHK2_2 := HK2.out.frozen 2
        have cHK2_3 := HK2.out.cell (i := 3) rfl
        have zHK2_3 := HK2.out.frozen 3
        have cHK2_4 := HK2.out.cell (i := 4) rfl
        have zHK2_4 := HK2.out.frozen 4
        have lHK2 := HK2.out.lt
        have mHK2 := Nat.le_of_lt lHK2
        have HK3 := qHK3
        clear qHK3
        have cHK3_0 := HK3.out.cell (i := 0) rfl
        have zHK3_0 := HK3.out.frozen 0
        have cHK3_1 := HK3.out.cell (i := 1) rfl
        have zHK3_1 := HK3.out.frozen 1
        have cHK3_2 := HK3.out.cell (i := 2) rfl
        have zHK3_2 := HK3.out.frozen 2
        have cHK3_3 := HK3.out.cell (i := 3) rfl
        have zHK3_3 := HK3.out.frozen 3
        have cHK3_4 := HK3.out.cell (i := 4) rfl
        have zHK3_4 := HK3.out.frozen 4
        have lHK3 := HK3.out.lt
        have mHK3 := Nat.le_of_lt lHK3
        have HR6 := qHR6
        clear qHR6
        have HQ := qHQ
        clear qHQ
        have HR7 := qHR7
        clear qHR7
        have hsW25 : w.heap.size ≤ W25.heap.size := HB.out.size
        have HR8 := Lib.hid (hO8.row)
        have HL8 := Lib.hid hl8
        clear hO8 hl8
        go_wp2_with fail
        refine onward_mk HQ.out (hJ _ _ ?_)
        clear hJ J
        have hb7 : n7 ≤ 6 := by rw [← HL7.out]; exact hEl
        have hb8 : n8 ≤ 6 := by rw [← HL8.out]; exact hEl
        refine wpPlan_seq (fun J hJ => ?_)
        go_wp2_with fail
        refine (z_sameR A7 A8 n7 n8 c7 c8 E E _ HL7.out HL8.out (by omega) (by omega) HR7.out HR8.out rfl).mono ?_
        rintro _ W26 ⟨rfl, p26, hp26⟩
        have qHB := Lib.hid (below_to hp26 HB.out)
        have qHR1 := Lib.hid (row_to hp26 HR1.out)
        have qHR4 := Lib.hid (row_to hp26 HR4.out)
        have qHR5 := Lib.hid (row_to hp26 HR5.out)
        have qHK1 := Lib.hid (Blk.to hp26 HK1.out)
        have qHK2 := Lib.hid (Blk.to hp26 HK2.out)
        have qHK3 := Lib.hid (Blk.to hp26 HK3.out)
        have qHR6 := Lib.hid (row_to hp26 HR6.out)
        have qHQ := Lib.hid (below_to hp26 HQ.out)
        have qHR7 := Lib.hid (row_to hp26 HR7.out)
        have qHR8 := Lib.hid (row_to hp26 HR8.out)
        clear HB HR1 HR4 HR5 cHK1_0 zHK1_0 cHK1_1 zHK1_1 cHK1_2 zHK1_2 cHK1_3 zHK1_3 cHK1_4 zHK1_4 lHK1 mHK1 HK1 cHK2_0 zHK2_0 cHK2_1 zHK2_1 cHK2_2 zHK2_2 cHK2_3 zHK2_3 cHK2_4 zHK2_4 lHK2 mHK2 HK2 cHK3_0 zHK3_0 cHK3_1 zHK3_1 cHK3_2 zHK3_2 cHK3_3 zHK3_3 cHK3_4 zHK3_4 lHK3 mHK3 HK3 HR6 HQ HR7 HR8 hp26
        have HB := qHB
        clear qHB
        have HR1 := qHR1
        clear qHR1
        have HR4 := qHR4
        clear qHR4
        have HR5 := qHR5
        clear qHR5
        have HK1 := qHK1
        clear qHK1
        have cHK1_0 := HK1.out.cell (i := 0) rfl
        have zHK1_0 := HK1.out.frozen 0
        have cHK1_1 := HK1.out.cell (i := 1) rfl
        have zHK1_1 := HK1.out.frozen 1
        have cHK1_2 := HK1.out.cell (i := 2) rfl
        have zHK1_2 := HK1.out.frozen 2
        have cHK1_3 := HK1.out.cell (i := 3) rfl
        have zHK1_3 := HK1.out.frozen 3
        have cHK1_4 := HK1.out.cell (i := 4) rfl
        have zHK1_4 := HK1.out.frozen 4
        have lHK1 := HK1.out.lt
        have mHK1 := Nat.le_of_lt lHK1
        have HK2 := qHK2
        clear qHK2
        have cHK2_0 := HK2.out.cell (i := 0) rfl
        have zHK2_0 := HK2.out.frozen 0
        have cHK2_1 := HK2.out.cell (i := 1) rfl
        have zHK2_1 := HK2.out.frozen 1
        have cHK2_2 := HK2.out.cell (i := 2) rfl
        have zHK2_2 := HK2.out.frozen 2
        have cHK2_3 := HK2.out.cell (i := 3) rfl
        have zHK2_3 := HK2.out.frozen 3
        have cHK2_4 := HK2.out.cell (i := 4) rfl
        have zHK2_4 := HK2.out.frozen 4
        have lHK2 := HK2.out.lt
        have mHK2 := Nat.le_of_lt lHK2
        have HK3 := qHK3
        clear qHK3
        have cHK3_0 := HK3.out.cell (i := 0) rfl
        have zHK3_0 := HK3.out.frozen 0
        have cHK3_1 := HK3.out.cell (i := 1) rfl
        have zHK3_1 := HK3.out.frozen 1
        have cHK3_2 := HK3.out.cell (i := 2) rfl
        have zHK3_2 := HK3.out.frozen 2
        have cHK3_3 := HK3.out.cell (i := 3) rfl
        have zHK3_3 := HK3.out.frozen 3
        have cHK3_4 := HK3.out.cell (i := 4) rfl
        have zHK3_4 := HK3.out.frozen 4
        have lHK3 := HK3.out.lt
        have mHK3 := Nat.le_of_lt lHK3
        have HR6 := qHR6
        clear qHR6
        have HQ := qHQ
        clear qHQ
        have HR7 := qHR7
        clear qHR7
        have HR8 := qHR8
        clear qHR8
        have hsW26 : w.heap.size ≤ W26.heap.size := HB.out.size
        go_wp2_with fail
        refine onward_mk HQ.out (hJ _ _ ?_)
        clear hJ J
        (repeat (refine wpPlan_pick (fun J hJ => ?_); go_simp; refine hJ _ ?_; clear hJ J))
        refine wpPlan_seq (fun J hJ => ?_)
        go_wp2_with fail
        refine (m_iCountsOf A1 n1 c1 xs1 T _ HL1.out (by omega) HR1.out HTI.out).mono ?_
        rintro _ W27 ⟨A9, n9, c9, rfl, hl9, hc9, hm9, hO9, p27, hp27⟩
        have qHB := Lib.hid (below_to hp27 HB.out)
        have qHR1 := Lib.hid (row_to hp27 HR1.out)
        have qHR4 := Lib.hid (row_to hp27 HR4.out)
        have qHR5 := Lib.hid (row_to hp27 HR5.out)
        have qHK1 := Lib.hid (Blk.to hp27 HK1.out)
        have qHK2 := Lib.hid (Blk.to hp27 HK2.out)
        have qHK3 := Lib.hid (Blk.to hp27 HK3.out)
        have qHR6 := Lib.hid (row_to hp27 HR6.out)
        have qHQ := Lib.hid (below_to hp27 HQ.out)
        have qHR7 := Lib.hid (row_to hp27 HR7.out)
        have qHR8 := Lib.hid (row_to hp27 HR8.out)
        clear HB HR1 HR4 HR5 cHK1_0 zHK1_0 cHK1_1 zHK1_1 cHK1_2 zHK1_2 cHK1_3 zHK1_3 cHK1_4 zHK1_4 lHK1 mHK1 HK1 cHK2_0 zHK2_0 cHK2_1 zHK2_1 cHK2_2 zHK2_2 cHK2_3 zHK2_3 cHK2_4 zHK2_4 lHK2 mHK2 HK2 cHK3_0 zHK3_0 cHK3_1 zHK3_1 cHK3_2 zHK3_2 cHK3_3 zHK3_3 cHK3_4 zHK3_4 lHK3 mHK3 HK3 HR6 HQ HR7 HR8 hp27
        have HB := qHB
        clear qHB
        have HR1 := qHR1
        clear qHR1
        have HR4 := qHR4
        clear qHR4
        have HR5 := qHR5
        clear qHR5
        have HK1 := qHK1
        clear qHK1
        have cHK1_0 := HK1.out.cell (i := 0) rfl
        have zHK1_0 := HK1.out.frozen 0
        have cHK1_1 := HK1.out.cell (i := 1) rfl
        have zHK1_1 := HK1.out.frozen 1
        have cHK1_2 := HK1.out.cell (i := 2) rfl
        have zHK1_2 := HK1.out.frozen 2
        have cHK1_3 := HK1.out.cell (i := 3) rfl
        have zHK1_3 := HK1.out.frozen 3
        have cHK1_4 := HK1.out.cell (i := 4) rfl
        have zHK1_4 := HK1.out.frozen 4
        have lHK1 := HK1.out.lt
        have mHK1 := Nat.le_of_lt lHK1
        have HK2 := qHK2
        clear qHK2
        have cHK2_0 := HK2.out.cell (i := 0) rfl
        have zHK2_0 := HK2.out.frozen 0
        have cHK2_1 := HK2.out.cell (i := 1) rfl
        have zHK2_1 := HK2.out.frozen 1
        have cHK2_2 := HK2.out.cell (i := 2) rfl
        have zHK2_2 := HK2.out.frozen 2
        have cHK2_3 := HK2.out.cell (i := 3) rfl
        have zHK2_3 := HK2.out.frozen 3
        have cHK2_4 := HK2.out.cell (i := 4) rfl
        have zHK2_4 := HK2.out.frozen 4
        have lHK2 := HK2.out.lt
        have mHK2 := Nat.le_of_lt lHK2
        have HK3 := qHK3
        clear qHK3
        have cHK3_0 := HK3.out.cell (i := 0) rfl
        have zHK3_0 := HK3.out.frozen 0
        have cHK3_1 := HK3.out.cell (i := 1) rfl
        have zHK3_1 := HK3.out.frozen 1
        have cHK3_2 := HK3.out.cell (i := 2) rfl
        have zHK3_2 := HK3.out.frozen 2
        have cHK3_3 := HK3.out.cell (i := 3) rfl
        have zHK3_3 := HK3.out.frozen 3
        have cHK3_4 := HK3.out.cell (i := 4) rfl
        have zHK3_4 := HK3.out.frozen 4
        have lHK3 := HK3.out.lt
        have mHK3 := Nat.le_of_lt lHK3
        have HR6 := qHR6
        clear qHR6
        have HQ := qHQ
        clear qHQ
        have HR7 := qHR7
        clear qHR7
        have HR8 := qHR8
        clear qHR8
        have hsW27 : w.heap.size ≤ W27.heap.size := HB.out.size
        have HR9 := Lib.hid (hO9.row)
        have HL9 := Lib.hid hl9
        clear hO9 hl9
        go_wp2_with fail
        refine onward_mk HQ.out (hJ _ _ ?_)
        clear hJ J
        refine wpPlan_seq (fun J hJ => ?_)
        go_wp2_with fail
        refine (m_sCountsOf A1 n1 c1 xs1 T _ HL1.out (by omega) HR1.out HTS.out).mono ?_
        rintro _ W28 ⟨A10, n10, c10, rfl, hl10, hc10, hm10, hO10, p28, hp28⟩
        have qHB := Lib.hid (below_to hp28 HB.out)
        have qHR1 := Lib.hid (row_to hp28 HR1.out)
        have qHR4 := Lib.hid (row_to hp28 HR4.out)
        have qHR5 := Lib.hid (row_to hp28 HR5.out)
        have qHK1 := Lib.hid (Blk.to hp28 HK1.out)
        have qHK2 := Lib.hid (Blk.to hp28 HK2.out)
        have qHK3 := Lib.hid (Blk.to hp28 HK3.out)
        have qHR6 := Lib.hid (row_to hp28 HR6.out)
        have qHQ := Lib.hid (below_to hp28 HQ.out)
        have qHR7 := Lib.hid (row_to hp28 HR7.out)
        have qHR8 := Lib.hid (row_to hp28 HR8.out)
        have qHR9 := Lib.hid (row_to hp28 HR9.out)
        clear HB HR1 HR4 HR5 cHK1_0 zHK1_0 cHK1_1 zHK1_1 cHK1_2 zHK1_2 cHK1_3 zHK1_3 cHK1_4 zHK1_4 lHK1 mHK1 HK1 cHK2_0 zHK2_0 cHK2_1 zHK2_1 cHK2_2 zHK2_2 cHK2_3 zHK2_3 cHK2_4 zHK2_4 lHK2 mHK2 HK2 cHK3_0 zHK3_0 cHK3_1 zHK3_1 cHK3_2 zHK3_2 cHK3_3 zHK3_3 cHK3_4 zHK3_4 lHK3 mHK3 HK3 HR6 HQ HR7 HR8 HR9 hp28
        have HB := qHB
        clear qHB
        have HR1 := qHR1
        clear qHR1
        have HR4 := qHR4
        clear qHR4
        have HR5 := qHR5
        clear qHR5
        have HK1 := qHK1
        clear qHK1
        have cHK1_0 := HK1.out.cell (i := 0) rfl
        have zHK1_0 := HK1.out.frozen 0
        have cHK1_1 := HK1.out.cell (i := 1) rfl
        have zHK1_1 := HK1.out.frozen 1
        have cHK1_2 := HK1.out.cell (i := 2) rfl
        have zHK1_2 := HK1.out.frozen 2
        have cHK1_3 := HK1.out.cell (i := 3) rfl
        have zHK1_3 := HK1.out.frozen 3
        have cHK1_4 := HK1.out.cell (i := 4) rfl
        have zHK1_4 := HK1.out.frozen 4
        have lHK1 := HK1.out.lt
        have mHK1 := Nat.le_of_lt lHK1
        have HK2 := qHK2
        clear qHK2
        have cHK2_0 := HK2.out.cell (i := 0) rfl
        have zHK2_0 := HK2.out.frozen 0
        have cHK2_1 := HK2.out.cell (i := 1) rfl
        have zHK2_1 := HK2.out.frozen 1
        have cHK2_2 := HK2.out.cell (i := 2) rfl
        have zHK2_2 := HK2.out.frozen 2
        have cHK2_3 := HK2.out.cell (i := 3) rfl
        have zHK2_3 := HK2.out.frozen 3
        have cHK2_4 := HK2.out.cell (i := 4) rfl
        have zHK2_4 := HK2.out.frozen 4
        have lHK2 := HK2.out.lt
        have mHK2 := Nat.le_of_lt lHK2
        have HK3 := qHK3
        clear qHK3
        have cHK3_0 := HK3.out.cell (i := 0) rfl
        have zHK3_0 := HK3.out.frozen 0
        have cHK3_1 := HK3.out.cell (i := 1) rfl
        have zHK3_1 := HK3.out.frozen 1
        have cHK3_2 := HK3.out.cell (i := 2) rfl
        have zHK3_2 := HK3.out.frozen 2
        have cHK3_3 := HK3.out.cell (i := 3) rfl
        have zHK3_3 := HK3.out.frozen 3
        have cHK3_4 := HK3.out.cell (i := 4) rfl
        have zHK3_4 := HK3.out.frozen 4
        have lHK3 := HK3.out.lt
        have mHK3 := Nat.le_of_lt lHK3
        have HR6 := qHR6
        clear qHR6
        have HQ := qHQ
        clear qHQ
        have HR7 := qHR7
        clear qHR7
        have HR8 := qHR8
        clear qHR8
        have HR9 := qHR9
        clear qHR9
        have hsW28 : w.heap.size ≤ W28.heap.size := HB.out.size
        have HR10 := Lib.hid (hO10.row)
        have HL10 := Lib.hid hl10
        clear hO10 hl10
        go_wp2_with fail
        refine onward_mk HQ.out (hJ _ _ ?_)
        clear hJ J
        have hb9 : n9 ≤ 6 := by rw [← HL9.out]; exact hcl
        have hb10 : n10 ≤ 6 := by rw [← HL10.out]; exact hcl
        refine wpPlan_seq (fun J hJ => ?_)
        go_wp2_with fail
        refine (z_sameC A9 A10 n9 n10 c9 c10 T T _ HL9.out HL10.out (by omega) (by omega) HR9.out HR10.out rfl).mono ?_
        rintro _ W29 ⟨rfl, p29, hp29⟩
        have qHB := Lib.hid (below_to hp29 HB.out)
        have qHR1 := Lib.hid (row_to hp29 HR1.out)
        have qHR4 := Lib.hid (row_to hp29 HR4.out)
        have qHR5 := Lib.hid (row_to hp29 HR5.out)
        have qHK1 := Lib.hid (Blk.to hp29 HK1.out)
        have qHK2 := Lib.hid (Blk.to hp29 HK2.out)
        have qHK3 := Lib.hid (Blk.to hp29 HK3.out)
        have qHR6 := Lib.hid (row_to hp29 HR6.out)
        have qHQ := Lib.hid (below_to hp29 HQ.out)
        have qHR7 := Lib.hid (row_to hp29 HR7.out)
        have qHR8 := Lib.hid (row_to hp29 HR8.out)
        have qHR9 := Lib.hid (row_to hp29 HR9.out)
        have qHR10 := Lib.hid (row_to hp29 HR10.out)
        clear HB HR1 HR4 HR5 cHK1_0 zHK1_0 cHK1_1 zHK1_1 cHK1_2 zHK1_2 cHK1_3 zHK1_3 cHK1_4 zHK1_4 lHK1 mHK1 HK1 cHK2_0 zHK2_0 cHK2_1 zHK2_1 cHK2_2 zHK2_2 cHK2_3 zHK2_3 cHK2_4 zHK2_4 lHK2 mHK2 HK2 cHK3_0 zHK3_0 cHK3_1 zHK3_1 cHK3_2 zHK3_2 cHK3_3 zHK3_3 cHK3_4 zHK3_4 lHK3 mHK3 HK3 HR6 HQ HR7 HR8 HR9 HR10 hp29
        have HB := qHB
        clear qHB
        have HR1 := qHR1
        clear qHR1
        have HR4 := qHR4
        clear qHR4
        have HR5 := qHR5
        clear qHR5
        have HK1 := qHK1
        clear qHK1
        have cHK1_0 := HK1.out.cell (i := 0) rfl
        have zHK1_0 := HK1.out.frozen 0
        have cHK1_1 := HK1.out.cell (i := 1) rfl
        have zHK1_1 := HK1.out.frozen 1
        have cHK1_2 := HK1.out.cell (i := 2) rfl
        have zHK1_2 := HK1.out.frozen 2
        have cHK1_3 := HK1.out.cell (i := 3) rfl
        have zHK1_3 := HK1.out.frozen 3
        have cHK1_4 := HK1.out.cell (i := 4) rfl
        have zHK1_4 := HK1.out.frozen 4
        have lHK1 := HK1.out.lt
        have mHK1 := Nat.le_of_lt lHK1
        have HK2 := qHK2
        clear qHK2
        have cHK2_0 := HK2.out.cell (i := 0) rfl
        have zHK2_0 := HK2.out.frozen 0
        have cHK2_1 := HK2.out.cell (i := 1) rfl
        have zHK2_1 := HK2.out.frozen 1
        have cHK2_2 := HK2.out.cell (i := 2) rfl
        have zHK2_2 := HK2.out.frozen 2
        have cHK2_3 := HK2.out.cell (i := 3) rfl
        have zHK2_3 := HK2.out.frozen 3
        have cHK2_4 := HK2.out.cell (i := 4) rfl
        have zHK2_4 := HK2.out.frozen 4
        have lHK2 := HK2.out.lt
        have mHK2 := Nat.le_of_lt lHK2
        have HK3 := qHK3
        clear qHK3
        have cHK3_0 := HK3.out.cell (i := 0) rfl
        have zHK3_0 := HK3.out.frozen 0
        have cHK3_1 := HK3.out.cell (i := 1) rfl
        have zHK3_1 := HK3.out.frozen 1
        have cHK3_2 := HK3.out.cell (i := 2) rfl
        have zHK3_2 := HK3.out.frozen 2
        have cHK3_3 := HK3.out.cell (i := 3) rfl
        have zHK3_3 := HK3.out.frozen 3
        have cHK3_4 := HK3.out.cell (i := 4) rfl
        have zHK3_4 := HK3.out.frozen 4
        have lHK3 := HK3.out.lt
        have mHK3 := Nat.le_of_lt lHK3
        have HR6 := qHR6
        clear qHR6
        have HQ := qHQ
        clear qHQ
        have HR7 := qHR7
        clear qHR7
        have HR8 := qHR8
        clear qHR8
        have HR9 := qHR9
        clear qHR9
        have HR10 := qHR10
        clear qHR10
        have hsW29 : w.heap.size ≤ W29.heap.size := HB.out.size
        go_wp2_with fail
        refine onward_mk HQ.out (hJ _ _ ?_)
        clear hJ J
        (repeat (refine wpPlan_pick (fun J hJ => ?_); go_simp; refine hJ _ ?_; clear hJ J))
        refine wpPlan_seq (fun J hJ => ?_)
        go_wp2_with fail
        refine (g_str (t_implRecord 0 0 0 7 0 _ (by unfold I64; omega) (by unfold I64; omega) (by unfold I64; omega) (by unfold I64; omega) (by unfold I64; omega) (HT.out.on HB.out)) rec7).mono ?_
        rintro _ W30 ⟨rfl, p30, hp30⟩
        have qHB := Lib.hid (below_to hp30 HB.out)
        have qHR1 := Lib.hid (row_to hp30 HR1.out)
        have qHR4 := Lib.hid (row_to hp30 HR4.out)
        have qHR5 := Lib.hid (row_to hp30 HR5.out)
        have qHK1 := Lib.hid (Blk.to hp30 HK1.out)
        have qHK2 := Lib.hid (Blk.to hp30 HK2.out)
        have qHK3 := Lib.hid (Blk.to hp30 HK3.out)
        have qHR6 := Lib.hid (row_to hp30 HR6.out)
        have qHQ := Lib.hid (below_to hp30 HQ.out)
        have qHR7 := Lib.hid (row_to hp30 HR7.out)
        have qHR8 := Lib.hid (row_to hp30 HR8.out)
        have qHR9 := Lib.hid (row_to hp30 HR9.out)
        have qHR10 := Lib.hid (row_to hp30 HR10.out)
        clear HB HR1 HR4 HR5 cHK1_0 zHK1_0 cHK1_1 zHK1_1 cHK1_2 zHK1_2 cHK1_3 zHK1_3 cHK1_4 zHK1_4 lHK1 mHK1 HK1 cHK2_0 zHK2_0 cHK2_1 zHK2_1 cHK2_2 zHK2_2 cHK2_3 zHK2_3 cHK2_4 zHK2_4 lHK2 mHK2 HK2 cHK3_0 zHK3_0 cHK3_1 zHK3_1 cHK3_2 zHK3_2 cHK3_3 zHK3_3 cHK3_4 zHK3_4 lHK3 mHK3 HK3 HR6 HQ HR7 HR8 HR9 HR10 hp30
        have HB := qHB
        clear qHB
        have HR1 := qHR1
        clear qHR1
        have HR4 := qHR4
        clear qHR4
        have HR5 := qHR5
        clear qHR5
        have HK1 := qHK1
        clear qHK1
        have cHK1_0 := HK1.out.cell (i := 0) rfl
        have zHK1_0 := HK1.out.frozen 0
        have cHK1_1 := HK1.out.cell (i := 1) rfl
        have zHK1_1 := HK1.out.frozen 1
        have cHK1_2 := HK1.out.cell (i := 2) rfl
        have zHK1_2 := HK1.out.frozen 2
        have cHK1_3 := HK1.out.cell (i := 3) rfl
        have zHK1_3 := HK1.out.frozen 3
        have cHK1_4 := HK1.out.cell (i := 4) rfl
        have zHK1_4 := HK1.out.frozen 4
        have lHK1 := HK1.out.lt
        have mHK1 := Nat.le_of_lt lHK1
        have HK2 := qHK2
        clear qHK2
        have cHK2_0 := HK2.out.cell (i := 0) rfl
        have zHK2_0 := HK2.out.frozen 0
        have cHK2_1 := HK2.out.cell (i := 1) rfl
        have zHK2_1 := HK2.out.frozen 1
        have cHK2_2 := HK2.out.cell (i := 2) rfl
        have zHK2_2 := HK2.out.frozen 2
        have cHK2_3 := HK2.out.cell (i := 3) rfl
        have zHK2_3 := HK2.out.frozen 3
        have cHK2_4 := HK2.out.cell (i := 4) rfl
        have zHK2_4 := HK2.out.frozen 4
        have lHK2 := HK2.out.lt
        have mHK2 := Nat.le_of_lt lHK2
        have HK3 := qHK3
        clear qHK3
        have cHK3_0 := HK3.out.cell (i := 0) rfl
        have zHK3_0 := HK3.out.frozen 0
        have cHK3_1 := HK3.out.cell (i := 1) rfl
        have zHK3_1 := HK3.out.frozen 1
        have cHK3_2 := HK3.out.cell (i := 2) rfl
        have zHK3_2 := HK3.out.frozen 2
        have cHK3_3 := HK3.out.cell (i := 3) rfl
        have zHK3_3 := HK3.out.frozen 3
        have cHK3_4 := HK3.out.cell (i := 4) rfl
        have zHK3_4 := HK3.out.frozen 4
        have lHK3 := HK3.out.lt
        have mHK3 := Nat.le_of_lt lHK3
        have HR6 := qHR6
        clear qHR6
        have HQ := qHQ
        clear qHQ
        have HR7 := qHR7
        clear qHR7
        have HR8 := qHR8
        clear qHR8
        have HR9 := qHR9
        clear qHR9
        have HR10 := qHR10
        clear qHR10
        have hsW30 : w.heap.size ≤ W30.heap.size := HB.out.size
        go_wp2_with fail
        refine onward_mk HQ.out (hJ _ _ ?_)
        clear hJ J
        (repeat (refine wpPlan_pick (fun J hJ => ?_); go_simp; refine hJ _ ?_; clear hJ J))
        refine wpPlan_nil ?_
        go_wp2_with fail
        go_ret
        exact Gives.mk (ret_bool (by first | rfl | simp)) HB.out


open Go.ChangeShapes Go.WideShapes Go.ChangeAt Go.RowKit Go.Deep Go.Joins in
theorem tabFnRecords {W : World} (h : laidMetH Tryd.prog Rows.fnRecordsRow.laid W) : Tab W :=
  Tab.mk (laid_tab (show laidMet Tryd.prog Rows.fnRecordsRow.laid W from h) 2 "internal/strconv.uint64pow10" .u64 Lib.pow10Tab (by kernel_rfl) (g := 0) (by kernel_rfl) (by kernel_rfl) Tryd.underlying106 Tryd.underlying88 (by kernel_rfl) (by kernel_rfl))
noncomputable def laidWorldFnRecords (os : Os) : World := { World.holding Tryd.prog os ⟨#[], #[], []⟩ with heap := ((((World.holding Tryd.prog os ⟨#[], #[], []⟩).heap).modify 1 (fun | .cells _ t fr => .cells #[.int .u8 0, .int .u8 1, .int .u8 28, .int .u8 2, .int .u8 29, .int .u8 14, .int .u8 24, .int .u8 3, .int .u8 30, .int .u8 22, .int .u8 20, .int .u8 15, .int .u8 25, .int .u8 17, .int .u8 4, .int .u8 8, .int .u8 31, .int .u8 27, .int .u8 13, .int .u8 23, .int .u8 21, .int .u8 19, .int .u8 16, .int .u8 7, .int .u8 26, .int .u8 12, .int .u8 18, .int .u8 6, .int .u8 11, .int .u8 5, .int .u8 10, .int .u8 9] t fr | o => o)).modify 2 (fun | .cells _ t fr => .cells #[.int .u8 0, .int .u8 1, .int .u8 56, .int .u8 2, .int .u8 57, .int .u8 49, .int .u8 28, .int .u8 3, .int .u8 61, .int .u8 58, .int .u8 42, .int .u8 50, .int .u8 38, .int .u8 29, .int .u8 17, .int .u8 4, .int .u8 62, .int .u8 47, .int .u8 59, .int .u8 36, .int .u8 45, .int .u8 43, .int .u8 51, .int .u8 22, .int .u8 53, .int .u8 39, .int .u8 33, .int .u8 30, .int .u8 24, .int .u8 18, .int .u8 12, .int .u8 5, .int .u8 63, .int .u8 55, .int .u8 48, .int .u8 27, .int .u8 60, .int .u8 41, .int .u8 37, .int .u8 16, .int .u8 46, .int .u8 35, .int .u8 44, .int .u8 21, .int .u8 52, .int .u8 32, .int .u8 23, .int .u8 11, .int .u8 54, .int .u8 26, .int .u8 40, .int .u8 15, .int .u8 34, .int .u8 20, .int .u8 31, .int .u8 10, .int .u8 25, .int .u8 14, .int .u8 19, .int .u8 9, .int .u8 13, .int .u8 8, .int .u8 7, .int .u8 6] t fr | o => o)).modify 0 (fun | .cells _ t fr => .cells #[.int .u64 1, .int .u64 10, .int .u64 100, .int .u64 1000, .int .u64 10000, .int .u64 100000, .int .u64 1000000, .int .u64 10000000, .int .u64 100000000, .int .u64 1000000000, .int .u64 10000000000, .int .u64 100000000000, .int .u64 1000000000000, .int .u64 10000000000000, .int .u64 100000000000000, .int .u64 1000000000000000, .int .u64 10000000000000000, .int .u64 100000000000000000, .int .u64 1000000000000000000, .int .u64 10000000000000000000] t fr | o => o) }
theorem laidMetFnRecords (os : Os) : laidMet Tryd.prog Rows.fnRecordsRow.laid ((laidWorldFnRecords os).forCall (fun _ _ => 0) ⟨#[], #[.slice Option.none 0 0], []⟩).memory := laidMet_of_run' 8 (by kernel_rfl) (by kernel_rfl)
theorem readsFnRecords (os : Os) {H : Type} (enc : TypeId × Value → H) : ∃ places, DataW.whole enc Tryd.prog ((laidWorldFnRecords os).forCall (fun _ _ => 0) ⟨#[], #[.slice Option.none 0 0], []⟩).memory Tryd.f3.params.toList Rows.fnRecordsSpec.vars false (#[.slice Option.none 0 0] : Array Value).toList 8 = some ([.nil], [], places) := ⟨[], by kernel_rfl⟩
set_option maxRecDepth 100000 in
theorem liftedFnRecords (os : Os) (started : os.Started) (H : Type) (enc : TypeId × Value → H) (F : Stop.Interp) :
    ReturnsInHanded {} Tryd.checked os 3 .any ((OpenSpec.ofChange Rows.fnRecordsSpec).preRow enc Tryd.prog Tryd.f3 Rows.fnRecordsRow.domain false Rows.fnRecordsRow.laid) (((OpenSpec.ofChange Rows.fnRecordsSpec).at F).post enc Tryd.prog Tryd.f3 false true false false) := by
  obtain ⟨places, hx⟩ := readsFnRecords os enc
  refine returnsInHanded_of_row (C := Tryd.checked) (s := OpenSpec.ofChange Rows.fnRecordsSpec) own started (by kernel_rfl) Tryd.func3
    (witness_row_at (enc := enc) (C := Tryd.checked) false (laidWorldFnRecords os) #[.slice Option.none 0 0] rfl (by as_aux_lemma => kernel_rfl) (by as_aux_lemma => kernel_rfl) (by as_aux_lemma => kernel_rfl)
      (OpenSpec.preRow_of_cond 8 hx (by kernel_rfl) (fun k hk => by cases hk) (by kernel_rfl) (laidMetFnRecords os))) ?_
  intro W base args ds gs before hval0 hW0 _ _ _ hL _ _
  have HTAB := tabFnRecords hL
  have hval : ∀ (j : Nat) t v, Tryd.f3.params[j]? = some t → args[j]? = some v → Value.okWide Tryd.prog W .any base t v := hval0
  have hW : DataW.Whole enc Tryd.prog Tryd.f3.params.toList Rows.fnRecordsSpec.vars false W args.toList ds gs before := hW0
  obtain ⟨p, q, hA0, hV, hpq, hfz, hnd⟩ := id hW
  have hA : DataW.TrodAll enc Tryd.prog W 0 (fun _ => true) true Tryd.f3.params.toList args.toList ds p := hA0
  rw [Tryd.params3] at hA hval
  obtain ⟨v0, vs0, d0, ds0, p0, q0, hargs, rfl, rfl, h0, r0⟩ := trodAll_cons hA
  obtain ⟨rfl, rfl, rfl⟩ := trodAll_nil r0
  obtain rfl : args = #[v0] := by cases args; simp_all
  obtain ⟨rfl, rfl⟩ := trodVars_none hV
  obtain ⟨A0, n0, cap0, x0, rfl, hn0, hc0, hm0, hr0, -⟩ := open_bytes Tryd.underlying22 Tryd.underlying5 (by kernel_rfl) (hval 0 22 v0 rfl rfl) h0
  refine (w_Records A0 n0 cap0 x0 hn0 W hr0 HTAB).mono fun e W' hg => ?_
  obtain ⟨he, hb⟩ := hg.below
  exact ⟨_, he, law_post laidOut rfl (by kernel_rfl) Tryd.underlying4 (by kernel_rfl) hW rfl hb⟩

set_option maxHeartbeats 3200000 in
theorem closedFnRecords : joinedFacts Tryd.checked.prog 3 Tryd.f3 Rows.fnRecordsSpec Rows.fnRecordsRow = true := by
  unfold joinedFacts
  repeat' (with_reducible refine and_mk ?_ ?_)
  all_goals (as_aux_lemma => kernel_rfl)
theorem namedFnRecords : Tryd.checked.prog.funcNamed Rows.fnRecordsRow.func = some 3 := by as_aux_lemma => kernel_rfl
theorem instFnRecords : Tryd.f3.isInstance Tryd.checked.prog Rows.fnRecordsRow.origin Rows.fnRecordsRow.targs := of_decide_eq_true (by as_aux_lemma => kernel_rfl)
theorem wrapFnRecords : Tryd.f3.isWrapper Tryd.checked.prog Rows.fnRecordsRow.wrapper Rows.fnRecordsRow.mainSum := by unfold Func.isWrapper; first | (rw [if_pos (by decide +kernel)]; kernel_rfl) | (rw [if_neg (by decide +kernel)]; exact ⟨rfl, rfl⟩)
set_option maxRecDepth 100000 in
theorem saidFnRecords : Rows.FnRecordsSaid :=
  OpenClaim.holds_of_cond 3 Tryd.f3 rfl rfl rfl rfl rfl rfl rfl ⟨rfl, rfl, rfl, rfl, rfl⟩ rfl rfl rfl rfl rfl namedFnRecords Tryd.func3 closedFnRecords instFnRecords wrapFnRecords
    (fun os started H enc _ F => by rw [OpenClaim.pre_eq_preRow]; exact liftedFnRecords os started H enc F)
set_option maxRecDepth 100000 in
theorem plainFnRecords (f : FuncId) (fn : Func) (hf : Tryd.pinned.checked.prog.funcNamed "loop.example/g00973/laws.FnRecords" = some f) (hfn : Tryd.pinned.checked.prog.funcs[f]? = some fn) :
    false = Tryd.pinned.checked.prog.looks [] ∧ ∀ (j : Nat) t, fn.params[j]? = some t → Tryd.pinned.checked.prog.wantsStandIn t = false := by
  obtain rfl : f = 3 := Option.some.inj (namedFnRecords.symm.trans hf) |>.symm
  obtain rfl : fn = Tryd.f3 := (Option.some.inj (Tryd.func3.symm.trans hfn)).symm
  refine ⟨by kernel_rfl, fun j t ht => ?_⟩
  rw [Tryd.params3] at ht
  have hm := Array.mem_of_getElem? ht
  simp only [List.mem_toArray, List.mem_cons, List.not_mem_nil, or_false] at hm
  obtain rfl := hm
  exact (by kernel_rfl : Tryd.prog.wantsStandIn 22 = false)
set_option maxRecDepth 100000 in
theorem holdsFnRecords : Rows.FnRecordsCardSaid :=
  Claim7.holds_tied_plain_at .later [] _ _ _ _ saidFnRecords (fun _ h => by cases h) (by kernel_rfl) (fun _ h => by cases h) fnRecords_row_tie rfl ⟨rfl, rfl⟩ (by kernel_rfl) rfl plainFnRecords (by kernel_rfl)
end Go.Proofs.YtcjdfecajlgcmaaDoor
