/-
  The law FnFigures returns true for every input, and its argument reads afterwards as before; the listed tables of the library are tied to the program's text. Conditions: none.
-/
import Derived.Test.YtmpcdkjncpkfaaaDoorDrawO
import Derived.Test.YtmpcdkjncpkfaaaDoorOpenB
import Derived.Test.YtmpcdkjncpkfaaaDoorScal
import Derived.Test.YtmpcdkjncpkfaaaDoorItoa
import Derived.Test.YtmpcdkjncpkfaaaDoorTab
import Derived.Test.YtmpcdkjncpkfaaaDoorFig
namespace Go.Proofs.YtmpcdkjncpkfaaaDoor
open Go.ChangeShapes Go.WideShapes Go.ChangeAt Go.RowKit Go.Deep Go.Joins
set_option linter.unusedVariables false

theorem z_br (n lo hi b : Int) (w : World) (h : Hid (brought n lo hi = b)) : Calls Tryd.prog 11 #[.int .i64 n, .int .i64 lo, .int .i64 hi] w (Gives (.int .i64 b) w) := by
  rw [← h.out]; exact c_iBrought n lo hi w

set_option maxRecDepth 100000 in
set_option maxHeartbeats 6400000 in
theorem w_Figures (A : Option Addr) (n c : Nat) (xs : List UInt8) (hn : xs.length = n) (w : World) (hr : Row encB 1 w A xs) (ht : Tab w) (he1 : ErrVar w "strconv.ErrSyntax") (he2 : ErrVar w "strconv.ErrRange") : Calls Tryd.prog 3 #[.slice A n c] w (Gives (.bool true) w) := by
  have HR := Lib.hid hr
  have HN := Lib.hid hn
  clear hr hn
  have HT := Lib.hid ht
  have HE1 := Lib.hid he1
  have HE2 := Lib.hid he2
  clear ht he1 he2
  by_cases hbig : 1048576 < n
  · have hz : decide (1048576 < n) = true := by simpa using hbig
    go_enter Tryd.func3, Tryd.ntmps3
    go_wp2_with (first | (go_at_call 5; (refine (c_big _ _ _ _ _ hz).mono ?_); rintro _ _ ⟨rfl, p, rfl⟩) | ((with_reducible refine wp_region_later (by kernel_rfl) (by kernel_rfl) ?_); (try dsimp only [List.append]); (repeat (first | go_big_quiet_skip | go_big_quiet_step ((first | (go_at_call 5; first | exact calls_later (c_big _ _ _ _ _ hz) | exact calls_later2 (c_big _ _ _ _ _ hz)))) | quiet_step ((first | (go_at_call 5; first | exact calls_later (c_big _ _ _ _ _ hz) | exact calls_later2 (c_big _ _ _ _ _ hz)))))); refine wpQuiet_nil ?_; rintro _ ⟨p, rfl⟩))
    go_ret
    exact Gives.mk rfl (by (repeat (first | with_reducible exact Below.refl _ _ | with_reducible assumption | with_reducible refine Below.drew ?_ | with_reducible refine below_drewN ?_ _ | with_reducible exact HQ.out | with_reducible exact HBW.out | with_reducible refine below_ext ?_ _ _ | with_reducible refine below_then_later ?_ (by first | with_reducible exact Nat.le_refl _ | with_reducible exact HBW.out.size | with_reducible exact HQ.out.size | omega | (simp; done) | (simp; omega) | (simp [later_size]; done) | (simp [later_size]; omega)) _ | with_reducible refine Below.setCell ?_ (by first | with_reducible exact Nat.le_refl _ | with_reducible exact HBW.out.size | with_reducible exact HQ.out.size | omega | (simp; done) | (simp; omega) | (simp [later_size]; done) | (simp [later_size]; omega)) _ | with_reducible refine Below.alloc ?_ (by first | with_reducible exact Nat.le_refl _ | with_reducible exact HBW.out.size | with_reducible exact HQ.out.size | omega | (simp; done) | (simp; omega) | (simp [later_size]; done) | (simp [later_size]; omega)) _)))
  · have hz : decide (1048576 < n) = false := by simpa using hbig
    go_enter Tryd.func3, Tryd.ntmps3
    have HB := Lib.hid (below_self w)
    go_wp2_with fail
    refine (c_big _ _ _ _ _ hz).mono ?_
    rintro _ W1 ⟨rfl, p1, hp1⟩
    have qHB := Lib.hid (below_to hp1 HB.out)
    have qHR := Lib.hid (row_to hp1 HR.out)
    clear HB HR hp1
    have HB := qHB
    clear qHB
    have HR := qHR
    clear qHR
    have hsW1 : w.heap.size ≤ W1.heap.size := HB.out.size
    go_wp2_with fail
    refine (c_drawPlaces _ _ _ xs _ HN.out (by omega) HR.out).mono ?_
    rintro _ W2 ⟨A2, c2, ps, rfl, hpl, hpb, hpr, p, hp⟩
    have qHB := Lib.hid (below_to hp HB.out)
    have qHR := Lib.hid (row_to hp HR.out)
    clear HB HR hp
    have HB := qHB
    clear qHB
    have HR := qHR
    clear qHR
    have hsW2 : w.heap.size ≤ W2.heap.size := HB.out.size
    clear HR
    obtain ⟨b, off, rfl⟩ : ∃ b off, A2 = some ⟨b, off, Option.none⟩ := by obtain ⟨b, off, e, h⟩ := hpr (by rw [hpl]; omega); exact ⟨b, off, e⟩
    have HP := Lib.hid (hpr)
    clear hpr
    have HPL := Lib.hid hpl
    have HPB := Lib.hid hpb
    clear hpl hpb
    obtain ⟨q0, hq0⟩ : ∃ z, ps[0]? = some z := ⟨_, List.getElem?_eq_getElem (by rw [HPL.out]; omega)⟩
    have HQ0 := Lib.hid hq0
    obtain ⟨lo0, hi0⟩ := HPB.out q0 (List.mem_of_getElem? hq0)
    clear hq0
    obtain ⟨q1, hq1⟩ : ∃ z, ps[1]? = some z := ⟨_, List.getElem?_eq_getElem (by rw [HPL.out]; omega)⟩
    have HQ1 := Lib.hid hq1
    obtain ⟨lo1, hi1⟩ := HPB.out q1 (List.mem_of_getElem? hq1)
    clear hq1
    obtain ⟨q2, hq2⟩ : ∃ z, ps[2]? = some z := ⟨_, List.getElem?_eq_getElem (by rw [HPL.out]; omega)⟩
    have HQ2 := Lib.hid hq2
    obtain ⟨lo2, hi2⟩ := HPB.out q2 (List.mem_of_getElem? hq2)
    clear hq2
    obtain ⟨q3, hq3⟩ : ∃ z, ps[3]? = some z := ⟨_, List.getElem?_eq_getElem (by rw [HPL.out]; omega)⟩
    have HQ3 := Lib.hid hq3
    obtain ⟨lo3, hi3⟩ := HPB.out q3 (List.mem_of_getElem? hq3)
    clear hq3
    obtain ⟨q4, hq4⟩ : ∃ z, ps[4]? = some z := ⟨_, List.getElem?_eq_getElem (by rw [HPL.out]; omega)⟩
    have HQ4 := Lib.hid hq4
    obtain ⟨lo4, hi4⟩ := HPB.out q4 (List.mem_of_getElem? hq4)
    clear hq4
    obtain ⟨q5, hq5⟩ : ∃ z, ps[5]? = some z := ⟨_, List.getElem?_eq_getElem (by rw [HPL.out]; omega)⟩
    have HQ5 := Lib.hid hq5
    obtain ⟨lo5, hi5⟩ := HPB.out q5 (List.mem_of_getElem? hq5)
    clear hq5
    obtain ⟨q6, hq6⟩ : ∃ z, ps[6]? = some z := ⟨_, List.getElem?_eq_getElem (by rw [HPL.out]; omega)⟩
    have HQ6 := Lib.hid hq6
    obtain ⟨lo6, hi6⟩ := HPB.out q6 (List.mem_of_getElem? hq6)
    clear hq6
    obtain ⟨q7, hq7⟩ : ∃ z, ps[7]? = some z := ⟨_, List.getElem?_eq_getElem (by rw [HPL.out]; omega)⟩
    have HQ7 := Lib.hid hq7
    obtain ⟨lo7, hi7⟩ := HPB.out q7 (List.mem_of_getElem? hq7)
    clear hq7
    clear HPB
    obtain ⟨x6, hx6⟩ := wrap_u8 q6
    obtain ⟨x7, hx7⟩ := wrap_u8 q7
    have HN5 := Lib.hid (show I64 q5 by unfold I64; omega)
    obtain ⟨D, hD, hDs⟩ := itoa_arr HN5.out
    have HD := Lib.hid hD
    clear hD
    have hadd := fun W => run_string_add_sum (P := Tryd.prog) W D ⟨#[x6, x7]⟩ (by rw [show (⟨#[x6, x7]⟩ : ByteArray).size = 2 from rfl]; omega)
    obtain ⟨T, hT⟩ : ∃ T, D ++ ⟨#[x6, x7]⟩ = T := ⟨_, rfl⟩
    have hTs : T.size ≤ 23 := by rw [← hT, size_app, show (⟨#[x6, x7]⟩ : ByteArray).size = 2 from rfl]; omega
    go_wp2_with fail
    have p5 := pcell HP.out HQ5.out
    have p6 := pcell HP.out HQ6.out
    have p7 := pcell HP.out HQ7.out
    have hbl : b < W2.heap.size := World.block_lt_of_cell? _ _ p5
    have hbm := Nat.le_of_lt hbl
    with_reducible refine wp_region_plt_later (Plt.pick 0 (Plt.pick 1 (Plt.pick 2 (Plt.pick 4 (Plt.pick 5 (Plt.pick 6 (Plt.pick 7 (Plt.pick 8 (Plt.pick 9 (Plt.pick 10 (Plt.pick 11 (Plt.two 3 (Plt.one 12 (Plt.one 13 (Plt.pick 14 (Plt.pick 15 (Plt.nil))))) 12 (Plt.two 3 (Plt.one 13 (Plt.pick 14 (Plt.pick 15 (Plt.nil)))) 13 (Plt.one 3 (Plt.pick 14 (Plt.pick 15 (Plt.nil))))))))))))))))) (by kernel_rfl) (by kernel_rfl) ?_
    (repeat (refine wpPlt_pick (fun J hJ => ?_); simp only [List.getD_cons_zero, List.getD_cons_succ]; go_simp; refine hJ _ ?_; clear hJ J))
    have HBW := HB
    have HQ := Lib.hid (below_self W2)
    have hsw : w.heap.size ≤ W2.heap.size := HB.out.size
    (repeat (any_goals (first | (refine wpPlt_pick (fun J hJ => ?_); simp only [List.getD_cons_zero, List.getD_cons_succ]; go_simp; refine hJ _ ?_; clear hJ J) | (refine wpPlt_one (fun J hJ => ?_); (simp only [List.getD_cons_zero, List.getD_cons_succ]; go_wp2_with (first | (go_at_call 7; (with_reducible refine (d_impl q5 D _ HN5 HD (HT.out.on (by (repeat (first | with_reducible exact Below.refl _ _ | with_reducible assumption | with_reducible refine Below.drew ?_ | with_reducible refine below_drewN ?_ _ | with_reducible exact HQ.out | with_reducible exact HBW.out | with_reducible refine below_ext ?_ _ _ | with_reducible refine below_then_later ?_ (by first | with_reducible exact Nat.le_refl _ | with_reducible exact HBW.out.size | with_reducible exact HQ.out.size | omega | (simp; done) | (simp; omega) | (simp [later_size]; done) | (simp [later_size]; omega)) _ | with_reducible refine Below.setCell ?_ (by first | with_reducible exact Nat.le_refl _ | with_reducible exact HBW.out.size | with_reducible exact HQ.out.size | omega | (simp; done) | (simp; omega) | (simp [later_size]; done) | (simp [later_size]; omega)) _ | with_reducible refine Below.alloc ?_ (by first | with_reducible exact Nat.le_refl _ | with_reducible exact HBW.out.size | with_reducible exact HQ.out.size | omega | (simp; done) | (simp; omega) | (simp [later_size]; done) | (simp [later_size]; omega)) _))))).mono ?_); rintro _ _ ⟨rfl, p, rfl⟩) | (refine wpList_string_row rfl (.tmp 29) 22 9 rfl 5 Tryd.underlying22 Tryd.underlying5 Tryd.underlying9 (some ⟨_, 0, Option.none⟩) 2 2 [x6, x7] rfl (by first | exact row_twoB x6 x7 _ _ _ (by first | rfl | (simp; done)) | exact (row_twoB x6 x7 _ _ _ (by first | rfl | (simp; done))).later _) rfl ?_)); refine onward_mk ?_ (hJ _ _ ?_); (next => (repeat (first | with_reducible exact Below.refl _ _ | with_reducible assumption | with_reducible refine Below.drew ?_ | with_reducible refine below_drewN ?_ _ | with_reducible exact HQ.out | with_reducible exact HBW.out | with_reducible refine below_ext ?_ _ _ | with_reducible refine below_then_later ?_ (by first | with_reducible exact Nat.le_refl _ | with_reducible exact HBW.out.size | with_reducible exact HQ.out.size | omega | (simp; done) | (simp; omega) | (simp [later_size]; done) | (simp [later_size]; omega)) _ | with_reducible refine Below.setCell ?_ (by first | with_reducible exact Nat.le_refl _ | with_reducible exact HBW.out.size | with_reducible exact HQ.out.size | omega | (simp; done) | (simp; omega) | (simp [later_size]; done) | (simp [later_size]; omega)) _ | with_reducible refine Below.alloc ?_ (by first | with_reducible exact Nat.le_refl _ | with_reducible exact HBW.out.size | with_reducible exact HQ.out.size | omega | (simp; done) | (simp; omega) | (simp [later_size]; done) | (simp [later_size]; omega)) _))); clear hJ J)) | (refine wpPlt_two (fun J hJ => ?_) (fun J hJ => ?_); all_goals (simp only [List.getD_cons_zero, List.getD_cons_succ]; go_wp2_with (first | (go_at_call 7; (with_reducible refine (d_impl q5 D _ HN5 HD (HT.out.on (by (repeat (first | with_reducible exact Below.refl _ _ | with_reducible assumption | with_reducible refine Below.drew ?_ | with_reducible refine below_drewN ?_ _ | with_reducible exact HQ.out | with_reducible exact HBW.out | with_reducible refine below_ext ?_ _ _ | with_reducible refine below_then_later ?_ (by first | with_reducible exact Nat.le_refl _ | with_reducible exact HBW.out.size | with_reducible exact HQ.out.size | omega | (simp; done) | (simp; omega) | (simp [later_size]; done) | (simp [later_size]; omega)) _ | with_reducible refine Below.setCell ?_ (by first | with_reducible exact Nat.le_refl _ | with_reducible exact HBW.out.size | with_reducible exact HQ.out.size | omega | (simp; done) | (simp; omega) | (simp [later_size]; done) | (simp [later_size]; omega)) _ | with_reducible refine Below.alloc ?_ (by first | with_reducible exact Nat.le_refl _ | with_reducible exact HBW.out.size | with_reducible exact HQ.out.size | omega | (simp; done) | (simp; omega) | (simp [later_size]; done) | (simp [later_size]; omega)) _))))).mono ?_); rintro _ _ ⟨rfl, p, rfl⟩) | (refine wpList_string_row rfl (.tmp 29) 22 9 rfl 5 Tryd.underlying22 Tryd.underlying5 Tryd.underlying9 (some ⟨_, 0, Option.none⟩) 2 2 [x6, x7] rfl (by first | exact row_twoB x6 x7 _ _ _ (by first | rfl | (simp; done)) | exact (row_twoB x6 x7 _ _ _ (by first | rfl | (simp; done))).later _) rfl ?_)); refine onward_mk ?_ (hJ _ _ ?_); (next => (repeat (first | with_reducible exact Below.refl _ _ | with_reducible assumption | with_reducible refine Below.drew ?_ | with_reducible refine below_drewN ?_ _ | with_reducible exact HQ.out | with_reducible exact HBW.out | with_reducible refine below_ext ?_ _ _ | with_reducible refine below_then_later ?_ (by first | with_reducible exact Nat.le_refl _ | with_reducible exact HBW.out.size | with_reducible exact HQ.out.size | omega | (simp; done) | (simp; omega) | (simp [later_size]; done) | (simp [later_size]; omega)) _ | with_reducible refine Below.setCell ?_ (by first | with_reducible exact Nat.le_refl _ | with_reducible exact HBW.out.size | with_reducible exact HQ.out.size | omega | (simp; done) | (simp; omega) | (simp [later_size]; done) | (simp [later_size]; omega)) _ | with_reducible refine Below.alloc ?_ (by first | with_reducible exact Nat.le_refl _ | with_reducible exact HBW.out.size | with_reducible exact HQ.out.size | omega | (simp; done) | (simp; omega) | (simp [later_size]; done) | (simp [later_size]; omega)) _))); clear hJ J)))))
    all_goals (refine wpPlt_nil ?_)
    all_goals
      go_wp2_with fail
      refine calls_anchor (F := fun V => ∃ p : Later, V = later W2 p) (later_of_below (by (repeat (first | with_reducible exact Below.refl _ _ | with_reducible assumption | with_reducible refine Below.drew ?_ | with_reducible refine below_drewN ?_ _ | with_reducible exact HQ.out | with_reducible exact HBW.out | with_reducible refine below_ext ?_ _ _ | with_reducible refine below_then_later ?_ (by first | with_reducible exact Nat.le_refl _ | with_reducible exact HBW.out.size | with_reducible exact HQ.out.size | omega | (simp; done) | (simp; omega) | (simp [later_size]; done) | (simp [later_size]; omega)) _ | with_reducible refine Below.setCell ?_ (by first | with_reducible exact Nat.le_refl _ | with_reducible exact HBW.out.size | with_reducible exact HQ.out.size | omega | (simp; done) | (simp; omega) | (simp [later_size]; done) | (simp [later_size]; omega)) _ | with_reducible refine Below.alloc ?_ (by first | with_reducible exact Nat.le_refl _ | with_reducible exact HBW.out.size | with_reducible exact HQ.out.size | omega | (simp; done) | (simp; omega) | (simp [later_size]; done) | (simp [later_size]; omega)) _)))) (fun W3 hV => ?_)
      obtain ⟨p, hp⟩ := hV
      clear p5 p6 p7 hbl hbm
      clear HBW HQ hsw hadd
      have qHB := Lib.hid (below_to hp HB.out)
      have qHP := Lib.hid (row_to hp HP.out)
      clear HB HP hp
      have HB := qHB
      clear qHB
      have HP := qHP
      clear qHP
      have hsW3 : w.heap.size ≤ W3.heap.size := HB.out.size
      clear hT HN5 HD hx6 hx7 hDs
      obtain ⟨B, hBd⟩ : ∃ B, (⟨(hexL T.data.toList).toArray⟩ : ByteArray) = B := ⟨_, rfl⟩
      have HHX := Lib.hid (show hexV T = .tuple #[.string B, .bool true] by unfold hexV; rw [if_pos (by omega), hBd])
      have HUN := Lib.hid (show unhexV B = .tuple #[.string T, .bool true] by rw [← hBd]; exact unhex_hex (by omega))
      have hBs : B.size = 2 * T.size := by rw [← hBd]; show (hexL T.data.toList).length = _; rw [hexL_len]; rfl
      have hBl : B.size ≤ 46 := by omega
      have e1 : ((B.size : Int) == 2 * (T.size : Int)) = true := by simp; omega
      clear hBs hBd
      refine (m_iHex T B true _ (by omega) HHX.out).mono ?_
      rintro _ W4 ⟨rfl, p4, hp4⟩
      have qHB := Lib.hid (below_to hp4 HB.out)
      have qHP := Lib.hid (row_to hp4 HP.out)
      clear HB HP hp4
      have HB := qHB
      clear qHB
      have HP := qHP
      clear qHP
      have hsW4 : w.heap.size ≤ W4.heap.size := HB.out.size
      go_wp2_with fail
      refine (m_iUnhex B T true _ (by omega) HUN.out).mono ?_
      rintro _ W5 ⟨rfl, p5, hp5⟩
      have qHB := Lib.hid (below_to hp5 HB.out)
      have qHP := Lib.hid (row_to hp5 HP.out)
      clear HB HP hp5
      have HB := qHB
      clear qHB
      have HP := qHP
      clear qHP
      have hsW5 : w.heap.size ≤ W5.heap.size := HB.out.size
      obtain ⟨m, hm⟩ : ∃ m, q0 * 10000 + q1 = m := ⟨_, rfl⟩
      have hm0 : 0 ≤ m := by omega
      have hm1 : m ≤ 99999999 := by omega
      have HNM := Lib.hid (show I64 m by unfold I64; omega)
      obtain ⟨D2, hD2, hD2s⟩ := itoa_arr HNM.out
      have HD2 := Lib.hid hD2
      have HRD := Lib.hid (show rdV D2.data.toList = .tuple #[.int .i64 m, .bool true] by rw [← hD2]; exact rd_itoa hm0 (by omega))
      clear hD2
      go_wp2_with fail
      have p0 := pcell HP.out HQ0.out
      simp only [Nat.add_zero] at p0
      have p1 := pcell HP.out HQ1.out
      have hbl : b < W5.heap.size := World.block_lt_of_cell? _ _ p0
      have hbm := Nat.le_of_lt hbl
      go_wp2_with (first | ((with_reducible refine wp_region_later (by kernel_rfl) (by kernel_rfl) ?_); (try dsimp only [List.append]); (repeat (first | go_big_quiet_skip | go_big_quiet_step ((fail)) | quiet_step ((fail)))); refine wpQuiet_nil ?_; rintro _ ⟨p, rfl⟩))
      refine calls_anchor (F := fun V => ∃ p : Later, V = later W5 p) ⟨_, rfl⟩ (fun W6 hV => ?_)
      obtain ⟨p, hp⟩ := hV
      clear p0 p1 hbl hbm
      have qHB := Lib.hid (below_to hp HB.out)
      have qHP := Lib.hid (row_to hp HP.out)
      clear HB HP hp
      have HB := qHB
      clear qHB
      have HP := qHP
      clear qHP
      have hsW6 : w.heap.size ≤ W6.heap.size := HB.out.size
      clear hm
      refine (d_impl m D2 _ HNM HD2 (HT.out.on HB.out)).mono ?_
      rintro _ W7 ⟨rfl, p7, hp7⟩
      have qHB := Lib.hid (below_to hp7 HB.out)
      have qHP := Lib.hid (row_to hp7 HP.out)
      clear HB HP hp7
      have HB := qHB
      clear qHB
      have HP := qHP
      clear qHP
      have hsW7 : w.heap.size ≤ W7.heap.size := HB.out.size
      go_wp2_with fail
      refine (c_iReadDecimal D2 (.tuple #[.int .i64 m, .bool true]) _ (by omega) HRD.out (HT.out.on HB.out) (HE1.out.on HB.out) (HE2.out.on HB.out)).mono ?_
      rintro _ W8 ⟨rfl, p8, hp8⟩
      have qHB := Lib.hid (below_to hp8 HB.out)
      have qHP := Lib.hid (row_to hp8 HP.out)
      clear HB HP hp8
      have HB := qHB
      clear qHB
      have HP := qHP
      clear qHP
      have hsW8 : w.heap.size ≤ W8.heap.size := HB.out.size
      obtain ⟨bb, hbb⟩ : ∃ bb, brought (q2 - 5000) (-q3) q4 = bb := ⟨_, rfl⟩
      have hb1 : -q3 ≤ bb ∧ bb ≤ q4 := by rw [← hbb]; unfold brought; split <;> (try split) <;> omega
      obtain ⟨hb1, hb2⟩ := hb1
      have HBR := Lib.hid hbb
      have HBR2 := Lib.hid (show brought bb (-q3) q4 = bb by unfold brought; rw [if_neg (by omega), if_neg (by omega)])
      have e2 : decide (-q3 ≤ bb) = true := decide_eq_true hb1
      have e3 : decide (bb ≤ q4) = true := decide_eq_true hb2
      clear hbb
      go_wp2_with fail
      have p2 := pcell HP.out HQ2.out
      have p3 := pcell HP.out HQ3.out
      have p4 := pcell HP.out HQ4.out
      have hbl : b < W8.heap.size := World.block_lt_of_cell? _ _ p2
      have hbm := Nat.le_of_lt hbl
      go_wp2_with (first | (go_at_call 11; (first | (with_reducible refine (z_br _ _ _ _ _ HBR).mono ?_) | (with_reducible refine (z_br _ _ _ _ _ HBR2).mono ?_)); rintro _ _ ⟨rfl, p, rfl⟩) | ((with_reducible refine wp_region_later (by kernel_rfl) (by kernel_rfl) ?_); (try dsimp only [List.append]); (repeat (first | go_big_quiet_skip | go_big_quiet_step ((first | (go_at_call 11; first | with_reducible exact calls_later (z_br _ _ _ _ _ HBR) | with_reducible exact calls_later2 (z_br _ _ _ _ _ HBR) | with_reducible exact calls_later (z_br _ _ _ _ _ HBR2) | with_reducible exact calls_later2 (z_br _ _ _ _ _ HBR2)))) | quiet_step ((first | (go_at_call 11; first | with_reducible exact calls_later (z_br _ _ _ _ _ HBR) | with_reducible exact calls_later2 (z_br _ _ _ _ _ HBR) | with_reducible exact calls_later (z_br _ _ _ _ _ HBR2) | with_reducible exact calls_later2 (z_br _ _ _ _ _ HBR2)))))); refine wpQuiet_nil ?_; rintro _ ⟨p, rfl⟩))
      go_ret
      exact Gives.mk (ret_bool (by first | rfl | simp)) (by first | exact HB.out.trans ((below_later _ _).mono HB.out.size) | (rw [later_later]; exact HB.out.trans ((below_later _ _).mono HB.out.size)))


open Go.ChangeShapes Go.WideShapes Go.ChangeAt Go.RowKit Go.Deep Go.Joins in
theorem tabFnFigures {W : World} (h : laidMetH Tryd.prog Rows.fnFiguresRow.laid W) : Tab W :=
  Tab.mk (laid_tab (show laidMet Tryd.prog Rows.fnFiguresRow.laid W from h) 2 "internal/strconv.uint64pow10" .u64 Lib.pow10Tab (by kernel_rfl) (g := 3) (by kernel_rfl) (by kernel_rfl) Tryd.underlying85 Tryd.underlying71 (by kernel_rfl) (by kernel_rfl))
theorem errRFnFigures {W : World} (h : laidMetH Tryd.prog Rows.fnFiguresRow.laid W) : ErrVar W "strconv.ErrRange" := by
  have h0 : laidMet Tryd.prog Rows.fnFiguresRow.laid W := h
  obtain ⟨a, s, hv, -, -, -⟩ := laid_sentinel (laidMet.tail (laidMet.tail (laidMet.tail h0))) (show Tryd.prog.globalNamed "strconv.ErrRange" = some 2 by kernel_rfl) (by kernel_rfl) Tryd.underlying48 starErr Tryd.underlying92 Tryd.underlying94 rfl rfl Tryd.underlying9 (by kernel_rfl) (by kernel_rfl)
  exact ErrVar.mk hv
theorem errSFnFigures {W : World} (h : laidMetH Tryd.prog Rows.fnFiguresRow.laid W) : ErrVar W "strconv.ErrSyntax" := by
  have h0 : laidMet Tryd.prog Rows.fnFiguresRow.laid W := h
  obtain ⟨a, s, hv, -, -, -⟩ := laid_sentinel (laidMet.tail (laidMet.tail (laidMet.tail (laidMet.tail h0)))) (show Tryd.prog.globalNamed "strconv.ErrSyntax" = some 1 by kernel_rfl) (by kernel_rfl) Tryd.underlying48 starErr Tryd.underlying92 Tryd.underlying94 rfl rfl Tryd.underlying9 (by kernel_rfl) (by kernel_rfl)
  exact ErrVar.mk hv
noncomputable def hsFnFigures : Nat := (World.holding Tryd.prog default ⟨#[], #[], []⟩).heap.size
noncomputable def laidWorldFnFigures (os : Os) : World := { World.holding Tryd.prog os ⟨#[], #[], []⟩ with heap := ((((((((World.holding Tryd.prog os ⟨#[], #[], []⟩).heap).modify 4 (fun | .cells _ t fr => .cells #[.int .u8 0, .int .u8 1, .int .u8 28, .int .u8 2, .int .u8 29, .int .u8 14, .int .u8 24, .int .u8 3, .int .u8 30, .int .u8 22, .int .u8 20, .int .u8 15, .int .u8 25, .int .u8 17, .int .u8 4, .int .u8 8, .int .u8 31, .int .u8 27, .int .u8 13, .int .u8 23, .int .u8 21, .int .u8 19, .int .u8 16, .int .u8 7, .int .u8 26, .int .u8 12, .int .u8 18, .int .u8 6, .int .u8 11, .int .u8 5, .int .u8 10, .int .u8 9] t fr | o => o)).modify 5 (fun | .cells _ t fr => .cells #[.int .u8 0, .int .u8 1, .int .u8 56, .int .u8 2, .int .u8 57, .int .u8 49, .int .u8 28, .int .u8 3, .int .u8 61, .int .u8 58, .int .u8 42, .int .u8 50, .int .u8 38, .int .u8 29, .int .u8 17, .int .u8 4, .int .u8 62, .int .u8 47, .int .u8 59, .int .u8 36, .int .u8 45, .int .u8 43, .int .u8 51, .int .u8 22, .int .u8 53, .int .u8 39, .int .u8 33, .int .u8 30, .int .u8 24, .int .u8 18, .int .u8 12, .int .u8 5, .int .u8 63, .int .u8 55, .int .u8 48, .int .u8 27, .int .u8 60, .int .u8 41, .int .u8 37, .int .u8 16, .int .u8 46, .int .u8 35, .int .u8 44, .int .u8 21, .int .u8 52, .int .u8 32, .int .u8 23, .int .u8 11, .int .u8 54, .int .u8 26, .int .u8 40, .int .u8 15, .int .u8 34, .int .u8 20, .int .u8 31, .int .u8 10, .int .u8 25, .int .u8 14, .int .u8 19, .int .u8 9, .int .u8 13, .int .u8 8, .int .u8 7, .int .u8 6] t fr | o => o)).modify 3 (fun | .cells _ t fr => .cells #[.int .u64 1, .int .u64 10, .int .u64 100, .int .u64 1000, .int .u64 10000, .int .u64 100000, .int .u64 1000000, .int .u64 10000000, .int .u64 100000000, .int .u64 1000000000, .int .u64 10000000000, .int .u64 100000000000, .int .u64 1000000000000, .int .u64 10000000000000, .int .u64 100000000000000, .int .u64 1000000000000000, .int .u64 10000000000000000, .int .u64 100000000000000000, .int .u64 1000000000000000000, .int .u64 10000000000000000000] t fr | o => o)).modify 2 (fun | .cells _ t fr => .cells #[.iface 92 (.pointer (some ⟨hsFnFigures + 0, 0, Option.none⟩))] t fr | o => o)).modify 1 (fun | .cells _ t fr => .cells #[.iface 92 (.pointer (some ⟨hsFnFigures + 1, 0, Option.none⟩))] t fr | o => o)).push (.cells #[.string ⟨#[118, 97, 108, 117, 101, 32, 111, 117, 116, 32, 111, 102, 32, 114, 97, 110, 103, 101]⟩] 94)).push (.cells #[.string ⟨#[105, 110, 118, 97, 108, 105, 100, 32, 115, 121, 110, 116, 97, 120]⟩] 94) }
theorem laidMetFnFigures (os : Os) : laidMet Tryd.prog Rows.fnFiguresRow.laid ((laidWorldFnFigures os).forCall (fun _ _ => 0) ⟨#[], #[.slice Option.none 0 0], []⟩).memory := laidMet_of_run' 8 (by kernel_rfl) (by kernel_rfl)
theorem readsFnFigures (os : Os) {H : Type} (enc : TypeId × Value → H) : ∃ places, DataW.whole enc Tryd.prog ((laidWorldFnFigures os).forCall (fun _ _ => 0) ⟨#[], #[.slice Option.none 0 0], []⟩).memory Tryd.f3.params.toList Rows.fnFiguresSpec.vars false (#[.slice Option.none 0 0] : Array Value).toList 8 = some ([.nil], [], places) := ⟨[], by kernel_rfl⟩
set_option maxRecDepth 100000 in
theorem liftedFnFigures (os : Os) (started : os.Started) (H : Type) (enc : TypeId × Value → H) (F : Stop.Interp) :
    ReturnsInHanded {} Tryd.checked os 3 .any ((OpenSpec.ofChange Rows.fnFiguresSpec).preRow enc Tryd.prog Tryd.f3 Rows.fnFiguresRow.domain false Rows.fnFiguresRow.laid) (((OpenSpec.ofChange Rows.fnFiguresSpec).at F).post enc Tryd.prog Tryd.f3 false true false false) := by
  obtain ⟨places, hx⟩ := readsFnFigures os enc
  refine returnsInHanded_of_row (C := Tryd.checked) (s := OpenSpec.ofChange Rows.fnFiguresSpec) own started (by kernel_rfl) Tryd.func3
    (witness_row_atRef (enc := enc) (C := Tryd.checked) false (laidWorldFnFigures os) #[.slice Option.none 0 0] rfl (by as_aux_lemma => kernel_rfl) (by as_aux_lemma => kernel_rfl) (by as_aux_lemma => kernel_rfl)
      (OpenSpec.preRow_of_cond 8 hx (by kernel_rfl) (fun k hk => by cases hk) (by kernel_rfl) (laidMetFnFigures os))) ?_
  intro W base args ds gs before hval0 hW0 _ _ _ hL _ _
  have HTAB := tabFnFigures hL
  have HER := errRFnFigures hL
  have HES := errSFnFigures hL
  have hval : ∀ (j : Nat) t v, Tryd.f3.params[j]? = some t → args[j]? = some v → Value.okWide Tryd.prog W .any base t v := hval0
  have hW : DataW.Whole enc Tryd.prog Tryd.f3.params.toList Rows.fnFiguresSpec.vars false W args.toList ds gs before := hW0
  obtain ⟨p, q, hA0, hV, hpq, hfz, hnd⟩ := id hW
  have hA : DataW.TrodAll enc Tryd.prog W 0 (fun _ => true) true Tryd.f3.params.toList args.toList ds p := hA0
  rw [Tryd.params3] at hA hval
  obtain ⟨v0, vs0, d0, ds0, p0, q0, hargs, rfl, rfl, h0, r0⟩ := trodAll_cons hA
  obtain ⟨rfl, rfl, rfl⟩ := trodAll_nil r0
  obtain rfl : args = #[v0] := by cases args; simp_all
  obtain ⟨rfl, rfl⟩ := trodVars_none hV
  obtain ⟨A0, n0, cap0, x0, rfl, hn0, hc0, hm0, hr0, -⟩ := open_bytes Tryd.underlying22 Tryd.underlying5 (by kernel_rfl) (hval 0 22 v0 rfl rfl) h0
  refine (w_Figures A0 n0 cap0 x0 hn0 W hr0 HTAB HES HER).mono fun e W' hg => ?_
  obtain ⟨he, hb⟩ := hg.below
  exact ⟨_, he, law_post laidOut rfl (by kernel_rfl) Tryd.underlying4 (by kernel_rfl) hW rfl hb⟩

set_option maxHeartbeats 3200000 in
theorem closedFnFigures : joinedFacts Tryd.checked.prog 3 Tryd.f3 Rows.fnFiguresSpec Rows.fnFiguresRow = true := by
  unfold joinedFacts
  repeat' (with_reducible refine and_mk ?_ ?_)
  all_goals (as_aux_lemma => kernel_rfl)
theorem namedFnFigures : Tryd.checked.prog.funcNamed Rows.fnFiguresRow.func = some 3 := by as_aux_lemma => kernel_rfl
theorem instFnFigures : Tryd.f3.isInstance Tryd.checked.prog Rows.fnFiguresRow.origin Rows.fnFiguresRow.targs := of_decide_eq_true (by as_aux_lemma => kernel_rfl)
theorem wrapFnFigures : Tryd.f3.isWrapper Tryd.checked.prog Rows.fnFiguresRow.wrapper Rows.fnFiguresRow.mainSum := by unfold Func.isWrapper; first | (rw [if_pos (by decide +kernel)]; kernel_rfl) | (rw [if_neg (by decide +kernel)]; exact ⟨rfl, rfl⟩)
theorem saidFnFigures : Rows.FnFiguresSaid :=
  OpenClaim.holds_of_cond 3 Tryd.f3 rfl rfl rfl rfl rfl rfl rfl ⟨rfl, rfl, rfl, rfl, rfl⟩ rfl rfl rfl rfl rfl namedFnFigures Tryd.func3 closedFnFigures instFnFigures wrapFnFigures
    (fun os started H enc _ F => by rw [OpenClaim.pre_eq_preRow]; exact liftedFnFigures os started H enc F)
theorem plainFnFigures (f : FuncId) (fn : Func) (hf : Tryd.pinned.checked.prog.funcNamed "loop.example/g00973/laws.FnFigures" = some f) (hfn : Tryd.pinned.checked.prog.funcs[f]? = some fn) :
    true = Tryd.pinned.checked.prog.looks [] ∧ ∀ (j : Nat) t, fn.params[j]? = some t → Tryd.pinned.checked.prog.wantsStandIn t = false := by
  obtain rfl : f = 3 := Option.some.inj (namedFnFigures.symm.trans hf) |>.symm
  obtain rfl : fn = Tryd.f3 := (Option.some.inj (Tryd.func3.symm.trans hfn)).symm
  refine ⟨by kernel_rfl, fun j t ht => ?_⟩
  rw [Tryd.params3] at ht
  have hm := Array.mem_of_getElem? ht
  simp only [List.mem_toArray, List.mem_cons, List.not_mem_nil, or_false] at hm
  obtain rfl := hm
  exact (by kernel_rfl : Tryd.prog.wantsStandIn 22 = false)
theorem holdsFnFigures : Rows.FnFiguresCardSaid :=
  Claim7.holds_tied_plain_at .later [] _ _ _ _ saidFnFigures (fun _ h => by cases h) (by kernel_rfl) (fun _ h => by cases h) fnFigures_row_tie rfl ⟨rfl, rfl⟩ (by kernel_rfl) rfl plainFnFigures (by kernel_rfl)
end Go.Proofs.YtmpcdkjncpkfaaaDoor
