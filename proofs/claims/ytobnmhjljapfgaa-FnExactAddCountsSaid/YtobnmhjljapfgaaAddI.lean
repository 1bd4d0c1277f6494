/-
  AddCounts of the program computes 'addCounts'. Conditions: the lengths are at most 2^32.
-/
import Derived.Test.YtobnmhjljapfgaaAddP
import Derived.Test.YtobnmhjljapfgaaAdjM
import Derived.Test.YtobnmhjljapfgaaLaw
namespace Go.Proofs.Ytobnmhjljapfgaa
open Go.RowKit
set_option linter.unusedVariables false

set_option maxHeartbeats 6400000 in
theorem c_iAddCounts (A : Option Addr) (n c : Nat) (xs : List ((Int × Int) × Int)) (B : Option Addr) (m d : Nat) (ys : List ((Int × Int) × Int)) (w : World) (hn : xs.length = n) (hn2 : n ≤ 4294967296) (hm : ys.length = m) (hm2 : m ≤ 4294967296)
    (ha : Row encC 3 w A xs) (hb : Row encC 3 w B ys) : Calls Try.prog 26 #[.slice A n c, .slice B m d] w (MadeOwn encC 3 (fun v => .tuple #[v, .bool (addCounts xs ys).2]) (addCounts xs ys).1 w) := by
  obtain ⟨i0, hi0, hz0, hs0, hb0⟩ := info_parts infoCount
  have HI := Lib.hid hi0
  have HZ := Lib.hid hz0
  have HS := Lib.hid hs0
  have HW := Lib.hid hb0
  clear hi0 hz0 hs0 hb0
  have HA := Lib.hid ha
  have HN := Lib.hid hn
  have HB := Lib.hid hb
  have HM := Lib.hid hm
  clear ha hn hb hm
  by_cases h1 : ctsOk xs = true
  · have H1 := Lib.hid h1
    clear h1
    by_cases h2 : ctsOk ys = true
    · have H2 := Lib.hid h2
      have hI := fun (k : Nat) x hx => ct_n (x := x) (k := k) h2 hx
      have HIN := Lib.hid hI
      clear h2 hI
      go_enter Try.func26, Try.ntmps26
      go_wp2_with (first | (go_at_call 35; (with_reducible refine (c_copyCounts _ _ _ xs _ HN.out (by omega) (by (repeat (first | with_reducible exact HA.out | with_reducible refine Row.later ?_ _ | with_reducible refine Row.alloc ?_ _ | with_reducible refine row_later2 ?_ _ _)); done)).mono ?_); rintro _ w2 ⟨A1, n1, c1, rfl, hl, hc1, hx1, hO, p2, hp⟩; have HL1 := Lib.hid hl; have HO1 := Lib.hid (hO.mono (show w.heap.size ≤ _ by first | exact Nat.le_refl _ | (simp [later_size]))); clear hl hO; (first | (obtain ⟨q1, hq⟩ := later_fold hp) | (obtain ⟨q1, hq⟩ : ∃ q, w2 = later w q := ⟨_, hp⟩)); clear hp; subst hq) | (go_at_call 20; (with_reducible refine (c_iCountsOk_t _ _ _ xs _ _ HN.out (by omega) (by (repeat (first | with_reducible exact HA.out | with_reducible refine Row.later ?_ _ | with_reducible refine Row.alloc ?_ _ | with_reducible refine row_later2 ?_ _ _)); done) H1.out).mono ?_); rintro _ _ ⟨rfl, p, rfl⟩) | (go_at_call 20; (with_reducible refine (c_iCountsOk_t _ _ _ ys _ _ HM.out (by omega) (by (repeat (first | with_reducible exact HB.out | with_reducible refine Row.later ?_ _ | with_reducible refine Row.alloc ?_ _ | with_reducible refine row_later2 ?_ _ _)); done) H2.out).mono ?_); rintro _ _ ⟨rfl, p, rfl⟩) | (refine wp_region_later (by kernel_rfl) (by kernel_rfl) ?_; (repeat (first | go_big_quiet_skip | quiet_step ((first | (go_at_call 20; first | with_reducible exact calls_later (c_iCountsOk_t _ _ _ xs _ _ HN.out (by omega) (by (repeat (first | with_reducible exact HA.out | with_reducible refine Row.later ?_ _ | with_reducible refine Row.alloc ?_ _ | with_reducible refine row_later2 ?_ _ _)); done) H1.out) | with_reducible exact calls_later2 (c_iCountsOk_t _ _ _ xs _ _ HN.out (by omega) (by (repeat (first | with_reducible exact HA.out | with_reducible refine Row.later ?_ _ | with_reducible refine Row.alloc ?_ _ | with_reducible refine row_later2 ?_ _ _)); done) H1.out)) | (go_at_call 20; first | with_reducible exact calls_later (c_iCountsOk_t _ _ _ ys _ _ HM.out (by omega) (by (repeat (first | with_reducible exact HB.out | with_reducible refine Row.later ?_ _ | with_reducible refine Row.alloc ?_ _ | with_reducible refine row_later2 ?_ _ _)); done) H2.out) | with_reducible exact calls_later2 (c_iCountsOk_t _ _ _ ys _ _ HM.out (by omega) (by (repeat (first | with_reducible exact HB.out | with_reducible refine Row.later ?_ _ | with_reducible refine Row.alloc ?_ _ | with_reducible refine row_later2 ?_ _ _)); done) H2.out)))))); refine wpQuiet_nil ?_; rintro _ ⟨p, rfl⟩))
      go_loopw [6, 25] (fun v ii wr => ∃ (j : Nat) (acc : List ((Int × Int) × Int)) (Ac : Option Addr) (L cc : Nat), ii = .int .i64 j ∧ v = .slice Ac L cc ∧ j ≤ m ∧ acc.length = L ∧ L ≤ cc ∧ cc ≤ maxLen ∧ addRun xs (ys.take j) = some acc ∧ Own encC 3 w.heap.size wr Ac acc ∧ ∃ p : Later, wr = later w p) (fun _ ii _ => m - (intOf ii).toNat)
      case atStart => exact ⟨0, xs, A1, _, c1, rfl, rfl, by omega, HL1.out, hc1, hx1, rfl, (by (repeat (first | with_reducible exact HO1.out | with_reducible refine own_later2 ?_ (Nat.le_refl _) _ _ | with_reducible refine Own.later ?_ _)); done), _, rfl⟩
      case round =>
        obtain ⟨j, acc, Ac, L, cc, rfl, rfl, hj, hL, hcc, hxc, hF, hO, pw, rfl⟩ := hrel
        have hacc : acc.length ≤ n + m := by
          have h1 := addRun_len _ hF
          have h2 : (ys.take j).length ≤ j := List.length_take_le _ _
          rw [HN.out] at h1
          omega
        rw [hL] at hacc
        have HL := Lib.hid hL
        have HF := Lib.hid hF
        have HO := Lib.hid hO
        clear hL hF hO
        by_cases hlt : j < m
        · obtain ⟨x, hx⟩ : ∃ x, ys[j]? = some x := ⟨_, List.getElem?_eq_getElem (by rw [HM.out]; exact hlt)⟩
          obtain ⟨bk, off, rfl, hcx⟩ := HB.out.at_ hx
          have HX := Lib.hid hx
          have hin := HIN.out j x hx
          have hbl := World.block_lt_of_cell? _ _ (hcx 0 _ rfl)
          simp only at hbl
          have hble := Nat.le_of_lt hbl
          obtain ⟨⟨x1, x2⟩, x3⟩ := x
          have hx0 := hcx 0 _ rfl
          have hx1 := hcx 1 _ rfl
          have hx2 := hcx 2 _ rfl
          clear hcx hx
          simp only [Nat.add_zero] at *
          generalize hR : (adjust acc x1 x2 x3).1 = R
          have HR := Lib.hid hR
          clear hR
          generalize hK : (adjust acc x1 x2 x3).2 = K
          have HK := Lib.hid hK
          clear hK
          cases K
          · have HE := Lib.hid (addCounts_no (.inr (.inr (addRun_none HF.out HX.out HK.out))))
            clear HF
            go_wp2_with (first | (go_at_call 22; (with_reducible refine (m_iAdjust _ L _ acc _ _ _ _ R _ HL.out (by omega) hin HR.out HK.out (by (repeat (first | with_reducible exact HO.out.row | with_reducible refine row_later2 ?_ _ _ | with_reducible refine Row.alloc ?_ _ | with_reducible refine Row.later ?_ _)); done)).mono ?_); rintro _ w2 ⟨A3, n3, c3, rfl, hl, hc3, hx3, hO, p2, hp⟩; have HL3 := Lib.hid hl; have HO3 := Lib.hid (hO.mono (show w.heap.size ≤ _ by first | (simp [later_size]; done) | (simp [later_size]; omega))); clear hl hO; obtain ⟨q3, hq⟩ := (later_of_below (show Below w.heap.size w w2 by subst hp; (repeat (first | with_reducible exact Below.refl _ _ | with_reducible assumption | with_reducible refine Below.drew ?_ | with_reducible refine below_drewN ?_ _ | with_reducible exact HQ.out | with_reducible refine below_ext ?_ _ _ | with_reducible refine below_then_later ?_ (by first | with_reducible exact Nat.le_refl _ | (simp; done) | (simp; omega) | (simp [later_size]; done) | (simp [later_size]; omega)) _ | with_reducible refine Below.setCell ?_ (by first | with_reducible exact Nat.le_refl _ | (simp; done) | (simp; omega) | (simp [later_size]; done) | (simp [later_size]; omega)) _ | with_reducible refine Below.alloc ?_ (by first | with_reducible exact Nat.le_refl _ | (simp; done) | (simp; omega) | (simp [later_size]; done) | (simp [later_size]; omega)) _)))); clear hp; subst hq) | (go_at_call 35; (with_reducible refine (c_copyCounts _ _ _ xs _ HN.out (by omega) (by (repeat (first | with_reducible exact HA.out | with_reducible refine Row.later ?_ _ | with_reducible refine Row.alloc ?_ _ | with_reducible refine row_later2 ?_ _ _)); done)).mono ?_); rintro _ w2 ⟨A2, n2, c2, rfl, hl, hc2, hx2, hO, p2, hp⟩; have HL2 := Lib.hid hl; have HO2 := Lib.hid (hO.mono (show w.heap.size ≤ _ by first | exact Nat.le_refl _ | (simp [later_size]))); clear hl hO; (first | (obtain ⟨q2, hq⟩ := later_fold hp) | (obtain ⟨q2, hq⟩ : ∃ q, w2 = later w q := ⟨_, hp⟩)); clear hp; subst hq) | (refine wp_region_later (by kernel_rfl) (by kernel_rfl) ?_; (repeat (first | go_big_quiet_skip | quiet_step ((fail)))); refine wpQuiet_nil ?_; rintro _ ⟨p, rfl⟩))
            go_ret2
            rw [HE.out]
            exact ⟨_, _, _, rfl, HL2.out, hc2, hx2, (by (repeat (first | with_reducible exact HO2.out | with_reducible refine own_later2 ?_ (Nat.le_refl _) _ _ | with_reducible refine Own.later ?_ _)); done), later_of_below (by (repeat (first | with_reducible exact Below.refl _ _ | with_reducible assumption | with_reducible refine Below.drew ?_ | with_reducible refine below_drewN ?_ _ | with_reducible exact HQ.out | with_reducible refine below_ext ?_ _ _ | with_reducible refine below_then_later ?_ (by first | with_reducible exact Nat.le_refl _ | (simp; done) | (simp; omega) | (simp [later_size]; done) | (simp [later_size]; omega)) _ | with_reducible refine Below.setCell ?_ (by first | with_reducible exact Nat.le_refl _ | (simp; done) | (simp; omega) | (simp [later_size]; done) | (simp [later_size]; omega)) _ | with_reducible refine Below.alloc ?_ (by first | with_reducible exact Nat.le_refl _ | (simp; done) | (simp; omega) | (simp [later_size]; done) | (simp [later_size]; omega)) _)))⟩
          · have HF2 := Lib.hid (addRun_some HF.out HX.out HR.out HK.out)
            clear HF
            go_wp2_with (first | (go_at_call 22; (with_reducible refine (m_iAdjust _ L _ acc _ _ _ _ R _ HL.out (by omega) hin HR.out HK.out (by (repeat (first | with_reducible exact HO.out.row | with_reducible refine row_later2 ?_ _ _ | with_reducible refine Row.alloc ?_ _ | with_reducible refine Row.later ?_ _)); done)).mono ?_); rintro _ w2 ⟨A3, n3, c3, rfl, hl, hc3, hx3, hO, p2, hp⟩; have HL3 := Lib.hid hl; have HO3 := Lib.hid (hO.mono (show w.heap.size ≤ _ by first | (simp [later_size]; done) | (simp [later_size]; omega))); clear hl hO; obtain ⟨q3, hq⟩ := (later_of_below (show Below w.heap.size w w2 by subst hp; (repeat (first | with_reducible exact Below.refl _ _ | with_reducible assumption | with_reducible refine Below.drew ?_ | with_reducible refine below_drewN ?_ _ | with_reducible exact HQ.out | with_reducible refine below_ext ?_ _ _ | with_reducible refine below_then_later ?_ (by first | with_reducible exact Nat.le_refl _ | (simp; done) | (simp; omega) | (simp [later_size]; done) | (simp [later_size]; omega)) _ | with_reducible refine Below.setCell ?_ (by first | with_reducible exact Nat.le_refl _ | (simp; done) | (simp; omega) | (simp [later_size]; done) | (simp [later_size]; omega)) _ | with_reducible refine Below.alloc ?_ (by first | with_reducible exact Nat.le_refl _ | (simp; done) | (simp; omega) | (simp [later_size]; done) | (simp [later_size]; omega)) _)))); clear hp; subst hq) | (refine wp_region_later (by kernel_rfl) (by kernel_rfl) ?_; (repeat (first | go_big_quiet_skip | quiet_step ((fail)))); refine wpQuiet_nil ?_; rintro _ ⟨p, rfl⟩))
            go_roundw
            case rel => exact ⟨j + 1, R, _, _, _, by go_num, rfl, by omega, HL3.out, hc3, hx3, HF2.out, (by (repeat (first | with_reducible exact HO3.out | with_reducible refine own_later2 ?_ (Nat.le_refl _) _ _ | with_reducible refine Own.later ?_ _)); done), later_of_below (by (repeat (first | with_reducible exact Below.refl _ _ | with_reducible assumption | with_reducible refine Below.drew ?_ | with_reducible refine below_drewN ?_ _ | with_reducible exact HQ.out | with_reducible refine below_ext ?_ _ _ | with_reducible refine below_then_later ?_ (by first | with_reducible exact Nat.le_refl _ | (simp; done) | (simp; omega) | (simp [later_size]; done) | (simp [later_size]; omega)) _ | with_reducible refine Below.setCell ?_ (by first | with_reducible exact Nat.le_refl _ | (simp; done) | (simp; omega) | (simp [later_size]; done) | (simp [later_size]; omega)) _ | with_reducible refine Below.alloc ?_ (by first | with_reducible exact Nat.le_refl _ | (simp; done) | (simp; omega) | (simp [later_size]; done) | (simp [later_size]; omega)) _)))⟩
            case measure => simp [intOf]; omega
        · have HE := Lib.hid (addCounts_yes H1.out H2.out (addRun_end HF.out (by rw [HM.out]; omega)))
          clear HF
          go_wp2_with (first | (refine wp_region_later (by kernel_rfl) (by kernel_rfl) ?_; (repeat (first | go_big_quiet_skip | quiet_step ((fail)))); refine wpQuiet_nil ?_; rintro _ ⟨p, rfl⟩))
          go_ret2
          rw [HE.out]
          exact ⟨_, _, _, rfl, HL.out, hcc, hxc, (by (repeat (first | with_reducible exact HO.out | with_reducible refine own_later2 ?_ (Nat.le_refl _) _ _ | with_reducible refine Own.later ?_ _)); done), later_of_below (by (repeat (first | with_reducible exact Below.refl _ _ | with_reducible assumption | with_reducible refine Below.drew ?_ | with_reducible refine below_drewN ?_ _ | with_reducible exact HQ.out | with_reducible refine below_ext ?_ _ _ | with_reducible refine below_then_later ?_ (by first | with_reducible exact Nat.le_refl _ | (simp; done) | (simp; omega) | (simp [later_size]; done) | (simp [later_size]; omega)) _ | with_reducible refine Below.setCell ?_ (by first | with_reducible exact Nat.le_refl _ | (simp; done) | (simp; omega) | (simp [later_size]; done) | (simp [later_size]; omega)) _ | with_reducible refine Below.alloc ?_ (by first | with_reducible exact Nat.le_refl _ | (simp; done) | (simp; omega) | (simp [later_size]; done) | (simp [later_size]; omega)) _)))⟩
    · have H2 := Lib.hid (show ctsOk ys = false by simpa using h2)
      clear h2
      rw [addCounts_no (.inr (.inl H2.out))]
      go_enter Try.func26, Try.ntmps26
      go_wp2_with (first | (go_at_call 35; (with_reducible refine (c_copyCounts _ _ _ xs _ HN.out (by omega) (by (repeat (first | with_reducible exact HA.out | with_reducible refine Row.later ?_ _ | with_reducible refine Row.alloc ?_ _ | with_reducible refine row_later2 ?_ _ _)); done)).mono ?_); rintro _ w2 ⟨A1, n1, c1, rfl, hl, hc1, hx1, hO, p2, hp⟩; have HL1 := Lib.hid hl; have HO1 := Lib.hid (hO.mono (show w.heap.size ≤ _ by first | exact Nat.le_refl _ | (simp [later_size]))); clear hl hO; (first | (obtain ⟨q1, hq⟩ := later_fold hp) | (obtain ⟨q1, hq⟩ : ∃ q, w2 = later w q := ⟨_, hp⟩)); clear hp; subst hq) | (go_at_call 20; (with_reducible refine (c_iCountsOk_t _ _ _ xs _ _ HN.out (by omega) (by (repeat (first | with_reducible exact HA.out | with_reducible refine Row.later ?_ _ | with_reducible refine Row.alloc ?_ _ | with_reducible refine row_later2 ?_ _ _)); done) H1.out).mono ?_); rintro _ _ ⟨rfl, p, rfl⟩) | (go_at_call 20; (with_reducible refine (c_iCountsOk_t _ _ _ ys _ _ HM.out (by omega) (by (repeat (first | with_reducible exact HB.out | with_reducible refine Row.later ?_ _ | with_reducible refine Row.alloc ?_ _ | with_reducible refine row_later2 ?_ _ _)); done) H2.out).mono ?_); rintro _ _ ⟨rfl, p, rfl⟩) | (refine wp_region_later (by kernel_rfl) (by kernel_rfl) ?_; (repeat (first | go_big_quiet_skip | quiet_step ((first | (go_at_call 20; first | with_reducible exact calls_later (c_iCountsOk_t _ _ _ xs _ _ HN.out (by omega) (by (repeat (first | with_reducible exact HA.out | with_reducible refine Row.later ?_ _ | with_reducible refine Row.alloc ?_ _ | with_reducible refine row_later2 ?_ _ _)); done) H1.out) | with_reducible exact calls_later2 (c_iCountsOk_t _ _ _ xs _ _ HN.out (by omega) (by (repeat (first | with_reducible exact HA.out | with_reducible refine Row.later ?_ _ | with_reducible refine Row.alloc ?_ _ | with_reducible refine row_later2 ?_ _ _)); done) H1.out)) | (go_at_call 20; first | with_reducible exact calls_later (c_iCountsOk_t _ _ _ ys _ _ HM.out (by omega) (by (repeat (first | with_reducible exact HB.out | with_reducible refine Row.later ?_ _ | with_reducible refine Row.alloc ?_ _ | with_reducible refine row_later2 ?_ _ _)); done) H2.out) | with_reducible exact calls_later2 (c_iCountsOk_t _ _ _ ys _ _ HM.out (by omega) (by (repeat (first | with_reducible exact HB.out | with_reducible refine Row.later ?_ _ | with_reducible refine Row.alloc ?_ _ | with_reducible refine row_later2 ?_ _ _)); done) H2.out)))))); refine wpQuiet_nil ?_; rintro _ ⟨p, rfl⟩))
      go_ret2
      exact ⟨_, _, _, rfl, HL1.out, hc1, hx1, (by (repeat (first | with_reducible exact HO1.out | with_reducible refine own_later2 ?_ (Nat.le_refl _) _ _ | with_reducible refine Own.later ?_ _)); done), later_of_below (by (repeat (first | with_reducible exact Below.refl _ _ | with_reducible assumption | with_reducible refine Below.drew ?_ | with_reducible refine below_drewN ?_ _ | with_reducible exact HQ.out | with_reducible refine below_ext ?_ _ _ | with_reducible refine below_then_later ?_ (by first | with_reducible exact Nat.le_refl _ | (simp; done) | (simp; omega) | (simp [later_size]; done) | (simp [later_size]; omega)) _ | with_reducible refine Below.setCell ?_ (by first | with_reducible exact Nat.le_refl _ | (simp; done) | (simp; omega) | (simp [later_size]; done) | (simp [later_size]; omega)) _ | with_reducible refine Below.alloc ?_ (by first | with_reducible exact Nat.le_refl _ | (simp; done) | (simp; omega) | (simp [later_size]; done) | (simp [later_size]; omega)) _)))⟩
  · have H1 := Lib.hid (show ctsOk xs = false by simpa using h1)
    clear h1
    rw [addCounts_no (.inl H1.out)]
    go_enter Try.func26, Try.ntmps26
    go_wp2_with (first | (go_at_call 35; (with_reducible refine (c_copyCounts _ _ _ xs _ HN.out (by omega) (by (repeat (first | with_reducible exact HA.out | with_reducible refine Row.later ?_ _ | with_reducible refine Row.alloc ?_ _ | with_reducible refine row_later2 ?_ _ _)); done)).mono ?_); rintro _ w2 ⟨A1, n1, c1, rfl, hl, hc1, hx1, hO, p2, hp⟩; have HL1 := Lib.hid hl; have HO1 := Lib.hid (hO.mono (show w.heap.size ≤ _ by first | exact Nat.le_refl _ | (simp [later_size]))); clear hl hO; (first | (obtain ⟨q1, hq⟩ := later_fold hp) | (obtain ⟨q1, hq⟩ : ∃ q, w2 = later w q := ⟨_, hp⟩)); clear hp; subst hq) | (go_at_call 20; (with_reducible refine (c_iCountsOk_t _ _ _ xs _ _ HN.out (by omega) (by (repeat (first | with_reducible exact HA.out | with_reducible refine Row.later ?_ _ | with_reducible refine Row.alloc ?_ _ | with_reducible refine row_later2 ?_ _ _)); done) H1.out).mono ?_); rintro _ _ ⟨rfl, p, rfl⟩) | (refine wp_region_later (by kernel_rfl) (by kernel_rfl) ?_; (repeat (first | go_big_quiet_skip | quiet_step ((first | (go_at_call 20; first | with_reducible exact calls_later (c_iCountsOk_t _ _ _ xs _ _ HN.out (by omega) (by (repeat (first | with_reducible exact HA.out | with_reducible refine Row.later ?_ _ | with_reducible refine Row.alloc ?_ _ | with_reducible refine row_later2 ?_ _ _)); done) H1.out) | with_reducible exact calls_later2 (c_iCountsOk_t _ _ _ xs _ _ HN.out (by omega) (by (repeat (first | with_reducible exact HA.out | with_reducible refine Row.later ?_ _ | with_reducible refine Row.alloc ?_ _ | with_reducible refine row_later2 ?_ _ _)); done) H1.out)))))); refine wpQuiet_nil ?_; rintro _ ⟨p, rfl⟩))
    go_ret2
    exact ⟨_, _, _, rfl, HL1.out, hc1, hx1, (by (repeat (first | with_reducible exact HO1.out | with_reducible refine own_later2 ?_ (Nat.le_refl _) _ _ | with_reducible refine Own.later ?_ _)); done), later_of_below (by (repeat (first | with_reducible exact Below.refl _ _ | with_reducible assumption | with_reducible refine Below.drew ?_ | with_reducible refine below_drewN ?_ _ | with_reducible exact HQ.out | with_reducible refine below_ext ?_ _ _ | with_reducible refine below_then_later ?_ (by first | with_reducible exact Nat.le_refl _ | (simp; done) | (simp; omega) | (simp [later_size]; done) | (simp [later_size]; omega)) _ | with_reducible refine Below.setCell ?_ (by first | with_reducible exact Nat.le_refl _ | (simp; done) | (simp; omega) | (simp [later_size]; done) | (simp [later_size]; omega)) _ | with_reducible refine Below.alloc ?_ (by first | with_reducible exact Nat.le_refl _ | (simp; done) | (simp; omega) | (simp [later_size]; done) | (simp [later_size]; omega)) _)))⟩
end Go.Proofs.Ytobnmhjljapfgaa
