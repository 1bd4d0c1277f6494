/-
  CountsOk, one of the two sides. Conditions: the length fits an int.
-/
import Derived.Test.YtcjdfecajlgcmaaDoorCok
namespace Go.Proofs.YtcjdfecajlgcmaaDoor
open Go.RowKit
set_option linter.unusedVariables false

set_option maxHeartbeats 6400000 in
theorem c_sCountsOk (A : Option Addr) (n c : Nat) (xs : List ((Int × Int) × Int)) (w : World) (hn : xs.length = n) (hn2 : n ≤ 9223372036854775807)
    (ha : Row encC 3 w A xs) : Calls Tryd.prog 58 #[.slice A n c] w (Gives (.bool (ctsOk xs)) w) := by
  have HA := Lib.hid ha
  have HN := Lib.hid hn
  clear ha hn
  go_enter Tryd.func58, Tryd.ntmps58
  go_wp2_with fail
  go_loopw [3] (fun s0 wr => ∃ k : Nat, s0 = .int .i64 k ∧ k ≤ n ∧ (∀ j, j < k → ctAt xs j = true) ∧ ∃ p : Later, wr = later w p) (fun s0 _ => n - (intOf s0).toNat)
  case atStart => exact ⟨0, rfl, by omega, by intro j hj; omega, later_refl _⟩
  case round =>
    obtain ⟨k, rfl, hk, hT, p, rfl⟩ := hrel
    have HT := Lib.hid hT
    clear hT
    by_cases hlt : k < n
    · obtain ⟨x, hx⟩ : ∃ x, xs[k]? = some x := ⟨_, List.getElem?_eq_getElem (by rw [HN.out]; exact hlt)⟩
      have hAt := HA.out.at_ hx
      obtain ⟨b, off, rfl, hcx⟩ := hAt
      have HX := Lib.hid hx
      have hbl := World.block_lt_of_cell? _ _ (hcx 0 _ rfl)
      simp only at hbl
      have hble := Nat.le_of_lt hbl
      obtain ⟨⟨x1, x2⟩, x3⟩ := x
      have hx0 := hcx 0 _ rfl
      have hx1 := hcx 1 _ rfl
      have hx2 := hcx 2 _ rfl
      clear hcx hx
      simp only [Nat.add_zero] at *
      cases hs : stOk x1 x2
      · have HS := Lib.hid hs
        clear hs
        go_wp2_with (first | (go_at_call 40; (refine (c_sStampOk_b _ _ _ _ HS.out).mono ?_); rintro _ _ ⟨rfl, p, rfl⟩) | ((with_reducible refine wp_region_later (by kernel_rfl) (by kernel_rfl) ?_); (repeat (first | go_big_quiet_skip | quiet_step ((first | (go_at_call 40; first | exact calls_later (c_sStampOk_b _ _ _ _ HS.out) | exact calls_later2 (c_sStampOk_b _ _ _ _ HS.out)))))); refine wpQuiet_nil ?_; rintro _ ⟨p, rfl⟩))
        all_goals
          go_ret
          exact Gives.mk (ret_bool (ct_hit (n := n) HX.out (by simp [ctOk1, HS.out])).symm) (by (repeat (first | with_reducible exact Below.refl _ _ | with_reducible assumption | with_reducible refine Below.drew ?_ | with_reducible refine below_drewN ?_ _ | with_reducible exact HQ.out | with_reducible exact HBW.out | with_reducible refine below_ext ?_ _ _ | with_reducible refine below_then_later ?_ (by first | with_reducible exact Nat.le_refl _ | with_reducible exact HBW.out.size | with_reducible exact HQ.out.size | omega | (simp; done) | (simp; omega) | (simp [later_size]; done) | (simp [later_size]; omega)) _ | with_reducible refine Below.setCell ?_ (by first | with_reducible exact Nat.le_refl _ | with_reducible exact HBW.out.size | with_reducible exact HQ.out.size | omega | (simp; done) | (simp; omega) | (simp [later_size]; done) | (simp [later_size]; omega)) _ | with_reducible refine Below.alloc ?_ (by first | with_reducible exact Nat.le_refl _ | with_reducible exact HBW.out.size | with_reducible exact HQ.out.size | omega | (simp; done) | (simp; omega) | (simp [later_size]; done) | (simp [later_size]; omega)) _)))
      · have HS := Lib.hid hs
        clear hs
        by_cases hr : -1000000 ≤ x3 ∧ x3 ≤ 1000000
        · by_cases hz : x3 = 0
          · subst hz
            go_wp2_with (first | (go_at_call 40; (refine (c_sStampOk_b _ _ _ _ HS.out).mono ?_); rintro _ _ ⟨rfl, p, rfl⟩) | (go_at_call 39; (refine (c_in_t _ _ _ _ (by omega)).mono ?_); rintro _ _ ⟨rfl, p, rfl⟩) | ((with_reducible refine wp_region_later (by kernel_rfl) (by kernel_rfl) ?_); (repeat (first | go_big_quiet_skip | quiet_step ((first | (go_at_call 40; first | exact calls_later (c_sStampOk_b _ _ _ _ HS.out) | exact calls_later2 (c_sStampOk_b _ _ _ _ HS.out)) | (go_at_call 39; first | exact calls_later (c_in_t _ _ _ _ (by omega)) | exact calls_later2 (c_in_t _ _ _ _ (by omega))))))); refine wpQuiet_nil ?_; rintro _ ⟨p, rfl⟩))
            all_goals
              go_ret
              exact Gives.mk (ret_bool (ct_hit (n := n) HX.out (by simp [ctOk1])).symm) (by (repeat (first | with_reducible exact Below.refl _ _ | with_reducible assumption | with_reducible refine Below.drew ?_ | with_reducible refine below_drewN ?_ _ | with_reducible exact HQ.out | with_reducible exact HBW.out | with_reducible refine below_ext ?_ _ _ | with_reducible refine below_then_later ?_ (by first | with_reducible exact Nat.le_refl _ | with_reducible exact HBW.out.size | with_reducible exact HQ.out.size | omega | (simp; done) | (simp; omega) | (simp [later_size]; done) | (simp [later_size]; omega)) _ | with_reducible refine Below.setCell ?_ (by first | with_reducible exact Nat.le_refl _ | with_reducible exact HBW.out.size | with_reducible exact HQ.out.size | omega | (simp; done) | (simp; omega) | (simp [later_size]; done) | (simp [later_size]; omega)) _ | with_reducible refine Below.alloc ?_ (by first | with_reducible exact Nat.le_refl _ | with_reducible exact HBW.out.size | with_reducible exact HQ.out.size | omega | (simp; done) | (simp; omega) | (simp [later_size]; done) | (simp [later_size]; omega)) _)))
          · have h1 : ctOk1 ((x1, x2), x3) = true := by simp [ctOk1, HS.out, hr.1, hr.2, hz]
            have H1 := Lib.hid h1
            clear h1
            by_cases hk0 : 0 < k
            · obtain ⟨y, hy⟩ : ∃ y, xs[k - 1]? = some y := ⟨_, List.getElem?_eq_getElem (by rw [HN.out]; omega)⟩
              have hAt := HA.out.at_ hy
              obtain ⟨b2, off2, hab, hcy⟩ := hAt
              cases hab
              have HY := Lib.hid hy
              obtain ⟨⟨y1, y2⟩, y3⟩ := y
              have hy0 := hcy 0 _ rfl
              have hy1 := hcy 1 _ rfl
              clear hcy hy
              simp only [Nat.add_zero] at *
              have hrg := stOrd_rng y1 y2 x1 x2
              have HRR := Lib.hid hr
              have HK0 := Lib.hid hk0
              have hnn : 0 ≤ (k : Int) - 1 := by omega
              have hnn1 : 1 ≤ (k : Int) := by omega
              have htn : ((k : Int) - 1).toNat = k - 1 := by omega
              have hltk : (k : Int) - 1 < (n : Int) := by omega
              have hwr : IntKind.i64.wrap ((k : Int) - 1) = (k : Int) - 1 := IntWalk.i64_in _ (by omega)
              rcases (by clear hwr htn; omega : stOrd y1 y2 x1 x2 = -1 ∨ stOrd y1 y2 x1 x2 = 0 ∨ stOrd y1 y2 x1 x2 = 1) with ho | ho | ho
              · have HO := Lib.hid ho
                clear ho hrg
                go_wp2_with (first | (go_at_call 40; (refine (c_sStampOk_b _ _ _ _ HS.out).mono ?_); rintro _ _ ⟨rfl, p, rfl⟩) | (go_at_call 39; (refine (c_in_t _ _ _ _ HRR.out).mono ?_); rintro _ _ ⟨rfl, p, rfl⟩) | (go_at_call 45; (refine (so_s _ _ _ _ _ _ HO.out).mono ?_); rintro _ _ ⟨rfl, p, rfl⟩) | ((with_reducible refine wp_region_later (by kernel_rfl) (by kernel_rfl) ?_); (repeat (first | go_big_quiet_skip | quiet_step ((first | (go_at_call 40; first | exact calls_later (c_sStampOk_b _ _ _ _ HS.out) | exact calls_later2 (c_sStampOk_b _ _ _ _ HS.out)) | (go_at_call 39; first | exact calls_later (c_in_t _ _ _ _ HRR.out) | exact calls_later2 (c_in_t _ _ _ _ HRR.out)) | (go_at_call 45; first | exact calls_later (so_s _ _ _ _ _ _ HO.out) | exact calls_later2 (so_s _ _ _ _ _ _ HO.out)))))); refine wpQuiet_nil ?_; rintro _ ⟨p, rfl⟩))
                clear hwr htn
                all_goals
                  go_roundw
                  case rel => exact ⟨k + 1, by go_num, by omega, ct_next HT.out HX.out H1.out (by rw [ct_aft' HK0.out HY.out HO.out]; rfl), later_of_below (by (repeat (first | with_reducible exact Below.refl _ _ | with_reducible assumption | with_reducible refine Below.drew ?_ | with_reducible refine below_drewN ?_ _ | with_reducible exact HQ.out | with_reducible exact HBW.out | with_reducible refine below_ext ?_ _ _ | with_reducible refine below_then_later ?_ (by first | with_reducible exact Nat.le_refl _ | with_reducible exact HBW.out.size | with_reducible exact HQ.out.size | omega | (simp; done) | (simp; omega) | (simp [later_size]; done) | (simp [later_size]; omega)) _ | with_reducible refine Below.setCell ?_ (by first | with_reducible exact Nat.le_refl _ | with_reducible exact HBW.out.size | with_reducible exact HQ.out.size | omega | (simp; done) | (simp; omega) | (simp [later_size]; done) | (simp [later_size]; omega)) _ | with_reducible refine Below.alloc ?_ (by first | with_reducible exact Nat.le_refl _ | with_reducible exact HBW.out.size | with_reducible exact HQ.out.size | omega | (simp; done) | (simp; omega) | (simp [later_size]; done) | (simp [later_size]; omega)) _)))⟩
                  case measure => simp [intOf]; omega
              all_goals
                have HO := Lib.hid ho
                clear ho hrg
                go_wp2_with (first | (go_at_call 40; (refine (c_sStampOk_b _ _ _ _ HS.out).mono ?_); rintro _ _ ⟨rfl, p, rfl⟩) | (go_at_call 39; (refine (c_in_t _ _ _ _ HRR.out).mono ?_); rintro _ _ ⟨rfl, p, rfl⟩) | (go_at_call 45; (refine (so_s _ _ _ _ _ _ HO.out).mono ?_); rintro _ _ ⟨rfl, p, rfl⟩) | ((with_reducible refine wp_region_later (by kernel_rfl) (by kernel_rfl) ?_); (repeat (first | go_big_quiet_skip | quiet_step ((first | (go_at_call 40; first | exact calls_later (c_sStampOk_b _ _ _ _ HS.out) | exact calls_later2 (c_sStampOk_b _ _ _ _ HS.out)) | (go_at_call 39; first | exact calls_later (c_in_t _ _ _ _ HRR.out) | exact calls_later2 (c_in_t _ _ _ _ HRR.out)) | (go_at_call 45; first | exact calls_later (so_s _ _ _ _ _ _ HO.out) | exact calls_later2 (so_s _ _ _ _ _ _ HO.out)))))); refine wpQuiet_nil ?_; rintro _ ⟨p, rfl⟩))
                clear hwr htn
                all_goals
                  go_ret
                  exact Gives.mk (ret_bool (ct_hit (n := n) HX.out (by rw [ct_aft' HK0.out HY.out HO.out]; simp)).symm) (by (repeat (first | with_reducible exact Below.refl _ _ | with_reducible assumption | with_reducible refine Below.drew ?_ | with_reducible refine below_drewN ?_ _ | with_reducible exact HQ.out | with_reducible exact HBW.out | with_reducible refine below_ext ?_ _ _ | with_reducible refine below_then_later ?_ (by first | with_reducible exact Nat.le_refl _ | with_reducible exact HBW.out.size | with_reducible exact HQ.out.size | omega | (simp; done) | (simp; omega) | (simp [later_size]; done) | (simp [later_size]; omega)) _ | with_reducible refine Below.setCell ?_ (by first | with_reducible exact Nat.le_refl _ | with_reducible exact HBW.out.size | with_reducible exact HQ.out.size | omega | (simp; done) | (simp; omega) | (simp [later_size]; done) | (simp [later_size]; omega)) _ | with_reducible refine Below.alloc ?_ (by first | with_reducible exact Nat.le_refl _ | with_reducible exact HBW.out.size | with_reducible exact HQ.out.size | omega | (simp; done) | (simp; omega) | (simp [later_size]; done) | (simp [later_size]; omega)) _)))
            · go_wp2_with (first | (go_at_call 40; (refine (c_sStampOk_b _ _ _ _ HS.out).mono ?_); rintro _ _ ⟨rfl, p, rfl⟩) | (go_at_call 39; (refine (c_in_t _ _ _ _ (by omega)).mono ?_); rintro _ _ ⟨rfl, p, rfl⟩) | ((with_reducible refine wp_region_later (by kernel_rfl) (by kernel_rfl) ?_); (repeat (first | go_big_quiet_skip | quiet_step ((first | (go_at_call 40; first | exact calls_later (c_sStampOk_b _ _ _ _ HS.out) | exact calls_later2 (c_sStampOk_b _ _ _ _ HS.out)) | (go_at_call 39; first | exact calls_later (c_in_t _ _ _ _ (by omega)) | exact calls_later2 (c_in_t _ _ _ _ (by omega))))))); refine wpQuiet_nil ?_; rintro _ ⟨p, rfl⟩))
              all_goals
                go_roundw
                case rel => exact ⟨k + 1, by go_num, by omega, ct_next HT.out HX.out H1.out (ct_aft0 hk0), later_of_below (by (repeat (first | with_reducible exact Below.refl _ _ | with_reducible assumption | with_reducible refine Below.drew ?_ | with_reducible refine below_drewN ?_ _ | with_reducible exact HQ.out | with_reducible exact HBW.out | with_reducible refine below_ext ?_ _ _ | with_reducible refine below_then_later ?_ (by first | with_reducible exact Nat.le_refl _ | with_reducible exact HBW.out.size | with_reducible exact HQ.out.size | omega | (simp; done) | (simp; omega) | (simp [later_size]; done) | (simp [later_size]; omega)) _ | with_reducible refine Below.setCell ?_ (by first | with_reducible exact Nat.le_refl _ | with_reducible exact HBW.out.size | with_reducible exact HQ.out.size | omega | (simp; done) | (simp; omega) | (simp [later_size]; done) | (simp [later_size]; omega)) _ | with_reducible refine Below.alloc ?_ (by first | with_reducible exact Nat.le_refl _ | with_reducible exact HBW.out.size | with_reducible exact HQ.out.size | omega | (simp; done) | (simp; omega) | (simp [later_size]; done) | (simp [later_size]; omega)) _)))⟩
                case measure => simp [intOf]; omega
        · go_wp2_with (first | (go_at_call 40; (refine (c_sStampOk_b _ _ _ _ HS.out).mono ?_); rintro _ _ ⟨rfl, p, rfl⟩) | (go_at_call 39; (refine (c_in_f _ _ _ _ (by omega)).mono ?_); rintro _ _ ⟨rfl, p, rfl⟩) | ((with_reducible refine wp_region_later (by kernel_rfl) (by kernel_rfl) ?_); (repeat (first | go_big_quiet_skip | quiet_step ((first | (go_at_call 40; first | exact calls_later (c_sStampOk_b _ _ _ _ HS.out) | exact calls_later2 (c_sStampOk_b _ _ _ _ HS.out)) | (go_at_call 39; first | exact calls_later (c_in_f _ _ _ _ (by omega)) | exact calls_later2 (c_in_f _ _ _ _ (by omega))))))); refine wpQuiet_nil ?_; rintro _ ⟨p, rfl⟩))
          all_goals
            go_ret
            exact Gives.mk (ret_bool (ct_hit (n := n) HX.out (by simp [ctOk1]; omega)).symm) (by (repeat (first | with_reducible exact Below.refl _ _ | with_reducible assumption | with_reducible refine Below.drew ?_ | with_reducible refine below_drewN ?_ _ | with_reducible exact HQ.out | with_reducible exact HBW.out | with_reducible refine below_ext ?_ _ _ | with_reducible refine below_then_later ?_ (by first | with_reducible exact Nat.le_refl _ | with_reducible exact HBW.out.size | with_reducible exact HQ.out.size | omega | (simp; done) | (simp; omega) | (simp [later_size]; done) | (simp [later_size]; omega)) _ | with_reducible refine Below.setCell ?_ (by first | with_reducible exact Nat.le_refl _ | with_reducible exact HBW.out.size | with_reducible exact HQ.out.size | omega | (simp; done) | (simp; omega) | (simp [later_size]; done) | (simp [later_size]; omega)) _ | with_reducible refine Below.alloc ?_ (by first | with_reducible exact Nat.le_refl _ | with_reducible exact HBW.out.size | with_reducible exact HQ.out.size | omega | (simp; done) | (simp; omega) | (simp [later_size]; done) | (simp [later_size]; omega)) _)))
    · have HE := Lib.hid (ct_end HT.out (by omega) HN.out)
      go_wp2_with (first | ((with_reducible refine wp_region_later (by kernel_rfl) (by kernel_rfl) ?_); (repeat (first | go_big_quiet_skip | quiet_step ((fail)))); refine wpQuiet_nil ?_; rintro _ ⟨p, rfl⟩))
      all_goals
        go_ret
        exact Gives.mk (ret_bool HE.out.symm) (by (repeat (first | with_reducible exact Below.refl _ _ | with_reducible assumption | with_reducible refine Below.drew ?_ | with_reducible refine below_drewN ?_ _ | with_reducible exact HQ.out | with_reducible exact HBW.out | with_reducible refine below_ext ?_ _ _ | with_reducible refine below_then_later ?_ (by first | with_reducible exact Nat.le_refl _ | with_reducible exact HBW.out.size | with_reducible exact HQ.out.size | omega | (simp; done) | (simp; omega) | (simp [later_size]; done) | (simp [later_size]; omega)) _ | with_reducible refine Below.setCell ?_ (by first | with_reducible exact Nat.le_refl _ | with_reducible exact HBW.out.size | with_reducible exact HQ.out.size | omega | (simp; done) | (simp; omega) | (simp [later_size]; done) | (simp [later_size]; omega)) _ | with_reducible refine Below.alloc ?_ (by first | with_reducible exact Nat.le_refl _ | with_reducible exact HBW.out.size | with_reducible exact HQ.out.size | omega | (simp; done) | (simp; omega) | (simp [later_size]; done) | (simp [later_size]; omega)) _)))
end Go.Proofs.YtcjdfecajlgcmaaDoor
