/-
  Comparing slices element by element: the law's sameStamps, sameCounts, sameRecords. Conditions: the lengths fit an int.
-/
import Derived.Test.YtcmhmdccfihhiaaSl
import Derived.Test.YtcmhmdccfihhiaaScal
import Derived.Test.YtcmhmdccfihhiaaStruct
import Derived.Test.YtcmhmdccfihhiaaEq
namespace Go.Proofs.Ytcmhmdccfihhiaa
open Go.RowKit
set_option linter.unusedVariables false

set_option maxHeartbeats 1600000 in
theorem c_sameRecords (A B : Option Addr) (n m c d : Nat) (xs ys : List (Int × (Int × Int) × Int × Int)) (w : World) (hn : xs.length = n) (hm : ys.length = m) (hn2 : n ≤ 9223372036854775807) (hm2 : m ≤ 9223372036854775807)
    (ha : Row encR 5 w A xs) (hb : Row encR 5 w B ys) : Calls Try.prog 35 #[.slice A n c, .slice B m d] w (Gives (.bool (decide (xs = ys))) w) := by
  have HA := Lib.hid ha
  have HB := Lib.hid hb
  have HN := Lib.hid hn
  have HM := Lib.hid hm
  clear ha hb hn hm
  by_cases hl : n = m
  · subst hl
    go_enter Try.func35, Try.ntmps35
    go_wp2_with fail
    go_loopw [5] (fun s0 wr => ∃ k : Nat, s0 = .int .i64 k ∧ k ≤ n ∧ xs.take k = ys.take k ∧ ∃ p : Later, wr = later w p) (fun s0 _ => n - (intOf s0).toNat)
    case atStart => exact ⟨0, rfl, by omega, by simp, later_refl w⟩
    case round =>
      obtain ⟨k, rfl, hk, hT, p, rfl⟩ := hrel
      have HT := Lib.hid hT
      clear hT
      by_cases hlt : k < n
      · obtain ⟨x, hx⟩ : ∃ x, xs[k]? = some x := ⟨_, List.getElem?_eq_getElem (by rw [HN.out]; exact hlt)⟩
        obtain ⟨y, hy⟩ : ∃ y, ys[k]? = some y := ⟨_, List.getElem?_eq_getElem (by rw [HM.out]; exact hlt)⟩
        obtain ⟨b, off, rfl, hcx⟩ := HA.out.at_ hx
        obtain ⟨b', off', rfl, hcy⟩ := HB.out.at_ hy
        have HX := Lib.hid hx
        have HY := Lib.hid hy
        clear hx hy
        obtain ⟨x1, ⟨x2, x3⟩, x4, x5⟩ := x
        obtain ⟨y1, ⟨y2, y3⟩, y4, y5⟩ := y
        have hx0 := hcx 0 _ rfl
        have hy0 := hcy 0 _ rfl
        have hx1 := hcx 1 _ rfl
        have hy1 := hcy 1 _ rfl
        have hx2 := hcx 2 _ rfl
        have hy2 := hcy 2 _ rfl
        have hx3 := hcx 3 _ rfl
        have hy3 := hcy 3 _ rfl
        have hx4 := hcx 4 _ rfl
        have hy4 := hcy 4 _ rfl
        clear hcx hcy
        simp only [Nat.add_zero] at *
        by_cases he : x1 = y1 ∧ x2 = y2 ∧ x3 = y3 ∧ x4 = y4 ∧ x5 = y5
        · have HE : Hid ((x1, (x2, x3), x4, x5) = (y1, (y2, y3), y4, y5)) := by
            obtain ⟨rfl, rfl, rfl, rfl, rfl⟩ := he
            exact rfl
          obtain ⟨rfl, rfl, rfl, rfl, rfl⟩ := he
          go_wp2_with (first | ((with_reducible refine wp_region_later (by kernel_rfl) (by kernel_rfl) ?_); (repeat (first | go_big_quiet_skip | quiet_step ((fail)))); refine wpQuiet_nil ?_; rintro _ ⟨p, rfl⟩))
          all_goals
            go_roundw
            case rel => exact ⟨k + 1, by go_num, by omega, take_eq_succ HT.out HX.out HY.out HE.out, _, rfl⟩
            case measure => simp [intOf]; omega
        · have HE : Hid ((x1, (x2, x3), x4, x5) ≠ (y1, (y2, y3), y4, y5)) := by
            intro h
            apply he
            simp only [Prod.mk.injEq] at h
            omega
          rcases (by omega : (¬ x1 = y1) ∨ (x1 = y1 ∧ ¬ x2 = y2) ∨ (x1 = y1 ∧ x2 = y2 ∧ ¬ x3 = y3) ∨ (x1 = y1 ∧ x2 = y2 ∧ x3 = y3 ∧ ¬ x4 = y4) ∨ (x1 = y1 ∧ x2 = y2 ∧ x3 = y3 ∧ x4 = y4 ∧ ¬ x5 = y5)) with hne | ⟨rfl, hne⟩ | ⟨rfl, rfl, hne⟩ | ⟨rfl, rfl, rfl, hne⟩ | ⟨rfl, rfl, rfl, rfl, hne⟩
          all_goals
            clear he
            go_wp2_with (first | ((with_reducible refine wp_region_later (by kernel_rfl) (by kernel_rfl) ?_); (repeat (first | go_big_quiet_skip | quiet_step ((fail)))); refine wpQuiet_nil ?_; rintro _ ⟨p, rfl⟩))
            all_goals
              go_ret
              exact Gives.mk (ret_bool (by simp [ne_of_at HX.out HY.out HE.out])) (by (repeat (first | with_reducible exact Below.refl _ _ | with_reducible assumption | with_reducible refine Below.drew ?_ | with_reducible refine below_drewN ?_ _ | with_reducible exact HQ.out | with_reducible exact HBW.out | with_reducible refine below_ext ?_ _ _ | with_reducible refine below_then_later ?_ (by first | with_reducible exact Nat.le_refl _ | with_reducible exact HBW.out.size | with_reducible exact HQ.out.size | omega | (simp; done) | (simp; omega) | (simp [later_size]; done) | (simp [later_size]; omega)) _ | with_reducible refine Below.setCell ?_ (by first | with_reducible exact Nat.le_refl _ | with_reducible exact HBW.out.size | with_reducible exact HQ.out.size | omega | (simp; done) | (simp; omega) | (simp [later_size]; done) | (simp [later_size]; omega)) _ | with_reducible refine Below.alloc ?_ (by first | with_reducible exact Nat.le_refl _ | with_reducible exact HBW.out.size | with_reducible exact HQ.out.size | omega | (simp; done) | (simp; omega) | (simp [later_size]; done) | (simp [later_size]; omega)) _)))
      · have hkn : k = n := by omega
        have HK := Lib.hid hkn
        clear hkn
        go_wp2_with (first | ((with_reducible refine wp_region_later (by kernel_rfl) (by kernel_rfl) ?_); (repeat (first | go_big_quiet_skip | quiet_step ((fail)))); refine wpQuiet_nil ?_; rintro _ ⟨p, rfl⟩))
        all_goals
          go_ret
          exact Gives.mk (ret_bool (by simp [eq_of_take (HK.out ▸ HT.out) HN.out HM.out])) (by (repeat (first | with_reducible exact Below.refl _ _ | with_reducible assumption | with_reducible refine Below.drew ?_ | with_reducible refine below_drewN ?_ _ | with_reducible exact HQ.out | with_reducible exact HBW.out | with_reducible refine below_ext ?_ _ _ | with_reducible refine below_then_later ?_ (by first | with_reducible exact Nat.le_refl _ | with_reducible exact HBW.out.size | with_reducible exact HQ.out.size | omega | (simp; done) | (simp; omega) | (simp [later_size]; done) | (simp [later_size]; omega)) _ | with_reducible refine Below.setCell ?_ (by first | with_reducible exact Nat.le_refl _ | with_reducible exact HBW.out.size | with_reducible exact HQ.out.size | omega | (simp; done) | (simp; omega) | (simp [later_size]; done) | (simp [later_size]; omega)) _ | with_reducible refine Below.alloc ?_ (by first | with_reducible exact Nat.le_refl _ | with_reducible exact HBW.out.size | with_reducible exact HQ.out.size | omega | (simp; done) | (simp; omega) | (simp [later_size]; done) | (simp [later_size]; omega)) _)))
  · go_enter Try.func35, Try.ntmps35
    go_wp2_with (first | ((with_reducible refine wp_region_later (by kernel_rfl) (by kernel_rfl) ?_); (repeat (first | go_big_quiet_skip | quiet_step ((fail)))); refine wpQuiet_nil ?_; rintro _ ⟨p, rfl⟩))
    all_goals
      go_ret
      refine Gives.mk (ret_bool (by simp; intro h; apply hl; rw [← HN.out, ← HM.out, h])) (by (repeat (first | with_reducible exact Below.refl _ _ | with_reducible assumption | with_reducible refine Below.drew ?_ | with_reducible refine below_drewN ?_ _ | with_reducible exact HQ.out | with_reducible exact HBW.out | with_reducible refine below_ext ?_ _ _ | with_reducible refine below_then_later ?_ (by first | with_reducible exact Nat.le_refl _ | with_reducible exact HBW.out.size | with_reducible exact HQ.out.size | omega | (simp; done) | (simp; omega) | (simp [later_size]; done) | (simp [later_size]; omega)) _ | with_reducible refine Below.setCell ?_ (by first | with_reducible exact Nat.le_refl _ | with_reducible exact HBW.out.size | with_reducible exact HQ.out.size | omega | (simp; done) | (simp; omega) | (simp [later_size]; done) | (simp [later_size]; omega)) _ | with_reducible refine Below.alloc ?_ (by first | with_reducible exact Nat.le_refl _ | with_reducible exact HBW.out.size | with_reducible exact HQ.out.size | omega | (simp; done) | (simp; omega) | (simp [later_size]; done) | (simp [later_size]; omega)) _)))
end Go.Proofs.Ytcmhmdccfihhiaa
