/-
  The law's own comparison of links; what the reference draws: two links. Conditions: the bytes' number is at most 2^32.
-/
import Derived.Test.YtcmhmdccfihhiaaDrawK3
import Derived.Test.YtcmhmdccfihhiaaEq2
import Derived.Test.YtcmhmdccfihhiaaLink
namespace Go.Proofs.Ytcmhmdccfihhiaa
open Go.RowKit
set_option linter.unusedVariables false
set_option maxRecDepth 20000
set_option maxHeartbeats 3200000 in
theorem c_sameLink (cap cr bk st gt cap' cr' bk' st' gt' : Int) (A B : Option Addr) (n m c d : Nat) (xs ys : List (Int × (Int × Int) × Int × Int)) (w : World) (z : Bool) (hn : xs.length = n) (hm : ys.length = m) (hn2 : n ≤ 9223372036854775807) (hm2 : m ≤ 9223372036854775807)
    (ha : Row encR 5 w A xs) (hb : Row encR 5 w B ys) (hz : decide (cap = cap' ∧ cr = cr' ∧ bk = bk' ∧ st = st' ∧ gt = gt' ∧ xs = ys) = z) : Calls Try.prog 14 #[.agg #[.int .i64 cap, .slice A n c, .int .i64 cr, .int .i64 bk, .int .i64 st, .int .i64 gt], .agg #[.int .i64 cap', .slice B m d, .int .i64 cr', .int .i64 bk', .int .i64 st', .int .i64 gt']] w (Gives (.bool z) w) := by
  have HA := Lib.hid ha
  have HB := Lib.hid hb
  have HN := Lib.hid hn
  have HM := Lib.hid hm
  have HZ := Lib.hid hz
  clear ha hb hn hm hz
  by_cases hcap : cap = cap'
  · subst hcap
    by_cases hq : xs = ys
    · have HQ := Lib.hid (show decide (xs = ys) = true by simpa using hq)
      by_cases hcr : cr = cr'
      · subst hcr
        by_cases hbk : bk = bk'
        · subst hbk
          by_cases hst : st = st'
          · subst hst
            by_cases hgt : gt = gt'
            · subst hgt
              have hz : z = true := by rw [← HZ.out]; simp [hq]
              clear hq
              subst hz
              clear HZ
              go_enter Try.func14, Try.ntmps14
              go_wp2_with (first | (go_at_call 35; (refine (gives_b HQ.out (c_sameRecords _ _ _ _ _ _ _ _ _ HN.out HM.out hn2 hm2 (by (repeat (first | with_reducible exact HA.out | with_reducible refine Row.later ?_ _ | with_reducible refine Row.alloc ?_ _)); done) (by (repeat (first | with_reducible exact HB.out | with_reducible refine Row.later ?_ _ | with_reducible refine Row.alloc ?_ _)); done))).mono ?_); rintro _ _ ⟨rfl, p, rfl⟩) | ((with_reducible refine wp_region_later (by kernel_rfl) (by kernel_rfl) ?_); (try dsimp only [List.append]); (repeat (first | go_big_quiet_skip | go_big_quiet_step ((first | (go_at_call 35; first | exact calls_later (gives_b HQ.out (c_sameRecords _ _ _ _ _ _ _ _ _ HN.out HM.out hn2 hm2 (by (repeat (first | with_reducible exact HA.out | with_reducible refine Row.later ?_ _ | with_reducible refine Row.alloc ?_ _)); done) (by (repeat (first | with_reducible exact HB.out | with_reducible refine Row.later ?_ _ | with_reducible refine Row.alloc ?_ _)); done))) | exact calls_later2 (gives_b HQ.out (c_sameRecords _ _ _ _ _ _ _ _ _ HN.out HM.out hn2 hm2 (by (repeat (first | with_reducible exact HA.out | with_reducible refine Row.later ?_ _ | with_reducible refine Row.alloc ?_ _)); done) (by (repeat (first | with_reducible exact HB.out | with_reducible refine Row.later ?_ _ | with_reducible refine Row.alloc ?_ _)); done)))))) | quiet_step ((first | (go_at_call 35; first | exact calls_later (gives_b HQ.out (c_sameRecords _ _ _ _ _ _ _ _ _ HN.out HM.out hn2 hm2 (by (repeat (first | with_reducible exact HA.out | with_reducible refine Row.later ?_ _ | with_reducible refine Row.alloc ?_ _)); done) (by (repeat (first | with_reducible exact HB.out | with_reducible refine Row.later ?_ _ | with_reducible refine Row.alloc ?_ _)); done))) | exact calls_later2 (gives_b HQ.out (c_sameRecords _ _ _ _ _ _ _ _ _ HN.out HM.out hn2 hm2 (by (repeat (first | with_reducible exact HA.out | with_reducible refine Row.later ?_ _ | with_reducible refine Row.alloc ?_ _)); done) (by (repeat (first | with_reducible exact HB.out | with_reducible refine Row.later ?_ _ | with_reducible refine Row.alloc ?_ _)); done)))))))); refine wpQuiet_nil ?_; rintro _ ⟨p, rfl⟩))
              go_ret
              exact Gives.mk (by first | rfl | (simp [*]; done) | (simp; omega)) (by (repeat (first | with_reducible exact Below.refl _ _ | with_reducible assumption | with_reducible refine Below.drew ?_ | with_reducible refine below_drewN ?_ _ | with_reducible exact HQ.out | with_reducible exact HBW.out | with_reducible refine below_ext ?_ _ _ | with_reducible refine below_then_later ?_ (by first | with_reducible exact Nat.le_refl _ | with_reducible exact HBW.out.size | with_reducible exact HQ.out.size | omega | (simp; done) | (simp; omega) | (simp [later_size]; done) | (simp [later_size]; omega)) _ | with_reducible refine Below.setCell ?_ (by first | with_reducible exact Nat.le_refl _ | with_reducible exact HBW.out.size | with_reducible exact HQ.out.size | omega | (simp; done) | (simp; omega) | (simp [later_size]; done) | (simp [later_size]; omega)) _ | with_reducible refine Below.alloc ?_ (by first | with_reducible exact Nat.le_refl _ | with_reducible exact HBW.out.size | with_reducible exact HQ.out.size | omega | (simp; done) | (simp; omega) | (simp [later_size]; done) | (simp [later_size]; omega)) _)))
            · skip
              have hz : z = false := by rw [← HZ.out]; simp [hgt]
              subst hz
              clear HZ
              go_enter Try.func14, Try.ntmps14
              go_wp2_with (first | (go_at_call 35; (refine (gives_b HQ.out (c_sameRecords _ _ _ _ _ _ _ _ _ HN.out HM.out hn2 hm2 (by (repeat (first | with_reducible exact HA.out | with_reducible refine Row.later ?_ _ | with_reducible refine Row.alloc ?_ _)); done) (by (repeat (first | with_reducible exact HB.out | with_reducible refine Row.later ?_ _ | with_reducible refine Row.alloc ?_ _)); done))).mono ?_); rintro _ _ ⟨rfl, p, rfl⟩) | ((with_reducible refine wp_region_later (by kernel_rfl) (by kernel_rfl) ?_); (try dsimp only [List.append]); (repeat (first | go_big_quiet_skip | go_big_quiet_step ((first | (go_at_call 35; first | exact calls_later (gives_b HQ.out (c_sameRecords _ _ _ _ _ _ _ _ _ HN.out HM.out hn2 hm2 (by (repeat (first | with_reducible exact HA.out | with_reducible refine Row.later ?_ _ | with_reducible refine Row.alloc ?_ _)); done) (by (repeat (first | with_reducible exact HB.out | with_reducible refine Row.later ?_ _ | with_reducible refine Row.alloc ?_ _)); done))) | exact calls_later2 (gives_b HQ.out (c_sameRecords _ _ _ _ _ _ _ _ _ HN.out HM.out hn2 hm2 (by (repeat (first | with_reducible exact HA.out | with_reducible refine Row.later ?_ _ | with_reducible refine Row.alloc ?_ _)); done) (by (repeat (first | with_reducible exact HB.out | with_reducible refine Row.later ?_ _ | with_reducible refine Row.alloc ?_ _)); done)))))) | quiet_step ((first | (go_at_call 35; first | exact calls_later (gives_b HQ.out (c_sameRecords _ _ _ _ _ _ _ _ _ HN.out HM.out hn2 hm2 (by (repeat (first | with_reducible exact HA.out | with_reducible refine Row.later ?_ _ | with_reducible refine Row.alloc ?_ _)); done) (by (repeat (first | with_reducible exact HB.out | with_reducible refine Row.later ?_ _ | with_reducible refine Row.alloc ?_ _)); done))) | exact calls_later2 (gives_b HQ.out (c_sameRecords _ _ _ _ _ _ _ _ _ HN.out HM.out hn2 hm2 (by (repeat (first | with_reducible exact HA.out | with_reducible refine Row.later ?_ _ | with_reducible refine Row.alloc ?_ _)); done) (by (repeat (first | with_reducible exact HB.out | with_reducible refine Row.later ?_ _ | with_reducible refine Row.alloc ?_ _)); done)))))))); refine wpQuiet_nil ?_; rintro _ ⟨p, rfl⟩))
              go_ret
              exact Gives.mk (by first | rfl | (simp [*]; done) | (simp; omega)) (by (repeat (first | with_reducible exact Below.refl _ _ | with_reducible assumption | with_reducible refine Below.drew ?_ | with_reducible refine below_drewN ?_ _ | with_reducible exact HQ.out | with_reducible exact HBW.out | with_reducible refine below_ext ?_ _ _ | with_reducible refine below_then_later ?_ (by first | with_reducible exact Nat.le_refl _ | with_reducible exact HBW.out.size | with_reducible exact HQ.out.size | omega | (simp; done) | (simp; omega) | (simp [later_size]; done) | (simp [later_size]; omega)) _ | with_reducible refine Below.setCell ?_ (by first | with_reducible exact Nat.le_refl _ | with_reducible exact HBW.out.size | with_reducible exact HQ.out.size | omega | (simp; done) | (simp; omega) | (simp [later_size]; done) | (simp [later_size]; omega)) _ | with_reducible refine Below.alloc ?_ (by first | with_reducible exact Nat.le_refl _ | with_reducible exact HBW.out.size | with_reducible exact HQ.out.size | omega | (simp; done) | (simp; omega) | (simp [later_size]; done) | (simp [later_size]; omega)) _)))
          · skip
            have hz : z = false := by rw [← HZ.out]; simp [hst]
            subst hz
            clear HZ
            go_enter Try.func14, Try.ntmps14
            go_wp2_with (first | (go_at_call 35; (refine (gives_b HQ.out (c_sameRecords _ _ _ _ _ _ _ _ _ HN.out HM.out hn2 hm2 (by (repeat (first | with_reducible exact HA.out | with_reducible refine Row.later ?_ _ | with_reducible refine Row.alloc ?_ _)); done) (by (repeat (first | with_reducible exact HB.out | with_reducible refine Row.later ?_ _ | with_reducible refine Row.alloc ?_ _)); done))).mono ?_); rintro _ _ ⟨rfl, p, rfl⟩) | ((with_reducible refine wp_region_later (by kernel_rfl) (by kernel_rfl) ?_); (try dsimp only [List.append]); (repeat (first | go_big_quiet_skip | go_big_quiet_step ((first | (go_at_call 35; first | exact calls_later (gives_b HQ.out (c_sameRecords _ _ _ _ _ _ _ _ _ HN.out HM.out hn2 hm2 (by (repeat (first | with_reducible exact HA.out | with_reducible refine Row.later ?_ _ | with_reducible refine Row.alloc ?_ _)); done) (by (repeat (first | with_reducible exact HB.out | with_reducible refine Row.later ?_ _ | with_reducible refine Row.alloc ?_ _)); done))) | exact calls_later2 (gives_b HQ.out (c_sameRecords _ _ _ _ _ _ _ _ _ HN.out HM.out hn2 hm2 (by (repeat (first | with_reducible exact HA.out | with_reducible refine Row.later ?_ _ | with_reducible refine Row.alloc ?_ _)); done) (by (repeat (first | with_reducible exact HB.out | with_reducible refine Row.later ?_ _ | with_reducible refine Row.alloc ?_ _)); done)))))) | quiet_step ((first | (go_at_call 35; first | exact calls_later (gives_b HQ.out (c_sameRecords _ _ _ _ _ _ _ _ _ HN.out HM.out hn2 hm2 (by (repeat (first | with_reducible exact HA.out | with_reducible refine Row.later ?_ _ | with_reducible refine Row.alloc ?_ _)); done) (by (repeat (first | with_reducible exact HB.out | with_reducible refine Row.later ?_ _ | with_reducible refine Row.alloc ?_ _)); done))) | exact calls_later2 (gives_b HQ.out (c_sameRecords _ _ _ _ _ _ _ _ _ HN.out HM.out hn2 hm2 (by (repeat (first | with_reducible exact HA.out | with_reducible refine Row.later ?_ _ | with_reducible refine Row.alloc ?_ _)); done) (by (repeat (first | with_reducible exact HB.out | with_reducible refine Row.later ?_ _ | with_reducible refine Row.alloc ?_ _)); done)))))))); refine wpQuiet_nil ?_; rintro _ ⟨p, rfl⟩))
            go_ret
            exact Gives.mk (by first | rfl | (simp [*]; done) | (simp; omega)) (by (repeat (first | with_reducible exact Below.refl _ _ | with_reducible assumption | with_reducible refine Below.drew ?_ | with_reducible refine below_drewN ?_ _ | with_reducible exact HQ.out | with_reducible exact HBW.out | with_reducible refine below_ext ?_ _ _ | with_reducible refine below_then_later ?_ (by first | with_reducible exact Nat.le_refl _ | with_reducible exact HBW.out.size | with_reducible exact HQ.out.size | omega | (simp; done) | (simp; omega) | (simp [later_size]; done) | (simp [later_size]; omega)) _ | with_reducible refine Below.setCell ?_ (by first | with_reducible exact Nat.le_refl _ | with_reducible exact HBW.out.size | with_reducible exact HQ.out.size | omega | (simp; done) | (simp; omega) | (simp [later_size]; done) | (simp [later_size]; omega)) _ | with_reducible refine Below.alloc ?_ (by first | with_reducible exact Nat.le_refl _ | with_reducible exact HBW.out.size | with_reducible exact HQ.out.size | omega | (simp; done) | (simp; omega) | (simp [later_size]; done) | (simp [later_size]; omega)) _)))
        · skip
          have hz : z = false := by rw [← HZ.out]; simp [hbk]
          subst hz
          clear HZ
          go_enter Try.func14, Try.ntmps14
          go_wp2_with (first | (go_at_call 35; (refine (gives_b HQ.out (c_sameRecords _ _ _ _ _ _ _ _ _ HN.out HM.out hn2 hm2 (by (repeat (first | with_reducible exact HA.out | with_reducible refine Row.later ?_ _ | with_reducible refine Row.alloc ?_ _)); done) (by (repeat (first | with_reducible exact HB.out | with_reducible refine Row.later ?_ _ | with_reducible refine Row.alloc ?_ _)); done))).mono ?_); rintro _ _ ⟨rfl, p, rfl⟩) | ((with_reducible refine wp_region_later (by kernel_rfl) (by kernel_rfl) ?_); (try dsimp only [List.append]); (repeat (first | go_big_quiet_skip | go_big_quiet_step ((first | (go_at_call 35; first | exact calls_later (gives_b HQ.out (c_sameRecords _ _ _ _ _ _ _ _ _ HN.out HM.out hn2 hm2 (by (repeat (first | with_reducible exact HA.out | with_reducible refine Row.later ?_ _ | with_reducible refine Row.alloc ?_ _)); done) (by (repeat (first | with_reducible exact HB.out | with_reducible refine Row.later ?_ _ | with_reducible refine Row.alloc ?_ _)); done))) | exact calls_later2 (gives_b HQ.out (c_sameRecords _ _ _ _ _ _ _ _ _ HN.out HM.out hn2 hm2 (by (repeat (first | with_reducible exact HA.out | with_reducible refine Row.later ?_ _ | with_reducible refine Row.alloc ?_ _)); done) (by (repeat (first | with_reducible exact HB.out | with_reducible refine Row.later ?_ _ | with_reducible refine Row.alloc ?_ _)); done)))))) | quiet_step ((first | (go_at_call 35; first | exact calls_later (gives_b HQ.out (c_sameRecords _ _ _ _ _ _ _ _ _ HN.out HM.out hn2 hm2 (by (repeat (first | with_reducible exact HA.out | with_reducible refine Row.later ?_ _ | with_reducible refine Row.alloc ?_ _)); done) (by (repeat (first | with_reducible exact HB.out | with_reducible refine Row.later ?_ _ | with_reducible refine Row.alloc ?_ _)); done))) | exact calls_later2 (gives_b HQ.out (c_sameRecords _ _ _ _ _ _ _ _ _ HN.out HM.out hn2 hm2 (by (repeat (first | with_reducible exact HA.out | with_reducible refine Row.later ?_ _ | with_reducible refine Row.alloc ?_ _)); done) (by (repeat (first | with_reducible exact HB.out | with_reducible refine Row.later ?_ _ | with_reducible refine Row.alloc ?_ _)); done)))))))); refine wpQuiet_nil ?_; rintro _ ⟨p, rfl⟩))
          go_ret
          exact Gives.mk (by first | rfl | (simp [*]; done) | (simp; omega)) (by (repeat (first | with_reducible exact Below.refl _ _ | with_reducible assumption | with_reducible refine Below.drew ?_ | with_reducible refine below_drewN ?_ _ | with_reducible exact HQ.out | with_reducible exact HBW.out | with_reducible refine below_ext ?_ _ _ | with_reducible refine below_then_later ?_ (by first | with_reducible exact Nat.le_refl _ | with_reducible exact HBW.out.size | with_reducible exact HQ.out.size | omega | (simp; done) | (simp; omega) | (simp [later_size]; done) | (simp [later_size]; omega)) _ | with_reducible refine Below.setCell ?_ (by first | with_reducible exact Nat.le_refl _ | with_reducible exact HBW.out.size | with_reducible exact HQ.out.size | omega | (simp; done) | (simp; omega) | (simp [later_size]; done) | (simp [later_size]; omega)) _ | with_reducible refine Below.alloc ?_ (by first | with_reducible exact Nat.le_refl _ | with_reducible exact HBW.out.size | with_reducible exact HQ.out.size | omega | (simp; done) | (simp; omega) | (simp [later_size]; done) | (simp [later_size]; omega)) _)))
      · skip
        have hz : z = false := by rw [← HZ.out]; simp [hcr]
        subst hz
        clear HZ
        go_enter Try.func14, Try.ntmps14
        go_wp2_with (first | (go_at_call 35; (refine (gives_b HQ.out (c_sameRecords _ _ _ _ _ _ _ _ _ HN.out HM.out hn2 hm2 (by (repeat (first | with_reducible exact HA.out | with_reducible refine Row.later ?_ _ | with_reducible refine Row.alloc ?_ _)); done) (by (repeat (first | with_reducible exact HB.out | with_reducible refine Row.later ?_ _ | with_reducible refine Row.alloc ?_ _)); done))).mono ?_); rintro _ _ ⟨rfl, p, rfl⟩) | ((with_reducible refine wp_region_later (by kernel_rfl) (by kernel_rfl) ?_); (try dsimp only [List.append]); (repeat (first | go_big_quiet_skip | go_big_quiet_step ((first | (go_at_call 35; first | exact calls_later (gives_b HQ.out (c_sameRecords _ _ _ _ _ _ _ _ _ HN.out HM.out hn2 hm2 (by (repeat (first | with_reducible exact HA.out | with_reducible refine Row.later ?_ _ | with_reducible refine Row.alloc ?_ _)); done) (by (repeat (first | with_reducible exact HB.out | with_reducible refine Row.later ?_ _ | with_reducible refine Row.alloc ?_ _)); done))) | exact calls_later2 (gives_b HQ.out (c_sameRecords _ _ _ _ _ _ _ _ _ HN.out HM.out hn2 hm2 (by (repeat (first | with_reducible exact HA.out | with_reducible refine Row.later ?_ _ | with_reducible refine Row.alloc ?_ _)); done) (by (repeat (first | with_reducible exact HB.out | with_reducible refine Row.later ?_ _ | with_reducible refine Row.alloc ?_ _)); done)))))) | quiet_step ((first | (go_at_call 35; first | exact calls_later (gives_b HQ.out (c_sameRecords _ _ _ _ _ _ _ _ _ HN.out HM.out hn2 hm2 (by (repeat (first | with_reducible exact HA.out | with_reducible refine Row.later ?_ _ | with_reducible refine Row.alloc ?_ _)); done) (by (repeat (first | with_reducible exact HB.out | with_reducible refine Row.later ?_ _ | with_reducible refine Row.alloc ?_ _)); done))) | exact calls_later2 (gives_b HQ.out (c_sameRecords _ _ _ _ _ _ _ _ _ HN.out HM.out hn2 hm2 (by (repeat (first | with_reducible exact HA.out | with_reducible refine Row.later ?_ _ | with_reducible refine Row.alloc ?_ _)); done) (by (repeat (first | with_reducible exact HB.out | with_reducible refine Row.later ?_ _ | with_reducible refine Row.alloc ?_ _)); done)))))))); refine wpQuiet_nil ?_; rintro _ ⟨p, rfl⟩))
        go_ret
        exact Gives.mk (by first | rfl | (simp [*]; done) | (simp; omega)) (by (repeat (first | with_reducible exact Below.refl _ _ | with_reducible assumption | with_reducible refine Below.drew ?_ | with_reducible refine below_drewN ?_ _ | with_reducible exact HQ.out | with_reducible exact HBW.out | with_reducible refine below_ext ?_ _ _ | with_reducible refine below_then_later ?_ (by first | with_reducible exact Nat.le_refl _ | with_reducible exact HBW.out.size | with_reducible exact HQ.out.size | omega | (simp; done) | (simp; omega) | (simp [later_size]; done) | (simp [later_size]; omega)) _ | with_reducible refine Below.setCell ?_ (by first | with_reducible exact Nat.le_refl _ | with_reducible exact HBW.out.size | with_reducible exact HQ.out.size | omega | (simp; done) | (simp; omega) | (simp [later_size]; done) | (simp [later_size]; omega)) _ | with_reducible refine Below.alloc ?_ (by first | with_reducible exact Nat.le_refl _ | with_reducible exact HBW.out.size | with_reducible exact HQ.out.size | omega | (simp; done) | (simp; omega) | (simp [later_size]; done) | (simp [later_size]; omega)) _)))
    · have HQ := Lib.hid (show decide (xs = ys) = false by simpa using hq)
      have hz : z = false := by rw [← HZ.out]; simp [hq]
      clear hq
      subst hz
      clear HZ
      go_enter Try.func14, Try.ntmps14
      go_wp2_with (first | (go_at_call 35; (refine (gives_b HQ.out (c_sameRecords _ _ _ _ _ _ _ _ _ HN.out HM.out hn2 hm2 (by (repeat (first | with_reducible exact HA.out | with_reducible refine Row.later ?_ _ | with_reducible refine Row.alloc ?_ _)); done) (by (repeat (first | with_reducible exact HB.out | with_reducible refine Row.later ?_ _ | with_reducible refine Row.alloc ?_ _)); done))).mono ?_); rintro _ _ ⟨rfl, p, rfl⟩) | ((with_reducible refine wp_region_later (by kernel_rfl) (by kernel_rfl) ?_); (try dsimp only [List.append]); (repeat (first | go_big_quiet_skip | go_big_quiet_step ((first | (go_at_call 35; first | exact calls_later (gives_b HQ.out (c_sameRecords _ _ _ _ _ _ _ _ _ HN.out HM.out hn2 hm2 (by (repeat (first | with_reducible exact HA.out | with_reducible refine Row.later ?_ _ | with_reducible refine Row.alloc ?_ _)); done) (by (repeat (first | with_reducible exact HB.out | with_reducible refine Row.later ?_ _ | with_reducible refine Row.alloc ?_ _)); done))) | exact calls_later2 (gives_b HQ.out (c_sameRecords _ _ _ _ _ _ _ _ _ HN.out HM.out hn2 hm2 (by (repeat (first | with_reducible exact HA.out | with_reducible refine Row.later ?_ _ | with_reducible refine Row.alloc ?_ _)); done) (by (repeat (first | with_reducible exact HB.out | with_reducible refine Row.later ?_ _ | with_reducible refine Row.alloc ?_ _)); done)))))) | quiet_step ((first | (go_at_call 35; first | exact calls_later (gives_b HQ.out (c_sameRecords _ _ _ _ _ _ _ _ _ HN.out HM.out hn2 hm2 (by (repeat (first | with_reducible exact HA.out | with_reducible refine Row.later ?_ _ | with_reducible refine Row.alloc ?_ _)); done) (by (repeat (first | with_reducible exact HB.out | with_reducible refine Row.later ?_ _ | with_reducible refine Row.alloc ?_ _)); done))) | exact calls_later2 (gives_b HQ.out (c_sameRecords _ _ _ _ _ _ _ _ _ HN.out HM.out hn2 hm2 (by (repeat (first | with_reducible exact HA.out | with_reducible refine Row.later ?_ _ | with_reducible refine Row.alloc ?_ _)); done) (by (repeat (first | with_reducible exact HB.out | with_reducible refine Row.later ?_ _ | with_reducible refine Row.alloc ?_ _)); done)))))))); refine wpQuiet_nil ?_; rintro _ ⟨p, rfl⟩))
      go_ret
      exact Gives.mk (by first | rfl | (simp [*]; done) | (simp; omega)) (by (repeat (first | with_reducible exact Below.refl _ _ | with_reducible assumption | with_reducible refine Below.drew ?_ | with_reducible refine below_drewN ?_ _ | with_reducible exact HQ.out | with_reducible exact HBW.out | with_reducible refine below_ext ?_ _ _ | with_reducible refine below_then_later ?_ (by first | with_reducible exact Nat.le_refl _ | with_reducible exact HBW.out.size | with_reducible exact HQ.out.size | omega | (simp; done) | (simp; omega) | (simp [later_size]; done) | (simp [later_size]; omega)) _ | with_reducible refine Below.setCell ?_ (by first | with_reducible exact Nat.le_refl _ | with_reducible exact HBW.out.size | with_reducible exact HQ.out.size | omega | (simp; done) | (simp; omega) | (simp [later_size]; done) | (simp [later_size]; omega)) _ | with_reducible refine Below.alloc ?_ (by first | with_reducible exact Nat.le_refl _ | with_reducible exact HBW.out.size | with_reducible exact HQ.out.size | omega | (simp; done) | (simp; omega) | (simp [later_size]; done) | (simp [later_size]; omega)) _)))
  · skip
    have hz : z = false := by rw [← HZ.out]; simp [hcap]
    subst hz
    clear HZ
    go_enter Try.func14, Try.ntmps14
    go_wp2_with (first | (go_at_call 35; (refine (gives_b HQ.out (c_sameRecords _ _ _ _ _ _ _ _ _ HN.out HM.out hn2 hm2 (by (repeat (first | with_reducible exact HA.out | with_reducible refine Row.later ?_ _ | with_reducible refine Row.alloc ?_ _)); done) (by (repeat (first | with_reducible exact HB.out | with_reducible refine Row.later ?_ _ | with_reducible refine Row.alloc ?_ _)); done))).mono ?_); rintro _ _ ⟨rfl, p, rfl⟩) | ((with_reducible refine wp_region_later (by kernel_rfl) (by kernel_rfl) ?_); (try dsimp only [List.append]); (repeat (first | go_big_quiet_skip | go_big_quiet_step ((first | (go_at_call 35; first | exact calls_later (gives_b HQ.out (c_sameRecords _ _ _ _ _ _ _ _ _ HN.out HM.out hn2 hm2 (by (repeat (first | with_reducible exact HA.out | with_reducible refine Row.later ?_ _ | with_reducible refine Row.alloc ?_ _)); done) (by (repeat (first | with_reducible exact HB.out | with_reducible refine Row.later ?_ _ | with_reducible refine Row.alloc ?_ _)); done))) | exact calls_later2 (gives_b HQ.out (c_sameRecords _ _ _ _ _ _ _ _ _ HN.out HM.out hn2 hm2 (by (repeat (first | with_reducible exact HA.out | with_reducible refine Row.later ?_ _ | with_reducible refine Row.alloc ?_ _)); done) (by (repeat (first | with_reducible exact HB.out | with_reducible refine Row.later ?_ _ | with_reducible refine Row.alloc ?_ _)); done)))))) | quiet_step ((first | (go_at_call 35; first | exact calls_later (gives_b HQ.out (c_sameRecords _ _ _ _ _ _ _ _ _ HN.out HM.out hn2 hm2 (by (repeat (first | with_reducible exact HA.out | with_reducible refine Row.later ?_ _ | with_reducible refine Row.alloc ?_ _)); done) (by (repeat (first | with_reducible exact HB.out | with_reducible refine Row.later ?_ _ | with_reducible refine Row.alloc ?_ _)); done))) | exact calls_later2 (gives_b HQ.out (c_sameRecords _ _ _ _ _ _ _ _ _ HN.out HM.out hn2 hm2 (by (repeat (first | with_reducible exact HA.out | with_reducible refine Row.later ?_ _ | with_reducible refine Row.alloc ?_ _)); done) (by (repeat (first | with_reducible exact HB.out | with_reducible refine Row.later ?_ _ | with_reducible refine Row.alloc ?_ _)); done)))))))); refine wpQuiet_nil ?_; rintro _ ⟨p, rfl⟩))
    go_ret
    exact Gives.mk (by first | rfl | (simp [*]; done) | (simp; omega)) (by (repeat (first | with_reducible exact Below.refl _ _ | with_reducible assumption | with_reducible refine Below.drew ?_ | with_reducible refine below_drewN ?_ _ | with_reducible exact HQ.out | with_reducible exact HBW.out | with_reducible refine below_ext ?_ _ _ | with_reducible refine below_then_later ?_ (by first | with_reducible exact Nat.le_refl _ | with_reducible exact HBW.out.size | with_reducible exact HQ.out.size | omega | (simp; done) | (simp; omega) | (simp [later_size]; done) | (simp [later_size]; omega)) _ | with_reducible refine Below.setCell ?_ (by first | with_reducible exact Nat.le_refl _ | with_reducible exact HBW.out.size | with_reducible exact HQ.out.size | omega | (simp; done) | (simp; omega) | (simp [later_size]; done) | (simp [later_size]; omega)) _ | with_reducible refine Below.alloc ?_ (by first | with_reducible exact Nat.le_refl _ | with_reducible exact HBW.out.size | with_reducible exact HQ.out.size | omega | (simp; done) | (simp; omega) | (simp [later_size]; done) | (simp [later_size]; omega)) _)))
def GivenKK (w : World) (e : Ending) (w' : World) : Prop := ∃ (cap cr bk st gt : Int) (A : Option Addr) (n c : Nat) (xs : List (Int × (Int × Int) × Int × Int)) (cap' cr' bk' st' gt' : Int) (A' : Option Addr) (n' c' : Nat) (xs' : List (Int × (Int × Int) × Int × Int)), e = .returned (.tuple #[.agg #[.int .i64 cap, .slice A n c, .int .i64 cr, .int .i64 bk, .int .i64 st, .int .i64 gt], .agg #[.int .i64 cap', .slice A' n' c', .int .i64 cr', .int .i64 bk', .int .i64 st', .int .i64 gt']]) ∧ xs.length = n ∧ xs'.length = n' ∧ n ≤ 9 ∧ n' ≤ 9 ∧ Row encR 5 w' A xs ∧ Row encR 5 w' A' xs' ∧ ∃ p : Later, w' = later w p
set_option maxHeartbeats 6400000 in
theorem c_drawSameLink (A0 : Option Addr) (n0 c0 : Nat) (bs : List UInt8) (w : World) (hn : bs.length = n0) (hn2 : n0 ≤ 4294967296) (hr : Row encB 1 w A0 bs) : Calls Try.prog 21 #[.slice A0 n0 c0] w (GivenKK w) := by
  have HR := Lib.hid hr
  have HN := Lib.hid hn
  clear hr hn
  go_enter Try.func21, Try.ntmps21
  go_wp2_with fail
  refine (c_new A0 n0 c0 bs _ HN.out hn2 (((HR.out.alloc _).alloc _))).mono ?_
  rintro _ W1 ⟨g, rfl, hg, hC, p1, hp1⟩
  have HB := Lib.hid (show Below w.heap.size w W1 by rw [hp1]; exact Below.trans (Below.alloc (Below.alloc (Below.refl w.heap.size w) (by simp) _) (by simp) _) ((below_later _ p1).mono (by first | (simp; done) | (simp; omega))))
  have HKa := Lib.hid (Blk.to hp1 (show Blk (w.heap.size) [.int .i64 0, .slice Option.none 0 0, .int .i64 0, .int .i64 0, .int .i64 0, .int .i64 0] 28 _ from (Blk.new _ _ [.int .i64 0, .slice Option.none 0 0, .int .i64 0, .int .i64 0, .int .i64 0, .int .i64 0] _ (by first | rfl | (simp; done))).alloc _))
  have HKb := Lib.hid (Blk.to hp1 (show Blk (w.heap.size + 1) [.int .i64 0, .slice Option.none 0 0, .int .i64 0, .int .i64 0, .int .i64 0, .int .i64 0] 28 _ from Blk.new _ _ [.int .i64 0, .slice Option.none 0 0, .int .i64 0, .int .i64 0, .int .i64 0, .int .i64 0] _ (by first | rfl | (simp; done))))
  have HC := Lib.hid hC
  have hgs : w.heap.size + 2 ≤ g := by simpa using hg
  clear hC hg hp1
  have lHKa : w.heap.size < W1.heap.size := HKa.out.lt
  have cHKa_0 := HKa.out.cell (i := 0) rfl
  have zHKa_0 := HKa.out.frozen 0
  have cHKa_1 := HKa.out.cell (i := 1) rfl
  have zHKa_1 := HKa.out.frozen 1
  have cHKa_2 := HKa.out.cell (i := 2) rfl
  have zHKa_2 := HKa.out.frozen 2
  have cHKa_3 := HKa.out.cell (i := 3) rfl
  have zHKa_3 := HKa.out.frozen 3
  have cHKa_4 := HKa.out.cell (i := 4) rfl
  have zHKa_4 := HKa.out.frozen 4
  have cHKa_5 := HKa.out.cell (i := 5) rfl
  have zHKa_5 := HKa.out.frozen 5
  have lHKb : w.heap.size + 1 < W1.heap.size := HKb.out.lt
  have cHKb_0 := HKb.out.cell (i := 0) rfl
  have zHKb_0 := HKb.out.frozen 0
  have cHKb_1 := HKb.out.cell (i := 1) rfl
  have zHKb_1 := HKb.out.frozen 1
  have cHKb_2 := HKb.out.cell (i := 2) rfl
  have zHKb_2 := HKb.out.frozen 2
  have cHKb_3 := HKb.out.cell (i := 3) rfl
  have zHKb_3 := HKb.out.frozen 3
  have cHKb_4 := HKb.out.cell (i := 4) rfl
  have zHKb_4 := HKb.out.frozen 4
  have cHKb_5 := HKb.out.cell (i := 5) rfl
  have zHKb_5 := HKb.out.frozen 5
  have v_HKa := lHKa
  have v_HKb := lHKb
  have hgW1 := HC.out.lt
  go_wp2_with fail
  refine (c_l06Any g _ HC.out).mono ?_
  rintro _ W2 ⟨cap, cr, bk, st, gt, A1, n, c1, xs, rfl, hL, hn9, hcr, hbk, hst, hgt, hW, hc2, hg2⟩
  have hs_W12 : W1.heap.size ≤ W2.heap.size := hg2.size
  have b0 := below_drawn HB.out hg2 (by omega) HB.out.size
  have k0 := HKa.out.grown hg2 (by simp; omega)
  have k1 := HKb.out.grown hg2 (by simp; omega)
  have hLo_HW : W1.heap.size ≤ W1.heap.size := Nat.le_refl _
  clear HB HC HKa lHKa cHKa_0 zHKa_0 cHKa_1 zHKa_1 cHKa_2 zHKa_2 cHKa_3 zHKa_3 cHKa_4 zHKa_4 cHKa_5 zHKa_5 HKb lHKb cHKb_0 zHKb_0 cHKb_1 zHKb_1 cHKb_2 zHKb_2 cHKb_3 zHKb_3 cHKb_4 zHKb_4 cHKb_5 zHKb_5 hg2
  have HB := Lib.hid b0
  have HC := Lib.hid hc2
  clear b0 hc2
  have HKa := Lib.hid k0
  clear k0
  have lHKa : w.heap.size < W2.heap.size := HKa.out.lt
  have cHKa_0 := HKa.out.cell (i := 0) rfl
  have zHKa_0 := HKa.out.frozen 0
  have cHKa_1 := HKa.out.cell (i := 1) rfl
  have zHKa_1 := HKa.out.frozen 1
  have cHKa_2 := HKa.out.cell (i := 2) rfl
  have zHKa_2 := HKa.out.frozen 2
  have cHKa_3 := HKa.out.cell (i := 3) rfl
  have zHKa_3 := HKa.out.frozen 3
  have cHKa_4 := HKa.out.cell (i := 4) rfl
  have zHKa_4 := HKa.out.frozen 4
  have cHKa_5 := HKa.out.cell (i := 5) rfl
  have zHKa_5 := HKa.out.frozen 5
  have HKb := Lib.hid k1
  clear k1
  have lHKb : w.heap.size + 1 < W2.heap.size := HKb.out.lt
  have cHKb_0 := HKb.out.cell (i := 0) rfl
  have zHKb_0 := HKb.out.frozen 0
  have cHKb_1 := HKb.out.cell (i := 1) rfl
  have zHKb_1 := HKb.out.frozen 1
  have cHKb_2 := HKb.out.cell (i := 2) rfl
  have zHKb_2 := HKb.out.frozen 2
  have cHKb_3 := HKb.out.cell (i := 3) rfl
  have zHKb_3 := HKb.out.frozen 3
  have cHKb_4 := HKb.out.cell (i := 4) rfl
  have zHKb_4 := HKb.out.frozen 4
  have cHKb_5 := HKb.out.cell (i := 5) rfl
  have zHKb_5 := HKb.out.frozen 5
  have HW := Lib.hid hW
  clear hW
  have hgW2 := HC.out.lt
  have HL := Lib.hid hL
  clear hL
  obtain ⟨gc, hgc⟩ : ∃ z, W2.heap.size = z := ⟨_, rfl⟩
  have hggc : g < gc := by omega
  have hagc : w.heap.size + 1 < gc := by have := lHKb; omega
  have hbgc : W1.heap.size ≤ gc := by rw [← hgc]; exact hs_W12
  go_wp2_with fail
  refine calls_anchor (F := fun V => Below w.heap.size w V ∧ Cur g V ∧ Blk w.heap.size [.int .i64 0, .slice Option.none 0 0, .int .i64 0, .int .i64 0, .int .i64 0, .int .i64 0] 28 V ∧ Blk (w.heap.size + 1) [.int .i64 0, .slice Option.none 0 0, .int .i64 0, .int .i64 0, .int .i64 0, .int .i64 0] 28 V ∧ Blk gc [.int .i64 cap, .slice A1 n c1, .int .i64 cr, .int .i64 bk, .int .i64 st, .int .i64 gt] 28 V ∧ V.ownsRow W1.heap.size 33 5 (.slice A1 n c1) n (xs.flatMap encR) ∧ some gc ≠ Value.ownBlock (.slice A1 n c1)) ⟨HB.out.alloc HB.out.size _, HC.out.alloc _, HKa.out.alloc _, HKb.out.alloc _, Blk.new _ _ [.int .i64 cap, .slice A1 n c1, .int .i64 cr, .int .i64 bk, .int .i64 st, .int .i64 gt] _ hgc.symm, HW.out.alloc _, fun e => by have := (HW.out.lt _ e.symm).2; omega⟩ (fun V hV => ?_)
  obtain ⟨b1, b2, b3, b4, b5, b6, hneC⟩ := hV
  clear HB HC HKa HKb HW hgc lHKa cHKa_0 zHKa_0 cHKa_1 zHKa_1 cHKa_2 zHKa_2 cHKa_3 zHKa_3 cHKa_4 zHKa_4 cHKa_5 zHKa_5 lHKb cHKb_0 zHKb_0 cHKb_1 zHKb_1 cHKb_2 zHKb_2 cHKb_3 zHKb_3 cHKb_4 zHKb_4 cHKb_5 zHKb_5
  have HB := Lib.hid b1
  have HC := Lib.hid b2
  have HKa := Lib.hid b3
  have HKb := Lib.hid b4
  have HKc := Lib.hid b5
  have HW := Lib.hid b6
  clear b1 b2 b3 b4 b5 b6
  have lHKa : w.heap.size < V.heap.size := HKa.out.lt
  have cHKa_0 := HKa.out.cell (i := 0) rfl
  have zHKa_0 := HKa.out.frozen 0
  have cHKa_1 := HKa.out.cell (i := 1) rfl
  have zHKa_1 := HKa.out.frozen 1
  have cHKa_2 := HKa.out.cell (i := 2) rfl
  have zHKa_2 := HKa.out.frozen 2
  have cHKa_3 := HKa.out.cell (i := 3) rfl
  have zHKa_3 := HKa.out.frozen 3
  have cHKa_4 := HKa.out.cell (i := 4) rfl
  have zHKa_4 := HKa.out.frozen 4
  have cHKa_5 := HKa.out.cell (i := 5) rfl
  have zHKa_5 := HKa.out.frozen 5
  have lHKb : w.heap.size + 1 < V.heap.size := HKb.out.lt
  have cHKb_0 := HKb.out.cell (i := 0) rfl
  have zHKb_0 := HKb.out.frozen 0
  have cHKb_1 := HKb.out.cell (i := 1) rfl
  have zHKb_1 := HKb.out.frozen 1
  have cHKb_2 := HKb.out.cell (i := 2) rfl
  have zHKb_2 := HKb.out.frozen 2
  have cHKb_3 := HKb.out.cell (i := 3) rfl
  have zHKb_3 := HKb.out.frozen 3
  have cHKb_4 := HKb.out.cell (i := 4) rfl
  have zHKb_4 := HKb.out.frozen 4
  have cHKb_5 := HKb.out.cell (i := 5) rfl
  have zHKb_5 := HKb.out.frozen 5
  have lHKc : gc < V.heap.size := HKc.out.lt
  have cHKc_0 := HKc.out.cell (i := 0) rfl
  have zHKc_0 := HKc.out.frozen 0
  have cHKc_1 := HKc.out.cell (i := 1) rfl
  have zHKc_1 := HKc.out.frozen 1
  have cHKc_2 := HKc.out.cell (i := 2) rfl
  have zHKc_2 := HKc.out.frozen 2
  have cHKc_3 := HKc.out.cell (i := 3) rfl
  have zHKc_3 := HKc.out.frozen 3
  have cHKc_4 := HKc.out.cell (i := 4) rfl
  have zHKc_4 := HKc.out.frozen 4
  have cHKc_5 := HKc.out.cell (i := 5) rfl
  have zHKc_5 := HKc.out.frozen 5
  refine (c_once g 2 _ HC.out (by unfold I64; omega)).mono ?_
  rintro _ W4 ⟨_, rfl, ⟨bb, rfl⟩, hc2, hg2⟩
  have b0 := below_drawn HB.out hg2 (by omega) HB.out.size
  have k0 := HKa.out.grown hg2 (by simp; omega)
  have k1 := HKb.out.grown hg2 (by simp; omega)
  have k2 := HKc.out.grown hg2 (by simp; omega)
  have r0 := HW.out.kept hg2 (.inr (fun e => by have := (HW.out.lt _ e).1; omega))
  clear HB HC HKa lHKa cHKa_0 zHKa_0 cHKa_1 zHKa_1 cHKa_2 zHKa_2 cHKa_3 zHKa_3 cHKa_4 zHKa_4 cHKa_5 zHKa_5 HKb lHKb cHKb_0 zHKb_0 cHKb_1 zHKb_1 cHKb_2 zHKb_2 cHKb_3 zHKb_3 cHKb_4 zHKb_4 cHKb_5 zHKb_5 HKc lHKc cHKc_0 zHKc_0 cHKc_1 zHKc_1 cHKc_2 zHKc_2 cHKc_3 zHKc_3 cHKc_4 zHKc_4 cHKc_5 zHKc_5 HW hg2
  have HB := Lib.hid b0
  have HC := Lib.hid hc2
  clear b0 hc2
  have HKa := Lib.hid k0
  clear k0
  have lHKa : w.heap.size < W4.heap.size := HKa.out.lt
  have cHKa_0 := HKa.out.cell (i := 0) rfl
  have zHKa_0 := HKa.out.frozen 0
  have cHKa_1 := HKa.out.cell (i := 1) rfl
  have zHKa_1 := HKa.out.frozen 1
  have cHKa_2 := HKa.out.cell (i := 2) rfl
  have zHKa_2 := HKa.out.frozen 2
  have cHKa_3 := HKa.out.cell (i := 3) rfl
  have zHKa_3 := HKa.out.frozen 3
  have cHKa_4 := HKa.out.cell (i := 4) rfl
  have zHKa_4 := HKa.out.frozen 4
  have cHKa_5 := HKa.out.cell (i := 5) rfl
  have zHKa_5 := HKa.out.frozen 5
  have HKb := Lib.hid k1
  clear k1
  have lHKb : w.heap.size + 1 < W4.heap.size := HKb.out.lt
  have cHKb_0 := HKb.out.cell (i := 0) rfl
  have zHKb_0 := HKb.out.frozen 0
  have cHKb_1 := HKb.out.cell (i := 1) rfl
  have zHKb_1 := HKb.out.frozen 1
  have cHKb_2 := HKb.out.cell (i := 2) rfl
  have zHKb_2 := HKb.out.frozen 2
  have cHKb_3 := HKb.out.cell (i := 3) rfl
  have zHKb_3 := HKb.out.frozen 3
  have cHKb_4 := HKb.out.cell (i := 4) rfl
  have zHKb_4 := HKb.out.frozen 4
  have cHKb_5 := HKb.out.cell (i := 5) rfl
  have zHKb_5 := HKb.out.frozen 5
  have HKc := Lib.hid k2
  clear k2
  have lHKc : gc < W4.heap.size := HKc.out.lt
  have cHKc_0 := HKc.out.cell (i := 0) rfl
  have zHKc_0 := HKc.out.frozen 0
  have cHKc_1 := HKc.out.cell (i := 1) rfl
  have zHKc_1 := HKc.out.frozen 1
  have cHKc_2 := HKc.out.cell (i := 2) rfl
  have zHKc_2 := HKc.out.frozen 2
  have cHKc_3 := HKc.out.cell (i := 3) rfl
  have zHKc_3 := HKc.out.frozen 3
  have cHKc_4 := HKc.out.cell (i := 4) rfl
  have zHKc_4 := HKc.out.frozen 4
  have cHKc_5 := HKc.out.cell (i := 5) rfl
  have zHKc_5 := HKc.out.frozen 5
  have HW := Lib.hid r0
  clear r0
  have hgW4 := HC.out.lt
  cases bb
  · go_wp2_with fail
    with_reducible refine wp_region_plt (fun V => V.cell? ⟨gc, 0, Option.none⟩ = some (.int .i64 cap) ∧ V.cell? ⟨gc, 1, Option.none⟩ = some (.slice A1 n c1) ∧ V.cell? ⟨gc, 2, Option.none⟩ = some (.int .i64 cr) ∧ V.cell? ⟨gc, 3, Option.none⟩ = some (.int .i64 bk) ∧ V.cell? ⟨gc, 4, Option.none⟩ = some (.int .i64 st) ∧ V.cell? ⟨gc, 5, Option.none⟩ = some (.int .i64 gt)) (Plt.pick 0 (Plt.pick 1 (Plt.one 2 (Plt.one 3 (Plt.one 4 Plt.nil))))) (by kernel_rfl) (by kernel_rfl) ?_ ?_
    · exact ⟨cHKc_0, cHKc_1, cHKc_2, cHKc_3, cHKc_4, cHKc_5⟩
    (repeat (refine wpPlt_pick (fun J hJ => ?_); simp only [List.getD_cons_zero, List.getD_cons_succ]; first | (go_simp; refine hJ _ ?_; clear hJ J) | (go_simp; refine ⟨_, (fun w1 => by (repeat (intro hh; try simp only [hh, Result.andThen])); rfl), ?_⟩; refine hJ _ ?_; clear hJ J)))
    refine wpPlt_one (fun J hJ => ?_)
    simp only [List.getD_cons_zero, List.getD_cons_succ]
    go_wp2_with fail
    refine (c_l06Any g _ (Cur.drew HC.out)).mono ?_
    rintro _ W5 ⟨cap', cr', bk', st', gt', A1', n', c1', xs', rfl, hL', hn9', hcr', hbk', hst', hgt', hW, hc2, hg2⟩
    have HW' := Lib.hid (ownsRow_lo hW (base' := W4.heap.size) (Nat.le_refl _))
    have hlo : w.heap.size + 1 < W4.heap.size := lHKb
    clear hW
    have HL' := Lib.hid hL'
    clear hL'
    have b0 := below_drawn (Below.drew HB.out) hg2 (by omega) HB.out.size
    have k0 := (Blk.drew HKa.out).grown hg2 (by simp; omega)
    have k1 := (Blk.drew HKb.out).grown hg2 (by simp; omega)
    have k2 := (Blk.drew HKc.out).grown hg2 (by simp; omega)
    have r0 := (World.ownsRow.drew HW.out).kept hg2 (.inr (fun e => by have := (HW.out.lt _ e).1; omega))
    clear HB HC HKa lHKa cHKa_0 zHKa_0 cHKa_1 zHKa_1 cHKa_2 zHKa_2 cHKa_3 zHKa_3 cHKa_4 zHKa_4 cHKa_5 zHKa_5 HKb lHKb cHKb_0 zHKb_0 cHKb_1 zHKb_1 cHKb_2 zHKb_2 cHKb_3 zHKb_3 cHKb_4 zHKb_4 cHKb_5 zHKb_5 HKc lHKc cHKc_0 zHKc_0 cHKc_1 zHKc_1 cHKc_2 zHKc_2 cHKc_3 zHKc_3 cHKc_4 zHKc_4 cHKc_5 zHKc_5 HW hg2
    have HB := Lib.hid b0
    have HC := Lib.hid hc2
    clear b0 hc2
    have HKa := Lib.hid k0
    clear k0
    have lHKa : w.heap.size < W5.heap.size := HKa.out.lt
    have cHKa_0 := HKa.out.cell (i := 0) rfl
    have zHKa_0 := HKa.out.frozen 0
    have cHKa_1 := HKa.out.cell (i := 1) rfl
    have zHKa_1 := HKa.out.frozen 1
    have cHKa_2 := HKa.out.cell (i := 2) rfl
    have zHKa_2 := HKa.out.frozen 2
    have cHKa_3 := HKa.out.cell (i := 3) rfl
    have zHKa_3 := HKa.out.frozen 3
    have cHKa_4 := HKa.out.cell (i := 4) rfl
    have zHKa_4 := HKa.out.frozen 4
    have cHKa_5 := HKa.out.cell (i := 5) rfl
    have zHKa_5 := HKa.out.frozen 5
    have HKb := Lib.hid k1
    clear k1
    have lHKb : w.heap.size + 1 < W5.heap.size := HKb.out.lt
    have cHKb_0 := HKb.out.cell (i := 0) rfl
    have zHKb_0 := HKb.out.frozen 0
    have cHKb_1 := HKb.out.cell (i := 1) rfl
    have zHKb_1 := HKb.out.frozen 1
    have cHKb_2 := HKb.out.cell (i := 2) rfl
    have zHKb_2 := HKb.out.frozen 2
    have cHKb_3 := HKb.out.cell (i := 3) rfl
    have zHKb_3 := HKb.out.frozen 3
    have cHKb_4 := HKb.out.cell (i := 4) rfl
    have zHKb_4 := HKb.out.frozen 4
    have cHKb_5 := HKb.out.cell (i := 5) rfl
    have zHKb_5 := HKb.out.frozen 5
    have HKc := Lib.hid k2
    clear k2
    have lHKc : gc < W5.heap.size := HKc.out.lt
    have cHKc_0 := HKc.out.cell (i := 0) rfl
    have zHKc_0 := HKc.out.frozen 0
    have cHKc_1 := HKc.out.cell (i := 1) rfl
    have zHKc_1 := HKc.out.frozen 1
    have cHKc_2 := HKc.out.cell (i := 2) rfl
    have zHKc_2 := HKc.out.frozen 2
    have cHKc_3 := HKc.out.cell (i := 3) rfl
    have zHKc_3 := HKc.out.frozen 3
    have cHKc_4 := HKc.out.cell (i := 4) rfl
    have zHKc_4 := HKc.out.frozen 4
    have cHKc_5 := HKc.out.cell (i := 5) rfl
    have zHKc_5 := HKc.out.frozen 5
    have HW := Lib.hid r0
    clear r0
    have hgW5 := HC.out.lt
    go_wp2_with fail
    refine onward_K ⟨cHKc_0, cHKc_1, cHKc_2, cHKc_3, cHKc_4, cHKc_5⟩ (hJ _ _ ?_)
    clear hJ J
    refine wpPlt_one (fun J hJ => ?_)
    simp only [List.getD_cons_zero, List.getD_cons_succ]
    go_wp2_with fail
    refine onward_K ⟨((((((HKc.out.other (by dsimp only; omega) _).other (by dsimp only; omega) _).other (by dsimp only; omega) _).other (by dsimp only; omega) _).other (by dsimp only; omega) _).other (by dsimp only; omega) _).cell (i := 0) rfl, ((((((HKc.out.other (by dsimp only; omega) _).other (by dsimp only; omega) _).other (by dsimp only; omega) _).other (by dsimp only; omega) _).other (by dsimp only; omega) _).other (by dsimp only; omega) _).cell (i := 1) rfl, ((((((HKc.out.other (by dsimp only; omega) _).other (by dsimp only; omega) _).other (by dsimp only; omega) _).other (by dsimp only; omega) _).other (by dsimp only; omega) _).other (by dsimp only; omega) _).cell (i := 2) rfl, ((((((HKc.out.other (by dsimp only; omega) _).other (by dsimp only; omega) _).other (by dsimp only; omega) _).other (by dsimp only; omega) _).other (by dsimp only; omega) _).other (by dsimp only; omega) _).cell (i := 3) rfl, ((((((HKc.out.other (by dsimp only; omega) _).other (by dsimp only; omega) _).other (by dsimp only; omega) _).other (by dsimp only; omega) _).other (by dsimp only; omega) _).other (by dsimp only; omega) _).cell (i := 4) rfl, ((((((HKc.out.other (by dsimp only; omega) _).other (by dsimp only; omega) _).other (by dsimp only; omega) _).other (by dsimp only; omega) _).other (by dsimp only; omega) _).other (by dsimp only; omega) _).cell (i := 5) rfl⟩ (hJ _ _ ?_)
    clear hJ J
    refine wpPlt_one (fun J hJ => ?_)
    simp only [List.getD_cons_zero, List.getD_cons_succ]
    go_wp2_with fail
    refine onward_K ⟨((((((((((((HKc.out.other (by dsimp only; omega) _).other (by dsimp only; omega) _).other (by dsimp only; omega) _).other (by dsimp only; omega) _).other (by dsimp only; omega) _).other (by dsimp only; omega) _).other (by dsimp only; omega) _).other (by dsimp only; omega) _).other (by dsimp only; omega) _).other (by dsimp only; omega) _).other (by dsimp only; omega) _).other (by dsimp only; omega) _).cell (i := 0) rfl, ((((((((((((HKc.out.other (by dsimp only; omega) _).other (by dsimp only; omega) _).other (by dsimp only; omega) _).other (by dsimp only; omega) _).other (by dsimp only; omega) _).other (by dsimp only; omega) _).other (by dsimp only; omega) _).other (by dsimp only; omega) _).other (by dsimp only; omega) _).other (by dsimp only; omega) _).other (by dsimp only; omega) _).other (by dsimp only; omega) _).cell (i := 1) rfl, ((((((((((((HKc.out.other (by dsimp only; omega) _).other (by dsimp only; omega) _).other (by dsimp only; omega) _).other (by dsimp only; omega) _).other (by dsimp only; omega) _).other (by dsimp only; omega) _).other (by dsimp only; omega) _).other (by dsimp only; omega) _).other (by dsimp only; omega) _).other (by dsimp only; omega) _).other (by dsimp only; omega) _).other (by dsimp only; omega) _).cell (i := 2) rfl, ((((((((((((HKc.out.other (by dsimp only; omega) _).other (by dsimp only; omega) _).other (by dsimp only; omega) _).other (by dsimp only; omega) _).other (by dsimp only; omega) _).other (by dsimp only; omega) _).other (by dsimp only; omega) _).other (by dsimp only; omega) _).other (by dsimp only; omega) _).other (by dsimp only; omega) _).other (by dsimp only; omega) _).other (by dsimp only; omega) _).cell (i := 3) rfl, ((((((((((((HKc.out.other (by dsimp only; omega) _).other (by dsimp only; omega) _).other (by dsimp only; omega) _).other (by dsimp only; omega) _).other (by dsimp only; omega) _).other (by dsimp only; omega) _).other (by dsimp only; omega) _).other (by dsimp only; omega) _).other (by dsimp only; omega) _).other (by dsimp only; omega) _).other (by dsimp only; omega) _).other (by dsimp only; omega) _).cell (i := 4) rfl, ((((((((((((HKc.out.other (by dsimp only; omega) _).other (by dsimp only; omega) _).other (by dsimp only; omega) _).other (by dsimp only; omega) _).other (by dsimp only; omega) _).other (by dsimp only; omega) _).other (by dsimp only; omega) _).other (by dsimp only; omega) _).other (by dsimp only; omega) _).other (by dsimp only; omega) _).other (by dsimp only; omega) _).other (by dsimp only; omega) _).cell (i := 5) rfl⟩ (hJ _ _ ?_)
    clear hJ J
    refine wpPlt_nil ?_
    go_wp2_with fail
    refine bp_anchor (F := fun V => Below w.heap.size w V ∧ Blk (w.heap.size) [.int .i64 cap, .slice A1 n c1, .int .i64 cr, .int .i64 bk, .int .i64 st, .int .i64 gt] 28 V ∧ Blk (w.heap.size + 1) [.int .i64 cap', .slice A1' n' c1', .int .i64 cr', .int .i64 bk', .int .i64 st', .int .i64 gt'] 28 V ∧ Row encR 5 V A1 xs ∧ Row encR 5 V A1' xs') ⟨(by (repeat (first | with_reducible exact HB.out | with_reducible refine Below.setCell ?_ (by dsimp only; omega) _)); done), (((((((((((((HKa.out.set 0 _).set 1 _).set 2 _).set 3 _).set 4 _).set 5 _).other (by dsimp only; omega) _).other (by dsimp only; omega) _).other (by dsimp only; omega) _).other (by dsimp only; omega) _).other (by dsimp only; omega) _).other (by dsimp only; omega) _).conv rfl), (((((((((((((HKb.out.other (by dsimp only; omega) _).other (by dsimp only; omega) _).other (by dsimp only; omega) _).other (by dsimp only; omega) _).other (by dsimp only; omega) _).other (by dsimp only; omega) _).set 0 _).set 1 _).set 2 _).set 3 _).set 4 _).set 5 _).conv rfl), (own_rowD lenR ((by (repeat (first | with_reducible exact HW.out | with_reducible refine ownsRow_set ?_ _ _ (ownsRow_ne_low HW.out (by dsimp only; omega)))); done) : World.ownsRow _ W1.heap.size 33 5 (.slice A1 _ _) _ _) HL.out), (own_rowD lenR ((by (repeat (first | with_reducible exact HW'.out | with_reducible refine ownsRow_set ?_ _ _ (ownsRow_ne_low HW'.out (by dsimp only; omega)))); done) : World.ownsRow _ W4.heap.size 33 5 (.slice A1' _ _) _ _) HL'.out)⟩ (fun V hV => ?_)
    obtain ⟨q0, q1, q2, qr0, qr1⟩ := hV
    have f0_0 := q1.cell (i := 0) rfl
    have f0_1 := q1.cell (i := 1) rfl
    have f0_2 := q1.cell (i := 2) rfl
    have f0_3 := q1.cell (i := 3) rfl
    have f0_4 := q1.cell (i := 4) rfl
    have f0_5 := q1.cell (i := 5) rfl
    have f1_0 := q2.cell (i := 0) rfl
    have f1_1 := q2.cell (i := 1) rfl
    have f1_2 := q2.cell (i := 2) rfl
    have f1_3 := q2.cell (i := 3) rfl
    have f1_4 := q2.cell (i := 4) rfl
    have f1_5 := q2.cell (i := 5) rfl
    refine bodyPost_ret (v := .tuple #[.agg #[.int .i64 cap, .slice A1 n c1, .int .i64 cr, .int .i64 bk, .int .i64 st, .int .i64 gt], .agg #[.int .i64 cap', .slice A1' n' c1', .int .i64 cr', .int .i64 bk', .int .i64 st', .int .i64 gt']]) (by simp [results, Try.results21, go_sem, f0_0, f0_1, f0_2, f0_3, f0_4, f0_5, f1_0, f1_1, f1_2, f1_3, f1_4, f1_5]) rfl ?_
    exact ⟨cap, cr, bk, st, gt, A1, n, c1, xs, cap', cr', bk', st', gt', A1', n', c1', xs', rfl, HL.out, HL'.out, hn9, hn9', qr0, qr1, later_of_below q0⟩
  · go_wp2_with fail
    with_reducible refine wp_region_plt (fun V => V.cell? ⟨gc, 0, Option.none⟩ = some (.int .i64 cap) ∧ V.cell? ⟨gc, 1, Option.none⟩ = some (.slice A1 n c1) ∧ V.cell? ⟨gc, 2, Option.none⟩ = some (.int .i64 cr) ∧ V.cell? ⟨gc, 3, Option.none⟩ = some (.int .i64 bk) ∧ V.cell? ⟨gc, 4, Option.none⟩ = some (.int .i64 st) ∧ V.cell? ⟨gc, 5, Option.none⟩ = some (.int .i64 gt)) (Plt.pick 0 (Plt.pick 1 (Plt.one 2 (Plt.one 3 (Plt.one 4 Plt.nil))))) (by kernel_rfl) (by kernel_rfl) ?_ ?_
    · exact ⟨cHKc_0, cHKc_1, cHKc_2, cHKc_3, cHKc_4, cHKc_5⟩
    (repeat (refine wpPlt_pick (fun J hJ => ?_); simp only [List.getD_cons_zero, List.getD_cons_succ]; first | (go_simp; refine hJ _ ?_; clear hJ J) | (go_simp; refine ⟨_, (fun w1 => by (repeat (intro hh; try simp only [hh, Result.andThen])); rfl), ?_⟩; refine hJ _ ?_; clear hJ J)))
    refine wpPlt_one (fun J hJ => ?_)
    simp only [List.getD_cons_zero, List.getD_cons_succ]
    go_wp2_with fail
    refine (c_sCopyLink cap cr bk st gt A1 n c1 xs _ HL.out (by omega) (own_rowD lenR (World.ownsRow.drew HW.out) HL.out)).mono ?_
    rintro _ W5 ⟨A1', n', c1', rfl, hL', hcc', hmm', hW', p5, hp5⟩
    have HL' := Lib.hid hL'
    clear hL'
    have b0 := HB.out.drew.trans ((below_later _ p5).mono HB.out.size)
    rw [← hp5] at b0
    have b1 := Blk.to hp5 (Blk.drew HKa.out)
    have b2 := Blk.to hp5 (Blk.drew HKb.out)
    have b3 := Blk.to hp5 (Blk.drew HKc.out)
    have b4 : W5.ownsRow W1.heap.size 33 5 (.slice A1 n c1) n (xs.flatMap encR) := by rw [hp5]; exact ownsRow_later (World.ownsRow.drew HW.out) _
    have hlo : w.heap.size + 1 < W4.heap.size := lHKb
    have HW' := Lib.hid (ownsRow_lo hW' (base' := W4.heap.size) (Nat.le_refl _))
    clear HB HKa HKb HKc HW hW' hp5 lHKa cHKa_0 zHKa_0 cHKa_1 zHKa_1 cHKa_2 zHKa_2 cHKa_3 zHKa_3 cHKa_4 zHKa_4 cHKa_5 zHKa_5 lHKb cHKb_0 zHKb_0 cHKb_1 zHKb_1 cHKb_2 zHKb_2 cHKb_3 zHKb_3 cHKb_4 zHKb_4 cHKb_5 zHKb_5 lHKc cHKc_0 zHKc_0 cHKc_1 zHKc_1 cHKc_2 zHKc_2 cHKc_3 zHKc_3 cHKc_4 zHKc_4 cHKc_5 zHKc_5
    have HB := Lib.hid b0
    have HKa := Lib.hid b1
    have HKb := Lib.hid b2
    have HKc := Lib.hid b3
    have HW := Lib.hid b4
    clear b0 b1 b2 b3 b4
    have lHKa : w.heap.size < W5.heap.size := HKa.out.lt
    have cHKa_0 := HKa.out.cell (i := 0) rfl
    have zHKa_0 := HKa.out.frozen 0
    have cHKa_1 := HKa.out.cell (i := 1) rfl
    have zHKa_1 := HKa.out.frozen 1
    have cHKa_2 := HKa.out.cell (i := 2) rfl
    have zHKa_2 := HKa.out.frozen 2
    have cHKa_3 := HKa.out.cell (i := 3) rfl
    have zHKa_3 := HKa.out.frozen 3
    have cHKa_4 := HKa.out.cell (i := 4) rfl
    have zHKa_4 := HKa.out.frozen 4
    have cHKa_5 := HKa.out.cell (i := 5) rfl
    have zHKa_5 := HKa.out.frozen 5
    have lHKb : w.heap.size + 1 < W5.heap.size := HKb.out.lt
    have cHKb_0 := HKb.out.cell (i := 0) rfl
    have zHKb_0 := HKb.out.frozen 0
    have cHKb_1 := HKb.out.cell (i := 1) rfl
    have zHKb_1 := HKb.out.frozen 1
    have cHKb_2 := HKb.out.cell (i := 2) rfl
    have zHKb_2 := HKb.out.frozen 2
    have cHKb_3 := HKb.out.cell (i := 3) rfl
    have zHKb_3 := HKb.out.frozen 3
    have cHKb_4 := HKb.out.cell (i := 4) rfl
    have zHKb_4 := HKb.out.frozen 4
    have cHKb_5 := HKb.out.cell (i := 5) rfl
    have zHKb_5 := HKb.out.frozen 5
    have lHKc : gc < W5.heap.size := HKc.out.lt
    have cHKc_0 := HKc.out.cell (i := 0) rfl
    have zHKc_0 := HKc.out.frozen 0
    have cHKc_1 := HKc.out.cell (i := 1) rfl
    have zHKc_1 := HKc.out.frozen 1
    have cHKc_2 := HKc.out.cell (i := 2) rfl
    have zHKc_2 := HKc.out.frozen 2
    have cHKc_3 := HKc.out.cell (i := 3) rfl
    have zHKc_3 := HKc.out.frozen 3
    have cHKc_4 := HKc.out.cell (i := 4) rfl
    have zHKc_4 := HKc.out.frozen 4
    have cHKc_5 := HKc.out.cell (i := 5) rfl
    have zHKc_5 := HKc.out.frozen 5
    go_wp2_with fail
    refine onward_K ⟨cHKc_0, cHKc_1, cHKc_2, cHKc_3, cHKc_4, cHKc_5⟩ (hJ _ _ ?_)
    clear hJ J
    refine wpPlt_one (fun J hJ => ?_)
    simp only [List.getD_cons_zero, List.getD_cons_succ]
    go_wp2_with fail
    refine onward_K ⟨((((((HKc.out.other (by dsimp only; omega) _).other (by dsimp only; omega) _).other (by dsimp only; omega) _).other (by dsimp only; omega) _).other (by dsimp only; omega) _).other (by dsimp only; omega) _).cell (i := 0) rfl, ((((((HKc.out.other (by dsimp only; omega) _).other (by dsimp only; omega) _).other (by dsimp only; omega) _).other (by dsimp only; omega) _).other (by dsimp only; omega) _).other (by dsimp only; omega) _).cell (i := 1) rfl, ((((((HKc.out.other (by dsimp only; omega) _).other (by dsimp only; omega) _).other (by dsimp only; omega) _).other (by dsimp only; omega) _).other (by dsimp only; omega) _).other (by dsimp only; omega) _).cell (i := 2) rfl, ((((((HKc.out.other (by dsimp only; omega) _).other (by dsimp only; omega) _).other (by dsimp only; omega) _).other (by dsimp only; omega) _).other (by dsimp only; omega) _).other (by dsimp only; omega) _).cell (i := 3) rfl, ((((((HKc.out.other (by dsimp only; omega) _).other (by dsimp only; omega) _).other (by dsimp only; omega) _).other (by dsimp only; omega) _).other (by dsimp only; omega) _).other (by dsimp only; omega) _).cell (i := 4) rfl, ((((((HKc.out.other (by dsimp only; omega) _).other (by dsimp only; omega) _).other (by dsimp only; omega) _).other (by dsimp only; omega) _).other (by dsimp only; omega) _).other (by dsimp only; omega) _).cell (i := 5) rfl⟩ (hJ _ _ ?_)
    clear hJ J
    refine wpPlt_one (fun J hJ => ?_)
    simp only [List.getD_cons_zero, List.getD_cons_succ]
    go_wp2_with fail
    refine onward_K ⟨((((((((((((HKc.out.other (by dsimp only; omega) _).other (by dsimp only; omega) _).other (by dsimp only; omega) _).other (by dsimp only; omega) _).other (by dsimp only; omega) _).other (by dsimp only; omega) _).other (by dsimp only; omega) _).other (by dsimp only; omega) _).other (by dsimp only; omega) _).other (by dsimp only; omega) _).other (by dsimp only; omega) _).other (by dsimp only; omega) _).cell (i := 0) rfl, ((((((((((((HKc.out.other (by dsimp only; omega) _).other (by dsimp only; omega) _).other (by dsimp only; omega) _).other (by dsimp only; omega) _).other (by dsimp only; omega) _).other (by dsimp only; omega) _).other (by dsimp only; omega) _).other (by dsimp only; omega) _).other (by dsimp only; omega) _).other (by dsimp only; omega) _).other (by dsimp only; omega) _).other (by dsimp only; omega) _).cell (i := 1) rfl, ((((((((((((HKc.out.other (by dsimp only; omega) _).other (by dsimp only; omega) _).other (by dsimp only; omega) _).other (by dsimp only; omega) _).other (by dsimp only; omega) _).other (by dsimp only; omega) _).other (by dsimp only; omega) _).other (by dsimp only; omega) _).other (by dsimp only; omega) _).other (by dsimp only; omega) _).other (by dsimp only; omega) _).other (by dsimp only; omega) _).cell (i := 2) rfl, ((((((((((((HKc.out.other (by dsimp only; omega) _).other (by dsimp only; omega) _).other (by dsimp only; omega) _).other (by dsimp only; omega) _).other (by dsimp only; omega) _).other (by dsimp only; omega) _).other (by dsimp only; omega) _).other (by dsimp only; omega) _).other (by dsimp only; omega) _).other (by dsimp only; omega) _).other (by dsimp only; omega) _).other (by dsimp only; omega) _).cell (i := 3) rfl, ((((((((((((HKc.out.other (by dsimp only; omega) _).other (by dsimp only; omega) _).other (by dsimp only; omega) _).other (by dsimp only; omega) _).other (by dsimp only; omega) _).other (by dsimp only; omega) _).other (by dsimp only; omega) _).other (by dsimp only; omega) _).other (by dsimp only; omega) _).other (by dsimp only; omega) _).other (by dsimp only; omega) _).other (by dsimp only; omega) _).cell (i := 4) rfl, ((((((((((((HKc.out.other (by dsimp only; omega) _).other (by dsimp only; omega) _).other (by dsimp only; omega) _).other (by dsimp only; omega) _).other (by dsimp only; omega) _).other (by dsimp only; omega) _).other (by dsimp only; omega) _).other (by dsimp only; omega) _).other (by dsimp only; omega) _).other (by dsimp only; omega) _).other (by dsimp only; omega) _).other (by dsimp only; omega) _).cell (i := 5) rfl⟩ (hJ _ _ ?_)
    clear hJ J
    refine wpPlt_nil ?_
    go_wp2_with fail
    refine bp_anchor (F := fun V => Below w.heap.size w V ∧ Blk (w.heap.size) [.int .i64 cap, .slice A1 n c1, .int .i64 cr, .int .i64 bk, .int .i64 st, .int .i64 gt] 28 V ∧ Blk (w.heap.size + 1) [.int .i64 cap, .slice A1' n' c1', .int .i64 cr, .int .i64 bk, .int .i64 st, .int .i64 gt] 28 V ∧ Row encR 5 V A1 xs ∧ Row encR 5 V A1' xs) ⟨(by (repeat (first | with_reducible exact HB.out | with_reducible refine Below.setCell ?_ (by dsimp only; omega) _)); done), (((((((((((((HKa.out.set 0 _).set 1 _).set 2 _).set 3 _).set 4 _).set 5 _).other (by dsimp only; omega) _).other (by dsimp only; omega) _).other (by dsimp only; omega) _).other (by dsimp only; omega) _).other (by dsimp only; omega) _).other (by dsimp only; omega) _).conv rfl), (((((((((((((HKb.out.other (by dsimp only; omega) _).other (by dsimp only; omega) _).other (by dsimp only; omega) _).other (by dsimp only; omega) _).other (by dsimp only; omega) _).other (by dsimp only; omega) _).set 0 _).set 1 _).set 2 _).set 3 _).set 4 _).set 5 _).conv rfl), (own_rowD lenR ((by (repeat (first | with_reducible exact HW.out | with_reducible refine ownsRow_set ?_ _ _ (ownsRow_ne_low HW.out (by dsimp only; omega)))); done) : World.ownsRow _ W1.heap.size 33 5 (.slice A1 _ _) _ _) HL.out), (own_rowD lenR ((by (repeat (first | with_reducible exact HW'.out | with_reducible refine ownsRow_set ?_ _ _ (ownsRow_ne_low HW'.out (by dsimp only; omega)))); done) : World.ownsRow _ W4.heap.size 33 5 (.slice A1' _ _) _ _) HL'.out)⟩ (fun V hV => ?_)
    obtain ⟨q0, q1, q2, qr0, qr1⟩ := hV
    have f0_0 := q1.cell (i := 0) rfl
    have f0_1 := q1.cell (i := 1) rfl
    have f0_2 := q1.cell (i := 2) rfl
    have f0_3 := q1.cell (i := 3) rfl
    have f0_4 := q1.cell (i := 4) rfl
    have f0_5 := q1.cell (i := 5) rfl
    have f1_0 := q2.cell (i := 0) rfl
    have f1_1 := q2.cell (i := 1) rfl
    have f1_2 := q2.cell (i := 2) rfl
    have f1_3 := q2.cell (i := 3) rfl
    have f1_4 := q2.cell (i := 4) rfl
    have f1_5 := q2.cell (i := 5) rfl
    refine bodyPost_ret (v := .tuple #[.agg #[.int .i64 cap, .slice A1 n c1, .int .i64 cr, .int .i64 bk, .int .i64 st, .int .i64 gt], .agg #[.int .i64 cap, .slice A1' n' c1', .int .i64 cr, .int .i64 bk, .int .i64 st, .int .i64 gt]]) (by simp [results, Try.results21, go_sem, f0_0, f0_1, f0_2, f0_3, f0_4, f0_5, f1_0, f1_1, f1_2, f1_3, f1_4, f1_5]) rfl ?_
    exact ⟨cap, cr, bk, st, gt, A1, n, c1, xs, cap, cr, bk, st, gt, A1', n', c1', xs, rfl, HL.out, HL'.out, hn9, by have := HL.out; have := HL'.out; omega, qr0, qr1, later_of_below q0⟩
end Go.Proofs.Ytcmhmdccfihhiaa
