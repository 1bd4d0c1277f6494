/-
  Links: the law's copies, sizes and comparing; LinkNew, LinkOk, SameLink of the program and of the reference. Conditions: the length is at most 2^20, or fits an int.
-/
import Derived.Test.YtcmhmdccfihhiaaAnchor
import Derived.Test.YtcmhmdccfihhiaaPick
import Derived.Test.YtcmhmdccfihhiaaFn
namespace Go.Proofs.Ytcmhmdccfihhiaa
open Go.RowKit
set_option linter.unusedVariables false


theorem gives_b {P : Program} {f : FuncId} {args : Array Value} {w : World} {x y : Bool} (h : x = y) (hc : Calls P f args w (Gives (.bool x) w)) : Calls P f args w (Gives (.bool y) w) := by subst h; exact hc
set_option maxHeartbeats 3200000 in
theorem c_iSameLink (cap cr bk st gt cap' cr' bk' st' gt' : Int) (A B : Option Addr) (n m c d : Nat) (xs ys : List (Int × (Int × Int) × Int × Int)) (w : World) (z : Bool) (hn : xs.length = n) (hm : ys.length = m) (hn2 : n ≤ 9223372036854775807) (hm2 : m ≤ 9223372036854775807)
    (ha : Row encR 5 w A xs) (hb : Row encR 5 w B ys) (hz : decide (cap = cap' ∧ cr = cr' ∧ bk = bk' ∧ st = st' ∧ gt = gt' ∧ xs = ys) = z) : Calls Try.prog 24 #[.agg #[.int .i64 cap, .slice A n c, .int .i64 cr, .int .i64 bk, .int .i64 st, .int .i64 gt], .agg #[.int .i64 cap', .slice B m d, .int .i64 cr', .int .i64 bk', .int .i64 st', .int .i64 gt']] w (Gives (.bool z) w) := by
  have HA := Lib.hid ha
  have HB := Lib.hid hb
  have HN := Lib.hid hn
  have HM := Lib.hid hm
  have HZ := Lib.hid hz
  clear ha hb hn hm hz
  by_cases hcap : cap = cap'
  · subst hcap
    by_cases hq : xs = ys
    · have HQ := Lib.hid (show decide (xs = ys) = true by simpa using hq)
      by_cases hcr : cr = cr'
      · subst hcr
        by_cases hbk : bk = bk'
        · subst hbk
          by_cases hst : st = st'
          · subst hst
            by_cases hgt : gt = gt'
            · subst hgt
              have hz : z = true := by rw [← HZ.out]; simp [hq]
              clear hq
              subst hz
              clear HZ
              go_enter Try.func24, Try.ntmps24
              go_wp2_with (first | (go_at_call 41; (refine (gives_b HQ.out (c_EqualRecord _ _ _ _ _ _ _ _ _ HN.out HM.out hn2 hm2 (by (repeat (first | with_reducible exact HA.out | with_reducible refine Row.later ?_ _ | with_reducible refine Row.alloc ?_ _)); done) (by (repeat (first | with_reducible exact HB.out | with_reducible refine Row.later ?_ _ | with_reducible refine Row.alloc ?_ _)); done))).mono ?_); rintro _ _ ⟨rfl, p, rfl⟩) | ((with_reducible refine wp_region_later (by kernel_rfl) (by kernel_rfl) ?_); (repeat (first | go_big_quiet_skip | quiet_step ((first | (go_at_call 41; first | exact calls_later (gives_b HQ.out (c_EqualRecord _ _ _ _ _ _ _ _ _ HN.out HM.out hn2 hm2 (by (repeat (first | with_reducible exact HA.out | with_reducible refine Row.later ?_ _ | with_reducible refine Row.alloc ?_ _)); done) (by (repeat (first | with_reducible exact HB.out | with_reducible refine Row.later ?_ _ | with_reducible refine Row.alloc ?_ _)); done))) | exact calls_later2 (gives_b HQ.out (c_EqualRecord _ _ _ _ _ _ _ _ _ HN.out HM.out hn2 hm2 (by (repeat (first | with_reducible exact HA.out | with_reducible refine Row.later ?_ _ | with_reducible refine Row.alloc ?_ _)); done) (by (repeat (first | with_reducible exact HB.out | with_reducible refine Row.later ?_ _ | with_reducible refine Row.alloc ?_ _)); done)))))))); refine wpQuiet_nil ?_; rintro _ ⟨p, rfl⟩))
              go_ret
              exact Gives.mk (by first | rfl | (simp [*]; done) | (simp; omega)) (by (repeat (first | with_reducible exact Below.refl _ _ | with_reducible assumption | with_reducible refine Below.drew ?_ | with_reducible refine below_drewN ?_ _ | with_reducible exact HQ.out | with_reducible exact HBW.out | with_reducible refine below_ext ?_ _ _ | with_reducible refine below_then_later ?_ (by first | with_reducible exact Nat.le_refl _ | with_reducible exact HBW.out.size | with_reducible exact HQ.out.size | omega | (simp; done) | (simp; omega) | (simp [later_size]; done) | (simp [later_size]; omega)) _ | with_reducible refine Below.setCell ?_ (by first | with_reducible exact Nat.le_refl _ | with_reducible exact HBW.out.size | with_reducible exact HQ.out.size | omega | (simp; done) | (simp; omega) | (simp [later_size]; done) | (simp [later_size]; omega)) _ | with_reducible refine Below.alloc ?_ (by first | with_reducible exact Nat.le_refl _ | with_reducible exact HBW.out.size | with_reducible exact HQ.out.size | omega | (simp; done) | (simp; omega) | (simp [later_size]; done) | (simp [later_size]; omega)) _)))
            · skip
              have hz : z = false := by rw [← HZ.out]; simp [hgt]
              subst hz
              clear HZ
              go_enter Try.func24, Try.ntmps24
              go_wp2_with (first | (go_at_call 41; (refine (gives_b HQ.out (c_EqualRecord _ _ _ _ _ _ _ _ _ HN.out HM.out hn2 hm2 (by (repeat (first | with_reducible exact HA.out | with_reducible refine Row.later ?_ _ | with_reducible refine Row.alloc ?_ _)); done) (by (repeat (first | with_reducible exact HB.out | with_reducible refine Row.later ?_ _ | with_reducible refine Row.alloc ?_ _)); done))).mono ?_); rintro _ _ ⟨rfl, p, rfl⟩) | ((with_reducible refine wp_region_later (by kernel_rfl) (by kernel_rfl) ?_); (repeat (first | go_big_quiet_skip | quiet_step ((first | (go_at_call 41; first | exact calls_later (gives_b HQ.out (c_EqualRecord _ _ _ _ _ _ _ _ _ HN.out HM.out hn2 hm2 (by (repeat (first | with_reducible exact HA.out | with_reducible refine Row.later ?_ _ | with_reducible refine Row.alloc ?_ _)); done) (by (repeat (first | with_reducible exact HB.out | with_reducible refine Row.later ?_ _ | with_reducible refine Row.alloc ?_ _)); done))) | exact calls_later2 (gives_b HQ.out (c_EqualRecord _ _ _ _ _ _ _ _ _ HN.out HM.out hn2 hm2 (by (repeat (first | with_reducible exact HA.out | with_reducible refine Row.later ?_ _ | with_reducible refine Row.alloc ?_ _)); done) (by (repeat (first | with_reducible exact HB.out | with_reducible refine Row.later ?_ _ | with_reducible refine Row.alloc ?_ _)); done)))))))); refine wpQuiet_nil ?_; rintro _ ⟨p, rfl⟩))
              go_ret
              exact Gives.mk (by first | rfl | (simp [*]; done) | (simp; omega)) (by (repeat (first | with_reducible exact Below.refl _ _ | with_reducible assumption | with_reducible refine Below.drew ?_ | with_reducible refine below_drewN ?_ _ | with_reducible exact HQ.out | with_reducible exact HBW.out | with_reducible refine below_ext ?_ _ _ | with_reducible refine below_then_later ?_ (by first | with_reducible exact Nat.le_refl _ | with_reducible exact HBW.out.size | with_reducible exact HQ.out.size | omega | (simp; done) | (simp; omega) | (simp [later_size]; done) | (simp [later_size]; omega)) _ | with_reducible refine Below.setCell ?_ (by first | with_reducible exact Nat.le_refl _ | with_reducible exact HBW.out.size | with_reducible exact HQ.out.size | omega | (simp; done) | (simp; omega) | (simp [later_size]; done) | (simp [later_size]; omega)) _ | with_reducible refine Below.alloc ?_ (by first | with_reducible exact Nat.le_refl _ | with_reducible exact HBW.out.size | with_reducible exact HQ.out.size | omega | (simp; done) | (simp; omega) | (simp [later_size]; done) | (simp [later_size]; omega)) _)))
          · skip
            have hz : z = false := by rw [← HZ.out]; simp [hst]
            subst hz
            clear HZ
            go_enter Try.func24, Try.ntmps24
            go_wp2_with (first | (go_at_call 41; (refine (gives_b HQ.out (c_EqualRecord _ _ _ _ _ _ _ _ _ HN.out HM.out hn2 hm2 (by (repeat (first | with_reducible exact HA.out | with_reducible refine Row.later ?_ _ | with_reducible refine Row.alloc ?_ _)); done) (by (repeat (first | with_reducible exact HB.out | with_reducible refine Row.later ?_ _ | with_reducible refine Row.alloc ?_ _)); done))).mono ?_); rintro _ _ ⟨rfl, p, rfl⟩) | ((with_reducible refine wp_region_later (by kernel_rfl) (by kernel_rfl) ?_); (repeat (first | go_big_quiet_skip | quiet_step ((first | (go_at_call 41; first | exact calls_later (gives_b HQ.out (c_EqualRecord _ _ _ _ _ _ _ _ _ HN.out HM.out hn2 hm2 (by (repeat (first | with_reducible exact HA.out | with_reducible refine Row.later ?_ _ | with_reducible refine Row.alloc ?_ _)); done) (by (repeat (first | with_reducible exact HB.out | with_reducible refine Row.later ?_ _ | with_reducible refine Row.alloc ?_ _)); done))) | exact calls_later2 (gives_b HQ.out (c_EqualRecord _ _ _ _ _ _ _ _ _ HN.out HM.out hn2 hm2 (by (repeat (first | with_reducible exact HA.out | with_reducible refine Row.later ?_ _ | with_reducible refine Row.alloc ?_ _)); done) (by (repeat (first | with_reducible exact HB.out | with_reducible refine Row.later ?_ _ | with_reducible refine Row.alloc ?_ _)); done)))))))); refine wpQuiet_nil ?_; rintro _ ⟨p, rfl⟩))
            go_ret
            exact Gives.mk (by first | rfl | (simp [*]; done) | (simp; omega)) (by (repeat (first | with_reducible exact Below.refl _ _ | with_reducible assumption | with_reducible refine Below.drew ?_ | with_reducible refine below_drewN ?_ _ | with_reducible exact HQ.out | with_reducible exact HBW.out | with_reducible refine below_ext ?_ _ _ | with_reducible refine below_then_later ?_ (by first | with_reducible exact Nat.le_refl _ | with_reducible exact HBW.out.size | with_reducible exact HQ.out.size | omega | (simp; done) | (simp; omega) | (simp [later_size]; done) | (simp [later_size]; omega)) _ | with_reducible refine Below.setCell ?_ (by first | with_reducible exact Nat.le_refl _ | with_reducible exact HBW.out.size | with_reducible exact HQ.out.size | omega | (simp; done) | (simp; omega) | (simp [later_size]; done) | (simp [later_size]; omega)) _ | with_reducible refine Below.alloc ?_ (by first | with_reducible exact Nat.le_refl _ | with_reducible exact HBW.out.size | with_reducible exact HQ.out.size | omega | (simp; done) | (simp; omega) | (simp [later_size]; done) | (simp [later_size]; omega)) _)))
        · skip
          have hz : z = false := by rw [← HZ.out]; simp [hbk]
          subst hz
          clear HZ
          go_enter Try.func24, Try.ntmps24
          go_wp2_with (first | (go_at_call 41; (refine (gives_b HQ.out (c_EqualRecord _ _ _ _ _ _ _ _ _ HN.out HM.out hn2 hm2 (by (repeat (first | with_reducible exact HA.out | with_reducible refine Row.later ?_ _ | with_reducible refine Row.alloc ?_ _)); done) (by (repeat (first | with_reducible exact HB.out | with_reducible refine Row.later ?_ _ | with_reducible refine Row.alloc ?_ _)); done))).mono ?_); rintro _ _ ⟨rfl, p, rfl⟩) | ((with_reducible refine wp_region_later (by kernel_rfl) (by kernel_rfl) ?_); (repeat (first | go_big_quiet_skip | quiet_step ((first | (go_at_call 41; first | exact calls_later (gives_b HQ.out (c_EqualRecord _ _ _ _ _ _ _ _ _ HN.out HM.out hn2 hm2 (by (repeat (first | with_reducible exact HA.out | with_reducible refine Row.later ?_ _ | with_reducible refine Row.alloc ?_ _)); done) (by (repeat (first | with_reducible exact HB.out | with_reducible refine Row.later ?_ _ | with_reducible refine Row.alloc ?_ _)); done))) | exact calls_later2 (gives_b HQ.out (c_EqualRecord _ _ _ _ _ _ _ _ _ HN.out HM.out hn2 hm2 (by (repeat (first | with_reducible exact HA.out | with_reducible refine Row.later ?_ _ | with_reducible refine Row.alloc ?_ _)); done) (by (repeat (first | with_reducible exact HB.out | with_reducible refine Row.later ?_ _ | with_reducible refine Row.alloc ?_ _)); done)))))))); refine wpQuiet_nil ?_; rintro _ ⟨p, rfl⟩))
          go_ret
          exact Gives.mk (by first | rfl | (simp [*]; done) | (simp; omega)) (by (repeat (first | with_reducible exact Below.refl _ _ | with_reducible assumption | with_reducible refine Below.drew ?_ | with_reducible refine below_drewN ?_ _ | with_reducible exact HQ.out | with_reducible exact HBW.out | with_reducible refine below_ext ?_ _ _ | with_reducible refine below_then_later ?_ (by first | with_reducible exact Nat.le_refl _ | with_reducible exact HBW.out.size | with_reducible exact HQ.out.size | omega | (simp; done) | (simp; omega) | (simp [later_size]; done) | (simp [later_size]; omega)) _ | with_reducible refine Below.setCell ?_ (by first | with_reducible exact Nat.le_refl _ | with_reducible exact HBW.out.size | with_reducible exact HQ.out.size | omega | (simp; done) | (simp; omega) | (simp [later_size]; done) | (simp [later_size]; omega)) _ | with_reducible refine Below.alloc ?_ (by first | with_reducible exact Nat.le_refl _ | with_reducible exact HBW.out.size | with_reducible exact HQ.out.size | omega | (simp; done) | (simp; omega) | (simp [later_size]; done) | (simp [later_size]; omega)) _)))
      · skip
        have hz : z = false := by rw [← HZ.out]; simp [hcr]
        subst hz
        clear HZ
        go_enter Try.func24, Try.ntmps24
        go_wp2_with (first | (go_at_call 41; (refine (gives_b HQ.out (c_EqualRecord _ _ _ _ _ _ _ _ _ HN.out HM.out hn2 hm2 (by (repeat (first | with_reducible exact HA.out | with_reducible refine Row.later ?_ _ | with_reducible refine Row.alloc ?_ _)); done) (by (repeat (first | with_reducible exact HB.out | with_reducible refine Row.later ?_ _ | with_reducible refine Row.alloc ?_ _)); done))).mono ?_); rintro _ _ ⟨rfl, p, rfl⟩) | ((with_reducible refine wp_region_later (by kernel_rfl) (by kernel_rfl) ?_); (repeat (first | go_big_quiet_skip | quiet_step ((first | (go_at_call 41; first | exact calls_later (gives_b HQ.out (c_EqualRecord _ _ _ _ _ _ _ _ _ HN.out HM.out hn2 hm2 (by (repeat (first | with_reducible exact HA.out | with_reducible refine Row.later ?_ _ | with_reducible refine Row.alloc ?_ _)); done) (by (repeat (first | with_reducible exact HB.out | with_reducible refine Row.later ?_ _ | with_reducible refine Row.alloc ?_ _)); done))) | exact calls_later2 (gives_b HQ.out (c_EqualRecord _ _ _ _ _ _ _ _ _ HN.out HM.out hn2 hm2 (by (repeat (first | with_reducible exact HA.out | with_reducible refine Row.later ?_ _ | with_reducible refine Row.alloc ?_ _)); done) (by (repeat (first | with_reducible exact HB.out | with_reducible refine Row.later ?_ _ | with_reducible refine Row.alloc ?_ _)); done)))))))); refine wpQuiet_nil ?_; rintro _ ⟨p, rfl⟩))
        go_ret
        exact Gives.mk (by first | rfl | (simp [*]; done) | (simp; omega)) (by (repeat (first | with_reducible exact Below.refl _ _ | with_reducible assumption | with_reducible refine Below.drew ?_ | with_reducible refine below_drewN ?_ _ | with_reducible exact HQ.out | with_reducible exact HBW.out | with_reducible refine below_ext ?_ _ _ | with_reducible refine below_then_later ?_ (by first | with_reducible exact Nat.le_refl _ | with_reducible exact HBW.out.size | with_reducible exact HQ.out.size | omega | (simp; done) | (simp; omega) | (simp [later_size]; done) | (simp [later_size]; omega)) _ | with_reducible refine Below.setCell ?_ (by first | with_reducible exact Nat.le_refl _ | with_reducible exact HBW.out.size | with_reducible exact HQ.out.size | omega | (simp; done) | (simp; omega) | (simp [later_size]; done) | (simp [later_size]; omega)) _ | with_reducible refine Below.alloc ?_ (by first | with_reducible exact Nat.le_refl _ | with_reducible exact HBW.out.size | with_reducible exact HQ.out.size | omega | (simp; done) | (simp; omega) | (simp [later_size]; done) | (simp [later_size]; omega)) _)))
    · have HQ := Lib.hid (show decide (xs = ys) = false by simpa using hq)
      have hz : z = false := by rw [← HZ.out]; simp [hq]
      clear hq
      subst hz
      clear HZ
      go_enter Try.func24, Try.ntmps24
      go_wp2_with (first | (go_at_call 41; (refine (gives_b HQ.out (c_EqualRecord _ _ _ _ _ _ _ _ _ HN.out HM.out hn2 hm2 (by (repeat (first | with_reducible exact HA.out | with_reducible refine Row.later ?_ _ | with_reducible refine Row.alloc ?_ _)); done) (by (repeat (first | with_reducible exact HB.out | with_reducible refine Row.later ?_ _ | with_reducible refine Row.alloc ?_ _)); done))).mono ?_); rintro _ _ ⟨rfl, p, rfl⟩) | ((with_reducible refine wp_region_later (by kernel_rfl) (by kernel_rfl) ?_); (repeat (first | go_big_quiet_skip | quiet_step ((first | (go_at_call 41; first | exact calls_later (gives_b HQ.out (c_EqualRecord _ _ _ _ _ _ _ _ _ HN.out HM.out hn2 hm2 (by (repeat (first | with_reducible exact HA.out | with_reducible refine Row.later ?_ _ | with_reducible refine Row.alloc ?_ _)); done) (by (repeat (first | with_reducible exact HB.out | with_reducible refine Row.later ?_ _ | with_reducible refine Row.alloc ?_ _)); done))) | exact calls_later2 (gives_b HQ.out (c_EqualRecord _ _ _ _ _ _ _ _ _ HN.out HM.out hn2 hm2 (by (repeat (first | with_reducible exact HA.out | with_reducible refine Row.later ?_ _ | with_reducible refine Row.alloc ?_ _)); done) (by (repeat (first | with_reducible exact HB.out | with_reducible refine Row.later ?_ _ | with_reducible refine Row.alloc ?_ _)); done)))))))); refine wpQuiet_nil ?_; rintro _ ⟨p, rfl⟩))
      go_ret
      exact Gives.mk (by first | rfl | (simp [*]; done) | (simp; omega)) (by (repeat (first | with_reducible exact Below.refl _ _ | with_reducible assumption | with_reducible refine Below.drew ?_ | with_reducible refine below_drewN ?_ _ | with_reducible exact HQ.out | with_reducible exact HBW.out | with_reducible refine below_ext ?_ _ _ | with_reducible refine below_then_later ?_ (by first | with_reducible exact Nat.le_refl _ | with_reducible exact HBW.out.size | with_reducible exact HQ.out.size | omega | (simp; done) | (simp; omega) | (simp [later_size]; done) | (simp [later_size]; omega)) _ | with_reducible refine Below.setCell ?_ (by first | with_reducible exact Nat.le_refl _ | with_reducible exact HBW.out.size | with_reducible exact HQ.out.size | omega | (simp; done) | (simp; omega) | (simp [later_size]; done) | (simp [later_size]; omega)) _ | with_reducible refine Below.alloc ?_ (by first | with_reducible exact Nat.le_refl _ | with_reducible exact HBW.out.size | with_reducible exact HQ.out.size | omega | (simp; done) | (simp; omega) | (simp [later_size]; done) | (simp [later_size]; omega)) _)))
  · skip
    have hz : z = false := by rw [← HZ.out]; simp [hcap]
    subst hz
    clear HZ
    go_enter Try.func24, Try.ntmps24
    go_wp2_with (first | (go_at_call 41; (refine (gives_b HQ.out (c_EqualRecord _ _ _ _ _ _ _ _ _ HN.out HM.out hn2 hm2 (by (repeat (first | with_reducible exact HA.out | with_reducible refine Row.later ?_ _ | with_reducible refine Row.alloc ?_ _)); done) (by (repeat (first | with_reducible exact HB.out | with_reducible refine Row.later ?_ _ | with_reducible refine Row.alloc ?_ _)); done))).mono ?_); rintro _ _ ⟨rfl, p, rfl⟩) | ((with_reducible refine wp_region_later (by kernel_rfl) (by kernel_rfl) ?_); (repeat (first | go_big_quiet_skip | quiet_step ((first | (go_at_call 41; first | exact calls_later (gives_b HQ.out (c_EqualRecord _ _ _ _ _ _ _ _ _ HN.out HM.out hn2 hm2 (by (repeat (first | with_reducible exact HA.out | with_reducible refine Row.later ?_ _ | with_reducible refine Row.alloc ?_ _)); done) (by (repeat (first | with_reducible exact HB.out | with_reducible refine Row.later ?_ _ | with_reducible refine Row.alloc ?_ _)); done))) | exact calls_later2 (gives_b HQ.out (c_EqualRecord _ _ _ _ _ _ _ _ _ HN.out HM.out hn2 hm2 (by (repeat (first | with_reducible exact HA.out | with_reducible refine Row.later ?_ _ | with_reducible refine Row.alloc ?_ _)); done) (by (repeat (first | with_reducible exact HB.out | with_reducible refine Row.later ?_ _ | with_reducible refine Row.alloc ?_ _)); done)))))))); refine wpQuiet_nil ?_; rintro _ ⟨p, rfl⟩))
    go_ret
    exact Gives.mk (by first | rfl | (simp [*]; done) | (simp; omega)) (by (repeat (first | with_reducible exact Below.refl _ _ | with_reducible assumption | with_reducible refine Below.drew ?_ | with_reducible refine below_drewN ?_ _ | with_reducible exact HQ.out | with_reducible exact HBW.out | with_reducible refine below_ext ?_ _ _ | with_reducible refine below_then_later ?_ (by first | with_reducible exact Nat.le_refl _ | with_reducible exact HBW.out.size | with_reducible exact HQ.out.size | omega | (simp; done) | (simp; omega) | (simp [later_size]; done) | (simp [later_size]; omega)) _ | with_reducible refine Below.setCell ?_ (by first | with_reducible exact Nat.le_refl _ | with_reducible exact HBW.out.size | with_reducible exact HQ.out.size | omega | (simp; done) | (simp; omega) | (simp [later_size]; done) | (simp [later_size]; omega)) _ | with_reducible refine Below.alloc ?_ (by first | with_reducible exact Nat.le_refl _ | with_reducible exact HBW.out.size | with_reducible exact HQ.out.size | omega | (simp; done) | (simp; omega) | (simp [later_size]; done) | (simp [later_size]; omega)) _)))
set_option maxHeartbeats 400000 in
theorem c_iLinkNew (k : Int) (w : World) : Calls Try.prog 7 #[.int .i64 k] w (Gives (.agg #[.int .i64 (brought k 1 4), .slice Option.none 0 0, .int .i64 (brought k 1 4), .int .i64 0, .int .i64 0, .int .i64 0]) w) := by
  go_enter Try.func7, Try.ntmps7
  go_wp2_with (first | (go_at_call 27; (refine (c_iBrought _ _ _ _).mono ?_); rintro _ _ ⟨rfl, p, rfl⟩) | ((with_reducible refine wp_region_later (by kernel_rfl) (by kernel_rfl) ?_); (repeat (first | go_big_quiet_skip | quiet_step ((first | (go_at_call 27; first | exact calls_later (c_iBrought _ _ _ _) | exact calls_later2 (c_iBrought _ _ _ _)))))); refine wpQuiet_nil ?_; rintro _ ⟨p, rfl⟩))
  refine bodyPost_ret (v := .agg #[.int .i64 (brought k 1 4), .slice Option.none 0 0, .int .i64 (brought k 1 4), .int .i64 0, .int .i64 0, .int .i64 0]) (by simp [results, Try.results7, go_sem]) rfl (Gives.mk rfl ?_)
  (repeat (first | with_reducible exact Below.refl _ _ | with_reducible assumption | with_reducible refine Below.drew ?_ | with_reducible refine below_drewN ?_ _ | with_reducible exact HQ.out | with_reducible exact HBW.out | with_reducible refine below_ext ?_ _ _ | with_reducible refine below_then_later ?_ (by first | with_reducible exact Nat.le_refl _ | with_reducible exact HBW.out.size | with_reducible exact HQ.out.size | omega | (simp; done) | (simp; omega) | (simp [later_size]; done) | (simp [later_size]; omega)) _ | with_reducible refine Below.setCell ?_ (by first | with_reducible exact Nat.le_refl _ | with_reducible exact HBW.out.size | with_reducible exact HQ.out.size | omega | (simp; done) | (simp; omega) | (simp [later_size]; done) | (simp [later_size]; omega)) _ | with_reducible refine Below.alloc ?_ (by first | with_reducible exact Nat.le_refl _ | with_reducible exact HBW.out.size | with_reducible exact HQ.out.size | omega | (simp; done) | (simp; omega) | (simp [later_size]; done) | (simp [later_size]; omega)) _))
set_option maxHeartbeats 400000 in
theorem c_sLinkNew (k : Int) (w : World) : Calls Try.prog 51 #[.int .i64 k] w (Gives (.agg #[.int .i64 (brought k 1 4), .slice Option.none 0 0, .int .i64 (brought k 1 4), .int .i64 0, .int .i64 0, .int .i64 0]) w) := by
  go_enter Try.func51, Try.ntmps51
  go_wp2_with (first | (go_at_call 53; (refine (c_sBrought _ _ _ _).mono ?_); rintro _ _ ⟨rfl, p, rfl⟩) | ((with_reducible refine wp_region_later (by kernel_rfl) (by kernel_rfl) ?_); (repeat (first | go_big_quiet_skip | quiet_step ((first | (go_at_call 53; first | exact calls_later (c_sBrought _ _ _ _) | exact calls_later2 (c_sBrought _ _ _ _)))))); refine wpQuiet_nil ?_; rintro _ ⟨p, rfl⟩))
  refine bodyPost_ret (v := .agg #[.int .i64 (brought k 1 4), .slice Option.none 0 0, .int .i64 (brought k 1 4), .int .i64 0, .int .i64 0, .int .i64 0]) (by simp [results, Try.results51, go_sem]) rfl (Gives.mk rfl ?_)
  (repeat (first | with_reducible exact Below.refl _ _ | with_reducible assumption | with_reducible refine Below.drew ?_ | with_reducible refine below_drewN ?_ _ | with_reducible exact HQ.out | with_reducible exact HBW.out | with_reducible refine below_ext ?_ _ _ | with_reducible refine below_then_later ?_ (by first | with_reducible exact Nat.le_refl _ | with_reducible exact HBW.out.size | with_reducible exact HQ.out.size | omega | (simp; done) | (simp; omega) | (simp [later_size]; done) | (simp [later_size]; omega)) _ | with_reducible refine Below.setCell ?_ (by first | with_reducible exact Nat.le_refl _ | with_reducible exact HBW.out.size | with_reducible exact HQ.out.size | omega | (simp; done) | (simp; omega) | (simp [later_size]; done) | (simp [later_size]; omega)) _ | with_reducible refine Below.alloc ?_ (by first | with_reducible exact Nat.le_refl _ | with_reducible exact HBW.out.size | with_reducible exact HQ.out.size | omega | (simp; done) | (simp; omega) | (simp [later_size]; done) | (simp [later_size]; omega)) _))
def rcOkT (x : Int × (Int × Int) × Int × Int) : Bool := rcOk x.1 x.2.1.1 x.2.1.2 x.2.2.1 x.2.2.2
def rcBad (x : Int × (Int × Int) × Int × Int) : Bool := !rcOkT x
def lkNum (cap cr bk st gt n : Int) : Bool := decide ((1 ≤ cap ∧ cap ≤ 4) ∧ (0 ≤ cr ∧ cr ≤ cap) ∧ (0 ≤ bk ∧ bk ≤ cap) ∧ cr + bk + n = cap ∧ (0 ≤ st ∧ st ≤ 1000000000) ∧ 0 ≤ gt ∧ st - gt = n)
def lkOk (cap cr bk st gt : Int) (xs : List (Int × (Int × Int) × Int × Int)) : Bool := lkNum cap cr bk st gt xs.length && !xs.any rcBad
theorem c_iRecordOk_b (o a b k v : Int) (w : World) (z : Bool) (h : rcOk o a b k v = z) : Calls Try.prog 29 #[.agg #[.int .i64 o, .int .i64 a, .int .i64 b, .int .i64 k, .int .i64 v]] w (Gives (.bool z) w) := by
  subst h; exact c_iRecordOk o a b k v w
theorem c_sRecordOk_b (o a b k v : Int) (w : World) (z : Bool) (h : rcOk o a b k v = z) : Calls Try.prog 30 #[.agg #[.int .i64 o, .int .i64 a, .int .i64 b, .int .i64 k, .int .i64 v]] w (Gives (.bool z) w) := by
  subst h; exact c_sRecordOk o a b k v w
set_option maxHeartbeats 1600000 in
theorem c_allRecordsOk (A : Option Addr) (n c : Nat) (xs : List (Int × (Int × Int) × Int × Int)) (w : World) (hn : xs.length = n) (hn2 : n ≤ 9223372036854775807)
    (ha : Row encR 5 w A xs) : Calls Try.prog 37 #[.slice A n c] w (Gives (.bool (!xs.any rcBad)) w) := by
  have HA := Lib.hid ha
  have HN := Lib.hid hn
  clear ha hn
  go_enter Try.func37, Try.ntmps37
  go_wp2_with fail
  go_loopw [4, 7] (fun _ s0 wr => ∃ k : Nat, s0 = .int .i64 k ∧ k ≤ n ∧ (xs.take k).any rcBad = false ∧ ∃ p : Later, wr = later w p) (fun _ s0 _ => n - (intOf s0).toNat)
  case atStart => exact ⟨0, rfl, by omega, by simp, later_refl _⟩
  case round =>
    obtain ⟨k, rfl, hk, hT, p, rfl⟩ := hrel
    have HT := Lib.hid hT
    clear hT
    by_cases hlt : k < n
    · obtain ⟨x, hx⟩ : ∃ x, xs[k]? = some x := ⟨_, List.getElem?_eq_getElem (by rw [HN.out]; exact hlt)⟩
      obtain ⟨b, off, rfl, hcx⟩ := HA.out.at_ hx
      have HX := Lib.hid hx
      have hbl := World.block_lt_of_cell? _ _ (hcx 0 _ rfl)
      simp only at hbl
      have hble := Nat.le_of_lt hbl
      obtain ⟨x1, ⟨x2, x3⟩, x4, x5⟩ := x
      have hx0 := hcx 0 _ rfl
      have hx1 := hcx 1 _ rfl
      have hx2 := hcx 2 _ rfl
      have hx3 := hcx 3 _ rfl
      have hx4 := hcx 4 _ rfl
      clear hcx hx
      simp only [Nat.add_zero] at *
      cases he : rcOk x1 x2 x3 x4 x5
      · have HE := Lib.hid he
        clear he
        go_wp2_with (first | (go_at_call 29; (refine (c_iRecordOk_b _ _ _ _ _ _ _ HE.out).mono ?_); rintro _ _ ⟨rfl, p, rfl⟩) | ((with_reducible refine wp_region_later (by kernel_rfl) (by kernel_rfl) ?_); (repeat (first | go_big_quiet_skip | quiet_step ((first | (go_at_call 29; first | exact calls_later (c_iRecordOk_b _ _ _ _ _ _ _ HE.out) | exact calls_later2 (c_iRecordOk_b _ _ _ _ _ _ _ HE.out)))))); refine wpQuiet_nil ?_; rintro _ ⟨p, rfl⟩))
        all_goals
          go_ret
          exact Gives.mk (by exact ret_bool (by rw [any_hit HX.out (by simp [rcBad, rcOkT, HE.out])]; rfl)) (by (repeat (first | with_reducible exact Below.refl _ _ | with_reducible assumption | with_reducible refine Below.drew ?_ | with_reducible refine below_drewN ?_ _ | with_reducible exact HQ.out | with_reducible exact HBW.out | with_reducible refine below_ext ?_ _ _ | with_reducible refine below_then_later ?_ (by first | with_reducible exact Nat.le_refl _ | with_reducible exact HBW.out.size | with_reducible exact HQ.out.size | omega | (simp; done) | (simp; omega) | (simp [later_size]; done) | (simp [later_size]; omega)) _ | with_reducible refine Below.setCell ?_ (by first | with_reducible exact Nat.le_refl _ | with_reducible exact HBW.out.size | with_reducible exact HQ.out.size | omega | (simp; done) | (simp; omega) | (simp [later_size]; done) | (simp [later_size]; omega)) _ | with_reducible refine Below.alloc ?_ (by first | with_reducible exact Nat.le_refl _ | with_reducible exact HBW.out.size | with_reducible exact HQ.out.size | omega | (simp; done) | (simp; omega) | (simp [later_size]; done) | (simp [later_size]; omega)) _)))
      · have HE := Lib.hid he
        clear he
        go_wp2_with (first | (go_at_call 29; (refine (c_iRecordOk_b _ _ _ _ _ _ _ HE.out).mono ?_); rintro _ _ ⟨rfl, p, rfl⟩) | ((with_reducible refine wp_region_later (by kernel_rfl) (by kernel_rfl) ?_); (repeat (first | go_big_quiet_skip | quiet_step ((first | (go_at_call 29; first | exact calls_later (c_iRecordOk_b _ _ _ _ _ _ _ HE.out) | exact calls_later2 (c_iRecordOk_b _ _ _ _ _ _ _ HE.out)))))); refine wpQuiet_nil ?_; rintro _ ⟨p, rfl⟩))
        all_goals
          go_roundw
          case rel => exact ⟨k + 1, by go_num, by omega, any_succ HT.out HX.out (by simp [rcBad, rcOkT, HE.out]), later_of_below (by (repeat (first | with_reducible exact Below.refl _ _ | with_reducible assumption | with_reducible refine Below.drew ?_ | with_reducible refine below_drewN ?_ _ | with_reducible exact HQ.out | with_reducible exact HBW.out | with_reducible refine below_ext ?_ _ _ | with_reducible refine below_then_later ?_ (by first | with_reducible exact Nat.le_refl _ | with_reducible exact HBW.out.size | with_reducible exact HQ.out.size | omega | (simp; done) | (simp; omega) | (simp [later_size]; done) | (simp [later_size]; omega)) _ | with_reducible refine Below.setCell ?_ (by first | with_reducible exact Nat.le_refl _ | with_reducible exact HBW.out.size | with_reducible exact HQ.out.size | omega | (simp; done) | (simp; omega) | (simp [later_size]; done) | (simp [later_size]; omega)) _ | with_reducible refine Below.alloc ?_ (by first | with_reducible exact Nat.le_refl _ | with_reducible exact HBW.out.size | with_reducible exact HQ.out.size | omega | (simp; done) | (simp; omega) | (simp [later_size]; done) | (simp [later_size]; omega)) _)))⟩
          case measure => simp [intOf]; omega
    · have hkn : k = n := by omega
      have HE := Lib.hid (any_end (hkn ▸ HT.out) HN.out)
      clear hkn
      go_wp2_with (first | ((with_reducible refine wp_region_later (by kernel_rfl) (by kernel_rfl) ?_); (repeat (first | go_big_quiet_skip | quiet_step ((fail)))); refine wpQuiet_nil ?_; rintro _ ⟨p, rfl⟩))
      all_goals
        go_ret
        exact Gives.mk (by exact ret_bool (by rw [HE.out]; rfl)) (by (repeat (first | with_reducible exact Below.refl _ _ | with_reducible assumption | with_reducible refine Below.drew ?_ | with_reducible refine below_drewN ?_ _ | with_reducible exact HQ.out | with_reducible exact HBW.out | with_reducible refine below_ext ?_ _ _ | with_reducible refine below_then_later ?_ (by first | with_reducible exact Nat.le_refl _ | with_reducible exact HBW.out.size | with_reducible exact HQ.out.size | omega | (simp; done) | (simp; omega) | (simp [later_size]; done) | (simp [later_size]; omega)) _ | with_reducible refine Below.setCell ?_ (by first | with_reducible exact Nat.le_refl _ | with_reducible exact HBW.out.size | with_reducible exact HQ.out.size | omega | (simp; done) | (simp; omega) | (simp [later_size]; done) | (simp [later_size]; omega)) _ | with_reducible refine Below.alloc ?_ (by first | with_reducible exact Nat.le_refl _ | with_reducible exact HBW.out.size | with_reducible exact HQ.out.size | omega | (simp; done) | (simp; omega) | (simp [later_size]; done) | (simp [later_size]; omega)) _)))
set_option maxHeartbeats 6400000 in
theorem c_iLinkOk (cap cr bk st gt : Int) (A : Option Addr) (n c : Nat) (xs : List (Int × (Int × Int) × Int × Int)) (w : World) (z : Bool) (hn : xs.length = n) (hn2 : n ≤ 1099511627776) (hcr : I64 cr) (hbk : I64 bk) (hst : I64 st) (hgt : I64 gt)
    (ha : Row encR 5 w A xs) (hz : lkOk cap cr bk st gt xs = z) : Calls Try.prog 15 #[.agg #[.int .i64 cap, .slice A n c, .int .i64 cr, .int .i64 bk, .int .i64 st, .int .i64 gt]] w (Gives (.bool z) w) := by
  have HA := Lib.hid ha
  have HN := Lib.hid hn
  have HZ := Lib.hid hz
  clear ha hn hz
  unfold I64 at hcr hbk hst hgt
  by_cases h0 : 1 ≤ cap ∧ cap ≤ 4
  · skip
    by_cases h1 : 0 ≤ cr ∧ cr ≤ cap
    · skip
      by_cases h2 : 0 ≤ bk ∧ bk ≤ cap
      · skip
        by_cases h3 : cr + bk + (n : Int) = cap
        · subst cap
          by_cases h4 : 0 ≤ st ∧ st ≤ 1000000000
          · skip
            by_cases h5 : 0 ≤ gt
            · skip
              by_cases h6 : st - gt = (n : Int)
              · obtain rfl : gt = st - n := by omega
                have hz : z = (!xs.any rcBad) := by
                  rw [← HZ.out]
                  unfold lkOk lkNum
                  rw [HN.out, decide_eq_true (by omega), Bool.true_and]
                have HZ2 := Lib.hid hz
                clear hz HZ
                go_enter Try.func15, Try.ntmps15
                go_wp2_with (first | (go_at_call 36; (first | (refine (c_within_t _ _ _ _ (by omega)).mono ?_) | (refine (c_within_f _ _ _ _ (by omega)).mono ?_)); rintro _ _ ⟨rfl, p, rfl⟩) | (go_at_call 37; (refine (gives_b HZ2.out.symm (c_allRecordsOk _ _ _ xs _ HN.out (by omega) (by (repeat (first | with_reducible exact HA.out | with_reducible refine Row.later ?_ _ | with_reducible refine Row.alloc ?_ _)); done))).mono ?_); rintro _ _ ⟨rfl, p, rfl⟩) | ((with_reducible refine wp_region_later (by kernel_rfl) (by kernel_rfl) ?_); (repeat (first | go_big_quiet_skip | quiet_step ((first | (go_at_call 36; first | exact calls_later (c_within_t _ _ _ _ (by omega)) | exact calls_later2 (c_within_t _ _ _ _ (by omega)) | exact calls_later (c_within_f _ _ _ _ (by omega)) | exact calls_later2 (c_within_f _ _ _ _ (by omega))) | (go_at_call 37; first | exact calls_later (gives_b HZ2.out.symm (c_allRecordsOk _ _ _ xs _ HN.out (by omega) (by (repeat (first | with_reducible exact HA.out | with_reducible refine Row.later ?_ _ | with_reducible refine Row.alloc ?_ _)); done))) | exact calls_later2 (gives_b HZ2.out.symm (c_allRecordsOk _ _ _ xs _ HN.out (by omega) (by (repeat (first | with_reducible exact HA.out | with_reducible refine Row.later ?_ _ | with_reducible refine Row.alloc ?_ _)); done)))))))); refine wpQuiet_nil ?_; rintro _ ⟨p, rfl⟩))
                go_ret
                exact Gives.mk rfl (by (repeat (first | with_reducible exact Below.refl _ _ | with_reducible assumption | with_reducible refine Below.drew ?_ | with_reducible refine below_drewN ?_ _ | with_reducible exact HQ.out | with_reducible exact HBW.out | with_reducible refine below_ext ?_ _ _ | with_reducible refine below_then_later ?_ (by first | with_reducible exact Nat.le_refl _ | with_reducible exact HBW.out.size | with_reducible exact HQ.out.size | omega | (simp; done) | (simp; omega) | (simp [later_size]; done) | (simp [later_size]; omega)) _ | with_reducible refine Below.setCell ?_ (by first | with_reducible exact Nat.le_refl _ | with_reducible exact HBW.out.size | with_reducible exact HQ.out.size | omega | (simp; done) | (simp; omega) | (simp [later_size]; done) | (simp [later_size]; omega)) _ | with_reducible refine Below.alloc ?_ (by first | with_reducible exact Nat.le_refl _ | with_reducible exact HBW.out.size | with_reducible exact HQ.out.size | omega | (simp; done) | (simp; omega) | (simp [later_size]; done) | (simp [later_size]; omega)) _)))
              · have hb6 : (st - gt != (n : Int)) = true := by simpa using h6
                have hz : z = false := by
                  rw [← HZ.out]
                  unfold lkOk lkNum
                  rw [HN.out, decide_eq_false (fun h => h6 h.2.2.2.2.2.2), Bool.false_and]
                subst hz
                clear HZ
                go_enter Try.func15, Try.ntmps15
                go_wp2_with (first | (go_at_call 36; (first | (refine (c_within_t _ _ _ _ (by omega)).mono ?_) | (refine (c_within_f _ _ _ _ (by omega)).mono ?_)); rintro _ _ ⟨rfl, p, rfl⟩) | ((with_reducible refine wp_region_later (by kernel_rfl) (by kernel_rfl) ?_); (repeat (first | go_big_quiet_skip | quiet_step ((first | (go_at_call 36; first | exact calls_later (c_within_t _ _ _ _ (by omega)) | exact calls_later2 (c_within_t _ _ _ _ (by omega)) | exact calls_later (c_within_f _ _ _ _ (by omega)) | exact calls_later2 (c_within_f _ _ _ _ (by omega))))))); refine wpQuiet_nil ?_; rintro _ ⟨p, rfl⟩))
                go_ret
                exact Gives.mk rfl (by (repeat (first | with_reducible exact Below.refl _ _ | with_reducible assumption | with_reducible refine Below.drew ?_ | with_reducible refine below_drewN ?_ _ | with_reducible exact HQ.out | with_reducible exact HBW.out | with_reducible refine below_ext ?_ _ _ | with_reducible refine below_then_later ?_ (by first | with_reducible exact Nat.le_refl _ | with_reducible exact HBW.out.size | with_reducible exact HQ.out.size | omega | (simp; done) | (simp; omega) | (simp [later_size]; done) | (simp [later_size]; omega)) _ | with_reducible refine Below.setCell ?_ (by first | with_reducible exact Nat.le_refl _ | with_reducible exact HBW.out.size | with_reducible exact HQ.out.size | omega | (simp; done) | (simp; omega) | (simp [later_size]; done) | (simp [later_size]; omega)) _ | with_reducible refine Below.alloc ?_ (by first | with_reducible exact Nat.le_refl _ | with_reducible exact HBW.out.size | with_reducible exact HQ.out.size | omega | (simp; done) | (simp; omega) | (simp [later_size]; done) | (simp [later_size]; omega)) _)))
            · skip
              have hz : z = false := by
                rw [← HZ.out]
                unfold lkOk lkNum
                rw [HN.out, decide_eq_false (fun h => h5 h.2.2.2.2.2.1), Bool.false_and]
              subst hz
              clear HZ
              go_enter Try.func15, Try.ntmps15
              go_wp2_with (first | (go_at_call 36; (first | (refine (c_within_t _ _ _ _ (by omega)).mono ?_) | (refine (c_within_f _ _ _ _ (by omega)).mono ?_)); rintro _ _ ⟨rfl, p, rfl⟩) | ((with_reducible refine wp_region_later (by kernel_rfl) (by kernel_rfl) ?_); (repeat (first | go_big_quiet_skip | quiet_step ((first | (go_at_call 36; first | exact calls_later (c_within_t _ _ _ _ (by omega)) | exact calls_later2 (c_within_t _ _ _ _ (by omega)) | exact calls_later (c_within_f _ _ _ _ (by omega)) | exact calls_later2 (c_within_f _ _ _ _ (by omega))))))); refine wpQuiet_nil ?_; rintro _ ⟨p, rfl⟩))
              go_ret
              exact Gives.mk rfl (by (repeat (first | with_reducible exact Below.refl _ _ | with_reducible assumption | with_reducible refine Below.drew ?_ | with_reducible refine below_drewN ?_ _ | with_reducible exact HQ.out | with_reducible exact HBW.out | with_reducible refine below_ext ?_ _ _ | with_reducible refine below_then_later ?_ (by first | with_reducible exact Nat.le_refl _ | with_reducible exact HBW.out.size | with_reducible exact HQ.out.size | omega | (simp; done) | (simp; omega) | (simp [later_size]; done) | (simp [later_size]; omega)) _ | with_reducible refine Below.setCell ?_ (by first | with_reducible exact Nat.le_refl _ | with_reducible exact HBW.out.size | with_reducible exact HQ.out.size | omega | (simp; done) | (simp; omega) | (simp [later_size]; done) | (simp [later_size]; omega)) _ | with_reducible refine Below.alloc ?_ (by first | with_reducible exact Nat.le_refl _ | with_reducible exact HBW.out.size | with_reducible exact HQ.out.size | omega | (simp; done) | (simp; omega) | (simp [later_size]; done) | (simp [later_size]; omega)) _)))
          · skip
            have hz : z = false := by
              rw [← HZ.out]
              unfold lkOk lkNum
              rw [HN.out, decide_eq_false (fun h => h4 h.2.2.2.2.1), Bool.false_and]
            subst hz
            clear HZ
            go_enter Try.func15, Try.ntmps15
            go_wp2_with (first | (go_at_call 36; (first | (refine (c_within_t _ _ _ _ (by omega)).mono ?_) | (refine (c_within_f _ _ _ _ (by omega)).mono ?_)); rintro _ _ ⟨rfl, p, rfl⟩) | ((with_reducible refine wp_region_later (by kernel_rfl) (by kernel_rfl) ?_); (repeat (first | go_big_quiet_skip | quiet_step ((first | (go_at_call 36; first | exact calls_later (c_within_t _ _ _ _ (by omega)) | exact calls_later2 (c_within_t _ _ _ _ (by omega)) | exact calls_later (c_within_f _ _ _ _ (by omega)) | exact calls_later2 (c_within_f _ _ _ _ (by omega))))))); refine wpQuiet_nil ?_; rintro _ ⟨p, rfl⟩))
            go_ret
            exact Gives.mk rfl (by (repeat (first | with_reducible exact Below.refl _ _ | with_reducible assumption | with_reducible refine Below.drew ?_ | with_reducible refine below_drewN ?_ _ | with_reducible exact HQ.out | with_reducible exact HBW.out | with_reducible refine below_ext ?_ _ _ | with_reducible refine below_then_later ?_ (by first | with_reducible exact Nat.le_refl _ | with_reducible exact HBW.out.size | with_reducible exact HQ.out.size | omega | (simp; done) | (simp; omega) | (simp [later_size]; done) | (simp [later_size]; omega)) _ | with_reducible refine Below.setCell ?_ (by first | with_reducible exact Nat.le_refl _ | with_reducible exact HBW.out.size | with_reducible exact HQ.out.size | omega | (simp; done) | (simp; omega) | (simp [later_size]; done) | (simp [later_size]; omega)) _ | with_reducible refine Below.alloc ?_ (by first | with_reducible exact Nat.le_refl _ | with_reducible exact HBW.out.size | with_reducible exact HQ.out.size | omega | (simp; done) | (simp; omega) | (simp [later_size]; done) | (simp [later_size]; omega)) _)))
        · skip
          have hz : z = false := by
            rw [← HZ.out]
            unfold lkOk lkNum
            rw [HN.out, decide_eq_false (fun h => h3 h.2.2.2.1), Bool.false_and]
          subst hz
          clear HZ
          go_enter Try.func15, Try.ntmps15
          go_wp2_with (first | (go_at_call 36; (first | (refine (c_within_t _ _ _ _ (by omega)).mono ?_) | (refine (c_within_f _ _ _ _ (by omega)).mono ?_)); rintro _ _ ⟨rfl, p, rfl⟩) | ((with_reducible refine wp_region_later (by kernel_rfl) (by kernel_rfl) ?_); (repeat (first | go_big_quiet_skip | quiet_step ((first | (go_at_call 36; first | exact calls_later (c_within_t _ _ _ _ (by omega)) | exact calls_later2 (c_within_t _ _ _ _ (by omega)) | exact calls_later (c_within_f _ _ _ _ (by omega)) | exact calls_later2 (c_within_f _ _ _ _ (by omega))))))); refine wpQuiet_nil ?_; rintro _ ⟨p, rfl⟩))
          go_ret
          exact Gives.mk rfl (by (repeat (first | with_reducible exact Below.refl _ _ | with_reducible assumption | with_reducible refine Below.drew ?_ | with_reducible refine below_drewN ?_ _ | with_reducible exact HQ.out | with_reducible exact HBW.out | with_reducible refine below_ext ?_ _ _ | with_reducible refine below_then_later ?_ (by first | with_reducible exact Nat.le_refl _ | with_reducible exact HBW.out.size | with_reducible exact HQ.out.size | omega | (simp; done) | (simp; omega) | (simp [later_size]; done) | (simp [later_size]; omega)) _ | with_reducible refine Below.setCell ?_ (by first | with_reducible exact Nat.le_refl _ | with_reducible exact HBW.out.size | with_reducible exact HQ.out.size | omega | (simp; done) | (simp; omega) | (simp [later_size]; done) | (simp [later_size]; omega)) _ | with_reducible refine Below.alloc ?_ (by first | with_reducible exact Nat.le_refl _ | with_reducible exact HBW.out.size | with_reducible exact HQ.out.size | omega | (simp; done) | (simp; omega) | (simp [later_size]; done) | (simp [later_size]; omega)) _)))
      · skip
        have hz : z = false := by
          rw [← HZ.out]
          unfold lkOk lkNum
          rw [HN.out, decide_eq_false (fun h => h2 h.2.2.1), Bool.false_and]
        subst hz
        clear HZ
        go_enter Try.func15, Try.ntmps15
        go_wp2_with (first | (go_at_call 36; (first | (refine (c_within_t _ _ _ _ (by omega)).mono ?_) | (refine (c_within_f _ _ _ _ (by omega)).mono ?_)); rintro _ _ ⟨rfl, p, rfl⟩) | ((with_reducible refine wp_region_later (by kernel_rfl) (by kernel_rfl) ?_); (repeat (first | go_big_quiet_skip | quiet_step ((first | (go_at_call 36; first | exact calls_later (c_within_t _ _ _ _ (by omega)) | exact calls_later2 (c_within_t _ _ _ _ (by omega)) | exact calls_later (c_within_f _ _ _ _ (by omega)) | exact calls_later2 (c_within_f _ _ _ _ (by omega))))))); refine wpQuiet_nil ?_; rintro _ ⟨p, rfl⟩))
        go_ret
        exact Gives.mk rfl (by (repeat (first | with_reducible exact Below.refl _ _ | with_reducible assumption | with_reducible refine Below.drew ?_ | with_reducible refine below_drewN ?_ _ | with_reducible exact HQ.out | with_reducible exact HBW.out | with_reducible refine below_ext ?_ _ _ | with_reducible refine below_then_later ?_ (by first | with_reducible exact Nat.le_refl _ | with_reducible exact HBW.out.size | with_reducible exact HQ.out.size | omega | (simp; done) | (simp; omega) | (simp [later_size]; done) | (simp [later_size]; omega)) _ | with_reducible refine Below.setCell ?_ (by first | with_reducible exact Nat.le_refl _ | with_reducible exact HBW.out.size | with_reducible exact HQ.out.size | omega | (simp; done) | (simp; omega) | (simp [later_size]; done) | (simp [later_size]; omega)) _ | with_reducible refine Below.alloc ?_ (by first | with_reducible exact Nat.le_refl _ | with_reducible exact HBW.out.size | with_reducible exact HQ.out.size | omega | (simp; done) | (simp; omega) | (simp [later_size]; done) | (simp [later_size]; omega)) _)))
    · skip
      have hz : z = false := by
        rw [← HZ.out]
        unfold lkOk lkNum
        rw [HN.out, decide_eq_false (fun h => h1 h.2.1), Bool.false_and]
      subst hz
      clear HZ
      go_enter Try.func15, Try.ntmps15
      go_wp2_with (first | (go_at_call 36; (first | (refine (c_within_t _ _ _ _ (by omega)).mono ?_) | (refine (c_within_f _ _ _ _ (by omega)).mono ?_)); rintro _ _ ⟨rfl, p, rfl⟩) | ((with_reducible refine wp_region_later (by kernel_rfl) (by kernel_rfl) ?_); (repeat (first | go_big_quiet_skip | quiet_step ((first | (go_at_call 36; first | exact calls_later (c_within_t _ _ _ _ (by omega)) | exact calls_later2 (c_within_t _ _ _ _ (by omega)) | exact calls_later (c_within_f _ _ _ _ (by omega)) | exact calls_later2 (c_within_f _ _ _ _ (by omega))))))); refine wpQuiet_nil ?_; rintro _ ⟨p, rfl⟩))
      go_ret
      exact Gives.mk rfl (by (repeat (first | with_reducible exact Below.refl _ _ | with_reducible assumption | with_reducible refine Below.drew ?_ | with_reducible refine below_drewN ?_ _ | with_reducible exact HQ.out | with_reducible exact HBW.out | with_reducible refine below_ext ?_ _ _ | with_reducible refine below_then_later ?_ (by first | with_reducible exact Nat.le_refl _ | with_reducible exact HBW.out.size | with_reducible exact HQ.out.size | omega | (simp; done) | (simp; omega) | (simp [later_size]; done) | (simp [later_size]; omega)) _ | with_reducible refine Below.setCell ?_ (by first | with_reducible exact Nat.le_refl _ | with_reducible exact HBW.out.size | with_reducible exact HQ.out.size | omega | (simp; done) | (simp; omega) | (simp [later_size]; done) | (simp [later_size]; omega)) _ | with_reducible refine Below.alloc ?_ (by first | with_reducible exact Nat.le_refl _ | with_reducible exact HBW.out.size | with_reducible exact HQ.out.size | omega | (simp; done) | (simp; omega) | (simp [later_size]; done) | (simp [later_size]; omega)) _)))
  · skip
    have hz : z = false := by
      rw [← HZ.out]
      unfold lkOk lkNum
      rw [HN.out, decide_eq_false (fun h => h0 h.1), Bool.false_and]
    subst hz
    clear HZ
    go_enter Try.func15, Try.ntmps15
    go_wp2_with (first | (go_at_call 36; (first | (refine (c_within_t _ _ _ _ (by omega)).mono ?_) | (refine (c_within_f _ _ _ _ (by omega)).mono ?_)); rintro _ _ ⟨rfl, p, rfl⟩) | ((with_reducible refine wp_region_later (by kernel_rfl) (by kernel_rfl) ?_); (repeat (first | go_big_quiet_skip | quiet_step ((first | (go_at_call 36; first | exact calls_later (c_within_t _ _ _ _ (by omega)) | exact calls_later2 (c_within_t _ _ _ _ (by omega)) | exact calls_later (c_within_f _ _ _ _ (by omega)) | exact calls_later2 (c_within_f _ _ _ _ (by omega))))))); refine wpQuiet_nil ?_; rintro _ ⟨p, rfl⟩))
    go_ret
    exact Gives.mk rfl (by (repeat (first | with_reducible exact Below.refl _ _ | with_reducible assumption | with_reducible refine Below.drew ?_ | with_reducible refine below_drewN ?_ _ | with_reducible exact HQ.out | with_reducible exact HBW.out | with_reducible refine below_ext ?_ _ _ | with_reducible refine below_then_later ?_ (by first | with_reducible exact Nat.le_refl _ | with_reducible exact HBW.out.size | with_reducible exact HQ.out.size | omega | (simp; done) | (simp; omega) | (simp [later_size]; done) | (simp [later_size]; omega)) _ | with_reducible refine Below.setCell ?_ (by first | with_reducible exact Nat.le_refl _ | with_reducible exact HBW.out.size | with_reducible exact HQ.out.size | omega | (simp; done) | (simp; omega) | (simp [later_size]; done) | (simp [later_size]; omega)) _ | with_reducible refine Below.alloc ?_ (by first | with_reducible exact Nat.le_refl _ | with_reducible exact HBW.out.size | with_reducible exact HQ.out.size | omega | (simp; done) | (simp; omega) | (simp [later_size]; done) | (simp [later_size]; omega)) _)))
set_option maxHeartbeats 6400000 in
theorem c_sLinkOk (cap cr bk st gt : Int) (A : Option Addr) (n c : Nat) (xs : List (Int × (Int × Int) × Int × Int)) (w : World) (z : Bool) (hn : xs.length = n) (hn2 : n ≤ 1099511627776) (hcr : I64 cr) (hbk : I64 bk) (hst : I64 st) (hgt : I64 gt)
    (ha : Row encR 5 w A xs) (hz : lkOk cap cr bk st gt xs = z) : Calls Try.prog 11 #[.agg #[.int .i64 cap, .slice A n c, .int .i64 cr, .int .i64 bk, .int .i64 st, .int .i64 gt]] w (Gives (.bool z) w) := by
  have HA := Lib.hid ha
  have HN := Lib.hid hn
  have HZ := Lib.hid hz
  clear ha hn hz
  unfold I64 at hcr hbk hst hgt
  go_enter Try.func11, Try.ntmps11
  go_wp2_with fail
  go_loopw [3] (fun s0 wr => ∃ k : Nat, s0 = .int .i64 k ∧ k ≤ n ∧ (xs.take k).any rcBad = false ∧ ∃ p : Later, wr = later (w.alloc (Obj.cells #[.int .i64 cap, .slice A n c, .int .i64 cr, .int .i64 bk, .int .i64 st, .int .i64 gt] 28)) p) (fun s0 _ => n - (intOf s0).toNat)
  case atStart => exact ⟨0, rfl, by omega, by simp, later_refl _⟩
  case round =>
    obtain ⟨k, rfl, hk, hT, p, rfl⟩ := hrel
    have HT := Lib.hid hT
    clear hT
    by_cases hlt : k < n
    · obtain ⟨x, hx⟩ : ∃ x, xs[k]? = some x := ⟨_, List.getElem?_eq_getElem (by rw [HN.out]; exact hlt)⟩
      obtain ⟨b, off, rfl, hcx⟩ := HA.out.at_ hx
      have HX := Lib.hid hx
      have hbl := World.block_lt_of_cell? _ _ (hcx 0 _ rfl)
      simp only at hbl
      have hble := Nat.le_of_lt hbl
      obtain ⟨x1, ⟨x2, x3⟩, x4, x5⟩ := x
      have hx0 := hcx 0 _ rfl
      have hx1 := hcx 1 _ rfl
      have hx2 := hcx 2 _ rfl
      have hx3 := hcx 3 _ rfl
      have hx4 := hcx 4 _ rfl
      clear hcx hx
      simp only [Nat.add_zero] at *
      cases he : rcOk x1 x2 x3 x4 x5
      · have HE := Lib.hid he
        clear he
        have hz : z = false := by
          rw [← HZ.out]
          unfold lkOk
          rw [any_hit HX.out (by simp [rcBad, rcOkT, HE.out])]
          simp
        subst hz
        clear HZ
        go_wp2_with (first | (go_at_call 30; (refine (c_sRecordOk_b _ _ _ _ _ _ _ HE.out).mono ?_); rintro _ _ ⟨rfl, p, rfl⟩) | ((with_reducible refine wp_region_later (by kernel_rfl) (by kernel_rfl) ?_); (repeat (first | go_big_quiet_skip | quiet_step ((first | (go_at_call 30; first | exact calls_later (c_sRecordOk_b _ _ _ _ _ _ _ HE.out) | exact calls_later2 (c_sRecordOk_b _ _ _ _ _ _ _ HE.out)))))); refine wpQuiet_nil ?_; rintro _ ⟨p, rfl⟩))
        all_goals
          go_ret
          exact Gives.mk rfl (by (repeat (first | with_reducible exact Below.refl _ _ | with_reducible assumption | with_reducible refine Below.drew ?_ | with_reducible refine below_drewN ?_ _ | with_reducible exact HQ.out | with_reducible exact HBW.out | with_reducible refine below_ext ?_ _ _ | with_reducible refine below_then_later ?_ (by first | with_reducible exact Nat.le_refl _ | with_reducible exact HBW.out.size | with_reducible exact HQ.out.size | omega | (simp; done) | (simp; omega) | (simp [later_size]; done) | (simp [later_size]; omega)) _ | with_reducible refine Below.setCell ?_ (by first | with_reducible exact Nat.le_refl _ | with_reducible exact HBW.out.size | with_reducible exact HQ.out.size | omega | (simp; done) | (simp; omega) | (simp [later_size]; done) | (simp [later_size]; omega)) _ | with_reducible refine Below.alloc ?_ (by first | with_reducible exact Nat.le_refl _ | with_reducible exact HBW.out.size | with_reducible exact HQ.out.size | omega | (simp; done) | (simp; omega) | (simp [later_size]; done) | (simp [later_size]; omega)) _)))
      · have HE := Lib.hid he
        clear he
        go_wp2_with (first | (go_at_call 30; (refine (c_sRecordOk_b _ _ _ _ _ _ _ HE.out).mono ?_); rintro _ _ ⟨rfl, p, rfl⟩) | ((with_reducible refine wp_region_later (by kernel_rfl) (by kernel_rfl) ?_); (repeat (first | go_big_quiet_skip | quiet_step ((first | (go_at_call 30; first | exact calls_later (c_sRecordOk_b _ _ _ _ _ _ _ HE.out) | exact calls_later2 (c_sRecordOk_b _ _ _ _ _ _ _ HE.out)))))); refine wpQuiet_nil ?_; rintro _ ⟨p, rfl⟩))
        all_goals
          go_roundw
          case rel => exact ⟨k + 1, by go_num, by omega, any_succ HT.out HX.out (by simp [rcBad, rcOkT, HE.out]), later_of_below (by (repeat (first | with_reducible exact Below.refl _ _ | with_reducible assumption | with_reducible refine Below.drew ?_ | with_reducible refine below_drewN ?_ _ | with_reducible exact HQ.out | with_reducible exact HBW.out | with_reducible refine below_ext ?_ _ _ | with_reducible refine below_then_later ?_ (by first | with_reducible exact Nat.le_refl _ | with_reducible exact HBW.out.size | with_reducible exact HQ.out.size | omega | (simp; done) | (simp; omega) | (simp [later_size]; done) | (simp [later_size]; omega)) _ | with_reducible refine Below.setCell ?_ (by first | with_reducible exact Nat.le_refl _ | with_reducible exact HBW.out.size | with_reducible exact HQ.out.size | omega | (simp; done) | (simp; omega) | (simp [later_size]; done) | (simp [later_size]; omega)) _ | with_reducible refine Below.alloc ?_ (by first | with_reducible exact Nat.le_refl _ | with_reducible exact HBW.out.size | with_reducible exact HQ.out.size | omega | (simp; done) | (simp; omega) | (simp [later_size]; done) | (simp [later_size]; omega)) _)))⟩
          case measure => simp [intOf]; omega
    · have hkn : k = n := by omega
      have HE := Lib.hid (any_end (hkn ▸ HT.out) HN.out)
      clear HT
      subst hkn
      have hsz : (xs.length : Int) = k := by rw [HN.out]
      have HL := Lib.hid hsz
      clear hsz
      by_cases h0 : 1 ≤ cap ∧ cap ≤ 4
      · skip
        by_cases h1 : 0 ≤ cr ∧ cr ≤ cap
        · skip
          by_cases h2 : 0 ≤ bk ∧ bk ≤ cap
          · skip
            by_cases h3 : cr + bk + (k : Int) = cap
            · subst cap
              by_cases h4 : 0 ≤ st ∧ st ≤ 1000000000
              · skip
                by_cases h6 : gt = st - (k : Int)
                · subst gt
                  by_cases h5 : 0 ≤ st - (k : Int)
                  · skip
                    have hz : z = true := by
                      rw [← HZ.out]
                      unfold lkOk lkNum
                      rw [HL.out, decide_eq_true (by omega), HE.out]; rfl
                    subst hz
                    clear HZ
                    go_wp2_with (first | (go_at_call 31; (first | (refine (c_in_t _ _ _ _ (by omega)).mono ?_) | (refine (c_in_f _ _ _ _ (by omega)).mono ?_)); rintro _ _ ⟨rfl, p, rfl⟩) | ((with_reducible refine wp_region_later (by kernel_rfl) (by kernel_rfl) ?_); (repeat (first | go_big_quiet_skip | quiet_step ((first | (go_at_call 31; first | exact calls_later (c_in_t _ _ _ _ (by omega)) | exact calls_later2 (c_in_t _ _ _ _ (by omega)) | exact calls_later (c_in_f _ _ _ _ (by omega)) | exact calls_later2 (c_in_f _ _ _ _ (by omega))))))); refine wpQuiet_nil ?_; rintro _ ⟨p, rfl⟩))
                    go_ret
                    exact Gives.mk (by first | rfl | (simp; done) | (simp; omega)) (by (repeat (first | with_reducible exact Below.refl _ _ | with_reducible assumption | with_reducible refine Below.drew ?_ | with_reducible refine below_drewN ?_ _ | with_reducible exact HQ.out | with_reducible exact HBW.out | with_reducible refine below_ext ?_ _ _ | with_reducible refine below_then_later ?_ (by first | with_reducible exact Nat.le_refl _ | with_reducible exact HBW.out.size | with_reducible exact HQ.out.size | omega | (simp; done) | (simp; omega) | (simp [later_size]; done) | (simp [later_size]; omega)) _ | with_reducible refine Below.setCell ?_ (by first | with_reducible exact Nat.le_refl _ | with_reducible exact HBW.out.size | with_reducible exact HQ.out.size | omega | (simp; done) | (simp; omega) | (simp [later_size]; done) | (simp [later_size]; omega)) _ | with_reducible refine Below.alloc ?_ (by first | with_reducible exact Nat.le_refl _ | with_reducible exact HBW.out.size | with_reducible exact HQ.out.size | omega | (simp; done) | (simp; omega) | (simp [later_size]; done) | (simp [later_size]; omega)) _)))
                  · skip
                    have hz : z = false := by
                      rw [← HZ.out]
                      unfold lkOk lkNum
                      rw [HL.out, decide_eq_false (fun h => h5 h.2.2.2.2.2.1), Bool.false_and]
                    subst hz
                    clear HZ
                    go_wp2_with (first | (go_at_call 31; (first | (refine (c_in_t _ _ _ _ (by omega)).mono ?_) | (refine (c_in_f _ _ _ _ (by omega)).mono ?_)); rintro _ _ ⟨rfl, p, rfl⟩) | ((with_reducible refine wp_region_later (by kernel_rfl) (by kernel_rfl) ?_); (repeat (first | go_big_quiet_skip | quiet_step ((first | (go_at_call 31; first | exact calls_later (c_in_t _ _ _ _ (by omega)) | exact calls_later2 (c_in_t _ _ _ _ (by omega)) | exact calls_later (c_in_f _ _ _ _ (by omega)) | exact calls_later2 (c_in_f _ _ _ _ (by omega))))))); refine wpQuiet_nil ?_; rintro _ ⟨p, rfl⟩))
                    go_ret
                    exact Gives.mk (by first | rfl | (simp; done) | (simp; omega)) (by (repeat (first | with_reducible exact Below.refl _ _ | with_reducible assumption | with_reducible refine Below.drew ?_ | with_reducible refine below_drewN ?_ _ | with_reducible exact HQ.out | with_reducible exact HBW.out | with_reducible refine below_ext ?_ _ _ | with_reducible refine below_then_later ?_ (by first | with_reducible exact Nat.le_refl _ | with_reducible exact HBW.out.size | with_reducible exact HQ.out.size | omega | (simp; done) | (simp; omega) | (simp [later_size]; done) | (simp [later_size]; omega)) _ | with_reducible refine Below.setCell ?_ (by first | with_reducible exact Nat.le_refl _ | with_reducible exact HBW.out.size | with_reducible exact HQ.out.size | omega | (simp; done) | (simp; omega) | (simp [later_size]; done) | (simp [later_size]; omega)) _ | with_reducible refine Below.alloc ?_ (by first | with_reducible exact Nat.le_refl _ | with_reducible exact HBW.out.size | with_reducible exact HQ.out.size | omega | (simp; done) | (simp; omega) | (simp [later_size]; done) | (simp [later_size]; omega)) _)))
                · have hb6 : (gt == st - (k : Int)) = false := by simpa using h6
                  have hz : z = false := by
                    rw [← HZ.out]
                    unfold lkOk lkNum
                    rw [HL.out, decide_eq_false (fun h => h6 (by have := h.2.2.2.2.2.2; omega)), Bool.false_and]
                  subst hz
                  clear HZ
                  go_wp2_with (first | (go_at_call 31; (first | (refine (c_in_t _ _ _ _ (by omega)).mono ?_) | (refine (c_in_f _ _ _ _ (by omega)).mono ?_)); rintro _ _ ⟨rfl, p, rfl⟩) | ((with_reducible refine wp_region_later (by kernel_rfl) (by kernel_rfl) ?_); (repeat (first | go_big_quiet_skip | quiet_step ((first | (go_at_call 31; first | exact calls_later (c_in_t _ _ _ _ (by omega)) | exact calls_later2 (c_in_t _ _ _ _ (by omega)) | exact calls_later (c_in_f _ _ _ _ (by omega)) | exact calls_later2 (c_in_f _ _ _ _ (by omega))))))); refine wpQuiet_nil ?_; rintro _ ⟨p, rfl⟩))
                  go_ret
                  exact Gives.mk (by first | rfl | (simp; done) | (simp; omega)) (by (repeat (first | with_reducible exact Below.refl _ _ | with_reducible assumption | with_reducible refine Below.drew ?_ | with_reducible refine below_drewN ?_ _ | with_reducible exact HQ.out | with_reducible exact HBW.out | with_reducible refine below_ext ?_ _ _ | with_reducible refine below_then_later ?_ (by first | with_reducible exact Nat.le_refl _ | with_reducible exact HBW.out.size | with_reducible exact HQ.out.size | omega | (simp; done) | (simp; omega) | (simp [later_size]; done) | (simp [later_size]; omega)) _ | with_reducible refine Below.setCell ?_ (by first | with_reducible exact Nat.le_refl _ | with_reducible exact HBW.out.size | with_reducible exact HQ.out.size | omega | (simp; done) | (simp; omega) | (simp [later_size]; done) | (simp [later_size]; omega)) _ | with_reducible refine Below.alloc ?_ (by first | with_reducible exact Nat.le_refl _ | with_reducible exact HBW.out.size | with_reducible exact HQ.out.size | omega | (simp; done) | (simp; omega) | (simp [later_size]; done) | (simp [later_size]; omega)) _)))
              · skip
                have hz : z = false := by
                  rw [← HZ.out]
                  unfold lkOk lkNum
                  rw [HL.out, decide_eq_false (fun h => h4 h.2.2.2.2.1), Bool.false_and]
                subst hz
                clear HZ
                go_wp2_with (first | (go_at_call 31; (first | (refine (c_in_t _ _ _ _ (by omega)).mono ?_) | (refine (c_in_f _ _ _ _ (by omega)).mono ?_)); rintro _ _ ⟨rfl, p, rfl⟩) | ((with_reducible refine wp_region_later (by kernel_rfl) (by kernel_rfl) ?_); (repeat (first | go_big_quiet_skip | quiet_step ((first | (go_at_call 31; first | exact calls_later (c_in_t _ _ _ _ (by omega)) | exact calls_later2 (c_in_t _ _ _ _ (by omega)) | exact calls_later (c_in_f _ _ _ _ (by omega)) | exact calls_later2 (c_in_f _ _ _ _ (by omega))))))); refine wpQuiet_nil ?_; rintro _ ⟨p, rfl⟩))
                go_ret
                exact Gives.mk (by first | rfl | (simp; done) | (simp; omega)) (by (repeat (first | with_reducible exact Below.refl _ _ | with_reducible assumption | with_reducible refine Below.drew ?_ | with_reducible refine below_drewN ?_ _ | with_reducible exact HQ.out | with_reducible exact HBW.out | with_reducible refine below_ext ?_ _ _ | with_reducible refine below_then_later ?_ (by first | with_reducible exact Nat.le_refl _ | with_reducible exact HBW.out.size | with_reducible exact HQ.out.size | omega | (simp; done) | (simp; omega) | (simp [later_size]; done) | (simp [later_size]; omega)) _ | with_reducible refine Below.setCell ?_ (by first | with_reducible exact Nat.le_refl _ | with_reducible exact HBW.out.size | with_reducible exact HQ.out.size | omega | (simp; done) | (simp; omega) | (simp [later_size]; done) | (simp [later_size]; omega)) _ | with_reducible refine Below.alloc ?_ (by first | with_reducible exact Nat.le_refl _ | with_reducible exact HBW.out.size | with_reducible exact HQ.out.size | omega | (simp; done) | (simp; omega) | (simp [later_size]; done) | (simp [later_size]; omega)) _)))
            · have hb3 : (cr + bk + (k : Int) == cap) = false := by simpa using h3
              have hz : z = false := by
                rw [← HZ.out]
                unfold lkOk lkNum
                rw [HL.out, decide_eq_false (fun h => h3 h.2.2.2.1), Bool.false_and]
              subst hz
              clear HZ
              go_wp2_with (first | (go_at_call 31; (first | (refine (c_in_t _ _ _ _ (by omega)).mono ?_) | (refine (c_in_f _ _ _ _ (by omega)).mono ?_)); rintro _ _ ⟨rfl, p, rfl⟩) | ((with_reducible refine wp_region_later (by kernel_rfl) (by kernel_rfl) ?_); (repeat (first | go_big_quiet_skip | quiet_step ((first | (go_at_call 31; first | exact calls_later (c_in_t _ _ _ _ (by omega)) | exact calls_later2 (c_in_t _ _ _ _ (by omega)) | exact calls_later (c_in_f _ _ _ _ (by omega)) | exact calls_later2 (c_in_f _ _ _ _ (by omega))))))); refine wpQuiet_nil ?_; rintro _ ⟨p, rfl⟩))
              go_ret
              exact Gives.mk (by first | rfl | (simp; done) | (simp; omega)) (by (repeat (first | with_reducible exact Below.refl _ _ | with_reducible assumption | with_reducible refine Below.drew ?_ | with_reducible refine below_drewN ?_ _ | with_reducible exact HQ.out | with_reducible exact HBW.out | with_reducible refine below_ext ?_ _ _ | with_reducible refine below_then_later ?_ (by first | with_reducible exact Nat.le_refl _ | with_reducible exact HBW.out.size | with_reducible exact HQ.out.size | omega | (simp; done) | (simp; omega) | (simp [later_size]; done) | (simp [later_size]; omega)) _ | with_reducible refine Below.setCell ?_ (by first | with_reducible exact Nat.le_refl _ | with_reducible exact HBW.out.size | with_reducible exact HQ.out.size | omega | (simp; done) | (simp; omega) | (simp [later_size]; done) | (simp [later_size]; omega)) _ | with_reducible refine Below.alloc ?_ (by first | with_reducible exact Nat.le_refl _ | with_reducible exact HBW.out.size | with_reducible exact HQ.out.size | omega | (simp; done) | (simp; omega) | (simp [later_size]; done) | (simp [later_size]; omega)) _)))
          · skip
            have hz : z = false := by
              rw [← HZ.out]
              unfold lkOk lkNum
              rw [HL.out, decide_eq_false (fun h => h2 h.2.2.1), Bool.false_and]
            subst hz
            clear HZ
            go_wp2_with (first | (go_at_call 31; (first | (refine (c_in_t _ _ _ _ (by omega)).mono ?_) | (refine (c_in_f _ _ _ _ (by omega)).mono ?_)); rintro _ _ ⟨rfl, p, rfl⟩) | ((with_reducible refine wp_region_later (by kernel_rfl) (by kernel_rfl) ?_); (repeat (first | go_big_quiet_skip | quiet_step ((first | (go_at_call 31; first | exact calls_later (c_in_t _ _ _ _ (by omega)) | exact calls_later2 (c_in_t _ _ _ _ (by omega)) | exact calls_later (c_in_f _ _ _ _ (by omega)) | exact calls_later2 (c_in_f _ _ _ _ (by omega))))))); refine wpQuiet_nil ?_; rintro _ ⟨p, rfl⟩))
            go_ret
            exact Gives.mk (by first | rfl | (simp; done) | (simp; omega)) (by (repeat (first | with_reducible exact Below.refl _ _ | with_reducible assumption | with_reducible refine Below.drew ?_ | with_reducible refine below_drewN ?_ _ | with_reducible exact HQ.out | with_reducible exact HBW.out | with_reducible refine below_ext ?_ _ _ | with_reducible refine below_then_later ?_ (by first | with_reducible exact Nat.le_refl _ | with_reducible exact HBW.out.size | with_reducible exact HQ.out.size | omega | (simp; done) | (simp; omega) | (simp [later_size]; done) | (simp [later_size]; omega)) _ | with_reducible refine Below.setCell ?_ (by first | with_reducible exact Nat.le_refl _ | with_reducible exact HBW.out.size | with_reducible exact HQ.out.size | omega | (simp; done) | (simp; omega) | (simp [later_size]; done) | (simp [later_size]; omega)) _ | with_reducible refine Below.alloc ?_ (by first | with_reducible exact Nat.le_refl _ | with_reducible exact HBW.out.size | with_reducible exact HQ.out.size | omega | (simp; done) | (simp; omega) | (simp [later_size]; done) | (simp [later_size]; omega)) _)))
        · skip
          have hz : z = false := by
            rw [← HZ.out]
            unfold lkOk lkNum
            rw [HL.out, decide_eq_false (fun h => h1 h.2.1), Bool.false_and]
          subst hz
          clear HZ
          go_wp2_with (first | (go_at_call 31; (first | (refine (c_in_t _ _ _ _ (by omega)).mono ?_) | (refine (c_in_f _ _ _ _ (by omega)).mono ?_)); rintro _ _ ⟨rfl, p, rfl⟩) | ((with_reducible refine wp_region_later (by kernel_rfl) (by kernel_rfl) ?_); (repeat (first | go_big_quiet_skip | quiet_step ((first | (go_at_call 31; first | exact calls_later (c_in_t _ _ _ _ (by omega)) | exact calls_later2 (c_in_t _ _ _ _ (by omega)) | exact calls_later (c_in_f _ _ _ _ (by omega)) | exact calls_later2 (c_in_f _ _ _ _ (by omega))))))); refine wpQuiet_nil ?_; rintro _ ⟨p, rfl⟩))
          go_ret
          exact Gives.mk (by first | rfl | (simp; done) | (simp; omega)) (by (repeat (first | with_reducible exact Below.refl _ _ | with_reducible assumption | with_reducible refine Below.drew ?_ | with_reducible refine below_drewN ?_ _ | with_reducible exact HQ.out | with_reducible exact HBW.out | with_reducible refine below_ext ?_ _ _ | with_reducible refine below_then_later ?_ (by first | with_reducible exact Nat.le_refl _ | with_reducible exact HBW.out.size | with_reducible exact HQ.out.size | omega | (simp; done) | (simp; omega) | (simp [later_size]; done) | (simp [later_size]; omega)) _ | with_reducible refine Below.setCell ?_ (by first | with_reducible exact Nat.le_refl _ | with_reducible exact HBW.out.size | with_reducible exact HQ.out.size | omega | (simp; done) | (simp; omega) | (simp [later_size]; done) | (simp [later_size]; omega)) _ | with_reducible refine Below.alloc ?_ (by first | with_reducible exact Nat.le_refl _ | with_reducible exact HBW.out.size | with_reducible exact HQ.out.size | omega | (simp; done) | (simp; omega) | (simp [later_size]; done) | (simp [later_size]; omega)) _)))
      · skip
        have hz : z = false := by
          rw [← HZ.out]
          unfold lkOk lkNum
          rw [HL.out, decide_eq_false (fun h => h0 h.1), Bool.false_and]
        subst hz
        clear HZ
        go_wp2_with (first | (go_at_call 31; (first | (refine (c_in_t _ _ _ _ (by omega)).mono ?_) | (refine (c_in_f _ _ _ _ (by omega)).mono ?_)); rintro _ _ ⟨rfl, p, rfl⟩) | ((with_reducible refine wp_region_later (by kernel_rfl) (by kernel_rfl) ?_); (repeat (first | go_big_quiet_skip | quiet_step ((first | (go_at_call 31; first | exact calls_later (c_in_t _ _ _ _ (by omega)) | exact calls_later2 (c_in_t _ _ _ _ (by omega)) | exact calls_later (c_in_f _ _ _ _ (by omega)) | exact calls_later2 (c_in_f _ _ _ _ (by omega))))))); refine wpQuiet_nil ?_; rintro _ ⟨p, rfl⟩))
        go_ret
        exact Gives.mk (by first | rfl | (simp; done) | (simp; omega)) (by (repeat (first | with_reducible exact Below.refl _ _ | with_reducible assumption | with_reducible refine Below.drew ?_ | with_reducible refine below_drewN ?_ _ | with_reducible exact HQ.out | with_reducible exact HBW.out | with_reducible refine below_ext ?_ _ _ | with_reducible refine below_then_later ?_ (by first | with_reducible exact Nat.le_refl _ | with_reducible exact HBW.out.size | with_reducible exact HQ.out.size | omega | (simp; done) | (simp; omega) | (simp [later_size]; done) | (simp [later_size]; omega)) _ | with_reducible refine Below.setCell ?_ (by first | with_reducible exact Nat.le_refl _ | with_reducible exact HBW.out.size | with_reducible exact HQ.out.size | omega | (simp; done) | (simp; omega) | (simp [later_size]; done) | (simp [later_size]; omega)) _ | with_reducible refine Below.alloc ?_ (by first | with_reducible exact Nat.le_refl _ | with_reducible exact HBW.out.size | with_reducible exact HQ.out.size | omega | (simp; done) | (simp; omega) | (simp [later_size]; done) | (simp [later_size]; omega)) _)))
end Go.Proofs.Ytcmhmdccfihhiaa
