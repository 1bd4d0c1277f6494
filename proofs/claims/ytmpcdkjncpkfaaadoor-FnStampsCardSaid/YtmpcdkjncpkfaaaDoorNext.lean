/-
  NextTurn, in the program and in the reference. Conditions: none.
-/
import Derived.Test.YtmpcdkjncpkfaaaDoorScal
namespace Go.Proofs.YtmpcdkjncpkfaaaDoor
open Go.RowKit
set_option linter.unusedVariables false

def nextT (e t : Int) : Int := if stOk e t = true ∧ t ≠ 6 then t + 1 else t
def nextB (e t : Int) : Bool := decide (stOk e t = true ∧ t ≠ 6)
set_option maxHeartbeats 800000 in
theorem c_iNextTurn (a b : Int) (w : World) : Calls Tryd.prog 15 #[.agg #[.int .i64 a, .int .i64 b]] w (Gives (.tuple #[.agg #[.int .i64 a, .int .i64 (nextT a b)], .bool (nextB a b)]) w) := by
  cases h1 : stOk a b
  · have h2 : nextT a b = b := by unfold nextT; simp [h1]
    have h3 : nextB a b = false := by unfold nextB; simp [h1]
    rw [h2, h3]
    clear h2 h3
    go_enter Tryd.func15, Tryd.ntmps15
    go_wp2_with (first | (go_at_call 17; (refine (c_iStampOk_b _ _ _ _ h1).mono ?_); rintro _ _ ⟨rfl, p, rfl⟩) | ((with_reducible refine wp_region_later (by kernel_rfl) (by kernel_rfl) ?_); (repeat (first | go_big_quiet_skip | quiet_step ((first | (go_at_call 17; first | exact calls_later (c_iStampOk_b _ _ _ _ h1) | exact calls_later2 (c_iStampOk_b _ _ _ _ h1)))))); refine wpQuiet_nil ?_; rintro _ ⟨p, rfl⟩))
    refine bodyPost_ret (v := .tuple #[.agg #[.int .i64 a, .int .i64 b], .bool false]) (by simp [results, Tryd.results15, go_sem]) rfl (Gives.mk rfl ?_)
    (repeat (first | with_reducible exact Below.refl _ _ | with_reducible assumption | with_reducible refine Below.drew ?_ | with_reducible refine below_drewN ?_ _ | with_reducible exact HQ.out | with_reducible exact HBW.out | with_reducible refine below_ext ?_ _ _ | with_reducible refine below_then_later ?_ (by first | with_reducible exact Nat.le_refl _ | with_reducible exact HBW.out.size | with_reducible exact HQ.out.size | omega | (simp; done) | (simp; omega) | (simp [later_size]; done) | (simp [later_size]; omega)) _ | with_reducible refine Below.setCell ?_ (by first | with_reducible exact Nat.le_refl _ | with_reducible exact HBW.out.size | with_reducible exact HQ.out.size | omega | (simp; done) | (simp; omega) | (simp [later_size]; done) | (simp [later_size]; omega)) _ | with_reducible refine Below.alloc ?_ (by first | with_reducible exact Nat.le_refl _ | with_reducible exact HBW.out.size | with_reducible exact HQ.out.size | omega | (simp; done) | (simp; omega) | (simp [later_size]; done) | (simp [later_size]; omega)) _))
  · have hb : 0 ≤ b ∧ b ≤ 6 := by unfold stOk at h1; simp at h1; omega
    obtain ⟨hb0, hb1⟩ := hb
    by_cases h6 : b = 6
    · subst h6
      have h2 : nextT a 6 = 6 := by unfold nextT; simp
      have h3 : nextB a 6 = false := by unfold nextB; simp
      rw [h2, h3]
      clear h2 h3
      go_enter Tryd.func15, Tryd.ntmps15
      go_wp2_with (first | (go_at_call 17; (refine (c_iStampOk_b _ _ _ _ h1).mono ?_); rintro _ _ ⟨rfl, p, rfl⟩) | ((with_reducible refine wp_region_later (by kernel_rfl) (by kernel_rfl) ?_); (repeat (first | go_big_quiet_skip | quiet_step ((first | (go_at_call 17; first | exact calls_later (c_iStampOk_b _ _ _ _ h1) | exact calls_later2 (c_iStampOk_b _ _ _ _ h1)))))); refine wpQuiet_nil ?_; rintro _ ⟨p, rfl⟩))
      refine bodyPost_ret (v := .tuple #[.agg #[.int .i64 a, .int .i64 6], .bool false]) (by simp [results, Tryd.results15, go_sem]) rfl (Gives.mk rfl ?_)
      (repeat (first | with_reducible exact Below.refl _ _ | with_reducible assumption | with_reducible refine Below.drew ?_ | with_reducible refine below_drewN ?_ _ | with_reducible exact HQ.out | with_reducible exact HBW.out | with_reducible refine below_ext ?_ _ _ | with_reducible refine below_then_later ?_ (by first | with_reducible exact Nat.le_refl _ | with_reducible exact HBW.out.size | with_reducible exact HQ.out.size | omega | (simp; done) | (simp; omega) | (simp [later_size]; done) | (simp [later_size]; omega)) _ | with_reducible refine Below.setCell ?_ (by first | with_reducible exact Nat.le_refl _ | with_reducible exact HBW.out.size | with_reducible exact HQ.out.size | omega | (simp; done) | (simp; omega) | (simp [later_size]; done) | (simp [later_size]; omega)) _ | with_reducible refine Below.alloc ?_ (by first | with_reducible exact Nat.le_refl _ | with_reducible exact HBW.out.size | with_reducible exact HQ.out.size | omega | (simp; done) | (simp; omega) | (simp [later_size]; done) | (simp [later_size]; omega)) _))
    · have h2 : nextT a b = b + 1 := by unfold nextT; simp [h1, h6]
      have h3 : nextB a b = true := by unfold nextB; simp [h1, h6]
      rw [h2, h3]
      clear h2 h3
      go_enter Tryd.func15, Tryd.ntmps15
      go_wp2_with (first | (go_at_call 17; (refine (c_iStampOk_b _ _ _ _ h1).mono ?_); rintro _ _ ⟨rfl, p, rfl⟩) | ((with_reducible refine wp_region_later (by kernel_rfl) (by kernel_rfl) ?_); (repeat (first | go_big_quiet_skip | quiet_step ((first | (go_at_call 17; first | exact calls_later (c_iStampOk_b _ _ _ _ h1) | exact calls_later2 (c_iStampOk_b _ _ _ _ h1)))))); refine wpQuiet_nil ?_; rintro _ ⟨p, rfl⟩))
      refine bodyPost_ret (v := .tuple #[.agg #[.int .i64 a, .int .i64 (b + 1)], .bool true]) (by simp [results, Tryd.results15, go_sem]) rfl (Gives.mk rfl ?_)
      (repeat (first | with_reducible exact Below.refl _ _ | with_reducible assumption | with_reducible refine Below.drew ?_ | with_reducible refine below_drewN ?_ _ | with_reducible exact HQ.out | with_reducible exact HBW.out | with_reducible refine below_ext ?_ _ _ | with_reducible refine below_then_later ?_ (by first | with_reducible exact Nat.le_refl _ | with_reducible exact HBW.out.size | with_reducible exact HQ.out.size | omega | (simp; done) | (simp; omega) | (simp [later_size]; done) | (simp [later_size]; omega)) _ | with_reducible refine Below.setCell ?_ (by first | with_reducible exact Nat.le_refl _ | with_reducible exact HBW.out.size | with_reducible exact HQ.out.size | omega | (simp; done) | (simp; omega) | (simp [later_size]; done) | (simp [later_size]; omega)) _ | with_reducible refine Below.alloc ?_ (by first | with_reducible exact Nat.le_refl _ | with_reducible exact HBW.out.size | with_reducible exact HQ.out.size | omega | (simp; done) | (simp; omega) | (simp [later_size]; done) | (simp [later_size]; omega)) _))
set_option maxHeartbeats 800000 in
theorem c_sNextTurn (a b : Int) (w : World) : Calls Tryd.prog 16 #[.agg #[.int .i64 a, .int .i64 b]] w (Gives (.tuple #[.agg #[.int .i64 a, .int .i64 (nextT a b)], .bool (nextB a b)]) w) := by
  cases h1 : stOk a b
  · have h2 : nextT a b = b := by unfold nextT; simp [h1]
    have h3 : nextB a b = false := by unfold nextB; simp [h1]
    rw [h2, h3]
    clear h2 h3
    go_enter Tryd.func16, Tryd.ntmps16
    go_wp2_with (first | (go_at_call 18; (refine (c_sStampOk_b _ _ _ _ h1).mono ?_); rintro _ _ ⟨rfl, p, rfl⟩) | ((with_reducible refine wp_region_later (by kernel_rfl) (by kernel_rfl) ?_); (repeat (first | go_big_quiet_skip | quiet_step ((first | (go_at_call 18; first | exact calls_later (c_sStampOk_b _ _ _ _ h1) | exact calls_later2 (c_sStampOk_b _ _ _ _ h1)))))); refine wpQuiet_nil ?_; rintro _ ⟨p, rfl⟩))
    refine bodyPost_ret (v := .tuple #[.agg #[.int .i64 a, .int .i64 b], .bool false]) (by simp [results, Tryd.results16, go_sem]) rfl (Gives.mk rfl ?_)
    (repeat (first | with_reducible exact Below.refl _ _ | with_reducible assumption | with_reducible refine Below.drew ?_ | with_reducible refine below_drewN ?_ _ | with_reducible exact HQ.out | with_reducible exact HBW.out | with_reducible refine below_ext ?_ _ _ | with_reducible refine below_then_later ?_ (by first | with_reducible exact Nat.le_refl _ | with_reducible exact HBW.out.size | with_reducible exact HQ.out.size | omega | (simp; done) | (simp; omega) | (simp [later_size]; done) | (simp [later_size]; omega)) _ | with_reducible refine Below.setCell ?_ (by first | with_reducible exact Nat.le_refl _ | with_reducible exact HBW.out.size | with_reducible exact HQ.out.size | omega | (simp; done) | (simp; omega) | (simp [later_size]; done) | (simp [later_size]; omega)) _ | with_reducible refine Below.alloc ?_ (by first | with_reducible exact Nat.le_refl _ | with_reducible exact HBW.out.size | with_reducible exact HQ.out.size | omega | (simp; done) | (simp; omega) | (simp [later_size]; done) | (simp [later_size]; omega)) _))
  · have hb : 0 ≤ b ∧ b ≤ 6 := by unfold stOk at h1; simp at h1; omega
    obtain ⟨hb0, hb1⟩ := hb
    by_cases h6 : b = 6
    · subst h6
      have h2 : nextT a 6 = 6 := by unfold nextT; simp
      have h3 : nextB a 6 = false := by unfold nextB; simp
      rw [h2, h3]
      clear h2 h3
      go_enter Tryd.func16, Tryd.ntmps16
      go_wp2_with (first | (go_at_call 18; (refine (c_sStampOk_b _ _ _ _ h1).mono ?_); rintro _ _ ⟨rfl, p, rfl⟩) | ((with_reducible refine wp_region_later (by kernel_rfl) (by kernel_rfl) ?_); (repeat (first | go_big_quiet_skip | quiet_step ((first | (go_at_call 18; first | exact calls_later (c_sStampOk_b _ _ _ _ h1) | exact calls_later2 (c_sStampOk_b _ _ _ _ h1)))))); refine wpQuiet_nil ?_; rintro _ ⟨p, rfl⟩))
      refine bodyPost_ret (v := .tuple #[.agg #[.int .i64 a, .int .i64 6], .bool false]) (by simp [results, Tryd.results16, go_sem]) rfl (Gives.mk rfl ?_)
      (repeat (first | with_reducible exact Below.refl _ _ | with_reducible assumption | with_reducible refine Below.drew ?_ | with_reducible refine below_drewN ?_ _ | with_reducible exact HQ.out | with_reducible exact HBW.out | with_reducible refine below_ext ?_ _ _ | with_reducible refine below_then_later ?_ (by first | with_reducible exact Nat.le_refl _ | with_reducible exact HBW.out.size | with_reducible exact HQ.out.size | omega | (simp; done) | (simp; omega) | (simp [later_size]; done) | (simp [later_size]; omega)) _ | with_reducible refine Below.setCell ?_ (by first | with_reducible exact Nat.le_refl _ | with_reducible exact HBW.out.size | with_reducible exact HQ.out.size | omega | (simp; done) | (simp; omega) | (simp [later_size]; done) | (simp [later_size]; omega)) _ | with_reducible refine Below.alloc ?_ (by first | with_reducible exact Nat.le_refl _ | with_reducible exact HBW.out.size | with_reducible exact HQ.out.size | omega | (simp; done) | (simp; omega) | (simp [later_size]; done) | (simp [later_size]; omega)) _))
    · have h2 : nextT a b = b + 1 := by unfold nextT; simp [h1, h6]
      have h3 : nextB a b = true := by unfold nextB; simp [h1, h6]
      rw [h2, h3]
      clear h2 h3
      have hlt : b < 6 := by omega
      clear h6
      go_enter Tryd.func16, Tryd.ntmps16
      go_wp2_with (first | (go_at_call 18; (refine (c_sStampOk_b _ _ _ _ h1).mono ?_); rintro _ _ ⟨rfl, p, rfl⟩) | ((with_reducible refine wp_region_later (by kernel_rfl) (by kernel_rfl) ?_); (repeat (first | go_big_quiet_skip | quiet_step ((first | (go_at_call 18; first | exact calls_later (c_sStampOk_b _ _ _ _ h1) | exact calls_later2 (c_sStampOk_b _ _ _ _ h1)))))); refine wpQuiet_nil ?_; rintro _ ⟨p, rfl⟩))
      refine bodyPost_ret (v := .tuple #[.agg #[.int .i64 a, .int .i64 (b + 1)], .bool true]) (by simp [results, Tryd.results16, go_sem]) rfl (Gives.mk rfl ?_)
      (repeat (first | with_reducible exact Below.refl _ _ | with_reducible assumption | with_reducible refine Below.drew ?_ | with_reducible refine below_drewN ?_ _ | with_reducible exact HQ.out | with_reducible exact HBW.out | with_reducible refine below_ext ?_ _ _ | with_reducible refine below_then_later ?_ (by first | with_reducible exact Nat.le_refl _ | with_reducible exact HBW.out.size | with_reducible exact HQ.out.size | omega | (simp; done) | (simp; omega) | (simp [later_size]; done) | (simp [later_size]; omega)) _ | with_reducible refine Below.setCell ?_ (by first | with_reducible exact Nat.le_refl _ | with_reducible exact HBW.out.size | with_reducible exact HQ.out.size | omega | (simp; done) | (simp; omega) | (simp [later_size]; done) | (simp [later_size]; omega)) _ | with_reducible refine Below.alloc ?_ (by first | with_reducible exact Nat.le_refl _ | with_reducible exact HBW.out.size | with_reducible exact HQ.out.size | omega | (simp; done) | (simp; omega) | (simp [later_size]; done) | (simp [later_size]; omega)) _))
end Go.Proofs.YtmpcdkjncpkfaaaDoor
