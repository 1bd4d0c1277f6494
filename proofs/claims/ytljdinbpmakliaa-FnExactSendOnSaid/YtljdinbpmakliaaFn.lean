/-
  slices.ContainsFunc at the program's three closures, and what rests on it: EpochOver, Ahead, FrontLeq, SameFront; the law's counting down. Conditions: the length fits an int.
-/
import Derived.Test.YtljdinbpmakliaaRead
import Derived.Test.YtljdinbpmakliaaEq
import Derived.Test.YtljdinbpmakliaaBelowP
namespace Go.Proofs.Ytljdinbpmakliaa
open Go.RowKit
set_option linter.unusedVariables false

theorem idx_lt {α : Type} {P : α → Bool} {xs : List α} {n : Nat} (hn : xs.length = n) (h : xs.any P = true) : xs.findIdx P < n := by
  rw [← hn]; exact List.findIdx_lt_length.2 (by simpa using h)

set_option maxHeartbeats 400000 in
theorem c_szRecordS_ok (A : Option Addr) (n c : Nat) (left : Int) (w : World) (h0 : (n : Int) ≤ left) (h1 : left ≤ 1048576) : Calls Try.prog 8 #[.slice A n c, .int .i64 left] w (Gives (.int .i64 (left - n)) w) := by
  go_enter Try.func8, Try.ntmps8
  go_wp2_with (first | ((with_reducible refine wp_region_later (by kernel_rfl) (by kernel_rfl) ?_); (repeat (first | go_big_quiet_skip | quiet_step ((fail)))); refine wpQuiet_nil ?_; rintro _ ⟨p, rfl⟩))
  go_ret
  exact Gives.mk rfl (by (repeat (first | with_reducible exact Below.refl _ _ | with_reducible assumption | with_reducible refine Below.drew ?_ | with_reducible refine below_drewN ?_ _ | with_reducible exact HQ.out | with_reducible exact HBW.out | with_reducible refine below_ext ?_ _ _ | with_reducible refine below_then_later ?_ (by first | with_reducible exact Nat.le_refl _ | with_reducible exact HBW.out.size | with_reducible exact HQ.out.size | omega | (simp; done) | (simp; omega) | (simp [later_size]; done) | (simp [later_size]; omega)) _ | with_reducible refine Below.setCell ?_ (by first | with_reducible exact Nat.le_refl _ | with_reducible exact HBW.out.size | with_reducible exact HQ.out.size | omega | (simp; done) | (simp; omega) | (simp [later_size]; done) | (simp [later_size]; omega)) _ | with_reducible refine Below.alloc ?_ (by first | with_reducible exact Nat.le_refl _ | with_reducible exact HBW.out.size | with_reducible exact HQ.out.size | omega | (simp; done) | (simp; omega) | (simp [later_size]; done) | (simp [later_size]; omega)) _)))
set_option maxHeartbeats 400000 in
theorem c_szRecordS_big (A : Option Addr) (n c : Nat) (left : Int) (w : World) (h0 : left < (n : Int)) (h1 : left ≤ 1048576) (h2 : 0 ≤ left) (h3 : n ≤ 9223372036854775807) : Calls Try.prog 8 #[.slice A n c, .int .i64 left] w (Gives (.int .i64 (-1)) w) := by
  go_enter Try.func8, Try.ntmps8
  go_wp2_with (first | ((with_reducible refine wp_region_later (by kernel_rfl) (by kernel_rfl) ?_); (repeat (first | go_big_quiet_skip | quiet_step ((fail)))); refine wpQuiet_nil ?_; rintro _ ⟨p, rfl⟩))
  go_ret
  exact Gives.mk rfl (by (repeat (first | with_reducible exact Below.refl _ _ | with_reducible assumption | with_reducible refine Below.drew ?_ | with_reducible refine below_drewN ?_ _ | with_reducible exact HQ.out | with_reducible exact HBW.out | with_reducible refine below_ext ?_ _ _ | with_reducible refine below_then_later ?_ (by first | with_reducible exact Nat.le_refl _ | with_reducible exact HBW.out.size | with_reducible exact HQ.out.size | omega | (simp; done) | (simp; omega) | (simp [later_size]; done) | (simp [later_size]; omega)) _ | with_reducible refine Below.setCell ?_ (by first | with_reducible exact Nat.le_refl _ | with_reducible exact HBW.out.size | with_reducible exact HQ.out.size | omega | (simp; done) | (simp; omega) | (simp [later_size]; done) | (simp [later_size]; omega)) _ | with_reducible refine Below.alloc ?_ (by first | with_reducible exact Nat.le_refl _ | with_reducible exact HBW.out.size | with_reducible exact HQ.out.size | omega | (simp; done) | (simp; omega) | (simp [later_size]; done) | (simp [later_size]; omega)) _)))
end Go.Proofs.Ytljdinbpmakliaa
