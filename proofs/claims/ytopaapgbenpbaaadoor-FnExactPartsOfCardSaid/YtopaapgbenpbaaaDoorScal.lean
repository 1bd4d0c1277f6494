/-
  Contracts of the small functions on numbers, stamps and records. Conditions: none, or the range of an int where it is said.
-/
import Derived.Test.YtopaapgbenpbaaaDoorKit
import Derived.Test.YtopaapgbenpbaaaDoorTail
namespace Go.Proofs.YtopaapgbenpbaaaDoor
open Go.RowKit
set_option linter.unusedVariables false

/-! ### what they compute -/
def leqB (a b c d : Int) : Bool := decide (a ≤ c ∧ b ≤ d)
def stOk (e t : Int) : Bool := decide (0 ≤ e ∧ e ≤ 3 ∧ 0 ≤ t ∧ t ≤ 6)
def itOk (k v : Int) : Bool := decide (0 ≤ k ∧ k ≤ 99 ∧ 0 ≤ v ∧ v ≤ 999)
def rcOk (o e t k v : Int) : Bool := decide (0 ≤ o ∧ o ≤ 7) && (stOk e t && itOk k v)
def brought (n lo hi : Int) : Int := if hi < lo ∨ n < lo then lo else if hi < n then hi else n
def lessI (a b : Int) : Int := if b < a then b else a
def moreI (a b : Int) : Int := if a < b then b else a
theorem stOk_t {e t : Int} (h : 0 ≤ e ∧ e ≤ 3 ∧ 0 ≤ t ∧ t ≤ 6) : stOk e t = true := by unfold stOk; simpa using h
theorem stOk_f {e t : Int} (h : ¬ (0 ≤ e ∧ e ≤ 3 ∧ 0 ≤ t ∧ t ≤ 6)) : stOk e t = false := by unfold stOk; simpa using h
theorem itOk_t {e t : Int} (h : 0 ≤ e ∧ e ≤ 99 ∧ 0 ≤ t ∧ t ≤ 999) : itOk e t = true := by unfold itOk; simpa using h
theorem itOk_f {e t : Int} (h : ¬ (0 ≤ e ∧ e ≤ 99 ∧ 0 ≤ t ∧ t ≤ 999)) : itOk e t = false := by unfold itOk; simpa using h
theorem gives_bool {a b : Bool} {w w' : World} {e : Ending} (h : a = b) (hg : Gives (.bool a) w e w') : Gives (.bool b) w e w' := by subst h; exact hg
theorem gives_int {a b : Int} {w w' : World} {e : Ending} (h : a = b) (hg : Gives (.int .i64 a) w e w') : Gives (.int .i64 b) w e w' := by subst h; exact hg
theorem ret_bool {a b : Bool} (h : a = b) : Ending.returned (.bool a) = .returned (.bool b) := by rw [h]
theorem ret_int {a b : Int} (h : a = b) : Ending.returned (.int .i64 a) = .returned (.int .i64 b) := by rw [h]

set_option maxHeartbeats 400000 in
theorem c_within_t (n lo hi : Int) (w : World) (h : lo ≤ n ∧ n ≤ hi) : Calls Tryd.prog 9 #[.int .i64 n, .int .i64 lo, .int .i64 hi] w (Gives (.bool true) w) := by
  obtain ⟨h1, h2⟩ := h
  go_enter Tryd.func9, Tryd.ntmps9
  go_wp2_with (first | ((with_reducible refine wp_region_later (by kernel_rfl) (by kernel_rfl) ?_); (repeat (first | go_big_quiet_skip | quiet_step ((fail)))); refine wpQuiet_nil ?_; rintro _ ⟨p, rfl⟩))
  go_ret
  exact Gives.mk (by first | rfl | simp) (by (repeat (first | with_reducible exact Below.refl _ _ | with_reducible assumption | with_reducible refine Below.drew ?_ | with_reducible refine below_drewN ?_ _ | with_reducible exact HQ.out | with_reducible exact HBW.out | with_reducible refine below_ext ?_ _ _ | with_reducible refine below_then_later ?_ (by first | with_reducible exact Nat.le_refl _ | with_reducible exact HBW.out.size | with_reducible exact HQ.out.size | omega | (simp; done) | (simp; omega) | (simp [later_size]; done) | (simp [later_size]; omega)) _ | with_reducible refine Below.setCell ?_ (by first | with_reducible exact Nat.le_refl _ | with_reducible exact HBW.out.size | with_reducible exact HQ.out.size | omega | (simp; done) | (simp; omega) | (simp [later_size]; done) | (simp [later_size]; omega)) _ | with_reducible refine Below.alloc ?_ (by first | with_reducible exact Nat.le_refl _ | with_reducible exact HBW.out.size | with_reducible exact HQ.out.size | omega | (simp; done) | (simp; omega) | (simp [later_size]; done) | (simp [later_size]; omega)) _)))
set_option maxHeartbeats 400000 in
theorem c_within_f (n lo hi : Int) (w : World) (h : ¬ (lo ≤ n ∧ n ≤ hi)) : Calls Tryd.prog 9 #[.int .i64 n, .int .i64 lo, .int .i64 hi] w (Gives (.bool false) w) := by
  by_cases h1 : lo ≤ n
  · have h2 : hi < n := by omega
    go_enter Tryd.func9, Tryd.ntmps9
    go_wp2_with (first | ((with_reducible refine wp_region_later (by kernel_rfl) (by kernel_rfl) ?_); (repeat (first | go_big_quiet_skip | quiet_step ((fail)))); refine wpQuiet_nil ?_; rintro _ ⟨p, rfl⟩))
    go_ret
    exact Gives.mk (by first | rfl | (simp; done) | (simp; omega)) (by (repeat (first | with_reducible exact Below.refl _ _ | with_reducible assumption | with_reducible refine Below.drew ?_ | with_reducible refine below_drewN ?_ _ | with_reducible exact HQ.out | with_reducible exact HBW.out | with_reducible refine below_ext ?_ _ _ | with_reducible refine below_then_later ?_ (by first | with_reducible exact Nat.le_refl _ | with_reducible exact HBW.out.size | with_reducible exact HQ.out.size | omega | (simp; done) | (simp; omega) | (simp [later_size]; done) | (simp [later_size]; omega)) _ | with_reducible refine Below.setCell ?_ (by first | with_reducible exact Nat.le_refl _ | with_reducible exact HBW.out.size | with_reducible exact HQ.out.size | omega | (simp; done) | (simp; omega) | (simp [later_size]; done) | (simp [later_size]; omega)) _ | with_reducible refine Below.alloc ?_ (by first | with_reducible exact Nat.le_refl _ | with_reducible exact HBW.out.size | with_reducible exact HQ.out.size | omega | (simp; done) | (simp; omega) | (simp [later_size]; done) | (simp [later_size]; omega)) _)))
  · have h2 : n < lo := by omega
    go_enter Tryd.func9, Tryd.ntmps9
    go_wp2_with (first | ((with_reducible refine wp_region_later (by kernel_rfl) (by kernel_rfl) ?_); (repeat (first | go_big_quiet_skip | quiet_step ((fail)))); refine wpQuiet_nil ?_; rintro _ ⟨p, rfl⟩))
    go_ret
    exact Gives.mk (by first | rfl | (simp; done) | (simp; omega)) (by (repeat (first | with_reducible exact Below.refl _ _ | with_reducible assumption | with_reducible refine Below.drew ?_ | with_reducible refine below_drewN ?_ _ | with_reducible exact HQ.out | with_reducible exact HBW.out | with_reducible refine below_ext ?_ _ _ | with_reducible refine below_then_later ?_ (by first | with_reducible exact Nat.le_refl _ | with_reducible exact HBW.out.size | with_reducible exact HQ.out.size | omega | (simp; done) | (simp; omega) | (simp [later_size]; done) | (simp [later_size]; omega)) _ | with_reducible refine Below.setCell ?_ (by first | with_reducible exact Nat.le_refl _ | with_reducible exact HBW.out.size | with_reducible exact HQ.out.size | omega | (simp; done) | (simp; omega) | (simp [later_size]; done) | (simp [later_size]; omega)) _ | with_reducible refine Below.alloc ?_ (by first | with_reducible exact Nat.le_refl _ | with_reducible exact HBW.out.size | with_reducible exact HQ.out.size | omega | (simp; done) | (simp; omega) | (simp [later_size]; done) | (simp [later_size]; omega)) _)))
end Go.Proofs.YtopaapgbenpbaaaDoor
