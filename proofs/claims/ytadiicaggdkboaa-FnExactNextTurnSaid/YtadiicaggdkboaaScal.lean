/-
  Contracts of the small functions on numbers, stamps and records. Conditions: none, or the range of an int where it is said.
-/
import Derived.Test.YtadiicaggdkboaaKit
import Derived.Test.YtadiicaggdkboaaTail
namespace Go.Proofs.Ytadiicaggdkboaa
open Go.RowKit
set_option linter.unusedVariables false

/-! ### what they compute -/
def leqB (a b c d : Int) : Bool := decide (a ≤ c ∧ b ≤ d)
def stOk (e t : Int) : Bool := decide (0 ≤ e ∧ e ≤ 3 ∧ 0 ≤ t ∧ t ≤ 6)
def itOk (k v : Int) : Bool := decide (0 ≤ k ∧ k ≤ 99 ∧ 0 ≤ v ∧ v ≤ 999)
def rcOk (o e t k v : Int) : Bool := decide (0 ≤ o ∧ o ≤ 7) && (stOk e t && itOk k v)
def brought (n lo hi : Int) : Int := if hi < lo ∨ n < lo then lo else if hi < n then hi else n
def lessI (a b : Int) : Int := if b < a then b else a
def moreI (a b : Int) : Int := if a < b then b else a
theorem stOk_t {e t : Int} (h : 0 ≤ e ∧ e ≤ 3 ∧ 0 ≤ t ∧ t ≤ 6) : stOk e t = true := by unfold stOk; simpa using h
theorem stOk_f {e t : Int} (h : ¬ (0 ≤ e ∧ e ≤ 3 ∧ 0 ≤ t ∧ t ≤ 6)) : stOk e t = false := by unfold stOk; simpa using h
theorem itOk_t {e t : Int} (h : 0 ≤ e ∧ e ≤ 99 ∧ 0 ≤ t ∧ t ≤ 999) : itOk e t = true := by unfold itOk; simpa using h
theorem itOk_f {e t : Int} (h : ¬ (0 ≤ e ∧ e ≤ 99 ∧ 0 ≤ t ∧ t ≤ 999)) : itOk e t = false := by unfold itOk; simpa using h
theorem gives_bool {a b : Bool} {w w' : World} {e : Ending} (h : a = b) (hg : Gives (.bool a) w e w') : Gives (.bool b) w e w' := by subst h; exact hg
theorem gives_int {a b : Int} {w w' : World} {e : Ending} (h : a = b) (hg : Gives (.int .i64 a) w e w') : Gives (.int .i64 b) w e w' := by subst h; exact hg
theorem ret_bool {a b : Bool} (h : a = b) : Ending.returned (.bool a) = .returned (.bool b) := by rw [h]
theorem ret_int {a b : Int} (h : a = b) : Ending.returned (.int .i64 a) = .returned (.int .i64 b) := by rw [h]

set_option maxHeartbeats 400000 in
theorem c_toStamp (a b : Int) (w : World) : Calls Try.prog 18 #[.agg #[.int .i64 a, .int .i64 b]] w (Gives (.agg #[.int .i64 a, .int .i64 b]) w) := by
  go_enter Try.func18, Try.ntmps18
  go_wp2
  refine bodyPost_ret (v := .agg #[.int .i64 a, .int .i64 b]) (by simp [results, Try.results18, go_sem]) rfl (Gives.mk rfl ?_)
  (repeat (first | exact Below.refl _ _ | assumption | refine Below.drew ?_ | refine below_drewN ?_ _ | refine below_then_later ?_ (by first | exact Nat.le_refl _ | (simp; done) | (simp; omega) | (simp [later_size]; done) | (simp [later_size]; omega)) _ | refine Below.setCell ?_ (by first | exact Nat.le_refl _ | (simp; done) | (simp; omega) | (simp [later_size]; done) | (simp [later_size]; omega)) _ | refine Below.alloc ?_ (by first | exact Nat.le_refl _ | (simp; done) | (simp; omega) | (simp [later_size]; done) | (simp [later_size]; omega)) _))
set_option maxHeartbeats 400000 in
theorem c_toRecord (o a b k v : Int) (w : World) : Calls Try.prog 36 #[.agg #[.int .i64 o, .int .i64 a, .int .i64 b, .int .i64 k, .int .i64 v]] w (Gives (.agg #[.int .i64 o, .int .i64 a, .int .i64 b, .int .i64 k, .int .i64 v]) w) := by
  go_enter Try.func36, Try.ntmps36
  go_wp2_with (first | (go_at_call 18; refine (c_toStamp _ _ _).mono ?_; rintro _ _ ⟨rfl, p, rfl⟩) | (refine wp_region_later (by kernel_rfl) (by kernel_rfl) ?_; (repeat (quiet_step ((first | (go_at_call 18; first | exact calls_later (c_toStamp _ _ _) | exact calls_later2 (c_toStamp _ _ _)))))); refine wpQuiet_nil ?_; rintro _ ⟨p, rfl⟩))
  refine bodyPost_ret (v := .agg #[.int .i64 o, .int .i64 a, .int .i64 b, .int .i64 k, .int .i64 v]) (by simp [results, Try.results36, go_sem]) rfl (Gives.mk rfl ?_)
  (repeat (first | exact Below.refl _ _ | assumption | refine Below.drew ?_ | refine below_drewN ?_ _ | refine below_then_later ?_ (by first | exact Nat.le_refl _ | (simp; done) | (simp; omega) | (simp [later_size]; done) | (simp [later_size]; omega)) _ | refine Below.setCell ?_ (by first | exact Nat.le_refl _ | (simp; done) | (simp; omega) | (simp [later_size]; done) | (simp [later_size]; omega)) _ | refine Below.alloc ?_ (by first | exact Nat.le_refl _ | (simp; done) | (simp; omega) | (simp [later_size]; done) | (simp [later_size]; omega)) _))
set_option maxHeartbeats 400000 in
theorem c_within_t (n lo hi : Int) (w : World) (h : lo ≤ n ∧ n ≤ hi) : Calls Try.prog 41 #[.int .i64 n, .int .i64 lo, .int .i64 hi] w (Gives (.bool true) w) := by
  obtain ⟨h1, h2⟩ := h
  go_enter Try.func41, Try.ntmps41
  go_wp2_with (first | (refine wp_region_later (by kernel_rfl) (by kernel_rfl) ?_; (repeat (quiet_step ((fail)))); refine wpQuiet_nil ?_; rintro _ ⟨p, rfl⟩))
  go_ret
  exact Gives.mk (by first | rfl | simp) (by (repeat (first | exact Below.refl _ _ | assumption | refine Below.drew ?_ | refine below_drewN ?_ _ | refine below_then_later ?_ (by first | exact Nat.le_refl _ | (simp; done) | (simp; omega) | (simp [later_size]; done) | (simp [later_size]; omega)) _ | refine Below.setCell ?_ (by first | exact Nat.le_refl _ | (simp; done) | (simp; omega) | (simp [later_size]; done) | (simp [later_size]; omega)) _ | refine Below.alloc ?_ (by first | exact Nat.le_refl _ | (simp; done) | (simp; omega) | (simp [later_size]; done) | (simp [later_size]; omega)) _)))
set_option maxHeartbeats 400000 in
theorem c_within_f (n lo hi : Int) (w : World) (h : ¬ (lo ≤ n ∧ n ≤ hi)) : Calls Try.prog 41 #[.int .i64 n, .int .i64 lo, .int .i64 hi] w (Gives (.bool false) w) := by
  by_cases h1 : lo ≤ n
  · have h2 : hi < n := by omega
    go_enter Try.func41, Try.ntmps41
    go_wp2_with (first | (refine wp_region_later (by kernel_rfl) (by kernel_rfl) ?_; (repeat (quiet_step ((fail)))); refine wpQuiet_nil ?_; rintro _ ⟨p, rfl⟩))
    go_ret
    exact Gives.mk (by first | rfl | (simp; done) | (simp; omega)) (by (repeat (first | exact Below.refl _ _ | assumption | refine Below.drew ?_ | refine below_drewN ?_ _ | refine below_then_later ?_ (by first | exact Nat.le_refl _ | (simp; done) | (simp; omega) | (simp [later_size]; done) | (simp [later_size]; omega)) _ | refine Below.setCell ?_ (by first | exact Nat.le_refl _ | (simp; done) | (simp; omega) | (simp [later_size]; done) | (simp [later_size]; omega)) _ | refine Below.alloc ?_ (by first | exact Nat.le_refl _ | (simp; done) | (simp; omega) | (simp [later_size]; done) | (simp [later_size]; omega)) _)))
  · have h2 : n < lo := by omega
    go_enter Try.func41, Try.ntmps41
    go_wp2_with (first | (refine wp_region_later (by kernel_rfl) (by kernel_rfl) ?_; (repeat (quiet_step ((fail)))); refine wpQuiet_nil ?_; rintro _ ⟨p, rfl⟩))
    go_ret
    exact Gives.mk (by first | rfl | (simp; done) | (simp; omega)) (by (repeat (first | exact Below.refl _ _ | assumption | refine Below.drew ?_ | refine below_drewN ?_ _ | refine below_then_later ?_ (by first | exact Nat.le_refl _ | (simp; done) | (simp; omega) | (simp [later_size]; done) | (simp [later_size]; omega)) _ | refine Below.setCell ?_ (by first | exact Nat.le_refl _ | (simp; done) | (simp; omega) | (simp [later_size]; done) | (simp [later_size]; omega)) _ | refine Below.alloc ?_ (by first | exact Nat.le_refl _ | (simp; done) | (simp; omega) | (simp [later_size]; done) | (simp [later_size]; omega)) _)))
set_option maxHeartbeats 400000 in
theorem c_in_t (n lo hi : Int) (w : World) (h : lo ≤ n ∧ n ≤ hi) : Calls Try.prog 40 #[.int .i64 n, .int .i64 lo, .int .i64 hi] w (Gives (.bool true) w) := by
  obtain ⟨h1, h2⟩ := h
  go_enter Try.func40, Try.ntmps40
  go_wp2_with (first | (refine wp_region_later (by kernel_rfl) (by kernel_rfl) ?_; (repeat (quiet_step ((fail)))); refine wpQuiet_nil ?_; rintro _ ⟨p, rfl⟩))
  go_ret
  exact Gives.mk (by first | rfl | simp) (by (repeat (first | exact Below.refl _ _ | assumption | refine Below.drew ?_ | refine below_drewN ?_ _ | refine below_then_later ?_ (by first | exact Nat.le_refl _ | (simp; done) | (simp; omega) | (simp [later_size]; done) | (simp [later_size]; omega)) _ | refine Below.setCell ?_ (by first | exact Nat.le_refl _ | (simp; done) | (simp; omega) | (simp [later_size]; done) | (simp [later_size]; omega)) _ | refine Below.alloc ?_ (by first | exact Nat.le_refl _ | (simp; done) | (simp; omega) | (simp [later_size]; done) | (simp [later_size]; omega)) _)))
set_option maxHeartbeats 400000 in
theorem c_in_f (n lo hi : Int) (w : World) (h : ¬ (lo ≤ n ∧ n ≤ hi)) : Calls Try.prog 40 #[.int .i64 n, .int .i64 lo, .int .i64 hi] w (Gives (.bool false) w) := by
  by_cases h1 : lo ≤ n
  · have h2 : hi < n := by omega
    go_enter Try.func40, Try.ntmps40
    go_wp2_with (first | (refine wp_region_later (by kernel_rfl) (by kernel_rfl) ?_; (repeat (quiet_step ((fail)))); refine wpQuiet_nil ?_; rintro _ ⟨p, rfl⟩))
    go_ret
    exact Gives.mk (by first | rfl | (simp; done) | (simp; omega)) (by (repeat (first | exact Below.refl _ _ | assumption | refine Below.drew ?_ | refine below_drewN ?_ _ | refine below_then_later ?_ (by first | exact Nat.le_refl _ | (simp; done) | (simp; omega) | (simp [later_size]; done) | (simp [later_size]; omega)) _ | refine Below.setCell ?_ (by first | exact Nat.le_refl _ | (simp; done) | (simp; omega) | (simp [later_size]; done) | (simp [later_size]; omega)) _ | refine Below.alloc ?_ (by first | exact Nat.le_refl _ | (simp; done) | (simp; omega) | (simp [later_size]; done) | (simp [later_size]; omega)) _)))
  · have h2 : n < lo := by omega
    go_enter Try.func40, Try.ntmps40
    go_wp2_with (first | (refine wp_region_later (by kernel_rfl) (by kernel_rfl) ?_; (repeat (quiet_step ((fail)))); refine wpQuiet_nil ?_; rintro _ ⟨p, rfl⟩))
    go_ret
    exact Gives.mk (by first | rfl | (simp; done) | (simp; omega)) (by (repeat (first | exact Below.refl _ _ | assumption | refine Below.drew ?_ | refine below_drewN ?_ _ | refine below_then_later ?_ (by first | exact Nat.le_refl _ | (simp; done) | (simp; omega) | (simp [later_size]; done) | (simp [later_size]; omega)) _ | refine Below.setCell ?_ (by first | exact Nat.le_refl _ | (simp; done) | (simp; omega) | (simp [later_size]; done) | (simp [later_size]; omega)) _ | refine Below.alloc ?_ (by first | exact Nat.le_refl _ | (simp; done) | (simp; omega) | (simp [later_size]; done) | (simp [later_size]; omega)) _)))
set_option maxHeartbeats 400000 in
theorem c_iStampLeq (a b c d : Int) (w : World) : Calls Try.prog 19 #[.agg #[.int .i64 a, .int .i64 b], .agg #[.int .i64 c, .int .i64 d]] w (Gives (.bool (leqB a b c d)) w) := by
  by_cases h : a ≤ c
  all_goals
    go_enter Try.func19, Try.ntmps19
    go_wp2_with (first | (refine wp_region_later (by kernel_rfl) (by kernel_rfl) ?_; (repeat (quiet_step ((fail)))); refine wpQuiet_nil ?_; rintro _ ⟨p, rfl⟩))
    go_ret
    refine Gives.mk (ret_bool (by unfold leqB; simp [h] <;> omega)) ?_
    (repeat (first | exact Below.refl _ _ | assumption | refine Below.drew ?_ | refine below_drewN ?_ _ | refine below_then_later ?_ (by first | exact Nat.le_refl _ | (simp; done) | (simp; omega) | (simp [later_size]; done) | (simp [later_size]; omega)) _ | refine Below.setCell ?_ (by first | exact Nat.le_refl _ | (simp; done) | (simp; omega) | (simp [later_size]; done) | (simp [later_size]; omega)) _ | refine Below.alloc ?_ (by first | exact Nat.le_refl _ | (simp; done) | (simp; omega) | (simp [later_size]; done) | (simp [later_size]; omega)) _))
theorem c_iStampLeq_b (a b c d : Int) (w : World) (x : Bool) (h : leqB a b c d = x) : Calls Try.prog 19 #[.agg #[.int .i64 a, .int .i64 b], .agg #[.int .i64 c, .int .i64 d]] w (Gives (.bool x) w) := by
  subst h; exact c_iStampLeq a b c d w
set_option maxHeartbeats 400000 in
theorem c_iStampOk (a b : Int) (w : World) : Calls Try.prog 21 #[.agg #[.int .i64 a, .int .i64 b]] w (Gives (.bool (stOk a b)) w) := by
  by_cases h1 : 0 ≤ a ∧ a ≤ 3
  · by_cases h2 : 0 ≤ b ∧ b ≤ 6
    · rw [stOk_t (by omega)]
      go_enter Try.func21, Try.ntmps21
      go_wp2_with (first | (go_at_call 41; refine (c_within_t _ _ _ _ (by omega)).mono ?_; rintro _ _ ⟨rfl, p, rfl⟩) | (go_at_call 41; refine (c_within_f _ _ _ _ (by omega)).mono ?_; rintro _ _ ⟨rfl, p, rfl⟩) | (refine wp_region_later (by kernel_rfl) (by kernel_rfl) ?_; (repeat (quiet_step ((first | (go_at_call 41; first | exact calls_later (c_within_t _ _ _ _ (by omega)) | exact calls_later2 (c_within_t _ _ _ _ (by omega))) | (go_at_call 41; first | exact calls_later (c_within_f _ _ _ _ (by omega)) | exact calls_later2 (c_within_f _ _ _ _ (by omega))))))); refine wpQuiet_nil ?_; rintro _ ⟨p, rfl⟩))
      go_ret
      exact Gives.mk rfl (by (repeat (first | exact Below.refl _ _ | assumption | refine Below.drew ?_ | refine below_drewN ?_ _ | refine below_then_later ?_ (by first | exact Nat.le_refl _ | (simp; done) | (simp; omega) | (simp [later_size]; done) | (simp [later_size]; omega)) _ | refine Below.setCell ?_ (by first | exact Nat.le_refl _ | (simp; done) | (simp; omega) | (simp [later_size]; done) | (simp [later_size]; omega)) _ | refine Below.alloc ?_ (by first | exact Nat.le_refl _ | (simp; done) | (simp; omega) | (simp [later_size]; done) | (simp [later_size]; omega)) _)))
    · rw [stOk_f (by omega)]
      go_enter Try.func21, Try.ntmps21
      go_wp2_with (first | (go_at_call 41; refine (c_within_t _ _ _ _ (by omega)).mono ?_; rintro _ _ ⟨rfl, p, rfl⟩) | (go_at_call 41; refine (c_within_f _ _ _ _ (by omega)).mono ?_; rintro _ _ ⟨rfl, p, rfl⟩) | (refine wp_region_later (by kernel_rfl) (by kernel_rfl) ?_; (repeat (quiet_step ((first | (go_at_call 41; first | exact calls_later (c_within_t _ _ _ _ (by omega)) | exact calls_later2 (c_within_t _ _ _ _ (by omega))) | (go_at_call 41; first | exact calls_later (c_within_f _ _ _ _ (by omega)) | exact calls_later2 (c_within_f _ _ _ _ (by omega))))))); refine wpQuiet_nil ?_; rintro _ ⟨p, rfl⟩))
      go_ret
      exact Gives.mk rfl (by (repeat (first | exact Below.refl _ _ | assumption | refine Below.drew ?_ | refine below_drewN ?_ _ | refine below_then_later ?_ (by first | exact Nat.le_refl _ | (simp; done) | (simp; omega) | (simp [later_size]; done) | (simp [later_size]; omega)) _ | refine Below.setCell ?_ (by first | exact Nat.le_refl _ | (simp; done) | (simp; omega) | (simp [later_size]; done) | (simp [later_size]; omega)) _ | refine Below.alloc ?_ (by first | exact Nat.le_refl _ | (simp; done) | (simp; omega) | (simp [later_size]; done) | (simp [later_size]; omega)) _)))
  · rw [stOk_f (by omega)]
    go_enter Try.func21, Try.ntmps21
    go_wp2_with (first | (go_at_call 41; refine (c_within_t _ _ _ _ (by omega)).mono ?_; rintro _ _ ⟨rfl, p, rfl⟩) | (go_at_call 41; refine (c_within_f _ _ _ _ (by omega)).mono ?_; rintro _ _ ⟨rfl, p, rfl⟩) | (refine wp_region_later (by kernel_rfl) (by kernel_rfl) ?_; (repeat (quiet_step ((first | (go_at_call 41; first | exact calls_later (c_within_t _ _ _ _ (by omega)) | exact calls_later2 (c_within_t _ _ _ _ (by omega))) | (go_at_call 41; first | exact calls_later (c_within_f _ _ _ _ (by omega)) | exact calls_later2 (c_within_f _ _ _ _ (by omega))))))); refine wpQuiet_nil ?_; rintro _ ⟨p, rfl⟩))
    go_ret
    exact Gives.mk rfl (by (repeat (first | exact Below.refl _ _ | assumption | refine Below.drew ?_ | refine below_drewN ?_ _ | refine below_then_later ?_ (by first | exact Nat.le_refl _ | (simp; done) | (simp; omega) | (simp [later_size]; done) | (simp [later_size]; omega)) _ | refine Below.setCell ?_ (by first | exact Nat.le_refl _ | (simp; done) | (simp; omega) | (simp [later_size]; done) | (simp [later_size]; omega)) _ | refine Below.alloc ?_ (by first | exact Nat.le_refl _ | (simp; done) | (simp; omega) | (simp [later_size]; done) | (simp [later_size]; omega)) _)))
set_option maxHeartbeats 400000 in
theorem c_itemOk (a b : Int) (w : World) : Calls Try.prog 45 #[.int .i64 a, .int .i64 b] w (Gives (.bool (itOk a b)) w) := by
  by_cases h1 : 0 ≤ a ∧ a ≤ 99
  · by_cases h2 : 0 ≤ b ∧ b ≤ 999
    · rw [itOk_t (by omega)]
      go_enter Try.func45, Try.ntmps45
      go_wp2_with (first | (go_at_call 41; refine (c_within_t _ _ _ _ (by omega)).mono ?_; rintro _ _ ⟨rfl, p, rfl⟩) | (go_at_call 41; refine (c_within_f _ _ _ _ (by omega)).mono ?_; rintro _ _ ⟨rfl, p, rfl⟩) | (refine wp_region_later (by kernel_rfl) (by kernel_rfl) ?_; (repeat (quiet_step ((first | (go_at_call 41; first | exact calls_later (c_within_t _ _ _ _ (by omega)) | exact calls_later2 (c_within_t _ _ _ _ (by omega))) | (go_at_call 41; first | exact calls_later (c_within_f _ _ _ _ (by omega)) | exact calls_later2 (c_within_f _ _ _ _ (by omega))))))); refine wpQuiet_nil ?_; rintro _ ⟨p, rfl⟩))
      go_ret
      exact Gives.mk rfl (by (repeat (first | exact Below.refl _ _ | assumption | refine Below.drew ?_ | refine below_drewN ?_ _ | refine below_then_later ?_ (by first | exact Nat.le_refl _ | (simp; done) | (simp; omega) | (simp [later_size]; done) | (simp [later_size]; omega)) _ | refine Below.setCell ?_ (by first | exact Nat.le_refl _ | (simp; done) | (simp; omega) | (simp [later_size]; done) | (simp [later_size]; omega)) _ | refine Below.alloc ?_ (by first | exact Nat.le_refl _ | (simp; done) | (simp; omega) | (simp [later_size]; done) | (simp [later_size]; omega)) _)))
    · rw [itOk_f (by omega)]
      go_enter Try.func45, Try.ntmps45
      go_wp2_with (first | (go_at_call 41; refine (c_within_t _ _ _ _ (by omega)).mono ?_; rintro _ _ ⟨rfl, p, rfl⟩) | (go_at_call 41; refine (c_within_f _ _ _ _ (by omega)).mono ?_; rintro _ _ ⟨rfl, p, rfl⟩) | (refine wp_region_later (by kernel_rfl) (by kernel_rfl) ?_; (repeat (quiet_step ((first | (go_at_call 41; first | exact calls_later (c_within_t _ _ _ _ (by omega)) | exact calls_later2 (c_within_t _ _ _ _ (by omega))) | (go_at_call 41; first | exact calls_later (c_within_f _ _ _ _ (by omega)) | exact calls_later2 (c_within_f _ _ _ _ (by omega))))))); refine wpQuiet_nil ?_; rintro _ ⟨p, rfl⟩))
      go_ret
      exact Gives.mk rfl (by (repeat (first | exact Below.refl _ _ | assumption | refine Below.drew ?_ | refine below_drewN ?_ _ | refine below_then_later ?_ (by first | exact Nat.le_refl _ | (simp; done) | (simp; omega) | (simp [later_size]; done) | (simp [later_size]; omega)) _ | refine Below.setCell ?_ (by first | exact Nat.le_refl _ | (simp; done) | (simp; omega) | (simp [later_size]; done) | (simp [later_size]; omega)) _ | refine Below.alloc ?_ (by first | exact Nat.le_refl _ | (simp; done) | (simp; omega) | (simp [later_size]; done) | (simp [later_size]; omega)) _)))
  · rw [itOk_f (by omega)]
    go_enter Try.func45, Try.ntmps45
    go_wp2_with (first | (go_at_call 41; refine (c_within_t _ _ _ _ (by omega)).mono ?_; rintro _ _ ⟨rfl, p, rfl⟩) | (go_at_call 41; refine (c_within_f _ _ _ _ (by omega)).mono ?_; rintro _ _ ⟨rfl, p, rfl⟩) | (refine wp_region_later (by kernel_rfl) (by kernel_rfl) ?_; (repeat (quiet_step ((first | (go_at_call 41; first | exact calls_later (c_within_t _ _ _ _ (by omega)) | exact calls_later2 (c_within_t _ _ _ _ (by omega))) | (go_at_call 41; first | exact calls_later (c_within_f _ _ _ _ (by omega)) | exact calls_later2 (c_within_f _ _ _ _ (by omega))))))); refine wpQuiet_nil ?_; rintro _ ⟨p, rfl⟩))
    go_ret
    exact Gives.mk rfl (by (repeat (first | exact Below.refl _ _ | assumption | refine Below.drew ?_ | refine below_drewN ?_ _ | refine below_then_later ?_ (by first | exact Nat.le_refl _ | (simp; done) | (simp; omega) | (simp [later_size]; done) | (simp [later_size]; omega)) _ | refine Below.setCell ?_ (by first | exact Nat.le_refl _ | (simp; done) | (simp; omega) | (simp [later_size]; done) | (simp [later_size]; omega)) _ | refine Below.alloc ?_ (by first | exact Nat.le_refl _ | (simp; done) | (simp; omega) | (simp [later_size]; done) | (simp [later_size]; omega)) _)))
theorem c_iStampOk_b (a b : Int) (w : World) (x : Bool) (h : stOk a b = x) : Calls Try.prog 21 #[.agg #[.int .i64 a, .int .i64 b]] w (Gives (.bool x) w) := by
  subst h; exact c_iStampOk a b w
theorem c_itemOk_b (a b : Int) (w : World) (x : Bool) (h : itOk a b = x) : Calls Try.prog 45 #[.int .i64 a, .int .i64 b] w (Gives (.bool x) w) := by
  subst h; exact c_itemOk a b w
set_option maxHeartbeats 400000 in
theorem c_sStampLeq (a b c d : Int) (w : World) : Calls Try.prog 17 #[.agg #[.int .i64 a, .int .i64 b], .agg #[.int .i64 c, .int .i64 d]] w (Gives (.bool (leqB a b c d)) w) := by
  by_cases h : a ≤ c
  all_goals
    go_enter Try.func17, Try.ntmps17
    go_wp2_with (first | (refine wp_region_later (by kernel_rfl) (by kernel_rfl) ?_; (repeat (quiet_step ((fail)))); refine wpQuiet_nil ?_; rintro _ ⟨p, rfl⟩))
    go_ret
    refine Gives.mk (ret_bool (by unfold leqB; simp [h] <;> omega)) ?_
    (repeat (first | exact Below.refl _ _ | assumption | refine Below.drew ?_ | refine below_drewN ?_ _ | refine below_then_later ?_ (by first | exact Nat.le_refl _ | (simp; done) | (simp; omega) | (simp [later_size]; done) | (simp [later_size]; omega)) _ | refine Below.setCell ?_ (by first | exact Nat.le_refl _ | (simp; done) | (simp; omega) | (simp [later_size]; done) | (simp [later_size]; omega)) _ | refine Below.alloc ?_ (by first | exact Nat.le_refl _ | (simp; done) | (simp; omega) | (simp [later_size]; done) | (simp [later_size]; omega)) _))
theorem c_sStampLeq_b (a b c d : Int) (w : World) (x : Bool) (h : leqB a b c d = x) : Calls Try.prog 17 #[.agg #[.int .i64 a, .int .i64 b], .agg #[.int .i64 c, .int .i64 d]] w (Gives (.bool x) w) := by
  subst h; exact c_sStampLeq a b c d w
set_option maxHeartbeats 400000 in
theorem c_sStampOk (a b : Int) (w : World) : Calls Try.prog 20 #[.agg #[.int .i64 a, .int .i64 b]] w (Gives (.bool (stOk a b)) w) := by
  by_cases h1 : 0 ≤ a ∧ a ≤ 3
  · by_cases h2 : 0 ≤ b ∧ b ≤ 6
    · rw [stOk_t (by omega)]
      go_enter Try.func20, Try.ntmps20
      go_wp2_with (first | (go_at_call 40; refine (c_in_t _ _ _ _ (by omega)).mono ?_; rintro _ _ ⟨rfl, p, rfl⟩) | (go_at_call 40; refine (c_in_f _ _ _ _ (by omega)).mono ?_; rintro _ _ ⟨rfl, p, rfl⟩) | (refine wp_region_later (by kernel_rfl) (by kernel_rfl) ?_; (repeat (quiet_step ((first | (go_at_call 40; first | exact calls_later (c_in_t _ _ _ _ (by omega)) | exact calls_later2 (c_in_t _ _ _ _ (by omega))) | (go_at_call 40; first | exact calls_later (c_in_f _ _ _ _ (by omega)) | exact calls_later2 (c_in_f _ _ _ _ (by omega))))))); refine wpQuiet_nil ?_; rintro _ ⟨p, rfl⟩))
      go_ret
      exact Gives.mk rfl (by (repeat (first | exact Below.refl _ _ | assumption | refine Below.drew ?_ | refine below_drewN ?_ _ | refine below_then_later ?_ (by first | exact Nat.le_refl _ | (simp; done) | (simp; omega) | (simp [later_size]; done) | (simp [later_size]; omega)) _ | refine Below.setCell ?_ (by first | exact Nat.le_refl _ | (simp; done) | (simp; omega) | (simp [later_size]; done) | (simp [later_size]; omega)) _ | refine Below.alloc ?_ (by first | exact Nat.le_refl _ | (simp; done) | (simp; omega) | (simp [later_size]; done) | (simp [later_size]; omega)) _)))
    · rw [stOk_f (by omega)]
      go_enter Try.func20, Try.ntmps20
      go_wp2_with (first | (go_at_call 40; refine (c_in_t _ _ _ _ (by omega)).mono ?_; rintro _ _ ⟨rfl, p, rfl⟩) | (go_at_call 40; refine (c_in_f _ _ _ _ (by omega)).mono ?_; rintro _ _ ⟨rfl, p, rfl⟩) | (refine wp_region_later (by kernel_rfl) (by kernel_rfl) ?_; (repeat (quiet_step ((first | (go_at_call 40; first | exact calls_later (c_in_t _ _ _ _ (by omega)) | exact calls_later2 (c_in_t _ _ _ _ (by omega))) | (go_at_call 40; first | exact calls_later (c_in_f _ _ _ _ (by omega)) | exact calls_later2 (c_in_f _ _ _ _ (by omega))))))); refine wpQuiet_nil ?_; rintro _ ⟨p, rfl⟩))
      go_ret
      exact Gives.mk rfl (by (repeat (first | exact Below.refl _ _ | assumption | refine Below.drew ?_ | refine below_drewN ?_ _ | refine below_then_later ?_ (by first | exact Nat.le_refl _ | (simp; done) | (simp; omega) | (simp [later_size]; done) | (simp [later_size]; omega)) _ | refine Below.setCell ?_ (by first | exact Nat.le_refl _ | (simp; done) | (simp; omega) | (simp [later_size]; done) | (simp [later_size]; omega)) _ | refine Below.alloc ?_ (by first | exact Nat.le_refl _ | (simp; done) | (simp; omega) | (simp [later_size]; done) | (simp [later_size]; omega)) _)))
  · rw [stOk_f (by omega)]
    go_enter Try.func20, Try.ntmps20
    go_wp2_with (first | (go_at_call 40; refine (c_in_t _ _ _ _ (by omega)).mono ?_; rintro _ _ ⟨rfl, p, rfl⟩) | (go_at_call 40; refine (c_in_f _ _ _ _ (by omega)).mono ?_; rintro _ _ ⟨rfl, p, rfl⟩) | (refine wp_region_later (by kernel_rfl) (by kernel_rfl) ?_; (repeat (quiet_step ((first | (go_at_call 40; first | exact calls_later (c_in_t _ _ _ _ (by omega)) | exact calls_later2 (c_in_t _ _ _ _ (by omega))) | (go_at_call 40; first | exact calls_later (c_in_f _ _ _ _ (by omega)) | exact calls_later2 (c_in_f _ _ _ _ (by omega))))))); refine wpQuiet_nil ?_; rintro _ ⟨p, rfl⟩))
    go_ret
    exact Gives.mk rfl (by (repeat (first | exact Below.refl _ _ | assumption | refine Below.drew ?_ | refine below_drewN ?_ _ | refine below_then_later ?_ (by first | exact Nat.le_refl _ | (simp; done) | (simp; omega) | (simp [later_size]; done) | (simp [later_size]; omega)) _ | refine Below.setCell ?_ (by first | exact Nat.le_refl _ | (simp; done) | (simp; omega) | (simp [later_size]; done) | (simp [later_size]; omega)) _ | refine Below.alloc ?_ (by first | exact Nat.le_refl _ | (simp; done) | (simp; omega) | (simp [later_size]; done) | (simp [later_size]; omega)) _)))
theorem c_sStampOk_b (a b : Int) (w : World) (x : Bool) (h : stOk a b = x) : Calls Try.prog 20 #[.agg #[.int .i64 a, .int .i64 b]] w (Gives (.bool x) w) := by
  subst h; exact c_sStampOk a b w
set_option maxHeartbeats 400000 in
theorem c_iRecordOk (o a b k v : Int) (w : World) : Calls Try.prog 37 #[.agg #[.int .i64 o, .int .i64 a, .int .i64 b, .int .i64 k, .int .i64 v]] w (Gives (.bool (rcOk o a b k v)) w) := by
  by_cases h1 : 0 ≤ o ∧ o ≤ 7
  · cases h2 : stOk a b
    · have hr : rcOk o a b k v = false := by simp [rcOk, h2]
      rw [hr]; clear hr
      go_enter Try.func37, Try.ntmps37
      go_wp2_with (first | (go_at_call 41; refine (c_within_t _ _ _ _ (by omega)).mono ?_; rintro _ _ ⟨rfl, p, rfl⟩) | (go_at_call 41; refine (c_within_f _ _ _ _ (by omega)).mono ?_; rintro _ _ ⟨rfl, p, rfl⟩) | (go_at_call 21; refine (c_iStampOk_b _ _ _ _ (by assumption)).mono ?_; rintro _ _ ⟨rfl, p, rfl⟩) | (go_at_call 45; refine (c_itemOk_b _ _ _ _ (by assumption)).mono ?_; rintro _ _ ⟨rfl, p, rfl⟩) | (refine wp_region_later (by kernel_rfl) (by kernel_rfl) ?_; (repeat (quiet_step ((first | (go_at_call 41; first | exact calls_later (c_within_t _ _ _ _ (by omega)) | exact calls_later2 (c_within_t _ _ _ _ (by omega))) | (go_at_call 41; first | exact calls_later (c_within_f _ _ _ _ (by omega)) | exact calls_later2 (c_within_f _ _ _ _ (by omega))) | (go_at_call 21; first | exact calls_later (c_iStampOk_b _ _ _ _ (by assumption)) | exact calls_later2 (c_iStampOk_b _ _ _ _ (by assumption))) | (go_at_call 45; first | exact calls_later (c_itemOk_b _ _ _ _ (by assumption)) | exact calls_later2 (c_itemOk_b _ _ _ _ (by assumption))))))); refine wpQuiet_nil ?_; rintro _ ⟨p, rfl⟩))
      go_ret
      exact Gives.mk rfl (by (repeat (first | exact Below.refl _ _ | assumption | refine Below.drew ?_ | refine below_drewN ?_ _ | refine below_then_later ?_ (by first | exact Nat.le_refl _ | (simp; done) | (simp; omega) | (simp [later_size]; done) | (simp [later_size]; omega)) _ | refine Below.setCell ?_ (by first | exact Nat.le_refl _ | (simp; done) | (simp; omega) | (simp [later_size]; done) | (simp [later_size]; omega)) _ | refine Below.alloc ?_ (by first | exact Nat.le_refl _ | (simp; done) | (simp; omega) | (simp [later_size]; done) | (simp [later_size]; omega)) _)))
    · cases h3 : itOk k v
      · have hr : rcOk o a b k v = false := by simp [rcOk, h3]
        rw [hr]; clear hr
        go_enter Try.func37, Try.ntmps37
        go_wp2_with (first | (go_at_call 41; refine (c_within_t _ _ _ _ (by omega)).mono ?_; rintro _ _ ⟨rfl, p, rfl⟩) | (go_at_call 41; refine (c_within_f _ _ _ _ (by omega)).mono ?_; rintro _ _ ⟨rfl, p, rfl⟩) | (go_at_call 21; refine (c_iStampOk_b _ _ _ _ (by assumption)).mono ?_; rintro _ _ ⟨rfl, p, rfl⟩) | (go_at_call 45; refine (c_itemOk_b _ _ _ _ (by assumption)).mono ?_; rintro _ _ ⟨rfl, p, rfl⟩) | (refine wp_region_later (by kernel_rfl) (by kernel_rfl) ?_; (repeat (quiet_step ((first | (go_at_call 41; first | exact calls_later (c_within_t _ _ _ _ (by omega)) | exact calls_later2 (c_within_t _ _ _ _ (by omega))) | (go_at_call 41; first | exact calls_later (c_within_f _ _ _ _ (by omega)) | exact calls_later2 (c_within_f _ _ _ _ (by omega))) | (go_at_call 21; first | exact calls_later (c_iStampOk_b _ _ _ _ (by assumption)) | exact calls_later2 (c_iStampOk_b _ _ _ _ (by assumption))) | (go_at_call 45; first | exact calls_later (c_itemOk_b _ _ _ _ (by assumption)) | exact calls_later2 (c_itemOk_b _ _ _ _ (by assumption))))))); refine wpQuiet_nil ?_; rintro _ ⟨p, rfl⟩))
        go_ret
        exact Gives.mk rfl (by (repeat (first | exact Below.refl _ _ | assumption | refine Below.drew ?_ | refine below_drewN ?_ _ | refine below_then_later ?_ (by first | exact Nat.le_refl _ | (simp; done) | (simp; omega) | (simp [later_size]; done) | (simp [later_size]; omega)) _ | refine Below.setCell ?_ (by first | exact Nat.le_refl _ | (simp; done) | (simp; omega) | (simp [later_size]; done) | (simp [later_size]; omega)) _ | refine Below.alloc ?_ (by first | exact Nat.le_refl _ | (simp; done) | (simp; omega) | (simp [later_size]; done) | (simp [later_size]; omega)) _)))
      · have hr : rcOk o a b k v = true := by simp [rcOk, h1, h2, h3]
        rw [hr]; clear hr
        go_enter Try.func37, Try.ntmps37
        go_wp2_with (first | (go_at_call 41; refine (c_within_t _ _ _ _ (by omega)).mono ?_; rintro _ _ ⟨rfl, p, rfl⟩) | (go_at_call 41; refine (c_within_f _ _ _ _ (by omega)).mono ?_; rintro _ _ ⟨rfl, p, rfl⟩) | (go_at_call 21; refine (c_iStampOk_b _ _ _ _ (by assumption)).mono ?_; rintro _ _ ⟨rfl, p, rfl⟩) | (go_at_call 45; refine (c_itemOk_b _ _ _ _ (by assumption)).mono ?_; rintro _ _ ⟨rfl, p, rfl⟩) | (refine wp_region_later (by kernel_rfl) (by kernel_rfl) ?_; (repeat (quiet_step ((first | (go_at_call 41; first | exact calls_later (c_within_t _ _ _ _ (by omega)) | exact calls_later2 (c_within_t _ _ _ _ (by omega))) | (go_at_call 41; first | exact calls_later (c_within_f _ _ _ _ (by omega)) | exact calls_later2 (c_within_f _ _ _ _ (by omega))) | (go_at_call 21; first | exact calls_later (c_iStampOk_b _ _ _ _ (by assumption)) | exact calls_later2 (c_iStampOk_b _ _ _ _ (by assumption))) | (go_at_call 45; first | exact calls_later (c_itemOk_b _ _ _ _ (by assumption)) | exact calls_later2 (c_itemOk_b _ _ _ _ (by assumption))))))); refine wpQuiet_nil ?_; rintro _ ⟨p, rfl⟩))
        go_ret
        exact Gives.mk rfl (by (repeat (first | exact Below.refl _ _ | assumption | refine Below.drew ?_ | refine below_drewN ?_ _ | refine below_then_later ?_ (by first | exact Nat.le_refl _ | (simp; done) | (simp; omega) | (simp [later_size]; done) | (simp [later_size]; omega)) _ | refine Below.setCell ?_ (by first | exact Nat.le_refl _ | (simp; done) | (simp; omega) | (simp [later_size]; done) | (simp [later_size]; omega)) _ | refine Below.alloc ?_ (by first | exact Nat.le_refl _ | (simp; done) | (simp; omega) | (simp [later_size]; done) | (simp [later_size]; omega)) _)))
  · have hr : rcOk o a b k v = false := by simp [rcOk]; omega
    rw [hr]; clear hr
    go_enter Try.func37, Try.ntmps37
    go_wp2_with (first | (go_at_call 41; refine (c_within_t _ _ _ _ (by omega)).mono ?_; rintro _ _ ⟨rfl, p, rfl⟩) | (go_at_call 41; refine (c_within_f _ _ _ _ (by omega)).mono ?_; rintro _ _ ⟨rfl, p, rfl⟩) | (go_at_call 21; refine (c_iStampOk_b _ _ _ _ (by assumption)).mono ?_; rintro _ _ ⟨rfl, p, rfl⟩) | (go_at_call 45; refine (c_itemOk_b _ _ _ _ (by assumption)).mono ?_; rintro _ _ ⟨rfl, p, rfl⟩) | (refine wp_region_later (by kernel_rfl) (by kernel_rfl) ?_; (repeat (quiet_step ((first | (go_at_call 41; first | exact calls_later (c_within_t _ _ _ _ (by omega)) | exact calls_later2 (c_within_t _ _ _ _ (by omega))) | (go_at_call 41; first | exact calls_later (c_within_f _ _ _ _ (by omega)) | exact calls_later2 (c_within_f _ _ _ _ (by omega))) | (go_at_call 21; first | exact calls_later (c_iStampOk_b _ _ _ _ (by assumption)) | exact calls_later2 (c_iStampOk_b _ _ _ _ (by assumption))) | (go_at_call 45; first | exact calls_later (c_itemOk_b _ _ _ _ (by assumption)) | exact calls_later2 (c_itemOk_b _ _ _ _ (by assumption))))))); refine wpQuiet_nil ?_; rintro _ ⟨p, rfl⟩))
    go_ret
    exact Gives.mk rfl (by (repeat (first | exact Below.refl _ _ | assumption | refine Below.drew ?_ | refine below_drewN ?_ _ | refine below_then_later ?_ (by first | exact Nat.le_refl _ | (simp; done) | (simp; omega) | (simp [later_size]; done) | (simp [later_size]; omega)) _ | refine Below.setCell ?_ (by first | exact Nat.le_refl _ | (simp; done) | (simp; omega) | (simp [later_size]; done) | (simp [later_size]; omega)) _ | refine Below.alloc ?_ (by first | exact Nat.le_refl _ | (simp; done) | (simp; omega) | (simp [later_size]; done) | (simp [later_size]; omega)) _)))
set_option maxHeartbeats 400000 in
theorem c_sRecordOk (o a b k v : Int) (w : World) : Calls Try.prog 35 #[.agg #[.int .i64 o, .int .i64 a, .int .i64 b, .int .i64 k, .int .i64 v]] w (Gives (.bool (rcOk o a b k v)) w) := by
  by_cases h1 : 0 ≤ o ∧ o ≤ 7
  · cases h2 : stOk a b
    · have hr : rcOk o a b k v = false := by simp [rcOk, h2]
      rw [hr]; clear hr
      go_enter Try.func35, Try.ntmps35
      go_wp2_with (first | (go_at_call 40; refine (c_in_t _ _ _ _ (by omega)).mono ?_; rintro _ _ ⟨rfl, p, rfl⟩) | (go_at_call 40; refine (c_in_f _ _ _ _ (by omega)).mono ?_; rintro _ _ ⟨rfl, p, rfl⟩) | (go_at_call 20; refine (c_sStampOk_b _ _ _ _ (by assumption)).mono ?_; rintro _ _ ⟨rfl, p, rfl⟩) | (refine wp_region_later (by kernel_rfl) (by kernel_rfl) ?_; (repeat (quiet_step ((first | (go_at_call 40; first | exact calls_later (c_in_t _ _ _ _ (by omega)) | exact calls_later2 (c_in_t _ _ _ _ (by omega))) | (go_at_call 40; first | exact calls_later (c_in_f _ _ _ _ (by omega)) | exact calls_later2 (c_in_f _ _ _ _ (by omega))) | (go_at_call 20; first | exact calls_later (c_sStampOk_b _ _ _ _ (by assumption)) | exact calls_later2 (c_sStampOk_b _ _ _ _ (by assumption))))))); refine wpQuiet_nil ?_; rintro _ ⟨p, rfl⟩))
      go_ret
      exact Gives.mk rfl (by (repeat (first | exact Below.refl _ _ | assumption | refine Below.drew ?_ | refine below_drewN ?_ _ | refine below_then_later ?_ (by first | exact Nat.le_refl _ | (simp; done) | (simp; omega) | (simp [later_size]; done) | (simp [later_size]; omega)) _ | refine Below.setCell ?_ (by first | exact Nat.le_refl _ | (simp; done) | (simp; omega) | (simp [later_size]; done) | (simp [later_size]; omega)) _ | refine Below.alloc ?_ (by first | exact Nat.le_refl _ | (simp; done) | (simp; omega) | (simp [later_size]; done) | (simp [later_size]; omega)) _)))
    · by_cases h3 : 0 ≤ k ∧ k ≤ 99
      · by_cases h4 : 0 ≤ v ∧ v ≤ 999
        · have hr : rcOk o a b k v = true := by simp [rcOk, h1, h2, itOk, h3, h4]
          rw [hr]; clear hr
          go_enter Try.func35, Try.ntmps35
          go_wp2_with (first | (go_at_call 40; refine (c_in_t _ _ _ _ (by omega)).mono ?_; rintro _ _ ⟨rfl, p, rfl⟩) | (go_at_call 40; refine (c_in_f _ _ _ _ (by omega)).mono ?_; rintro _ _ ⟨rfl, p, rfl⟩) | (go_at_call 20; refine (c_sStampOk_b _ _ _ _ (by assumption)).mono ?_; rintro _ _ ⟨rfl, p, rfl⟩) | (refine wp_region_later (by kernel_rfl) (by kernel_rfl) ?_; (repeat (quiet_step ((first | (go_at_call 40; first | exact calls_later (c_in_t _ _ _ _ (by omega)) | exact calls_later2 (c_in_t _ _ _ _ (by omega))) | (go_at_call 40; first | exact calls_later (c_in_f _ _ _ _ (by omega)) | exact calls_later2 (c_in_f _ _ _ _ (by omega))) | (go_at_call 20; first | exact calls_later (c_sStampOk_b _ _ _ _ (by assumption)) | exact calls_later2 (c_sStampOk_b _ _ _ _ (by assumption))))))); refine wpQuiet_nil ?_; rintro _ ⟨p, rfl⟩))
          go_ret
          exact Gives.mk rfl (by (repeat (first | exact Below.refl _ _ | assumption | refine Below.drew ?_ | refine below_drewN ?_ _ | refine below_then_later ?_ (by first | exact Nat.le_refl _ | (simp; done) | (simp; omega) | (simp [later_size]; done) | (simp [later_size]; omega)) _ | refine Below.setCell ?_ (by first | exact Nat.le_refl _ | (simp; done) | (simp; omega) | (simp [later_size]; done) | (simp [later_size]; omega)) _ | refine Below.alloc ?_ (by first | exact Nat.le_refl _ | (simp; done) | (simp; omega) | (simp [later_size]; done) | (simp [later_size]; omega)) _)))
        · have hr : rcOk o a b k v = false := by simp [rcOk, itOk]; omega
          rw [hr]; clear hr
          go_enter Try.func35, Try.ntmps35
          go_wp2_with (first | (go_at_call 40; refine (c_in_t _ _ _ _ (by omega)).mono ?_; rintro _ _ ⟨rfl, p, rfl⟩) | (go_at_call 40; refine (c_in_f _ _ _ _ (by omega)).mono ?_; rintro _ _ ⟨rfl, p, rfl⟩) | (go_at_call 20; refine (c_sStampOk_b _ _ _ _ (by assumption)).mono ?_; rintro _ _ ⟨rfl, p, rfl⟩) | (refine wp_region_later (by kernel_rfl) (by kernel_rfl) ?_; (repeat (quiet_step ((first | (go_at_call 40; first | exact calls_later (c_in_t _ _ _ _ (by omega)) | exact calls_later2 (c_in_t _ _ _ _ (by omega))) | (go_at_call 40; first | exact calls_later (c_in_f _ _ _ _ (by omega)) | exact calls_later2 (c_in_f _ _ _ _ (by omega))) | (go_at_call 20; first | exact calls_later (c_sStampOk_b _ _ _ _ (by assumption)) | exact calls_later2 (c_sStampOk_b _ _ _ _ (by assumption))))))); refine wpQuiet_nil ?_; rintro _ ⟨p, rfl⟩))
          go_ret
          exact Gives.mk rfl (by (repeat (first | exact Below.refl _ _ | assumption | refine Below.drew ?_ | refine below_drewN ?_ _ | refine below_then_later ?_ (by first | exact Nat.le_refl _ | (simp; done) | (simp; omega) | (simp [later_size]; done) | (simp [later_size]; omega)) _ | refine Below.setCell ?_ (by first | exact Nat.le_refl _ | (simp; done) | (simp; omega) | (simp [later_size]; done) | (simp [later_size]; omega)) _ | refine Below.alloc ?_ (by first | exact Nat.le_refl _ | (simp; done) | (simp; omega) | (simp [later_size]; done) | (simp [later_size]; omega)) _)))
      · have hr : rcOk o a b k v = false := by simp [rcOk, itOk]; omega
        rw [hr]; clear hr
        go_enter Try.func35, Try.ntmps35
        go_wp2_with (first | (go_at_call 40; refine (c_in_t _ _ _ _ (by omega)).mono ?_; rintro _ _ ⟨rfl, p, rfl⟩) | (go_at_call 40; refine (c_in_f _ _ _ _ (by omega)).mono ?_; rintro _ _ ⟨rfl, p, rfl⟩) | (go_at_call 20; refine (c_sStampOk_b _ _ _ _ (by assumption)).mono ?_; rintro _ _ ⟨rfl, p, rfl⟩) | (refine wp_region_later (by kernel_rfl) (by kernel_rfl) ?_; (repeat (quiet_step ((first | (go_at_call 40; first | exact calls_later (c_in_t _ _ _ _ (by omega)) | exact calls_later2 (c_in_t _ _ _ _ (by omega))) | (go_at_call 40; first | exact calls_later (c_in_f _ _ _ _ (by omega)) | exact calls_later2 (c_in_f _ _ _ _ (by omega))) | (go_at_call 20; first | exact calls_later (c_sStampOk_b _ _ _ _ (by assumption)) | exact calls_later2 (c_sStampOk_b _ _ _ _ (by assumption))))))); refine wpQuiet_nil ?_; rintro _ ⟨p, rfl⟩))
        go_ret
        exact Gives.mk rfl (by (repeat (first | exact Below.refl _ _ | assumption | refine Below.drew ?_ | refine below_drewN ?_ _ | refine below_then_later ?_ (by first | exact Nat.le_refl _ | (simp; done) | (simp; omega) | (simp [later_size]; done) | (simp [later_size]; omega)) _ | refine Below.setCell ?_ (by first | exact Nat.le_refl _ | (simp; done) | (simp; omega) | (simp [later_size]; done) | (simp [later_size]; omega)) _ | refine Below.alloc ?_ (by first | exact Nat.le_refl _ | (simp; done) | (simp; omega) | (simp [later_size]; done) | (simp [later_size]; omega)) _)))
  · have hr : rcOk o a b k v = false := by simp [rcOk]; omega
    rw [hr]; clear hr
    go_enter Try.func35, Try.ntmps35
    go_wp2_with (first | (go_at_call 40; refine (c_in_t _ _ _ _ (by omega)).mono ?_; rintro _ _ ⟨rfl, p, rfl⟩) | (go_at_call 40; refine (c_in_f _ _ _ _ (by omega)).mono ?_; rintro _ _ ⟨rfl, p, rfl⟩) | (go_at_call 20; refine (c_sStampOk_b _ _ _ _ (by assumption)).mono ?_; rintro _ _ ⟨rfl, p, rfl⟩) | (refine wp_region_later (by kernel_rfl) (by kernel_rfl) ?_; (repeat (quiet_step ((first | (go_at_call 40; first | exact calls_later (c_in_t _ _ _ _ (by omega)) | exact calls_later2 (c_in_t _ _ _ _ (by omega))) | (go_at_call 40; first | exact calls_later (c_in_f _ _ _ _ (by omega)) | exact calls_later2 (c_in_f _ _ _ _ (by omega))) | (go_at_call 20; first | exact calls_later (c_sStampOk_b _ _ _ _ (by assumption)) | exact calls_later2 (c_sStampOk_b _ _ _ _ (by assumption))))))); refine wpQuiet_nil ?_; rintro _ ⟨p, rfl⟩))
    go_ret
    exact Gives.mk rfl (by (repeat (first | exact Below.refl _ _ | assumption | refine Below.drew ?_ | refine below_drewN ?_ _ | refine below_then_later ?_ (by first | exact Nat.le_refl _ | (simp; done) | (simp; omega) | (simp [later_size]; done) | (simp [later_size]; omega)) _ | refine Below.setCell ?_ (by first | exact Nat.le_refl _ | (simp; done) | (simp; omega) | (simp [later_size]; done) | (simp [later_size]; omega)) _ | refine Below.alloc ?_ (by first | exact Nat.le_refl _ | (simp; done) | (simp; omega) | (simp [later_size]; done) | (simp [later_size]; omega)) _)))
set_option maxHeartbeats 400000 in
theorem c_iBrought (n lo hi : Int) (w : World) : Calls Try.prog 23 #[.int .i64 n, .int .i64 lo, .int .i64 hi] w (Gives (.int .i64 (brought n lo hi)) w) := by
  by_cases h1 : hi < lo
  · go_enter Try.func23, Try.ntmps23
    go_wp2_with (first | (refine wp_region_later (by kernel_rfl) (by kernel_rfl) ?_; (repeat (quiet_step ((fail)))); refine wpQuiet_nil ?_; rintro _ ⟨p, rfl⟩))
    go_ret
    exact Gives.mk (ret_int (by unfold brought; repeat split <;> omega)) (by (repeat (first | exact Below.refl _ _ | assumption | refine Below.drew ?_ | refine below_drewN ?_ _ | refine below_then_later ?_ (by first | exact Nat.le_refl _ | (simp; done) | (simp; omega) | (simp [later_size]; done) | (simp [later_size]; omega)) _ | refine Below.setCell ?_ (by first | exact Nat.le_refl _ | (simp; done) | (simp; omega) | (simp [later_size]; done) | (simp [later_size]; omega)) _ | refine Below.alloc ?_ (by first | exact Nat.le_refl _ | (simp; done) | (simp; omega) | (simp [later_size]; done) | (simp [later_size]; omega)) _)))
  · by_cases h2 : n < lo
    · go_enter Try.func23, Try.ntmps23
      go_wp2_with (first | (refine wp_region_later (by kernel_rfl) (by kernel_rfl) ?_; (repeat (quiet_step ((fail)))); refine wpQuiet_nil ?_; rintro _ ⟨p, rfl⟩))
      go_ret
      exact Gives.mk (ret_int (by unfold brought; repeat split <;> omega)) (by (repeat (first | exact Below.refl _ _ | assumption | refine Below.drew ?_ | refine below_drewN ?_ _ | refine below_then_later ?_ (by first | exact Nat.le_refl _ | (simp; done) | (simp; omega) | (simp [later_size]; done) | (simp [later_size]; omega)) _ | refine Below.setCell ?_ (by first | exact Nat.le_refl _ | (simp; done) | (simp; omega) | (simp [later_size]; done) | (simp [later_size]; omega)) _ | refine Below.alloc ?_ (by first | exact Nat.le_refl _ | (simp; done) | (simp; omega) | (simp [later_size]; done) | (simp [later_size]; omega)) _)))
    · by_cases h3 : hi < n
      · go_enter Try.func23, Try.ntmps23
        go_wp2_with (first | (refine wp_region_later (by kernel_rfl) (by kernel_rfl) ?_; (repeat (quiet_step ((fail)))); refine wpQuiet_nil ?_; rintro _ ⟨p, rfl⟩))
        go_ret
        exact Gives.mk (ret_int (by unfold brought; repeat split <;> omega)) (by (repeat (first | exact Below.refl _ _ | assumption | refine Below.drew ?_ | refine below_drewN ?_ _ | refine below_then_later ?_ (by first | exact Nat.le_refl _ | (simp; done) | (simp; omega) | (simp [later_size]; done) | (simp [later_size]; omega)) _ | refine Below.setCell ?_ (by first | exact Nat.le_refl _ | (simp; done) | (simp; omega) | (simp [later_size]; done) | (simp [later_size]; omega)) _ | refine Below.alloc ?_ (by first | exact Nat.le_refl _ | (simp; done) | (simp; omega) | (simp [later_size]; done) | (simp [later_size]; omega)) _)))
      · go_enter Try.func23, Try.ntmps23
        go_wp2_with (first | (refine wp_region_later (by kernel_rfl) (by kernel_rfl) ?_; (repeat (quiet_step ((fail)))); refine wpQuiet_nil ?_; rintro _ ⟨p, rfl⟩))
        go_ret
        exact Gives.mk (ret_int (by unfold brought; repeat split <;> omega)) (by (repeat (first | exact Below.refl _ _ | assumption | refine Below.drew ?_ | refine below_drewN ?_ _ | refine below_then_later ?_ (by first | exact Nat.le_refl _ | (simp; done) | (simp; omega) | (simp [later_size]; done) | (simp [later_size]; omega)) _ | refine Below.setCell ?_ (by first | exact Nat.le_refl _ | (simp; done) | (simp; omega) | (simp [later_size]; done) | (simp [later_size]; omega)) _ | refine Below.alloc ?_ (by first | exact Nat.le_refl _ | (simp; done) | (simp; omega) | (simp [later_size]; done) | (simp [later_size]; omega)) _)))
set_option maxHeartbeats 400000 in
theorem c_sBrought (n lo hi : Int) (w : World) : Calls Try.prog 22 #[.int .i64 n, .int .i64 lo, .int .i64 hi] w (Gives (.int .i64 (brought n lo hi)) w) := by
  by_cases h1 : hi < lo
  · go_enter Try.func22, Try.ntmps22
    go_wp2_with (first | (refine wp_region_later (by kernel_rfl) (by kernel_rfl) ?_; (repeat (quiet_step ((fail)))); refine wpQuiet_nil ?_; rintro _ ⟨p, rfl⟩))
    go_ret
    exact Gives.mk (ret_int (by unfold brought; repeat split <;> omega)) (by (repeat (first | exact Below.refl _ _ | assumption | refine Below.drew ?_ | refine below_drewN ?_ _ | refine below_then_later ?_ (by first | exact Nat.le_refl _ | (simp; done) | (simp; omega) | (simp [later_size]; done) | (simp [later_size]; omega)) _ | refine Below.setCell ?_ (by first | exact Nat.le_refl _ | (simp; done) | (simp; omega) | (simp [later_size]; done) | (simp [later_size]; omega)) _ | refine Below.alloc ?_ (by first | exact Nat.le_refl _ | (simp; done) | (simp; omega) | (simp [later_size]; done) | (simp [later_size]; omega)) _)))
  · by_cases h2 : n < lo
    · go_enter Try.func22, Try.ntmps22
      go_wp2_with (first | (refine wp_region_later (by kernel_rfl) (by kernel_rfl) ?_; (repeat (quiet_step ((fail)))); refine wpQuiet_nil ?_; rintro _ ⟨p, rfl⟩))
      go_ret
      exact Gives.mk (ret_int (by unfold brought; repeat split <;> omega)) (by (repeat (first | exact Below.refl _ _ | assumption | refine Below.drew ?_ | refine below_drewN ?_ _ | refine below_then_later ?_ (by first | exact Nat.le_refl _ | (simp; done) | (simp; omega) | (simp [later_size]; done) | (simp [later_size]; omega)) _ | refine Below.setCell ?_ (by first | exact Nat.le_refl _ | (simp; done) | (simp; omega) | (simp [later_size]; done) | (simp [later_size]; omega)) _ | refine Below.alloc ?_ (by first | exact Nat.le_refl _ | (simp; done) | (simp; omega) | (simp [later_size]; done) | (simp [later_size]; omega)) _)))
    · by_cases h3 : hi < n
      · go_enter Try.func22, Try.ntmps22
        go_wp2_with (first | (refine wp_region_later (by kernel_rfl) (by kernel_rfl) ?_; (repeat (quiet_step ((fail)))); refine wpQuiet_nil ?_; rintro _ ⟨p, rfl⟩))
        go_ret
        exact Gives.mk (ret_int (by unfold brought; repeat split <;> omega)) (by (repeat (first | exact Below.refl _ _ | assumption | refine Below.drew ?_ | refine below_drewN ?_ _ | refine below_then_later ?_ (by first | exact Nat.le_refl _ | (simp; done) | (simp; omega) | (simp [later_size]; done) | (simp [later_size]; omega)) _ | refine Below.setCell ?_ (by first | exact Nat.le_refl _ | (simp; done) | (simp; omega) | (simp [later_size]; done) | (simp [later_size]; omega)) _ | refine Below.alloc ?_ (by first | exact Nat.le_refl _ | (simp; done) | (simp; omega) | (simp [later_size]; done) | (simp [later_size]; omega)) _)))
      · go_enter Try.func22, Try.ntmps22
        go_wp2_with (first | (refine wp_region_later (by kernel_rfl) (by kernel_rfl) ?_; (repeat (quiet_step ((fail)))); refine wpQuiet_nil ?_; rintro _ ⟨p, rfl⟩))
        go_ret
        exact Gives.mk (ret_int (by unfold brought; repeat split <;> omega)) (by (repeat (first | exact Below.refl _ _ | assumption | refine Below.drew ?_ | refine below_drewN ?_ _ | refine below_then_later ?_ (by first | exact Nat.le_refl _ | (simp; done) | (simp; omega) | (simp [later_size]; done) | (simp [later_size]; omega)) _ | refine Below.setCell ?_ (by first | exact Nat.le_refl _ | (simp; done) | (simp; omega) | (simp [later_size]; done) | (simp [later_size]; omega)) _ | refine Below.alloc ?_ (by first | exact Nat.le_refl _ | (simp; done) | (simp; omega) | (simp [later_size]; done) | (simp [later_size]; omega)) _)))
set_option maxHeartbeats 400000 in
theorem c_less (a b : Int) (w : World) : Calls Try.prog 44 #[.int .i64 a, .int .i64 b] w (Gives (.int .i64 (lessI a b)) w) := by
  by_cases h : b < a
  all_goals
    go_enter Try.func44, Try.ntmps44
    go_wp2_with (first | (refine wp_region_later (by kernel_rfl) (by kernel_rfl) ?_; (repeat (quiet_step ((fail)))); refine wpQuiet_nil ?_; rintro _ ⟨p, rfl⟩))
    go_ret
    exact Gives.mk (ret_int (by unfold lessI; split <;> omega)) (by (repeat (first | exact Below.refl _ _ | assumption | refine Below.drew ?_ | refine below_drewN ?_ _ | refine below_then_later ?_ (by first | exact Nat.le_refl _ | (simp; done) | (simp; omega) | (simp [later_size]; done) | (simp [later_size]; omega)) _ | refine Below.setCell ?_ (by first | exact Nat.le_refl _ | (simp; done) | (simp; omega) | (simp [later_size]; done) | (simp [later_size]; omega)) _ | refine Below.alloc ?_ (by first | exact Nat.le_refl _ | (simp; done) | (simp; omega) | (simp [later_size]; done) | (simp [later_size]; omega)) _)))
set_option maxHeartbeats 400000 in
theorem c_more (a b : Int) (w : World) : Calls Try.prog 43 #[.int .i64 a, .int .i64 b] w (Gives (.int .i64 (moreI a b)) w) := by
  by_cases h : a < b
  all_goals
    go_enter Try.func43, Try.ntmps43
    go_wp2_with (first | (refine wp_region_later (by kernel_rfl) (by kernel_rfl) ?_; (repeat (quiet_step ((fail)))); refine wpQuiet_nil ?_; rintro _ ⟨p, rfl⟩))
    go_ret
    exact Gives.mk (ret_int (by unfold moreI; split <;> omega)) (by (repeat (first | exact Below.refl _ _ | assumption | refine Below.drew ?_ | refine below_drewN ?_ _ | refine below_then_later ?_ (by first | exact Nat.le_refl _ | (simp; done) | (simp; omega) | (simp [later_size]; done) | (simp [later_size]; omega)) _ | refine Below.setCell ?_ (by first | exact Nat.le_refl _ | (simp; done) | (simp; omega) | (simp [later_size]; done) | (simp [later_size]; omega)) _ | refine Below.alloc ?_ (by first | exact Nat.le_refl _ | (simp; done) | (simp; omega) | (simp [later_size]; done) | (simp [later_size]; omega)) _)))
set_option maxHeartbeats 400000 in
theorem c_iStampMeet (a b c d : Int) (w : World) : Calls Try.prog 34 #[.agg #[.int .i64 a, .int .i64 b], .agg #[.int .i64 c, .int .i64 d]] w (Gives (.agg #[.int .i64 (lessI a c), .int .i64 (lessI b d)]) w) := by
  have e1 : lessI a c = min a c := by unfold lessI; omega
  have e2 : lessI b d = min b d := by unfold lessI; omega
  rw [e1, e2]; clear e1 e2
  go_enter Try.func34, Try.ntmps34
  go_wp2_with (first | (refine wp_region_later (by kernel_rfl) (by kernel_rfl) ?_; (repeat (quiet_step ((fail)))); refine wpQuiet_nil ?_; rintro _ ⟨p, rfl⟩))
  all_goals
    refine bodyPost_ret (v := .agg #[.int .i64 (min a c), .int .i64 (min b d)]) (by simp [results, Try.results34, go_sem] <;> omega) rfl (Gives.mk rfl ?_)
    (repeat (first | exact Below.refl _ _ | assumption | refine Below.drew ?_ | refine below_drewN ?_ _ | refine below_then_later ?_ (by first | exact Nat.le_refl _ | (simp; done) | (simp; omega) | (simp [later_size]; done) | (simp [later_size]; omega)) _ | refine Below.setCell ?_ (by first | exact Nat.le_refl _ | (simp; done) | (simp; omega) | (simp [later_size]; done) | (simp [later_size]; omega)) _ | refine Below.alloc ?_ (by first | exact Nat.le_refl _ | (simp; done) | (simp; omega) | (simp [later_size]; done) | (simp [later_size]; omega)) _))
set_option maxHeartbeats 400000 in
theorem c_iStampJoin (a b c d : Int) (w : World) : Calls Try.prog 31 #[.agg #[.int .i64 a, .int .i64 b], .agg #[.int .i64 c, .int .i64 d]] w (Gives (.agg #[.int .i64 (moreI a c), .int .i64 (moreI b d)]) w) := by
  have e1 : moreI a c = max a c := by unfold moreI; omega
  have e2 : moreI b d = max b d := by unfold moreI; omega
  rw [e1, e2]; clear e1 e2
  go_enter Try.func31, Try.ntmps31
  go_wp2_with (first | (refine wp_region_later (by kernel_rfl) (by kernel_rfl) ?_; (repeat (quiet_step ((fail)))); refine wpQuiet_nil ?_; rintro _ ⟨p, rfl⟩))
  all_goals
    refine bodyPost_ret (v := .agg #[.int .i64 (max a c), .int .i64 (max b d)]) (by simp [results, Try.results31, go_sem] <;> omega) rfl (Gives.mk rfl ?_)
    (repeat (first | exact Below.refl _ _ | assumption | refine Below.drew ?_ | refine below_drewN ?_ _ | refine below_then_later ?_ (by first | exact Nat.le_refl _ | (simp; done) | (simp; omega) | (simp [later_size]; done) | (simp [later_size]; omega)) _ | refine Below.setCell ?_ (by first | exact Nat.le_refl _ | (simp; done) | (simp; omega) | (simp [later_size]; done) | (simp [later_size]; omega)) _ | refine Below.alloc ?_ (by first | exact Nat.le_refl _ | (simp; done) | (simp; omega) | (simp [later_size]; done) | (simp [later_size]; omega)) _))
set_option maxHeartbeats 400000 in
theorem c_sStampMeet (a b c d : Int) (w : World) : Calls Try.prog 33 #[.agg #[.int .i64 a, .int .i64 b], .agg #[.int .i64 c, .int .i64 d]] w (Gives (.agg #[.int .i64 (lessI a c), .int .i64 (lessI b d)]) w) := by
  go_enter Try.func33, Try.ntmps33
  go_wp2_with (first | (go_at_call 44; refine (c_less _ _ _).mono ?_; rintro _ _ ⟨rfl, p, rfl⟩) | (refine wp_region_later (by kernel_rfl) (by kernel_rfl) ?_; (repeat (quiet_step ((first | (go_at_call 44; first | exact calls_later (c_less _ _ _) | exact calls_later2 (c_less _ _ _)))))); refine wpQuiet_nil ?_; rintro _ ⟨p, rfl⟩) | (refine wp_region_tail 11 (by kernel_rfl) (by kernel_rfl) ?_; simp only [List.take_succ_cons, List.take_zero, List.drop_succ_cons, List.drop_zero]; (repeat (quiet_step ((first | (go_at_call 44; first | exact calls_later (c_less _ _ _) | exact calls_later2 (c_less _ _ _)))))); refine wpQuiet_nil ?_; rintro _ ⟨p, rfl⟩))
  refine bodyPost_ret (v := .agg #[.int .i64 (lessI a c), .int .i64 (lessI b d)]) (by simp [results, Try.results33, go_sem]) rfl (Gives.mk rfl ?_)
  (repeat (first | exact Below.refl _ _ | assumption | refine Below.drew ?_ | refine below_drewN ?_ _ | refine below_then_later ?_ (by first | exact Nat.le_refl _ | (simp; done) | (simp; omega) | (simp [later_size]; done) | (simp [later_size]; omega)) _ | refine Below.setCell ?_ (by first | exact Nat.le_refl _ | (simp; done) | (simp; omega) | (simp [later_size]; done) | (simp [later_size]; omega)) _ | refine Below.alloc ?_ (by first | exact Nat.le_refl _ | (simp; done) | (simp; omega) | (simp [later_size]; done) | (simp [later_size]; omega)) _))
set_option maxHeartbeats 400000 in
theorem c_sStampJoin (a b c d : Int) (w : World) : Calls Try.prog 30 #[.agg #[.int .i64 a, .int .i64 b], .agg #[.int .i64 c, .int .i64 d]] w (Gives (.agg #[.int .i64 (moreI a c), .int .i64 (moreI b d)]) w) := by
  go_enter Try.func30, Try.ntmps30
  go_wp2_with (first | (go_at_call 43; refine (c_more _ _ _).mono ?_; rintro _ _ ⟨rfl, p, rfl⟩) | (refine wp_region_later (by kernel_rfl) (by kernel_rfl) ?_; (repeat (quiet_step ((first | (go_at_call 43; first | exact calls_later (c_more _ _ _) | exact calls_later2 (c_more _ _ _)))))); refine wpQuiet_nil ?_; rintro _ ⟨p, rfl⟩) | (refine wp_region_tail 11 (by kernel_rfl) (by kernel_rfl) ?_; simp only [List.take_succ_cons, List.take_zero, List.drop_succ_cons, List.drop_zero]; (repeat (quiet_step ((first | (go_at_call 43; first | exact calls_later (c_more _ _ _) | exact calls_later2 (c_more _ _ _)))))); refine wpQuiet_nil ?_; rintro _ ⟨p, rfl⟩))
  refine bodyPost_ret (v := .agg #[.int .i64 (moreI a c), .int .i64 (moreI b d)]) (by simp [results, Try.results30, go_sem]) rfl (Gives.mk rfl ?_)
  (repeat (first | exact Below.refl _ _ | assumption | refine Below.drew ?_ | refine below_drewN ?_ _ | refine below_then_later ?_ (by first | exact Nat.le_refl _ | (simp; done) | (simp; omega) | (simp [later_size]; done) | (simp [later_size]; omega)) _ | refine Below.setCell ?_ (by first | exact Nat.le_refl _ | (simp; done) | (simp; omega) | (simp [later_size]; done) | (simp [later_size]; omega)) _ | refine Below.alloc ?_ (by first | exact Nat.le_refl _ | (simp; done) | (simp; omega) | (simp [later_size]; done) | (simp [later_size]; omega)) _))
set_option maxHeartbeats 400000 in
theorem c_eqStamp (a b c d : Int) (w : World) : Calls Try.prog 32 #[.agg #[.int .i64 a, .int .i64 b], .agg #[.int .i64 c, .int .i64 d]] w (Gives (.bool (decide (a = c ∧ b = d))) w) := by
  by_cases h1 : a = c
  all_goals by_cases h2 : b = d
  all_goals
    go_enter Try.func32, Try.ntmps32
    go_wp2_with (first | (refine wp_region_later (by kernel_rfl) (by kernel_rfl) ?_; (repeat (quiet_step ((fail)))); refine wpQuiet_nil ?_; rintro _ ⟨p, rfl⟩))
    go_ret
    refine Gives.mk (ret_bool (by simp [h1, h2])) ?_
    (repeat (first | exact Below.refl _ _ | assumption | refine Below.drew ?_ | refine below_drewN ?_ _ | refine below_then_later ?_ (by first | exact Nat.le_refl _ | (simp; done) | (simp; omega) | (simp [later_size]; done) | (simp [later_size]; omega)) _ | refine Below.setCell ?_ (by first | exact Nat.le_refl _ | (simp; done) | (simp; omega) | (simp [later_size]; done) | (simp [later_size]; omega)) _ | refine Below.alloc ?_ (by first | exact Nat.le_refl _ | (simp; done) | (simp; omega) | (simp [later_size]; done) | (simp [later_size]; omega)) _))
set_option maxHeartbeats 400000 in
theorem c_iRemembers (k : Int) (w : World) : Calls Try.prog 16 #[.int .i64 k] w (Gives (.bool (decide (k = 5 ∨ k = 6 ∨ k = 8))) w) := by
  by_cases h1 : k = 5
  · subst h1
    go_enter Try.func16, Try.ntmps16
    go_wp2_with (first | (refine wp_region_later (by kernel_rfl) (by kernel_rfl) ?_; (repeat (quiet_step ((fail)))); refine wpQuiet_nil ?_; rintro _ ⟨p, rfl⟩))
    go_ret
    exact Gives.mk (by simp) (by (repeat (first | exact Below.refl _ _ | assumption | refine Below.drew ?_ | refine below_drewN ?_ _ | refine below_then_later ?_ (by first | exact Nat.le_refl _ | (simp; done) | (simp; omega) | (simp [later_size]; done) | (simp [later_size]; omega)) _ | refine Below.setCell ?_ (by first | exact Nat.le_refl _ | (simp; done) | (simp; omega) | (simp [later_size]; done) | (simp [later_size]; omega)) _ | refine Below.alloc ?_ (by first | exact Nat.le_refl _ | (simp; done) | (simp; omega) | (simp [later_size]; done) | (simp [later_size]; omega)) _)))
  · by_cases h2 : k = 6
    · subst h2
      go_enter Try.func16, Try.ntmps16
      go_wp2_with (first | (refine wp_region_later (by kernel_rfl) (by kernel_rfl) ?_; (repeat (quiet_step ((fail)))); refine wpQuiet_nil ?_; rintro _ ⟨p, rfl⟩))
      go_ret
      exact Gives.mk (by simp) (by (repeat (first | exact Below.refl _ _ | assumption | refine Below.drew ?_ | refine below_drewN ?_ _ | refine below_then_later ?_ (by first | exact Nat.le_refl _ | (simp; done) | (simp; omega) | (simp [later_size]; done) | (simp [later_size]; omega)) _ | refine Below.setCell ?_ (by first | exact Nat.le_refl _ | (simp; done) | (simp; omega) | (simp [later_size]; done) | (simp [later_size]; omega)) _ | refine Below.alloc ?_ (by first | exact Nat.le_refl _ | (simp; done) | (simp; omega) | (simp [later_size]; done) | (simp [later_size]; omega)) _)))
    · have e1 : (k == 5) = false := by simpa using h1
      have e2 : (k == 6) = false := by simpa using h2
      go_enter Try.func16, Try.ntmps16
      go_wp2_with (first | (refine wp_region_later (by kernel_rfl) (by kernel_rfl) ?_; (repeat (quiet_step ((fail)))); refine wpQuiet_nil ?_; rintro _ ⟨p, rfl⟩))
      go_ret
      exact Gives.mk (ret_bool (by by_cases h3 : k = 8 <;> simp [h1, h2, h3])) (by (repeat (first | exact Below.refl _ _ | assumption | refine Below.drew ?_ | refine below_drewN ?_ _ | refine below_then_later ?_ (by first | exact Nat.le_refl _ | (simp; done) | (simp; omega) | (simp [later_size]; done) | (simp [later_size]; omega)) _ | refine Below.setCell ?_ (by first | exact Nat.le_refl _ | (simp; done) | (simp; omega) | (simp [later_size]; done) | (simp [later_size]; omega)) _ | refine Below.alloc ?_ (by first | exact Nat.le_refl _ | (simp; done) | (simp; omega) | (simp [later_size]; done) | (simp [later_size]; omega)) _)))
set_option maxHeartbeats 400000 in
theorem c_sRemembers (k : Int) (w : World) : Calls Try.prog 15 #[.int .i64 k] w (Gives (.bool (decide (k = 5 ∨ k = 6 ∨ k = 8))) w) := by
  by_cases h1 : k = 5
  · subst h1
    go_enter Try.func15, Try.ntmps15
    go_wp2_with (first | (refine wp_region_later (by kernel_rfl) (by kernel_rfl) ?_; (repeat (quiet_step ((fail)))); refine wpQuiet_nil ?_; rintro _ ⟨p, rfl⟩))
    go_ret
    exact Gives.mk (by simp) (by (repeat (first | exact Below.refl _ _ | assumption | refine Below.drew ?_ | refine below_drewN ?_ _ | refine below_then_later ?_ (by first | exact Nat.le_refl _ | (simp; done) | (simp; omega) | (simp [later_size]; done) | (simp [later_size]; omega)) _ | refine Below.setCell ?_ (by first | exact Nat.le_refl _ | (simp; done) | (simp; omega) | (simp [later_size]; done) | (simp [later_size]; omega)) _ | refine Below.alloc ?_ (by first | exact Nat.le_refl _ | (simp; done) | (simp; omega) | (simp [later_size]; done) | (simp [later_size]; omega)) _)))
  · by_cases h2 : k = 6
    · subst h2
      go_enter Try.func15, Try.ntmps15
      go_wp2_with (first | (refine wp_region_later (by kernel_rfl) (by kernel_rfl) ?_; (repeat (quiet_step ((fail)))); refine wpQuiet_nil ?_; rintro _ ⟨p, rfl⟩))
      go_ret
      exact Gives.mk (by simp) (by (repeat (first | exact Below.refl _ _ | assumption | refine Below.drew ?_ | refine below_drewN ?_ _ | refine below_then_later ?_ (by first | exact Nat.le_refl _ | (simp; done) | (simp; omega) | (simp [later_size]; done) | (simp [later_size]; omega)) _ | refine Below.setCell ?_ (by first | exact Nat.le_refl _ | (simp; done) | (simp; omega) | (simp [later_size]; done) | (simp [later_size]; omega)) _ | refine Below.alloc ?_ (by first | exact Nat.le_refl _ | (simp; done) | (simp; omega) | (simp [later_size]; done) | (simp [later_size]; omega)) _)))
    · have e1 : (k == 5) = false := by simpa using h1
      have e2 : (k == 6) = false := by simpa using h2
      go_enter Try.func15, Try.ntmps15
      go_wp2_with (first | (refine wp_region_later (by kernel_rfl) (by kernel_rfl) ?_; (repeat (quiet_step ((fail)))); refine wpQuiet_nil ?_; rintro _ ⟨p, rfl⟩))
      go_ret
      exact Gives.mk (ret_bool (by by_cases h3 : k = 8 <;> simp [h1, h2, h3])) (by (repeat (first | exact Below.refl _ _ | assumption | refine Below.drew ?_ | refine below_drewN ?_ _ | refine below_then_later ?_ (by first | exact Nat.le_refl _ | (simp; done) | (simp; omega) | (simp [later_size]; done) | (simp [later_size]; omega)) _ | refine Below.setCell ?_ (by first | exact Nat.le_refl _ | (simp; done) | (simp; omega) | (simp [later_size]; done) | (simp [later_size]; omega)) _ | refine Below.alloc ?_ (by first | exact Nat.le_refl _ | (simp; done) | (simp; omega) | (simp [later_size]; done) | (simp [later_size]; omega)) _)))
set_option maxHeartbeats 400000 in
theorem c_iOwnerOf (k m : Int) (w : World) (hk : I64 k) (hm : I64 m) : Calls Try.prog 27 #[.int .i64 k, .int .i64 m] w (Gives (.int .i64 (if m < 1 then 0 else if k.tmod m < 0 then k.tmod m + m else k.tmod m)) w) := by
  unfold I64 at hk hm
  by_cases h1 : m < 1
  · rw [if_pos h1]
    go_enter Try.func27, Try.ntmps27
    go_wp2_with (first | (refine wp_region_later (by kernel_rfl) (by kernel_rfl) ?_; (repeat (quiet_step ((fail)))); refine wpQuiet_nil ?_; rintro _ ⟨p, rfl⟩))
    go_ret
    exact Gives.mk rfl (by (repeat (first | exact Below.refl _ _ | assumption | refine Below.drew ?_ | refine below_drewN ?_ _ | refine below_then_later ?_ (by first | exact Nat.le_refl _ | (simp; done) | (simp; omega) | (simp [later_size]; done) | (simp [later_size]; omega)) _ | refine Below.setCell ?_ (by first | exact Nat.le_refl _ | (simp; done) | (simp; omega) | (simp [later_size]; done) | (simp [later_size]; omega)) _ | refine Below.alloc ?_ (by first | exact Nat.le_refl _ | (simp; done) | (simp; omega) | (simp [later_size]; done) | (simp [later_size]; omega)) _)))
  · rw [if_neg h1]
    have h1' : 1 ≤ m := by omega
    have b1 := Int.tmod_lt_of_pos k (by omega : 0 < m)
    have b2 := Int.lt_tmod_of_pos k (by omega : 0 < m)
    by_cases h2 : k.tmod m < 0
    · rw [if_pos h2]
      go_enter Try.func27, Try.ntmps27
      go_wp2_with (first | (refine wp_region_later (by kernel_rfl) (by kernel_rfl) ?_; (repeat (quiet_step ((fail)))); refine wpQuiet_nil ?_; rintro _ ⟨p, rfl⟩))
      go_ret
      exact Gives.mk rfl (by (repeat (first | exact Below.refl _ _ | assumption | refine Below.drew ?_ | refine below_drewN ?_ _ | refine below_then_later ?_ (by first | exact Nat.le_refl _ | (simp; done) | (simp; omega) | (simp [later_size]; done) | (simp [later_size]; omega)) _ | refine Below.setCell ?_ (by first | exact Nat.le_refl _ | (simp; done) | (simp; omega) | (simp [later_size]; done) | (simp [later_size]; omega)) _ | refine Below.alloc ?_ (by first | exact Nat.le_refl _ | (simp; done) | (simp; omega) | (simp [later_size]; done) | (simp [later_size]; omega)) _)))
    · rw [if_neg h2]
      go_enter Try.func27, Try.ntmps27
      go_wp2_with (first | (refine wp_region_later (by kernel_rfl) (by kernel_rfl) ?_; (repeat (quiet_step ((fail)))); refine wpQuiet_nil ?_; rintro _ ⟨p, rfl⟩))
      go_ret
      exact Gives.mk rfl (by (repeat (first | exact Below.refl _ _ | assumption | refine Below.drew ?_ | refine below_drewN ?_ _ | refine below_then_later ?_ (by first | exact Nat.le_refl _ | (simp; done) | (simp; omega) | (simp [later_size]; done) | (simp [later_size]; omega)) _ | refine Below.setCell ?_ (by first | exact Nat.le_refl _ | (simp; done) | (simp; omega) | (simp [later_size]; done) | (simp [later_size]; omega)) _ | refine Below.alloc ?_ (by first | exact Nat.le_refl _ | (simp; done) | (simp; omega) | (simp [later_size]; done) | (simp [later_size]; omega)) _)))
set_option maxHeartbeats 400000 in
theorem c_sOwnerOf (k m : Int) (w : World) (hk : I64 k) (hm : I64 m) : Calls Try.prog 26 #[.int .i64 k, .int .i64 m] w (Gives (.int .i64 (if m < 1 then 0 else if k.tmod m < 0 then k.tmod m + m else k.tmod m)) w) := by
  unfold I64 at hk hm
  by_cases h1 : m < 1
  · rw [if_pos h1]
    go_enter Try.func26, Try.ntmps26
    go_wp2_with (first | (refine wp_region_later (by kernel_rfl) (by kernel_rfl) ?_; (repeat (quiet_step ((fail)))); refine wpQuiet_nil ?_; rintro _ ⟨p, rfl⟩))
    go_ret
    exact Gives.mk rfl (by (repeat (first | exact Below.refl _ _ | assumption | refine Below.drew ?_ | refine below_drewN ?_ _ | refine below_then_later ?_ (by first | exact Nat.le_refl _ | (simp; done) | (simp; omega) | (simp [later_size]; done) | (simp [later_size]; omega)) _ | refine Below.setCell ?_ (by first | exact Nat.le_refl _ | (simp; done) | (simp; omega) | (simp [later_size]; done) | (simp [later_size]; omega)) _ | refine Below.alloc ?_ (by first | exact Nat.le_refl _ | (simp; done) | (simp; omega) | (simp [later_size]; done) | (simp [later_size]; omega)) _)))
  · rw [if_neg h1]
    have h1' : 1 ≤ m := by omega
    have b1 := Int.tmod_lt_of_pos k (by omega : 0 < m)
    have b2 := Int.lt_tmod_of_pos k (by omega : 0 < m)
    by_cases h2 : k.tmod m < 0
    · rw [if_pos h2]
      go_enter Try.func26, Try.ntmps26
      go_wp2_with (first | (refine wp_region_later (by kernel_rfl) (by kernel_rfl) ?_; (repeat (quiet_step ((fail)))); refine wpQuiet_nil ?_; rintro _ ⟨p, rfl⟩))
      go_ret
      exact Gives.mk rfl (by (repeat (first | exact Below.refl _ _ | assumption | refine Below.drew ?_ | refine below_drewN ?_ _ | refine below_then_later ?_ (by first | exact Nat.le_refl _ | (simp; done) | (simp; omega) | (simp [later_size]; done) | (simp [later_size]; omega)) _ | refine Below.setCell ?_ (by first | exact Nat.le_refl _ | (simp; done) | (simp; omega) | (simp [later_size]; done) | (simp [later_size]; omega)) _ | refine Below.alloc ?_ (by first | exact Nat.le_refl _ | (simp; done) | (simp; omega) | (simp [later_size]; done) | (simp [later_size]; omega)) _)))
    · rw [if_neg h2]
      go_enter Try.func26, Try.ntmps26
      go_wp2_with (first | (refine wp_region_later (by kernel_rfl) (by kernel_rfl) ?_; (repeat (quiet_step ((fail)))); refine wpQuiet_nil ?_; rintro _ ⟨p, rfl⟩))
      go_ret
      exact Gives.mk rfl (by (repeat (first | exact Below.refl _ _ | assumption | refine Below.drew ?_ | refine below_drewN ?_ _ | refine below_then_later ?_ (by first | exact Nat.le_refl _ | (simp; done) | (simp; omega) | (simp [later_size]; done) | (simp [later_size]; omega)) _ | refine Below.setCell ?_ (by first | exact Nat.le_refl _ | (simp; done) | (simp; omega) | (simp [later_size]; done) | (simp [later_size]; omega)) _ | refine Below.alloc ?_ (by first | exact Nat.le_refl _ | (simp; done) | (simp; omega) | (simp [later_size]; done) | (simp [later_size]; omega)) _)))
end Go.Proofs.Ytadiicaggdkboaa
