/-
  Contracts of the small functions on numbers, stamps and records. Conditions: none, or the range of an int where it is said.
-/
import Derived.Test.YtekjjibnelodlaaKit
import Derived.Test.YtekjjibnelodlaaTail
namespace Go.Proofs.Ytekjjibnelodlaa
open Go.RowKit
set_option linter.unusedVariables false

/-! ### what they compute -/
def leqB (a b c d : Int) : Bool := decide (a ≤ c ∧ b ≤ d)
def stOk (e t : Int) : Bool := decide (0 ≤ e ∧ e ≤ 3 ∧ 0 ≤ t ∧ t ≤ 6)
def itOk (k v : Int) : Bool := decide (0 ≤ k ∧ k ≤ 99 ∧ 0 ≤ v ∧ v ≤ 999)
def rcOk (o e t k v : Int) : Bool := decide (0 ≤ o ∧ o ≤ 7) && (stOk e t && itOk k v)
def brought (n lo hi : Int) : Int := if hi < lo ∨ n < lo then lo else if hi < n then hi else n
def lessI (a b : Int) : Int := if b < a then b else a
def moreI (a b : Int) : Int := if a < b then b else a
theorem stOk_t {e t : Int} (h : 0 ≤ e ∧ e ≤ 3 ∧ 0 ≤ t ∧ t ≤ 6) : stOk e t = true := by unfold stOk; simpa using h
theorem stOk_f {e t : Int} (h : ¬ (0 ≤ e ∧ e ≤ 3 ∧ 0 ≤ t ∧ t ≤ 6)) : stOk e t = false := by unfold stOk; simpa using h
theorem itOk_t {e t : Int} (h : 0 ≤ e ∧ e ≤ 99 ∧ 0 ≤ t ∧ t ≤ 999) : itOk e t = true := by unfold itOk; simpa using h
theorem itOk_f {e t : Int} (h : ¬ (0 ≤ e ∧ e ≤ 99 ∧ 0 ≤ t ∧ t ≤ 999)) : itOk e t = false := by unfold itOk; simpa using h
theorem gives_bool {a b : Bool} {w w' : World} {e : Ending} (h : a = b) (hg : Gives (.bool a) w e w') : Gives (.bool b) w e w' := by subst h; exact hg
theorem gives_int {a b : Int} {w w' : World} {e : Ending} (h : a = b) (hg : Gives (.int .i64 a) w e w') : Gives (.int .i64 b) w e w' := by subst h; exact hg
theorem ret_bool {a b : Bool} (h : a = b) : Ending.returned (.bool a) = .returned (.bool b) := by rw [h]
theorem ret_int {a b : Int} (h : a = b) : Ending.returned (.int .i64 a) = .returned (.int .i64 b) := by rw [h]

set_option maxHeartbeats 400000 in
theorem c_toStamp (a b : Int) (w : World) : Calls Try.prog 24 #[.agg #[.int .i64 a, .int .i64 b]] w (Gives (.agg #[.int .i64 a, .int .i64 b]) w) := by
  go_enter Try.func24, Try.ntmps24
  go_wp2
  refine bodyPost_ret (v := .agg #[.int .i64 a, .int .i64 b]) (by simp [results, Try.results24, go_sem]) rfl (Gives.mk rfl ?_)
  (repeat (first | with_reducible exact Below.refl _ _ | with_reducible assumption | with_reducible refine Below.drew ?_ | with_reducible refine below_drewN ?_ _ | with_reducible exact HQ.out | with_reducible exact HBW.out | with_reducible refine below_ext ?_ _ _ | with_reducible refine below_then_later ?_ (by first | with_reducible exact Nat.le_refl _ | with_reducible exact HBW.out.size | with_reducible exact HQ.out.size | omega | (simp; done) | (simp; omega) | (simp [later_size]; done) | (simp [later_size]; omega)) _ | with_reducible refine Below.setCell ?_ (by first | with_reducible exact Nat.le_refl _ | with_reducible exact HBW.out.size | with_reducible exact HQ.out.size | omega | (simp; done) | (simp; omega) | (simp [later_size]; done) | (simp [later_size]; omega)) _ | with_reducible refine Below.alloc ?_ (by first | with_reducible exact Nat.le_refl _ | with_reducible exact HBW.out.size | with_reducible exact HQ.out.size | omega | (simp; done) | (simp; omega) | (simp [later_size]; done) | (simp [later_size]; omega)) _))
set_option maxHeartbeats 400000 in
theorem c_toRecord (o a b k v : Int) (w : World) : Calls Try.prog 15 #[.agg #[.int .i64 o, .int .i64 a, .int .i64 b, .int .i64 k, .int .i64 v]] w (Gives (.agg #[.int .i64 o, .int .i64 a, .int .i64 b, .int .i64 k, .int .i64 v]) w) := by
  go_enter Try.func15, Try.ntmps15
  go_wp2_with (first | (go_at_call 24; (refine (c_toStamp _ _ _).mono ?_); rintro _ _ ⟨rfl, p, rfl⟩) | ((with_reducible refine wp_region_later (by kernel_rfl) (by kernel_rfl) ?_); (repeat (first | go_big_quiet_skip | quiet_step ((first | (go_at_call 24; first | exact calls_later (c_toStamp _ _ _) | exact calls_later2 (c_toStamp _ _ _)))))); refine wpQuiet_nil ?_; rintro _ ⟨p, rfl⟩))
  refine bodyPost_ret (v := .agg #[.int .i64 o, .int .i64 a, .int .i64 b, .int .i64 k, .int .i64 v]) (by simp [results, Try.results15, go_sem]) rfl (Gives.mk rfl ?_)
  (repeat (first | with_reducible exact Below.refl _ _ | with_reducible assumption | with_reducible refine Below.drew ?_ | with_reducible refine below_drewN ?_ _ | with_reducible exact HQ.out | with_reducible exact HBW.out | with_reducible refine below_ext ?_ _ _ | with_reducible refine below_then_later ?_ (by first | with_reducible exact Nat.le_refl _ | with_reducible exact HBW.out.size | with_reducible exact HQ.out.size | omega | (simp; done) | (simp; omega) | (simp [later_size]; done) | (simp [later_size]; omega)) _ | with_reducible refine Below.setCell ?_ (by first | with_reducible exact Nat.le_refl _ | with_reducible exact HBW.out.size | with_reducible exact HQ.out.size | omega | (simp; done) | (simp; omega) | (simp [later_size]; done) | (simp [later_size]; omega)) _ | with_reducible refine Below.alloc ?_ (by first | with_reducible exact Nat.le_refl _ | with_reducible exact HBW.out.size | with_reducible exact HQ.out.size | omega | (simp; done) | (simp; omega) | (simp [later_size]; done) | (simp [later_size]; omega)) _))
set_option maxHeartbeats 400000 in
theorem c_eqStamp (a b c d : Int) (w : World) : Calls Try.prog 29 #[.agg #[.int .i64 a, .int .i64 b], .agg #[.int .i64 c, .int .i64 d]] w (Gives (.bool (decide (a = c ∧ b = d))) w) := by
  by_cases h1 : a = c
  all_goals by_cases h2 : b = d
  all_goals
    go_enter Try.func29, Try.ntmps29
    go_wp2_with (first | ((with_reducible refine wp_region_later (by kernel_rfl) (by kernel_rfl) ?_); (repeat (first | go_big_quiet_skip | quiet_step ((fail)))); refine wpQuiet_nil ?_; rintro _ ⟨p, rfl⟩))
    go_ret
    refine Gives.mk (ret_bool (by simp [h1, h2])) ?_
    (repeat (first | with_reducible exact Below.refl _ _ | with_reducible assumption | with_reducible refine Below.drew ?_ | with_reducible refine below_drewN ?_ _ | with_reducible exact HQ.out | with_reducible exact HBW.out | with_reducible refine below_ext ?_ _ _ | with_reducible refine below_then_later ?_ (by first | with_reducible exact Nat.le_refl _ | with_reducible exact HBW.out.size | with_reducible exact HQ.out.size | omega | (simp; done) | (simp; omega) | (simp [later_size]; done) | (simp [later_size]; omega)) _ | with_reducible refine Below.setCell ?_ (by first | with_reducible exact Nat.le_refl _ | with_reducible exact HBW.out.size | with_reducible exact HQ.out.size | omega | (simp; done) | (simp; omega) | (simp [later_size]; done) | (simp [later_size]; omega)) _ | with_reducible refine Below.alloc ?_ (by first | with_reducible exact Nat.le_refl _ | with_reducible exact HBW.out.size | with_reducible exact HQ.out.size | omega | (simp; done) | (simp; omega) | (simp [later_size]; done) | (simp [later_size]; omega)) _))
set_option maxHeartbeats 400000 in
theorem c_eqRecord (o a b k v o' c d k' v' : Int) (w : World) : Calls Try.prog 19 #[.agg #[.int .i64 o, .int .i64 a, .int .i64 b, .int .i64 k, .int .i64 v], .agg #[.int .i64 o', .int .i64 c, .int .i64 d, .int .i64 k', .int .i64 v']] w (Gives (.bool (decide (o = o' ∧ a = c ∧ b = d ∧ k = k' ∧ v = v'))) w) := by
  cases h1 : decide (a = c ∧ b = d)
  all_goals by_cases h0 : o = o'
  all_goals by_cases h2 : k = k'
  all_goals by_cases h3 : v = v'
  all_goals first
    | (
      have hr : decide (o = o' ∧ a = c ∧ b = d ∧ k = k' ∧ v = v') = true := by simp at h1 ⊢; omega
      rw [hr]; clear hr
      go_enter Try.func19, Try.ntmps19
      go_wp2_with (first | (go_at_call 29; (refine (c_eqStamp _ _ _ _ _).mono ?_); rintro _ _ ⟨rfl, p, rfl⟩) | ((with_reducible refine wp_region_later (by kernel_rfl) (by kernel_rfl) ?_); (repeat (first | go_big_quiet_skip | quiet_step ((first | (go_at_call 29; first | exact calls_later (c_eqStamp _ _ _ _ _) | exact calls_later2 (c_eqStamp _ _ _ _ _)))))); refine wpQuiet_nil ?_; rintro _ ⟨p, rfl⟩))
      go_ret
      exact Gives.mk rfl (by (repeat (first | with_reducible exact Below.refl _ _ | with_reducible assumption | with_reducible refine Below.drew ?_ | with_reducible refine below_drewN ?_ _ | with_reducible exact HQ.out | with_reducible exact HBW.out | with_reducible refine below_ext ?_ _ _ | with_reducible refine below_then_later ?_ (by first | with_reducible exact Nat.le_refl _ | with_reducible exact HBW.out.size | with_reducible exact HQ.out.size | omega | (simp; done) | (simp; omega) | (simp [later_size]; done) | (simp [later_size]; omega)) _ | with_reducible refine Below.setCell ?_ (by first | with_reducible exact Nat.le_refl _ | with_reducible exact HBW.out.size | with_reducible exact HQ.out.size | omega | (simp; done) | (simp; omega) | (simp [later_size]; done) | (simp [later_size]; omega)) _ | with_reducible refine Below.alloc ?_ (by first | with_reducible exact Nat.le_refl _ | with_reducible exact HBW.out.size | with_reducible exact HQ.out.size | omega | (simp; done) | (simp; omega) | (simp [later_size]; done) | (simp [later_size]; omega)) _))))
    | (
      have hr : decide (o = o' ∧ a = c ∧ b = d ∧ k = k' ∧ v = v') = false := by simp at h1 ⊢; omega
      rw [hr]; clear hr
      go_enter Try.func19, Try.ntmps19
      go_wp2_with (first | (go_at_call 29; (refine (c_eqStamp _ _ _ _ _).mono ?_); rintro _ _ ⟨rfl, p, rfl⟩) | ((with_reducible refine wp_region_later (by kernel_rfl) (by kernel_rfl) ?_); (repeat (first | go_big_quiet_skip | quiet_step ((first | (go_at_call 29; first | exact calls_later (c_eqStamp _ _ _ _ _) | exact calls_later2 (c_eqStamp _ _ _ _ _)))))); refine wpQuiet_nil ?_; rintro _ ⟨p, rfl⟩))
      go_ret
      exact Gives.mk rfl (by (repeat (first | with_reducible exact Below.refl _ _ | with_reducible assumption | with_reducible refine Below.drew ?_ | with_reducible refine below_drewN ?_ _ | with_reducible exact HQ.out | with_reducible exact HBW.out | with_reducible refine below_ext ?_ _ _ | with_reducible refine below_then_later ?_ (by first | with_reducible exact Nat.le_refl _ | with_reducible exact HBW.out.size | with_reducible exact HQ.out.size | omega | (simp; done) | (simp; omega) | (simp [later_size]; done) | (simp [later_size]; omega)) _ | with_reducible refine Below.setCell ?_ (by first | with_reducible exact Nat.le_refl _ | with_reducible exact HBW.out.size | with_reducible exact HQ.out.size | omega | (simp; done) | (simp; omega) | (simp [later_size]; done) | (simp [later_size]; omega)) _ | with_reducible refine Below.alloc ?_ (by first | with_reducible exact Nat.le_refl _ | with_reducible exact HBW.out.size | with_reducible exact HQ.out.size | omega | (simp; done) | (simp; omega) | (simp [later_size]; done) | (simp [later_size]; omega)) _))))
end Go.Proofs.Ytekjjibnelodlaa
