/-
  KindName, in the program and in the reference. Conditions: none.
-/
import Derived.Test.YtadiicaggdkboaaScal
namespace Go.Proofs.Ytadiicaggdkboaa
open Go.RowKit
set_option linter.unusedVariables false

def kindName (k : Int) : ByteArray :=
  if k = 1 then ⟨#[105, 110]⟩ else if k = 2 then ⟨#[97, 100, 100]⟩ else if k = 3 then ⟨#[107, 101, 101, 112]⟩ else if k = 4 then ⟨#[109, 111, 118, 101]⟩
  else if k = 5 then ⟨#[109, 105, 110]⟩ else if k = 6 then ⟨#[110, 101, 119]⟩ else if k = 7 then ⟨#[98, 97, 99, 107]⟩ else if k = 8 then ⟨#[111, 117, 116]⟩ else ⟨#[63]⟩
set_option maxHeartbeats 1600000 in
theorem c_iKindName (k : Int) (w : World) : Calls Try.prog 25 #[.int .i64 k] w (Gives (.string (kindName k)) w) := by
  by_cases hk : 1 ≤ k ∧ k ≤ 8
  · have hcs : k = 1 ∨ k = 2 ∨ k = 3 ∨ k = 4 ∨ k = 5 ∨ k = 6 ∨ k = 7 ∨ k = 8 := by omega
    clear hk
    rcases hcs with rfl | rfl | rfl | rfl | rfl | rfl | rfl | rfl
    all_goals
      go_enter Try.func25, Try.ntmps25
      go_wp2_with (first | (go_at_call 41; refine (c_within_t _ _ _ _ (by omega)).mono ?_; rintro _ _ ⟨rfl, p, rfl⟩) | (refine wp_region_later (by kernel_rfl) (by kernel_rfl) ?_; (repeat (quiet_step ((first | (go_at_call 41; first | exact calls_later (c_within_t _ _ _ _ (by omega)) | exact calls_later2 (c_within_t _ _ _ _ (by omega))))))); refine wpQuiet_nil ?_; rintro _ ⟨p, rfl⟩))
      go_ret
      exact Gives.mk rfl (by (repeat (first | exact Below.refl _ _ | assumption | refine Below.drew ?_ | refine below_drewN ?_ _ | refine below_then_later ?_ (by first | exact Nat.le_refl _ | (simp; done) | (simp; omega) | (simp [later_size]; done) | (simp [later_size]; omega)) _ | refine Below.setCell ?_ (by first | exact Nat.le_refl _ | (simp; done) | (simp; omega) | (simp [later_size]; done) | (simp [later_size]; omega)) _ | refine Below.alloc ?_ (by first | exact Nat.le_refl _ | (simp; done) | (simp; omega) | (simp [later_size]; done) | (simp [later_size]; omega)) _)))
  · have hn : kindName k = ⟨#[63]⟩ := by
      unfold kindName
      rw [if_neg (by omega), if_neg (by omega), if_neg (by omega), if_neg (by omega), if_neg (by omega), if_neg (by omega), if_neg (by omega), if_neg (by omega)]
    rw [hn]
    clear hn
    go_enter Try.func25, Try.ntmps25
    go_wp2_with (first | (go_at_call 41; refine (c_within_f _ _ _ _ (by omega)).mono ?_; rintro _ _ ⟨rfl, p, rfl⟩) | (refine wp_region_later (by kernel_rfl) (by kernel_rfl) ?_; (repeat (quiet_step ((first | (go_at_call 41; first | exact calls_later (c_within_f _ _ _ _ (by omega)) | exact calls_later2 (c_within_f _ _ _ _ (by omega))))))); refine wpQuiet_nil ?_; rintro _ ⟨p, rfl⟩))
    go_ret
    exact Gives.mk rfl (by (repeat (first | exact Below.refl _ _ | assumption | refine Below.drew ?_ | refine below_drewN ?_ _ | refine below_then_later ?_ (by first | exact Nat.le_refl _ | (simp; done) | (simp; omega) | (simp [later_size]; done) | (simp [later_size]; omega)) _ | refine Below.setCell ?_ (by first | exact Nat.le_refl _ | (simp; done) | (simp; omega) | (simp [later_size]; done) | (simp [later_size]; omega)) _ | refine Below.alloc ?_ (by first | exact Nat.le_refl _ | (simp; done) | (simp; omega) | (simp [later_size]; done) | (simp [later_size]; omega)) _)))
set_option maxHeartbeats 1600000 in
theorem c_sKindName (k : Int) (w : World) : Calls Try.prog 24 #[.int .i64 k] w (Gives (.string (kindName k)) w) := by
  by_cases hk : 1 ≤ k ∧ k ≤ 8
  · have hcs : k = 1 ∨ k = 2 ∨ k = 3 ∨ k = 4 ∨ k = 5 ∨ k = 6 ∨ k = 7 ∨ k = 8 := by omega
    clear hk
    rcases hcs with rfl | rfl | rfl | rfl | rfl | rfl | rfl | rfl
    all_goals
      go_enter Try.func24, Try.ntmps24
      go_wp2_with (first | (go_at_call 40; refine (c_in_t _ _ _ _ (by omega)).mono ?_; rintro _ _ ⟨rfl, p, rfl⟩) | (refine wp_region_later (by kernel_rfl) (by kernel_rfl) ?_; (repeat (quiet_step ((first | (go_at_call 40; first | exact calls_later (c_in_t _ _ _ _ (by omega)) | exact calls_later2 (c_in_t _ _ _ _ (by omega))))))); refine wpQuiet_nil ?_; rintro _ ⟨p, rfl⟩))
      go_ret
      exact Gives.mk rfl (by (repeat (first | exact Below.refl _ _ | assumption | refine Below.drew ?_ | refine below_drewN ?_ _ | refine below_then_later ?_ (by first | exact Nat.le_refl _ | (simp; done) | (simp; omega) | (simp [later_size]; done) | (simp [later_size]; omega)) _ | refine Below.setCell ?_ (by first | exact Nat.le_refl _ | (simp; done) | (simp; omega) | (simp [later_size]; done) | (simp [later_size]; omega)) _ | refine Below.alloc ?_ (by first | exact Nat.le_refl _ | (simp; done) | (simp; omega) | (simp [later_size]; done) | (simp [later_size]; omega)) _)))
  · have hn : kindName k = ⟨#[63]⟩ := by
      unfold kindName
      rw [if_neg (by omega), if_neg (by omega), if_neg (by omega), if_neg (by omega), if_neg (by omega), if_neg (by omega), if_neg (by omega), if_neg (by omega)]
    rw [hn]
    clear hn
    go_enter Try.func24, Try.ntmps24
    go_wp2_with (first | (go_at_call 40; refine (c_in_f _ _ _ _ (by omega)).mono ?_; rintro _ _ ⟨rfl, p, rfl⟩) | (refine wp_region_later (by kernel_rfl) (by kernel_rfl) ?_; (repeat (quiet_step ((first | (go_at_call 40; first | exact calls_later (c_in_f _ _ _ _ (by omega)) | exact calls_later2 (c_in_f _ _ _ _ (by omega))))))); refine wpQuiet_nil ?_; rintro _ ⟨p, rfl⟩))
    go_ret
    exact Gives.mk rfl (by (repeat (first | exact Below.refl _ _ | assumption | refine Below.drew ?_ | refine below_drewN ?_ _ | refine below_then_later ?_ (by first | exact Nat.le_refl _ | (simp; done) | (simp; omega) | (simp [later_size]; done) | (simp [later_size]; omega)) _ | refine Below.setCell ?_ (by first | exact Nat.le_refl _ | (simp; done) | (simp; omega) | (simp [later_size]; done) | (simp [later_size]; omega)) _ | refine Below.alloc ?_ (by first | exact Nat.le_refl _ | (simp; done) | (simp; omega) | (simp [later_size]; done) | (simp [later_size]; omega)) _)))
end Go.Proofs.Ytadiicaggdkboaa
