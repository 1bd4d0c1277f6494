/-
  The reference's NodeOk computes 'nodeOk'. Conditions: the length is at most 2^40.
-/
import Derived.Test.YtnllmfhmffdceaaNode
namespace Go.Proofs.Ytnllmfhmffdceaa
open Go.RowKit
set_option linter.unusedVariables false

theorem c_in_d (n lo hi : Int) (w : World) : Calls Try.prog 27 #[.int .i64 n, .int .i64 lo, .int .i64 hi] w (Gives (.bool (decide (lo ≤ n ∧ n ≤ hi))) w) := by
  by_cases h : lo ≤ n ∧ n ≤ hi
  · rw [decide_eq_true h]; exact c_in_t n lo hi w h
  · rw [decide_eq_false h]; exact c_in_f n lo hi w h
set_option maxRecDepth 100000 in
set_option maxHeartbeats 6400000 in
theorem c_sNodeOk (kd a b : Int) (A : Option Addr) (n c : Nat) (xs : List Int) (w : World) (z : Bool) (hn : xs.length = n) (hn2 : n ≤ 1099511627776)
    (ha : Row encI 1 w A xs) (hz : nodeOk kd a b xs = z) : Calls Try.prog 9 #[.agg #[.int .i64 kd, .int .i64 a, .int .i64 b, .slice A n c]] w (Gives (.bool z) w) := by
  have HA := Lib.hid ha
  have HN := Lib.hid hn
  have HZ := Lib.hid hz
  clear ha hn hz
  go_enter Try.func9, Try.ntmps9
  go_upto_block 0 with fail
  go_cut [3, 4] (fun s3 s4 wx => ∃ x y : Bool, s3 = .bool x ∧ s4 = .bool y ∧ Mid ((decide (1 ≤ kd ∧ kd ≤ 8) && (x && y)) = ndAB kd a b) (w.alloc (Obj.cells #[.int .i64 kd, .int .i64 a, .int .i64 b, .slice A n c] 27)) wx)
  case first =>
    by_cases h2 : kd = 2
    · subst kd
      go_wp2_with (first | (go_at_call 27; (refine (c_in_d _ _ _ _).mono ?_); rintro _ _ ⟨rfl, p, rfl⟩) | ((with_reducible refine wp_region_later (by kernel_rfl) (by kernel_rfl) ?_); (repeat (first | go_big_quiet_skip | quiet_step ((first | (go_at_call 27; first | exact calls_later (c_in_d _ _ _ _) | exact calls_later2 (c_in_d _ _ _ _)))))); refine wpQuiet_nil ?_; rintro _ ⟨p, rfl⟩))
      all_goals
        go_meet
        exact ⟨_, _, rfl, rfl, by unfold ndAB ndA ndB; by_cases hb : b = 0 <;> simp [hb], later_of_below (by (repeat (first | with_reducible exact Below.refl _ _ | with_reducible assumption | with_reducible refine Below.drew ?_ | with_reducible refine below_drewN ?_ _ | with_reducible exact HQ.out | with_reducible exact HBW.out | with_reducible refine below_ext ?_ _ _ | with_reducible refine below_then_later ?_ (by first | with_reducible exact Nat.le_refl _ | with_reducible exact HBW.out.size | with_reducible exact HQ.out.size | omega | (simp; done) | (simp; omega) | (simp [later_size]; done) | (simp [later_size]; omega)) _ | with_reducible refine Below.setCell ?_ (by first | with_reducible exact Nat.le_refl _ | with_reducible exact HBW.out.size | with_reducible exact HQ.out.size | omega | (simp; done) | (simp; omega) | (simp [later_size]; done) | (simp [later_size]; omega)) _ | with_reducible refine Below.alloc ?_ (by first | with_reducible exact Nat.le_refl _ | with_reducible exact HBW.out.size | with_reducible exact HQ.out.size | omega | (simp; done) | (simp; omega) | (simp [later_size]; done) | (simp [later_size]; omega)) _)))⟩
    · by_cases h3 : kd = 3
      · subst kd
        by_cases h1 : 1 ≤ a ∧ a ≤ 10
        · go_wp2_with (first | (go_at_call 27; (refine (c_in_d _ _ _ _).mono ?_); rintro _ _ ⟨rfl, p, rfl⟩) | ((with_reducible refine wp_region_later (by kernel_rfl) (by kernel_rfl) ?_); (repeat (first | go_big_quiet_skip | quiet_step ((first | (go_at_call 27; first | exact calls_later (c_in_d _ _ _ _) | exact calls_later2 (c_in_d _ _ _ _)))))); refine wpQuiet_nil ?_; rintro _ ⟨p, rfl⟩))
          all_goals
            go_meet
            exact ⟨_, _, rfl, rfl, by unfold ndAB ndA ndB; simp [h1], later_of_below (by (repeat (first | with_reducible exact Below.refl _ _ | with_reducible assumption | with_reducible refine Below.drew ?_ | with_reducible refine below_drewN ?_ _ | with_reducible exact HQ.out | with_reducible exact HBW.out | with_reducible refine below_ext ?_ _ _ | with_reducible refine below_then_later ?_ (by first | with_reducible exact Nat.le_refl _ | with_reducible exact HBW.out.size | with_reducible exact HQ.out.size | omega | (simp; done) | (simp; omega) | (simp [later_size]; done) | (simp [later_size]; omega)) _ | with_reducible refine Below.setCell ?_ (by first | with_reducible exact Nat.le_refl _ | with_reducible exact HBW.out.size | with_reducible exact HQ.out.size | omega | (simp; done) | (simp; omega) | (simp [later_size]; done) | (simp [later_size]; omega)) _ | with_reducible refine Below.alloc ?_ (by first | with_reducible exact Nat.le_refl _ | with_reducible exact HBW.out.size | with_reducible exact HQ.out.size | omega | (simp; done) | (simp; omega) | (simp [later_size]; done) | (simp [later_size]; omega)) _)))⟩
        · go_wp2_with (first | (go_at_call 27; (refine (c_in_d _ _ _ _).mono ?_); rintro _ _ ⟨rfl, p, rfl⟩) | ((with_reducible refine wp_region_later (by kernel_rfl) (by kernel_rfl) ?_); (repeat (first | go_big_quiet_skip | quiet_step ((first | (go_at_call 27; first | exact calls_later (c_in_d _ _ _ _) | exact calls_later2 (c_in_d _ _ _ _)))))); refine wpQuiet_nil ?_; rintro _ ⟨p, rfl⟩))
          all_goals
            go_meet
            exact ⟨_, _, rfl, rfl, by unfold ndAB ndA ndB; simp [h1] <;> omega, later_of_below (by (repeat (first | with_reducible exact Below.refl _ _ | with_reducible assumption | with_reducible refine Below.drew ?_ | with_reducible refine below_drewN ?_ _ | with_reducible exact HQ.out | with_reducible exact HBW.out | with_reducible refine below_ext ?_ _ _ | with_reducible refine below_then_later ?_ (by first | with_reducible exact Nat.le_refl _ | with_reducible exact HBW.out.size | with_reducible exact HQ.out.size | omega | (simp; done) | (simp; omega) | (simp [later_size]; done) | (simp [later_size]; omega)) _ | with_reducible refine Below.setCell ?_ (by first | with_reducible exact Nat.le_refl _ | with_reducible exact HBW.out.size | with_reducible exact HQ.out.size | omega | (simp; done) | (simp; omega) | (simp [later_size]; done) | (simp [later_size]; omega)) _ | with_reducible refine Below.alloc ?_ (by first | with_reducible exact Nat.le_refl _ | with_reducible exact HBW.out.size | with_reducible exact HQ.out.size | omega | (simp; done) | (simp; omega) | (simp [later_size]; done) | (simp [later_size]; omega)) _)))⟩
      · by_cases h4 : kd = 4
        · subst kd
          go_wp2_with (first | (go_at_call 27; (refine (c_in_d _ _ _ _).mono ?_); rintro _ _ ⟨rfl, p, rfl⟩) | ((with_reducible refine wp_region_later (by kernel_rfl) (by kernel_rfl) ?_); (repeat (first | go_big_quiet_skip | quiet_step ((first | (go_at_call 27; first | exact calls_later (c_in_d _ _ _ _) | exact calls_later2 (c_in_d _ _ _ _)))))); refine wpQuiet_nil ?_; rintro _ ⟨p, rfl⟩))
          all_goals
            go_meet
            exact ⟨_, _, rfl, rfl, by unfold ndAB ndA ndB; by_cases hb : b = 0 <;> simp [hb], later_of_below (by (repeat (first | with_reducible exact Below.refl _ _ | with_reducible assumption | with_reducible refine Below.drew ?_ | with_reducible refine below_drewN ?_ _ | with_reducible exact HQ.out | with_reducible exact HBW.out | with_reducible refine below_ext ?_ _ _ | with_reducible refine below_then_later ?_ (by first | with_reducible exact Nat.le_refl _ | with_reducible exact HBW.out.size | with_reducible exact HQ.out.size | omega | (simp; done) | (simp; omega) | (simp [later_size]; done) | (simp [later_size]; omega)) _ | with_reducible refine Below.setCell ?_ (by first | with_reducible exact Nat.le_refl _ | with_reducible exact HBW.out.size | with_reducible exact HQ.out.size | omega | (simp; done) | (simp; omega) | (simp [later_size]; done) | (simp [later_size]; omega)) _ | with_reducible refine Below.alloc ?_ (by first | with_reducible exact Nat.le_refl _ | with_reducible exact HBW.out.size | with_reducible exact HQ.out.size | omega | (simp; done) | (simp; omega) | (simp [later_size]; done) | (simp [later_size]; omega)) _)))⟩
        · have e2 : (kd == 2) = false := by simpa using h2
          have e3 : (kd == 3) = false := by simpa using h3
          have e4 : (kd == 4) = false := by simpa using h4
          go_wp2_with (first | (go_at_call 27; (refine (c_in_d _ _ _ _).mono ?_); rintro _ _ ⟨rfl, p, rfl⟩) | ((with_reducible refine wp_region_later (by kernel_rfl) (by kernel_rfl) ?_); (repeat (first | go_big_quiet_skip | quiet_step ((first | (go_at_call 27; first | exact calls_later (c_in_d _ _ _ _) | exact calls_later2 (c_in_d _ _ _ _)))))); refine wpQuiet_nil ?_; rintro _ ⟨p, rfl⟩))
          all_goals
            go_meet
            exact ⟨_, _, rfl, rfl, by unfold ndAB ndA ndB; by_cases ha : a = 0 <;> by_cases hb : b = 0 <;> simp [h2, h3, h4, ha, hb], later_of_below (by (repeat (first | with_reducible exact Below.refl _ _ | with_reducible assumption | with_reducible refine Below.drew ?_ | with_reducible refine below_drewN ?_ _ | with_reducible exact HQ.out | with_reducible exact HBW.out | with_reducible refine below_ext ?_ _ _ | with_reducible refine below_then_later ?_ (by first | with_reducible exact Nat.le_refl _ | with_reducible exact HBW.out.size | with_reducible exact HQ.out.size | omega | (simp; done) | (simp; omega) | (simp [later_size]; done) | (simp [later_size]; omega)) _ | with_reducible refine Below.setCell ?_ (by first | with_reducible exact Nat.le_refl _ | with_reducible exact HBW.out.size | with_reducible exact HQ.out.size | omega | (simp; done) | (simp; omega) | (simp [later_size]; done) | (simp [later_size]; omega)) _ | with_reducible refine Below.alloc ?_ (by first | with_reducible exact Nat.le_refl _ | with_reducible exact HBW.out.size | with_reducible exact HQ.out.size | omega | (simp; done) | (simp; omega) | (simp [later_size]; done) | (simp [later_size]; omega)) _)))⟩

  case rest =>
    obtain ⟨x, y, rfl, rfl, hxy, p0, rfl⟩ := hcut
    have HXY := Lib.hid hxy
    clear hxy
    by_cases hk : 1 ≤ kd ∧ kd ≤ 8
    rotate_left
    · have dk : decide (1 ≤ kd ∧ kd ≤ 8) = false := decide_eq_false hk
      have hz : z = false := by
        rw [← HZ.out]
        unfold nodeOk
        rw [← HXY.out, dk]; rfl
      subst hz
      clear HZ HXY
      go_wp2_with (first | (go_at_call 27; (refine (c_in_d _ _ _ _).mono ?_); rintro _ _ ⟨rfl, p, rfl⟩) | ((with_reducible refine wp_region_later (by kernel_rfl) (by kernel_rfl) ?_); (repeat (first | go_big_quiet_skip | quiet_step ((first | (go_at_call 27; first | exact calls_later (c_in_d _ _ _ _) | exact calls_later2 (c_in_d _ _ _ _)))))); refine wpQuiet_nil ?_; rintro _ ⟨p, rfl⟩))
      all_goals
        go_ret
        exact Gives.mk (by first | rfl | simp) (by (repeat (first | with_reducible exact Below.refl _ _ | with_reducible assumption | with_reducible refine Below.drew ?_ | with_reducible refine below_drewN ?_ _ | with_reducible exact HQ.out | with_reducible exact HBW.out | with_reducible refine below_ext ?_ _ _ | with_reducible refine below_then_later ?_ (by first | with_reducible exact Nat.le_refl _ | with_reducible exact HBW.out.size | with_reducible exact HQ.out.size | omega | (simp; done) | (simp; omega) | (simp [later_size]; done) | (simp [later_size]; omega)) _ | with_reducible refine Below.setCell ?_ (by first | with_reducible exact Nat.le_refl _ | with_reducible exact HBW.out.size | with_reducible exact HQ.out.size | omega | (simp; done) | (simp; omega) | (simp [later_size]; done) | (simp [later_size]; omega)) _ | with_reducible refine Below.alloc ?_ (by first | with_reducible exact Nat.le_refl _ | with_reducible exact HBW.out.size | with_reducible exact HQ.out.size | omega | (simp; done) | (simp; omega) | (simp [later_size]; done) | (simp [later_size]; omega)) _)))
    have dk : decide (1 ≤ kd ∧ kd ≤ 8) = true := decide_eq_true hk
    cases x
    · have hz : z = false := by
        rw [← HZ.out]
        unfold nodeOk
        rw [← HXY.out]; simp
      subst hz
      clear HZ HXY
      go_wp2_with (first | (go_at_call 27; (refine (c_in_d _ _ _ _).mono ?_); rintro _ _ ⟨rfl, p, rfl⟩) | ((with_reducible refine wp_region_later (by kernel_rfl) (by kernel_rfl) ?_); (repeat (first | go_big_quiet_skip | quiet_step ((first | (go_at_call 27; first | exact calls_later (c_in_d _ _ _ _) | exact calls_later2 (c_in_d _ _ _ _)))))); refine wpQuiet_nil ?_; rintro _ ⟨p, rfl⟩))
      all_goals
        go_ret
        exact Gives.mk (by first | rfl | simp) (by (repeat (first | with_reducible exact Below.refl _ _ | with_reducible assumption | with_reducible refine Below.drew ?_ | with_reducible refine below_drewN ?_ _ | with_reducible exact HQ.out | with_reducible exact HBW.out | with_reducible refine below_ext ?_ _ _ | with_reducible refine below_then_later ?_ (by first | with_reducible exact Nat.le_refl _ | with_reducible exact HBW.out.size | with_reducible exact HQ.out.size | omega | (simp; done) | (simp; omega) | (simp [later_size]; done) | (simp [later_size]; omega)) _ | with_reducible refine Below.setCell ?_ (by first | with_reducible exact Nat.le_refl _ | with_reducible exact HBW.out.size | with_reducible exact HQ.out.size | omega | (simp; done) | (simp; omega) | (simp [later_size]; done) | (simp [later_size]; omega)) _ | with_reducible refine Below.alloc ?_ (by first | with_reducible exact Nat.le_refl _ | with_reducible exact HBW.out.size | with_reducible exact HQ.out.size | omega | (simp; done) | (simp; omega) | (simp [later_size]; done) | (simp [later_size]; omega)) _)))
    cases y
    · have hz : z = false := by
        rw [← HZ.out]
        unfold nodeOk
        rw [← HXY.out]; simp
      subst hz
      clear HZ HXY
      go_wp2_with (first | (go_at_call 27; (refine (c_in_d _ _ _ _).mono ?_); rintro _ _ ⟨rfl, p, rfl⟩) | ((with_reducible refine wp_region_later (by kernel_rfl) (by kernel_rfl) ?_); (repeat (first | go_big_quiet_skip | quiet_step ((first | (go_at_call 27; first | exact calls_later (c_in_d _ _ _ _) | exact calls_later2 (c_in_d _ _ _ _)))))); refine wpQuiet_nil ?_; rintro _ ⟨p, rfl⟩))
      all_goals
        go_ret
        exact Gives.mk (by first | rfl | simp) (by (repeat (first | with_reducible exact Below.refl _ _ | with_reducible assumption | with_reducible refine Below.drew ?_ | with_reducible refine below_drewN ?_ _ | with_reducible exact HQ.out | with_reducible exact HBW.out | with_reducible refine below_ext ?_ _ _ | with_reducible refine below_then_later ?_ (by first | with_reducible exact Nat.le_refl _ | with_reducible exact HBW.out.size | with_reducible exact HQ.out.size | omega | (simp; done) | (simp; omega) | (simp [later_size]; done) | (simp [later_size]; omega)) _ | with_reducible refine Below.setCell ?_ (by first | with_reducible exact Nat.le_refl _ | with_reducible exact HBW.out.size | with_reducible exact HQ.out.size | omega | (simp; done) | (simp; omega) | (simp [later_size]; done) | (simp [later_size]; omega)) _ | with_reducible refine Below.alloc ?_ (by first | with_reducible exact Nat.le_refl _ | with_reducible exact HBW.out.size | with_reducible exact HQ.out.size | omega | (simp; done) | (simp; omega) | (simp [later_size]; done) | (simp [later_size]; omega)) _)))
    have HAB := Lib.hid (show ndAB kd a b = true by rw [← HXY.out, dk]; rfl)
    by_cases h2 : 2 < n
    · have g2 : (2 < (n : Int)) := by omega
      have hz : z = false := by
        rw [← HZ.out]
        unfold nodeOk
        unfold ndL; rw [HN.out, decide_eq_false (by omega)]; simp
      subst hz
      clear HZ HXY
      go_wp2_with (first | (go_at_call 27; (refine (c_in_d _ _ _ _).mono ?_); rintro _ _ ⟨rfl, p, rfl⟩) | ((with_reducible refine wp_region_later (by kernel_rfl) (by kernel_rfl) ?_); (repeat (first | go_big_quiet_skip | quiet_step ((first | (go_at_call 27; first | exact calls_later (c_in_d _ _ _ _) | exact calls_later2 (c_in_d _ _ _ _)))))); refine wpQuiet_nil ?_; rintro _ ⟨p, rfl⟩))
      all_goals
        go_ret
        exact Gives.mk (by first | rfl | simp) (by (repeat (first | with_reducible exact Below.refl _ _ | with_reducible assumption | with_reducible refine Below.drew ?_ | with_reducible refine below_drewN ?_ _ | with_reducible exact HQ.out | with_reducible exact HBW.out | with_reducible refine below_ext ?_ _ _ | with_reducible refine below_then_later ?_ (by first | with_reducible exact Nat.le_refl _ | with_reducible exact HBW.out.size | with_reducible exact HQ.out.size | omega | (simp; done) | (simp; omega) | (simp [later_size]; done) | (simp [later_size]; omega)) _ | with_reducible refine Below.setCell ?_ (by first | with_reducible exact Nat.le_refl _ | with_reducible exact HBW.out.size | with_reducible exact HQ.out.size | omega | (simp; done) | (simp; omega) | (simp [later_size]; done) | (simp [later_size]; omega)) _ | with_reducible refine Below.alloc ?_ (by first | with_reducible exact Nat.le_refl _ | with_reducible exact HBW.out.size | with_reducible exact HQ.out.size | omega | (simp; done) | (simp; omega) | (simp [later_size]; done) | (simp [later_size]; omega)) _)))
    have HS := HN.out
    by_cases h8 : kd = 8 ∧ 0 < n
    · obtain ⟨rfl, h0⟩ := h8
      have g4 : decide ((0 : Int) < n) = true := decide_eq_true (by omega)
      have g5 : decide (0 < n) = true := decide_eq_true h0
      clear HS
      have hz : z = false := by
        rw [← HZ.out]
        unfold nodeOk
        unfold ndL; rw [HN.out]; simp [h0]
      subst hz
      clear HZ HXY
      go_wp2_with (first | (go_at_call 27; (refine (c_in_d _ _ _ _).mono ?_); rintro _ _ ⟨rfl, p, rfl⟩) | ((with_reducible refine wp_region_later (by kernel_rfl) (by kernel_rfl) ?_); (repeat (first | go_big_quiet_skip | quiet_step ((first | (go_at_call 27; first | exact calls_later (c_in_d _ _ _ _) | exact calls_later2 (c_in_d _ _ _ _)))))); refine wpQuiet_nil ?_; rintro _ ⟨p, rfl⟩))
      all_goals
        go_ret
        exact Gives.mk (by first | rfl | simp) (by (repeat (first | with_reducible exact Below.refl _ _ | with_reducible assumption | with_reducible refine Below.drew ?_ | with_reducible refine below_drewN ?_ _ | with_reducible exact HQ.out | with_reducible exact HBW.out | with_reducible refine below_ext ?_ _ _ | with_reducible refine below_then_later ?_ (by first | with_reducible exact Nat.le_refl _ | with_reducible exact HBW.out.size | with_reducible exact HQ.out.size | omega | (simp; done) | (simp; omega) | (simp [later_size]; done) | (simp [later_size]; omega)) _ | with_reducible refine Below.setCell ?_ (by first | with_reducible exact Nat.le_refl _ | with_reducible exact HBW.out.size | with_reducible exact HQ.out.size | omega | (simp; done) | (simp; omega) | (simp [later_size]; done) | (simp [later_size]; omega)) _ | with_reducible refine Below.alloc ?_ (by first | with_reducible exact Nat.le_refl _ | with_reducible exact HBW.out.size | with_reducible exact HQ.out.size | omega | (simp; done) | (simp; omega) | (simp [later_size]; done) | (simp [later_size]; omega)) _)))
    have HL := Lib.hid (show ndL kd xs = true by unfold ndL; rw [HN.out, decide_eq_true (by omega), decide_eq_false h8]; rfl)
    clear HXY
    match n, xs, HS with
    | 0, [], _ =>
      have hz : z = true := by
        rw [← HZ.out]
        unfold nodeOk
        rw [HAB.out, HL.out]
        rfl
      subst hz
      clear HZ HAB HL
      clear h8
      by_cases h88 : kd = 8
      · have e8 : (kd == 8) = true := by simpa using h88
        clear h88
        go_wp2_with (first | (go_at_call 27; (refine (c_in_d _ _ _ _).mono ?_); rintro _ _ ⟨rfl, p, rfl⟩) | ((with_reducible refine wp_region_later (by kernel_rfl) (by kernel_rfl) ?_); (repeat (first | go_big_quiet_skip | quiet_step ((first | (go_at_call 27; first | exact calls_later (c_in_d _ _ _ _) | exact calls_later2 (c_in_d _ _ _ _)))))); refine wpQuiet_nil ?_; rintro _ ⟨p, rfl⟩))
        go_loopw [5] (fun s0 wr => s0 = .int .i64 0 ∧ ∃ p : Later, wr = later (w.alloc (Obj.cells #[.int .i64 kd, .int .i64 a, .int .i64 b, .slice A 0 c] 27)) p) (fun s0 _ => 2 - (intOf s0).toNat)
        case atStart => exact ⟨rfl, later_of_below (by (repeat (first | with_reducible exact Below.refl _ _ | with_reducible assumption | with_reducible refine Below.drew ?_ | with_reducible refine below_drewN ?_ _ | with_reducible exact HQ.out | with_reducible exact HBW.out | with_reducible refine below_ext ?_ _ _ | with_reducible refine below_then_later ?_ (by first | with_reducible exact Nat.le_refl _ | with_reducible exact HBW.out.size | with_reducible exact HQ.out.size | omega | (simp; done) | (simp; omega) | (simp [later_size]; done) | (simp [later_size]; omega)) _ | with_reducible refine Below.setCell ?_ (by first | with_reducible exact Nat.le_refl _ | with_reducible exact HBW.out.size | with_reducible exact HQ.out.size | omega | (simp; done) | (simp; omega) | (simp [later_size]; done) | (simp [later_size]; omega)) _ | with_reducible refine Below.alloc ?_ (by first | with_reducible exact Nat.le_refl _ | with_reducible exact HBW.out.size | with_reducible exact HQ.out.size | omega | (simp; done) | (simp; omega) | (simp [later_size]; done) | (simp [later_size]; omega)) _)))⟩
        case round =>
          obtain ⟨rfl, p, rfl⟩ := hrel
          go_wp2_with (first | ((with_reducible refine wp_region_later (by kernel_rfl) (by kernel_rfl) ?_); (repeat (first | go_big_quiet_skip | quiet_step ((fail)))); refine wpQuiet_nil ?_; rintro _ ⟨p, rfl⟩))
          all_goals
            go_ret
            exact Gives.mk rfl (by (repeat (first | with_reducible exact Below.refl _ _ | with_reducible assumption | with_reducible refine Below.drew ?_ | with_reducible refine below_drewN ?_ _ | with_reducible exact HQ.out | with_reducible exact HBW.out | with_reducible refine below_ext ?_ _ _ | with_reducible refine below_then_later ?_ (by first | with_reducible exact Nat.le_refl _ | with_reducible exact HBW.out.size | with_reducible exact HQ.out.size | omega | (simp; done) | (simp; omega) | (simp [later_size]; done) | (simp [later_size]; omega)) _ | with_reducible refine Below.setCell ?_ (by first | with_reducible exact Nat.le_refl _ | with_reducible exact HBW.out.size | with_reducible exact HQ.out.size | omega | (simp; done) | (simp; omega) | (simp [later_size]; done) | (simp [later_size]; omega)) _ | with_reducible refine Below.alloc ?_ (by first | with_reducible exact Nat.le_refl _ | with_reducible exact HBW.out.size | with_reducible exact HQ.out.size | omega | (simp; done) | (simp; omega) | (simp [later_size]; done) | (simp [later_size]; omega)) _)))
      · have e8 : (kd == 8) = false := by simpa using h88
        clear h88
        go_wp2_with (first | (go_at_call 27; (refine (c_in_d _ _ _ _).mono ?_); rintro _ _ ⟨rfl, p, rfl⟩) | ((with_reducible refine wp_region_later (by kernel_rfl) (by kernel_rfl) ?_); (repeat (first | go_big_quiet_skip | quiet_step ((first | (go_at_call 27; first | exact calls_later (c_in_d _ _ _ _) | exact calls_later2 (c_in_d _ _ _ _)))))); refine wpQuiet_nil ?_; rintro _ ⟨p, rfl⟩))
        go_loopw [5] (fun s0 wr => s0 = .int .i64 0 ∧ ∃ p : Later, wr = later (w.alloc (Obj.cells #[.int .i64 kd, .int .i64 a, .int .i64 b, .slice A 0 c] 27)) p) (fun s0 _ => 2 - (intOf s0).toNat)
        case atStart => exact ⟨rfl, later_of_below (by (repeat (first | with_reducible exact Below.refl _ _ | with_reducible assumption | with_reducible refine Below.drew ?_ | with_reducible refine below_drewN ?_ _ | with_reducible exact HQ.out | with_reducible exact HBW.out | with_reducible refine below_ext ?_ _ _ | with_reducible refine below_then_later ?_ (by first | with_reducible exact Nat.le_refl _ | with_reducible exact HBW.out.size | with_reducible exact HQ.out.size | omega | (simp; done) | (simp; omega) | (simp [later_size]; done) | (simp [later_size]; omega)) _ | with_reducible refine Below.setCell ?_ (by first | with_reducible exact Nat.le_refl _ | with_reducible exact HBW.out.size | with_reducible exact HQ.out.size | omega | (simp; done) | (simp; omega) | (simp [later_size]; done) | (simp [later_size]; omega)) _ | with_reducible refine Below.alloc ?_ (by first | with_reducible exact Nat.le_refl _ | with_reducible exact HBW.out.size | with_reducible exact HQ.out.size | omega | (simp; done) | (simp; omega) | (simp [later_size]; done) | (simp [later_size]; omega)) _)))⟩
        case round =>
          obtain ⟨rfl, p, rfl⟩ := hrel
          go_wp2_with (first | ((with_reducible refine wp_region_later (by kernel_rfl) (by kernel_rfl) ?_); (repeat (first | go_big_quiet_skip | quiet_step ((fail)))); refine wpQuiet_nil ?_; rintro _ ⟨p, rfl⟩))
          all_goals
            go_ret
            exact Gives.mk rfl (by (repeat (first | with_reducible exact Below.refl _ _ | with_reducible assumption | with_reducible refine Below.drew ?_ | with_reducible refine below_drewN ?_ _ | with_reducible exact HQ.out | with_reducible exact HBW.out | with_reducible refine below_ext ?_ _ _ | with_reducible refine below_then_later ?_ (by first | with_reducible exact Nat.le_refl _ | with_reducible exact HBW.out.size | with_reducible exact HQ.out.size | omega | (simp; done) | (simp; omega) | (simp [later_size]; done) | (simp [later_size]; omega)) _ | with_reducible refine Below.setCell ?_ (by first | with_reducible exact Nat.le_refl _ | with_reducible exact HBW.out.size | with_reducible exact HQ.out.size | omega | (simp; done) | (simp; omega) | (simp [later_size]; done) | (simp [later_size]; omega)) _ | with_reducible refine Below.alloc ?_ (by first | with_reducible exact Nat.le_refl _ | with_reducible exact HBW.out.size | with_reducible exact HQ.out.size | omega | (simp; done) | (simp; omega) | (simp [later_size]; done) | (simp [later_size]; omega)) _)))
    | 1, [x], _ =>
      have e8 : (kd == 8) = false := by simp; omega
      obtain ⟨bk, off, rfl, hcx⟩ := HA.out.at_ (j := 0) (x := x) rfl
      have hx0 := hcx 0 _ rfl
      have hbl := World.block_lt_of_cell? _ _ hx0
      simp only at hbl
      have hble := Nat.le_of_lt hbl
      clear hcx
      simp only [Nat.add_zero, Nat.mul_one] at *
      have hz : z = decide (0 ≤ x ∧ x ≤ 7) := by
        rw [← HZ.out]
        unfold nodeOk
        rw [HAB.out, HL.out]
        simp [dst, outBad]
      have HZ2 := Lib.hid hz
      clear hz HZ HAB HL
      go_wp2_with (first | (go_at_call 27; (refine (c_in_d _ _ _ _).mono ?_); rintro _ _ ⟨rfl, p, rfl⟩) | ((with_reducible refine wp_region_later (by kernel_rfl) (by kernel_rfl) ?_); (repeat (first | go_big_quiet_skip | quiet_step ((first | (go_at_call 27; first | exact calls_later (c_in_d _ _ _ _) | exact calls_later2 (c_in_d _ _ _ _)))))); refine wpQuiet_nil ?_; rintro _ ⟨p, rfl⟩))
      go_loopw [5] (fun s0 wr => ∃ k : Int, s0 = .int .i64 k ∧ (k = 0 ∨ (k = 1 ∧ (0 ≤ x ∧ x ≤ 7))) ∧ ∃ p : Later, wr = later (w.alloc (Obj.cells #[.int .i64 kd, .int .i64 a, .int .i64 b, .slice (some ⟨bk, off, Option.none⟩) 1 c] 27)) p) (fun s0 _ => 2 - (intOf s0).toNat)
      case atStart => exact ⟨0, rfl, .inl rfl, later_of_below (by (repeat (first | with_reducible exact Below.refl _ _ | with_reducible assumption | with_reducible refine Below.drew ?_ | with_reducible refine below_drewN ?_ _ | with_reducible exact HQ.out | with_reducible exact HBW.out | with_reducible refine below_ext ?_ _ _ | with_reducible refine below_then_later ?_ (by first | with_reducible exact Nat.le_refl _ | with_reducible exact HBW.out.size | with_reducible exact HQ.out.size | omega | (simp; done) | (simp; omega) | (simp [later_size]; done) | (simp [later_size]; omega)) _ | with_reducible refine Below.setCell ?_ (by first | with_reducible exact Nat.le_refl _ | with_reducible exact HBW.out.size | with_reducible exact HQ.out.size | omega | (simp; done) | (simp; omega) | (simp [later_size]; done) | (simp [later_size]; omega)) _ | with_reducible refine Below.alloc ?_ (by first | with_reducible exact Nat.le_refl _ | with_reducible exact HBW.out.size | with_reducible exact HQ.out.size | omega | (simp; done) | (simp; omega) | (simp [later_size]; done) | (simp [later_size]; omega)) _)))⟩
      case round =>
        obtain ⟨k, rfl, hk, p, rfl⟩ := hrel
        rcases hk with rfl | ⟨rfl, hin⟩
        · by_cases he : 0 ≤ x ∧ x ≤ 7
          · have de : decide (0 ≤ x ∧ x ≤ 7) = true := decide_eq_true he
            go_wp2_with (first | (go_at_call 27; (refine (c_in_t _ _ _ _ (by omega)).mono ?_); rintro _ _ ⟨rfl, p, rfl⟩) | ((with_reducible refine wp_region_later (by kernel_rfl) (by kernel_rfl) ?_); (repeat (first | go_big_quiet_skip | quiet_step ((first | (go_at_call 27; first | exact calls_later (c_in_t _ _ _ _ (by omega)) | exact calls_later2 (c_in_t _ _ _ _ (by omega))))))); refine wpQuiet_nil ?_; rintro _ ⟨p, rfl⟩))
            all_goals
              go_roundw
              case rel => exact ⟨1, rfl, .inr ⟨rfl, he⟩, later_of_below (by (repeat (first | with_reducible exact Below.refl _ _ | with_reducible assumption | with_reducible refine Below.drew ?_ | with_reducible refine below_drewN ?_ _ | with_reducible exact HQ.out | with_reducible exact HBW.out | with_reducible refine below_ext ?_ _ _ | with_reducible refine below_then_later ?_ (by first | with_reducible exact Nat.le_refl _ | with_reducible exact HBW.out.size | with_reducible exact HQ.out.size | omega | (simp; done) | (simp; omega) | (simp [later_size]; done) | (simp [later_size]; omega)) _ | with_reducible refine Below.setCell ?_ (by first | with_reducible exact Nat.le_refl _ | with_reducible exact HBW.out.size | with_reducible exact HQ.out.size | omega | (simp; done) | (simp; omega) | (simp [later_size]; done) | (simp [later_size]; omega)) _ | with_reducible refine Below.alloc ?_ (by first | with_reducible exact Nat.le_refl _ | with_reducible exact HBW.out.size | with_reducible exact HQ.out.size | omega | (simp; done) | (simp; omega) | (simp [later_size]; done) | (simp [later_size]; omega)) _)))⟩
              case measure => simp [intOf]
          · have hz : z = false := by rw [HZ2.out]; exact decide_eq_false he
            subst hz
            clear HZ2
            go_wp2_with (first | (go_at_call 27; (refine (c_in_f _ _ _ _ (by omega)).mono ?_); rintro _ _ ⟨rfl, p, rfl⟩) | ((with_reducible refine wp_region_later (by kernel_rfl) (by kernel_rfl) ?_); (repeat (first | go_big_quiet_skip | quiet_step ((first | (go_at_call 27; first | exact calls_later (c_in_f _ _ _ _ (by omega)) | exact calls_later2 (c_in_f _ _ _ _ (by omega))))))); refine wpQuiet_nil ?_; rintro _ ⟨p, rfl⟩))
            all_goals
              go_ret
              exact Gives.mk rfl (by (repeat (first | with_reducible exact Below.refl _ _ | with_reducible assumption | with_reducible refine Below.drew ?_ | with_reducible refine below_drewN ?_ _ | with_reducible exact HQ.out | with_reducible exact HBW.out | with_reducible refine below_ext ?_ _ _ | with_reducible refine below_then_later ?_ (by first | with_reducible exact Nat.le_refl _ | with_reducible exact HBW.out.size | with_reducible exact HQ.out.size | omega | (simp; done) | (simp; omega) | (simp [later_size]; done) | (simp [later_size]; omega)) _ | with_reducible refine Below.setCell ?_ (by first | with_reducible exact Nat.le_refl _ | with_reducible exact HBW.out.size | with_reducible exact HQ.out.size | omega | (simp; done) | (simp; omega) | (simp [later_size]; done) | (simp [later_size]; omega)) _ | with_reducible refine Below.alloc ?_ (by first | with_reducible exact Nat.le_refl _ | with_reducible exact HBW.out.size | with_reducible exact HQ.out.size | omega | (simp; done) | (simp; omega) | (simp [later_size]; done) | (simp [later_size]; omega)) _)))
        · have hz : z = true := by rw [HZ2.out]; exact decide_eq_true hin
          subst hz
          clear HZ2
          go_wp2_with (first | ((with_reducible refine wp_region_later (by kernel_rfl) (by kernel_rfl) ?_); (repeat (first | go_big_quiet_skip | quiet_step ((fail)))); refine wpQuiet_nil ?_; rintro _ ⟨p, rfl⟩))
          all_goals
            go_ret
            exact Gives.mk rfl (by (repeat (first | with_reducible exact Below.refl _ _ | with_reducible assumption | with_reducible refine Below.drew ?_ | with_reducible refine below_drewN ?_ _ | with_reducible exact HQ.out | with_reducible exact HBW.out | with_reducible refine below_ext ?_ _ _ | with_reducible refine below_then_later ?_ (by first | with_reducible exact Nat.le_refl _ | with_reducible exact HBW.out.size | with_reducible exact HQ.out.size | omega | (simp; done) | (simp; omega) | (simp [later_size]; done) | (simp [later_size]; omega)) _ | with_reducible refine Below.setCell ?_ (by first | with_reducible exact Nat.le_refl _ | with_reducible exact HBW.out.size | with_reducible exact HQ.out.size | omega | (simp; done) | (simp; omega) | (simp [later_size]; done) | (simp [later_size]; omega)) _ | with_reducible refine Below.alloc ?_ (by first | with_reducible exact Nat.le_refl _ | with_reducible exact HBW.out.size | with_reducible exact HQ.out.size | omega | (simp; done) | (simp; omega) | (simp [later_size]; done) | (simp [later_size]; omega)) _)))
    | 2, [x, y], _ =>
      have e8 : (kd == 8) = false := by simp; omega
      obtain ⟨bk, off, rfl, hcx⟩ := HA.out.at_ (j := 0) (x := x) rfl
      obtain ⟨bk', off', e', hcy⟩ := HA.out.at_ (j := 1) (x := y) rfl
      simp only [Option.some.injEq, Addr.mk.injEq, and_true] at e'
      obtain ⟨rfl, rfl⟩ := e'
      have hx0 := hcx 0 _ rfl
      have hy0 := hcy 0 _ rfl
      have hbl := World.block_lt_of_cell? _ _ hx0
      simp only at hbl
      have hble := Nat.le_of_lt hbl
      clear hcx hcy
      simp only [Nat.add_zero, Nat.mul_one] at *
      have hz : z = (decide (0 ≤ x ∧ x ≤ 7) && (decide (0 ≤ y ∧ y ≤ 7) && !decide (x = y))) := by
        rw [← HZ.out]
        unfold nodeOk
        rw [HAB.out, HL.out]
        simp only [dst, outBad, List.any_cons, List.any_nil, Bool.or_false, Bool.not_or, Bool.not_not, Bool.true_and]
        cases decide (x = y) <;> cases decide (0 ≤ x ∧ x ≤ 7) <;> cases decide (0 ≤ y ∧ y ≤ 7) <;> rfl
      have HZ2 := Lib.hid hz
      clear hz HZ HAB HL
      go_wp2_with (first | (go_at_call 27; (refine (c_in_d _ _ _ _).mono ?_); rintro _ _ ⟨rfl, p, rfl⟩) | ((with_reducible refine wp_region_later (by kernel_rfl) (by kernel_rfl) ?_); (repeat (first | go_big_quiet_skip | quiet_step ((first | (go_at_call 27; first | exact calls_later (c_in_d _ _ _ _) | exact calls_later2 (c_in_d _ _ _ _)))))); refine wpQuiet_nil ?_; rintro _ ⟨p, rfl⟩))
      go_loopw [5] (fun s0 wr => ∃ k : Int, s0 = .int .i64 k ∧ (k = 0 ∨ (k = 1 ∧ (0 ≤ x ∧ x ≤ 7)) ∨ (k = 2 ∧ (0 ≤ x ∧ x ≤ 7) ∧ (0 ≤ y ∧ y ≤ 7) ∧ ¬ x = y)) ∧ ∃ p : Later, wr = later (w.alloc (Obj.cells #[.int .i64 kd, .int .i64 a, .int .i64 b, .slice (some ⟨bk, off, Option.none⟩) 2 c] 27)) p) (fun s0 _ => 3 - (intOf s0).toNat)
      case atStart => exact ⟨0, rfl, .inl rfl, later_of_below (by (repeat (first | with_reducible exact Below.refl _ _ | with_reducible assumption | with_reducible refine Below.drew ?_ | with_reducible refine below_drewN ?_ _ | with_reducible exact HQ.out | with_reducible exact HBW.out | with_reducible refine below_ext ?_ _ _ | with_reducible refine below_then_later ?_ (by first | with_reducible exact Nat.le_refl _ | with_reducible exact HBW.out.size | with_reducible exact HQ.out.size | omega | (simp; done) | (simp; omega) | (simp [later_size]; done) | (simp [later_size]; omega)) _ | with_reducible refine Below.setCell ?_ (by first | with_reducible exact Nat.le_refl _ | with_reducible exact HBW.out.size | with_reducible exact HQ.out.size | omega | (simp; done) | (simp; omega) | (simp [later_size]; done) | (simp [later_size]; omega)) _ | with_reducible refine Below.alloc ?_ (by first | with_reducible exact Nat.le_refl _ | with_reducible exact HBW.out.size | with_reducible exact HQ.out.size | omega | (simp; done) | (simp; omega) | (simp [later_size]; done) | (simp [later_size]; omega)) _)))⟩
      case round =>
        obtain ⟨k, rfl, hk, p, rfl⟩ := hrel
        rcases hk with rfl | ⟨rfl, hin⟩ | ⟨rfl, hin, hin2, hne⟩
        · by_cases he : 0 ≤ x ∧ x ≤ 7
          · go_wp2_with (first | (go_at_call 27; (refine (c_in_t _ _ _ _ (by omega)).mono ?_); rintro _ _ ⟨rfl, p, rfl⟩) | ((with_reducible refine wp_region_later (by kernel_rfl) (by kernel_rfl) ?_); (repeat (first | go_big_quiet_skip | quiet_step ((first | (go_at_call 27; first | exact calls_later (c_in_t _ _ _ _ (by omega)) | exact calls_later2 (c_in_t _ _ _ _ (by omega))))))); refine wpQuiet_nil ?_; rintro _ ⟨p, rfl⟩))
            all_goals
              go_roundw
              case rel => exact ⟨1, rfl, .inr (.inl ⟨rfl, he⟩), later_of_below (by (repeat (first | with_reducible exact Below.refl _ _ | with_reducible assumption | with_reducible refine Below.drew ?_ | with_reducible refine below_drewN ?_ _ | with_reducible exact HQ.out | with_reducible exact HBW.out | with_reducible refine below_ext ?_ _ _ | with_reducible refine below_then_later ?_ (by first | with_reducible exact Nat.le_refl _ | with_reducible exact HBW.out.size | with_reducible exact HQ.out.size | omega | (simp; done) | (simp; omega) | (simp [later_size]; done) | (simp [later_size]; omega)) _ | with_reducible refine Below.setCell ?_ (by first | with_reducible exact Nat.le_refl _ | with_reducible exact HBW.out.size | with_reducible exact HQ.out.size | omega | (simp; done) | (simp; omega) | (simp [later_size]; done) | (simp [later_size]; omega)) _ | with_reducible refine Below.alloc ?_ (by first | with_reducible exact Nat.le_refl _ | with_reducible exact HBW.out.size | with_reducible exact HQ.out.size | omega | (simp; done) | (simp; omega) | (simp [later_size]; done) | (simp [later_size]; omega)) _)))⟩
              case measure => simp [intOf]
          · have hz : z = false := by rw [HZ2.out, decide_eq_false he]; rfl
            subst hz
            clear HZ2
            go_wp2_with (first | (go_at_call 27; (refine (c_in_f _ _ _ _ (by omega)).mono ?_); rintro _ _ ⟨rfl, p, rfl⟩) | ((with_reducible refine wp_region_later (by kernel_rfl) (by kernel_rfl) ?_); (repeat (first | go_big_quiet_skip | quiet_step ((first | (go_at_call 27; first | exact calls_later (c_in_f _ _ _ _ (by omega)) | exact calls_later2 (c_in_f _ _ _ _ (by omega))))))); refine wpQuiet_nil ?_; rintro _ ⟨p, rfl⟩))
            all_goals
              go_ret
              exact Gives.mk rfl (by (repeat (first | with_reducible exact Below.refl _ _ | with_reducible assumption | with_reducible refine Below.drew ?_ | with_reducible refine below_drewN ?_ _ | with_reducible exact HQ.out | with_reducible exact HBW.out | with_reducible refine below_ext ?_ _ _ | with_reducible refine below_then_later ?_ (by first | with_reducible exact Nat.le_refl _ | with_reducible exact HBW.out.size | with_reducible exact HQ.out.size | omega | (simp; done) | (simp; omega) | (simp [later_size]; done) | (simp [later_size]; omega)) _ | with_reducible refine Below.setCell ?_ (by first | with_reducible exact Nat.le_refl _ | with_reducible exact HBW.out.size | with_reducible exact HQ.out.size | omega | (simp; done) | (simp; omega) | (simp [later_size]; done) | (simp [later_size]; omega)) _ | with_reducible refine Below.alloc ?_ (by first | with_reducible exact Nat.le_refl _ | with_reducible exact HBW.out.size | with_reducible exact HQ.out.size | omega | (simp; done) | (simp; omega) | (simp [later_size]; done) | (simp [later_size]; omega)) _)))
        · by_cases he : 0 ≤ y ∧ y ≤ 7
          · by_cases hxy : x = y
            · subst hxy
              have hz : z = false := by rw [HZ2.out]; simp
              subst hz
              clear HZ2
              go_wp2_with (first | (go_at_call 27; (refine (c_in_t _ _ _ _ (by omega)).mono ?_); rintro _ _ ⟨rfl, p, rfl⟩) | ((with_reducible refine wp_region_later (by kernel_rfl) (by kernel_rfl) ?_); (repeat (first | go_big_quiet_skip | quiet_step ((first | (go_at_call 27; first | exact calls_later (c_in_t _ _ _ _ (by omega)) | exact calls_later2 (c_in_t _ _ _ _ (by omega))))))); refine wpQuiet_nil ?_; rintro _ ⟨p, rfl⟩))
              all_goals
                go_ret
                exact Gives.mk rfl (by (repeat (first | with_reducible exact Below.refl _ _ | with_reducible assumption | with_reducible refine Below.drew ?_ | with_reducible refine below_drewN ?_ _ | with_reducible exact HQ.out | with_reducible exact HBW.out | with_reducible refine below_ext ?_ _ _ | with_reducible refine below_then_later ?_ (by first | with_reducible exact Nat.le_refl _ | with_reducible exact HBW.out.size | with_reducible exact HQ.out.size | omega | (simp; done) | (simp; omega) | (simp [later_size]; done) | (simp [later_size]; omega)) _ | with_reducible refine Below.setCell ?_ (by first | with_reducible exact Nat.le_refl _ | with_reducible exact HBW.out.size | with_reducible exact HQ.out.size | omega | (simp; done) | (simp; omega) | (simp [later_size]; done) | (simp [later_size]; omega)) _ | with_reducible refine Below.alloc ?_ (by first | with_reducible exact Nat.le_refl _ | with_reducible exact HBW.out.size | with_reducible exact HQ.out.size | omega | (simp; done) | (simp; omega) | (simp [later_size]; done) | (simp [later_size]; omega)) _)))
            · have exy : (x == y) = false := by simpa using hxy
              go_wp2_with (first | (go_at_call 27; (refine (c_in_t _ _ _ _ (by omega)).mono ?_); rintro _ _ ⟨rfl, p, rfl⟩) | ((with_reducible refine wp_region_later (by kernel_rfl) (by kernel_rfl) ?_); (repeat (first | go_big_quiet_skip | quiet_step ((first | (go_at_call 27; first | exact calls_later (c_in_t _ _ _ _ (by omega)) | exact calls_later2 (c_in_t _ _ _ _ (by omega))))))); refine wpQuiet_nil ?_; rintro _ ⟨p, rfl⟩))
              all_goals
                go_roundw
                case rel => exact ⟨2, rfl, .inr (.inr ⟨rfl, hin, he, hxy⟩), later_of_below (by (repeat (first | with_reducible exact Below.refl _ _ | with_reducible assumption | with_reducible refine Below.drew ?_ | with_reducible refine below_drewN ?_ _ | with_reducible exact HQ.out | with_reducible exact HBW.out | with_reducible refine below_ext ?_ _ _ | with_reducible refine below_then_later ?_ (by first | with_reducible exact Nat.le_refl _ | with_reducible exact HBW.out.size | with_reducible exact HQ.out.size | omega | (simp; done) | (simp; omega) | (simp [later_size]; done) | (simp [later_size]; omega)) _ | with_reducible refine Below.setCell ?_ (by first | with_reducible exact Nat.le_refl _ | with_reducible exact HBW.out.size | with_reducible exact HQ.out.size | omega | (simp; done) | (simp; omega) | (simp [later_size]; done) | (simp [later_size]; omega)) _ | with_reducible refine Below.alloc ?_ (by first | with_reducible exact Nat.le_refl _ | with_reducible exact HBW.out.size | with_reducible exact HQ.out.size | omega | (simp; done) | (simp; omega) | (simp [later_size]; done) | (simp [later_size]; omega)) _)))⟩
                case measure => simp [intOf]
          · have hz : z = false := by rw [HZ2.out, decide_eq_false he]; simp
            subst hz
            clear HZ2
            go_wp2_with (first | (go_at_call 27; (refine (c_in_f _ _ _ _ (by omega)).mono ?_); rintro _ _ ⟨rfl, p, rfl⟩) | ((with_reducible refine wp_region_later (by kernel_rfl) (by kernel_rfl) ?_); (repeat (first | go_big_quiet_skip | quiet_step ((first | (go_at_call 27; first | exact calls_later (c_in_f _ _ _ _ (by omega)) | exact calls_later2 (c_in_f _ _ _ _ (by omega))))))); refine wpQuiet_nil ?_; rintro _ ⟨p, rfl⟩))
            all_goals
              go_ret
              exact Gives.mk rfl (by (repeat (first | with_reducible exact Below.refl _ _ | with_reducible assumption | with_reducible refine Below.drew ?_ | with_reducible refine below_drewN ?_ _ | with_reducible exact HQ.out | with_reducible exact HBW.out | with_reducible refine below_ext ?_ _ _ | with_reducible refine below_then_later ?_ (by first | with_reducible exact Nat.le_refl _ | with_reducible exact HBW.out.size | with_reducible exact HQ.out.size | omega | (simp; done) | (simp; omega) | (simp [later_size]; done) | (simp [later_size]; omega)) _ | with_reducible refine Below.setCell ?_ (by first | with_reducible exact Nat.le_refl _ | with_reducible exact HBW.out.size | with_reducible exact HQ.out.size | omega | (simp; done) | (simp; omega) | (simp [later_size]; done) | (simp [later_size]; omega)) _ | with_reducible refine Below.alloc ?_ (by first | with_reducible exact Nat.le_refl _ | with_reducible exact HBW.out.size | with_reducible exact HQ.out.size | omega | (simp; done) | (simp; omega) | (simp [later_size]; done) | (simp [later_size]; omega)) _)))
        · have hz : z = true := by rw [HZ2.out, decide_eq_true hin, decide_eq_true hin2, decide_eq_false hne]; rfl
          subst hz
          clear HZ2
          go_wp2_with (first | ((with_reducible refine wp_region_later (by kernel_rfl) (by kernel_rfl) ?_); (repeat (first | go_big_quiet_skip | quiet_step ((fail)))); refine wpQuiet_nil ?_; rintro _ ⟨p, rfl⟩))
          all_goals
            go_ret
            exact Gives.mk rfl (by (repeat (first | with_reducible exact Below.refl _ _ | with_reducible assumption | with_reducible refine Below.drew ?_ | with_reducible refine below_drewN ?_ _ | with_reducible exact HQ.out | with_reducible exact HBW.out | with_reducible refine below_ext ?_ _ _ | with_reducible refine below_then_later ?_ (by first | with_reducible exact Nat.le_refl _ | with_reducible exact HBW.out.size | with_reducible exact HQ.out.size | omega | (simp; done) | (simp; omega) | (simp [later_size]; done) | (simp [later_size]; omega)) _ | with_reducible refine Below.setCell ?_ (by first | with_reducible exact Nat.le_refl _ | with_reducible exact HBW.out.size | with_reducible exact HQ.out.size | omega | (simp; done) | (simp; omega) | (simp [later_size]; done) | (simp [later_size]; omega)) _ | with_reducible refine Below.alloc ?_ (by first | with_reducible exact Nat.le_refl _ | with_reducible exact HBW.out.size | with_reducible exact HQ.out.size | omega | (simp; done) | (simp; omega) | (simp [later_size]; done) | (simp [later_size]; omega)) _)))
    | n + 3, _, _ => omega

end Go.Proofs.Ytnllmfhmffdceaa
