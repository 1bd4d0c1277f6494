/-
  Changed of the program and of the reference compute 'changed'. Conditions: the length is at most 2^40.
-/
import Derived.Test.YtnllmfhmffdceaaNodeS
import Derived.OwnWalk
import Derived.IntWalk
namespace Go.Proofs.Ytnllmfhmffdceaa
open Go.RowKit
set_option linter.unusedVariables false

def changed (kd a b : Int) (xs : List Int) (key val : Int) : Int × Int × Bool :=
  if (nodeOk kd a b xs && itOk key val) = true then
    if kd = 2 then (key, min 999 (val + a), true) else if kd = 4 then ((key + a) % 100, val, true) else if kd = 3 then (key, val, key % a == b) else (key, val, kd != 8)
  else (key, val, false)
theorem nodeOk_ab {kd a b : Int} {xs : List Int} (h : nodeOk kd a b xs = true) : (1 ≤ kd ∧ kd ≤ 8) ∧ (kd = 2 → 0 ≤ a ∧ a ≤ 999) ∧ (kd = 4 → 0 ≤ a ∧ a ≤ 99) ∧ (kd = 3 → 1 ≤ a ∧ a ≤ 10) := by
  unfold nodeOk ndAB ndA at h
  simp only [Bool.and_eq_true, decide_eq_true_eq] at h
  obtain ⟨⟨h1, h2, _⟩, _⟩ := h
  refine ⟨h1, ?_, ?_, ?_⟩ <;> intro e <;> subst e <;> simpa using h2
theorem itOk_rng {key val : Int} (h : itOk key val = true) : (0 ≤ key ∧ key ≤ 99) ∧ 0 ≤ val ∧ val ≤ 999 := by
  by_cases h2 : 0 ≤ key ∧ key ≤ 99 ∧ 0 ≤ val ∧ val ≤ 999
  · omega
  · rw [itOk_f (by omega)] at h; cases h
theorem ret_three {a b b' : Int} {c : Bool} (h : b = b') : Ending.returned (.tuple #[.int .i64 a, .int .i64 b, .bool c]) = .returned (.tuple #[.int .i64 a, .int .i64 b', .bool c]) := by rw [h]
theorem gives_less {P : Program} {f : FuncId} {args : Array Value} {w : World} {x y : Int} (h : x = y) (hc : Calls P f args w (Gives (.int .i64 x) w)) : Calls P f args w (Gives (.int .i64 y) w) := by subst h; exact hc
set_option maxHeartbeats 6400000 in
theorem c_iChanged (kd a b : Int) (A : Option Addr) (n c : Nat) (xs : List Int) (key val : Int) (w : World) (r1 r2 : Int) (r3 : Bool) (hn : xs.length = n) (hn2 : n ≤ 1099511627776) (hka : I64 a) (hkd : I64 kd)
    (ha : Row encI 1 w A xs) (hz : changed kd a b xs key val = (r1, r2, r3)) : Calls Try.prog 14 #[.agg #[.int .i64 kd, .int .i64 a, .int .i64 b, .slice A n c], .int .i64 key, .int .i64 val] w (Gives (.tuple #[.int .i64 r1, .int .i64 r2, .bool r3]) w) := by
  have HA := Lib.hid ha
  have HN := Lib.hid hn
  have HZ := Lib.hid hz
  clear ha hn hz
  cases hnk : nodeOk kd a b xs
  · have HNK := Lib.hid hnk
    clear hnk
    obtain ⟨rfl, rfl, rfl⟩ : r1 = key ∧ r2 = val ∧ r3 = false := by
      have := HZ.out
      unfold changed at this
      rw [HNK.out] at this
      simp only [Bool.false_and, Bool.false_eq_true, if_false] at this
      simp only [Prod.mk.injEq] at this
      exact ⟨this.1.symm, this.2.1.symm, this.2.2.symm⟩
    clear HZ
    go_enter Try.func14, Try.ntmps14
    go_wp2_with (first | (go_at_call 11; (refine (c_iNodeOk _ _ _ _ _ _ xs _ _ HN.out hn2 hka (by (repeat (first | with_reducible exact HA.out | with_reducible refine Row.later ?_ _ | with_reducible refine Row.alloc ?_ _)); done) HNK.out).mono ?_); rintro _ _ ⟨rfl, p, rfl⟩) | ((with_reducible refine wp_region_later (by kernel_rfl) (by kernel_rfl) ?_); (repeat (first | go_big_quiet_skip | quiet_step ((first | (go_at_call 11; first | exact calls_later (c_iNodeOk _ _ _ _ _ _ xs _ _ HN.out hn2 hka (by (repeat (first | with_reducible exact HA.out | with_reducible refine Row.later ?_ _ | with_reducible refine Row.alloc ?_ _)); done) HNK.out) | exact calls_later2 (c_iNodeOk _ _ _ _ _ _ xs _ _ HN.out hn2 hka (by (repeat (first | with_reducible exact HA.out | with_reducible refine Row.later ?_ _ | with_reducible refine Row.alloc ?_ _)); done) HNK.out)))))); refine wpQuiet_nil ?_; rintro _ ⟨p, rfl⟩))
    all_goals
      go_ret3
      first | exact Gives.mk rfl (by (repeat (first | with_reducible exact Below.refl _ _ | with_reducible assumption | with_reducible refine Below.drew ?_ | with_reducible refine below_drewN ?_ _ | with_reducible exact HQ.out | with_reducible exact HBW.out | with_reducible refine below_ext ?_ _ _ | with_reducible refine below_then_later ?_ (by first | with_reducible exact Nat.le_refl _ | with_reducible exact HBW.out.size | with_reducible exact HQ.out.size | omega | (simp; done) | (simp; omega) | (simp [later_size]; done) | (simp [later_size]; omega)) _ | with_reducible refine Below.setCell ?_ (by first | with_reducible exact Nat.le_refl _ | with_reducible exact HBW.out.size | with_reducible exact HQ.out.size | omega | (simp; done) | (simp; omega) | (simp [later_size]; done) | (simp [later_size]; omega)) _ | with_reducible refine Below.alloc ?_ (by first | with_reducible exact Nat.le_refl _ | with_reducible exact HBW.out.size | with_reducible exact HQ.out.size | omega | (simp; done) | (simp; omega) | (simp [later_size]; done) | (simp [later_size]; omega)) _))) | exact Gives.mk (ret_three (by omega)) (by (repeat (first | with_reducible exact Below.refl _ _ | with_reducible assumption | with_reducible refine Below.drew ?_ | with_reducible refine below_drewN ?_ _ | with_reducible exact HQ.out | with_reducible exact HBW.out | with_reducible refine below_ext ?_ _ _ | with_reducible refine below_then_later ?_ (by first | with_reducible exact Nat.le_refl _ | with_reducible exact HBW.out.size | with_reducible exact HQ.out.size | omega | (simp; done) | (simp; omega) | (simp [later_size]; done) | (simp [later_size]; omega)) _ | with_reducible refine Below.setCell ?_ (by first | with_reducible exact Nat.le_refl _ | with_reducible exact HBW.out.size | with_reducible exact HQ.out.size | omega | (simp; done) | (simp; omega) | (simp [later_size]; done) | (simp [later_size]; omega)) _ | with_reducible refine Below.alloc ?_ (by first | with_reducible exact Nat.le_refl _ | with_reducible exact HBW.out.size | with_reducible exact HQ.out.size | omega | (simp; done) | (simp; omega) | (simp [later_size]; done) | (simp [later_size]; omega)) _)))
  · obtain ⟨hk, k2, k4, k3⟩ := nodeOk_ab hnk
    have K2 := Lib.hid k2
    have K4 := Lib.hid k4
    have K3 := Lib.hid k3
    have HNK := Lib.hid hnk
    clear hnk k2 k4 k3
    cases hit : itOk key val
    · have HIT := Lib.hid hit
      clear hit
      obtain ⟨rfl, rfl, rfl⟩ : r1 = key ∧ r2 = val ∧ r3 = false := by
        have := HZ.out
        unfold changed at this
        rw [HNK.out, HIT.out] at this
        simp only [Bool.and_false, Bool.false_eq_true, if_false] at this
        simp only [Prod.mk.injEq] at this
        exact ⟨this.1.symm, this.2.1.symm, this.2.2.symm⟩
      clear HZ
      go_enter Try.func14, Try.ntmps14
      go_wp2_with (first | (go_at_call 11; (refine (c_iNodeOk _ _ _ _ _ _ xs _ _ HN.out hn2 hka (by (repeat (first | with_reducible exact HA.out | with_reducible refine Row.later ?_ _ | with_reducible refine Row.alloc ?_ _)); done) HNK.out).mono ?_); rintro _ _ ⟨rfl, p, rfl⟩) | (go_at_call 32; (refine (c_itemOk_b _ _ _ _ HIT.out).mono ?_); rintro _ _ ⟨rfl, p, rfl⟩) | ((with_reducible refine wp_region_later (by kernel_rfl) (by kernel_rfl) ?_); (repeat (first | go_big_quiet_skip | quiet_step ((first | (go_at_call 11; first | exact calls_later (c_iNodeOk _ _ _ _ _ _ xs _ _ HN.out hn2 hka (by (repeat (first | with_reducible exact HA.out | with_reducible refine Row.later ?_ _ | with_reducible refine Row.alloc ?_ _)); done) HNK.out) | exact calls_later2 (c_iNodeOk _ _ _ _ _ _ xs _ _ HN.out hn2 hka (by (repeat (first | with_reducible exact HA.out | with_reducible refine Row.later ?_ _ | with_reducible refine Row.alloc ?_ _)); done) HNK.out)) | (go_at_call 32; first | exact calls_later (c_itemOk_b _ _ _ _ HIT.out) | exact calls_later2 (c_itemOk_b _ _ _ _ HIT.out)))))); refine wpQuiet_nil ?_; rintro _ ⟨p, rfl⟩))
      all_goals
        go_ret3
        first | exact Gives.mk rfl (by (repeat (first | with_reducible exact Below.refl _ _ | with_reducible assumption | with_reducible refine Below.drew ?_ | with_reducible refine below_drewN ?_ _ | with_reducible exact HQ.out | with_reducible exact HBW.out | with_reducible refine below_ext ?_ _ _ | with_reducible refine below_then_later ?_ (by first | with_reducible exact Nat.le_refl _ | with_reducible exact HBW.out.size | with_reducible exact HQ.out.size | omega | (simp; done) | (simp; omega) | (simp [later_size]; done) | (simp [later_size]; omega)) _ | with_reducible refine Below.setCell ?_ (by first | with_reducible exact Nat.le_refl _ | with_reducible exact HBW.out.size | with_reducible exact HQ.out.size | omega | (simp; done) | (simp; omega) | (simp [later_size]; done) | (simp [later_size]; omega)) _ | with_reducible refine Below.alloc ?_ (by first | with_reducible exact Nat.le_refl _ | with_reducible exact HBW.out.size | with_reducible exact HQ.out.size | omega | (simp; done) | (simp; omega) | (simp [later_size]; done) | (simp [later_size]; omega)) _))) | exact Gives.mk (ret_three (by omega)) (by (repeat (first | with_reducible exact Below.refl _ _ | with_reducible assumption | with_reducible refine Below.drew ?_ | with_reducible refine below_drewN ?_ _ | with_reducible exact HQ.out | with_reducible exact HBW.out | with_reducible refine below_ext ?_ _ _ | with_reducible refine below_then_later ?_ (by first | with_reducible exact Nat.le_refl _ | with_reducible exact HBW.out.size | with_reducible exact HQ.out.size | omega | (simp; done) | (simp; omega) | (simp [later_size]; done) | (simp [later_size]; omega)) _ | with_reducible refine Below.setCell ?_ (by first | with_reducible exact Nat.le_refl _ | with_reducible exact HBW.out.size | with_reducible exact HQ.out.size | omega | (simp; done) | (simp; omega) | (simp [later_size]; done) | (simp [later_size]; omega)) _ | with_reducible refine Below.alloc ?_ (by first | with_reducible exact Nat.le_refl _ | with_reducible exact HBW.out.size | with_reducible exact HQ.out.size | omega | (simp; done) | (simp; omega) | (simp [later_size]; done) | (simp [later_size]; omega)) _)))
    · obtain ⟨hke, hva⟩ := itOk_rng hit
      have HIT := Lib.hid hit
      clear hit
      have E := Lib.hid (show (nodeOk kd a b xs && itOk key val) = true by rw [HNK.out, HIT.out]; rfl)
      by_cases h2 : kd = 2
      · subst kd
        have ha := K2.out rfl
        clear K2 K3 K4
        have hw1 : IntKind.i64.wrap (val + a) = val + a := IntWalk.i64_in _ (by omega)
        have HWW := Lib.hid hw1
        clear hw1
        by_cases hm : 999 < val + a
        · have hmm : min 999 (val + a) = 999 := by omega
          have HMM := Lib.hid hmm
          clear hmm
          obtain ⟨rfl, rfl, rfl⟩ : r1 = key ∧ r2 = 999 ∧ r3 = true := by
            have := HZ.out
            unfold changed at this
            rw [if_pos E.out, HMM.out] at this
            simp only [if_true] at this
            simp only [Prod.mk.injEq] at this
            exact ⟨this.1.symm, this.2.1.symm, this.2.2.symm⟩
          clear HZ E
          have hw1 := HWW.out
          go_enter Try.func14, Try.ntmps14
          go_wp2_with (first | (go_at_call 11; (refine (c_iNodeOk _ _ _ _ _ _ xs _ _ HN.out hn2 hka (by (repeat (first | with_reducible exact HA.out | with_reducible refine Row.later ?_ _ | with_reducible refine Row.alloc ?_ _)); done) HNK.out).mono ?_); rintro _ _ ⟨rfl, p, rfl⟩) | (go_at_call 32; (refine (c_itemOk_b _ _ _ _ HIT.out).mono ?_); rintro _ _ ⟨rfl, p, rfl⟩) | ((with_reducible refine wp_region_later (by kernel_rfl) (by kernel_rfl) ?_); (repeat (first | go_big_quiet_skip | quiet_step ((first | (go_at_call 11; first | exact calls_later (c_iNodeOk _ _ _ _ _ _ xs _ _ HN.out hn2 hka (by (repeat (first | with_reducible exact HA.out | with_reducible refine Row.later ?_ _ | with_reducible refine Row.alloc ?_ _)); done) HNK.out) | exact calls_later2 (c_iNodeOk _ _ _ _ _ _ xs _ _ HN.out hn2 hka (by (repeat (first | with_reducible exact HA.out | with_reducible refine Row.later ?_ _ | with_reducible refine Row.alloc ?_ _)); done) HNK.out)) | (go_at_call 32; first | exact calls_later (c_itemOk_b _ _ _ _ HIT.out) | exact calls_later2 (c_itemOk_b _ _ _ _ HIT.out)))))); refine wpQuiet_nil ?_; rintro _ ⟨p, rfl⟩))
          all_goals
            go_ret3
            first | exact Gives.mk rfl (by (repeat (first | with_reducible exact Below.refl _ _ | with_reducible assumption | with_reducible refine Below.drew ?_ | with_reducible refine below_drewN ?_ _ | with_reducible exact HQ.out | with_reducible exact HBW.out | with_reducible refine below_ext ?_ _ _ | with_reducible refine below_then_later ?_ (by first | with_reducible exact Nat.le_refl _ | with_reducible exact HBW.out.size | with_reducible exact HQ.out.size | omega | (simp; done) | (simp; omega) | (simp [later_size]; done) | (simp [later_size]; omega)) _ | with_reducible refine Below.setCell ?_ (by first | with_reducible exact Nat.le_refl _ | with_reducible exact HBW.out.size | with_reducible exact HQ.out.size | omega | (simp; done) | (simp; omega) | (simp [later_size]; done) | (simp [later_size]; omega)) _ | with_reducible refine Below.alloc ?_ (by first | with_reducible exact Nat.le_refl _ | with_reducible exact HBW.out.size | with_reducible exact HQ.out.size | omega | (simp; done) | (simp; omega) | (simp [later_size]; done) | (simp [later_size]; omega)) _))) | exact Gives.mk (ret_three (by omega)) (by (repeat (first | with_reducible exact Below.refl _ _ | with_reducible assumption | with_reducible refine Below.drew ?_ | with_reducible refine below_drewN ?_ _ | with_reducible exact HQ.out | with_reducible exact HBW.out | with_reducible refine below_ext ?_ _ _ | with_reducible refine below_then_later ?_ (by first | with_reducible exact Nat.le_refl _ | with_reducible exact HBW.out.size | with_reducible exact HQ.out.size | omega | (simp; done) | (simp; omega) | (simp [later_size]; done) | (simp [later_size]; omega)) _ | with_reducible refine Below.setCell ?_ (by first | with_reducible exact Nat.le_refl _ | with_reducible exact HBW.out.size | with_reducible exact HQ.out.size | omega | (simp; done) | (simp; omega) | (simp [later_size]; done) | (simp [later_size]; omega)) _ | with_reducible refine Below.alloc ?_ (by first | with_reducible exact Nat.le_refl _ | with_reducible exact HBW.out.size | with_reducible exact HQ.out.size | omega | (simp; done) | (simp; omega) | (simp [later_size]; done) | (simp [later_size]; omega)) _)))
        · have hmm : min 999 (val + a) = val + a := by omega
          have HMM := Lib.hid hmm
          clear hmm
          obtain ⟨rfl, rfl, rfl⟩ : r1 = key ∧ r2 = val + a ∧ r3 = true := by
            have := HZ.out
            unfold changed at this
            rw [if_pos E.out, HMM.out] at this
            simp only [if_true] at this
            simp only [Prod.mk.injEq] at this
            exact ⟨this.1.symm, this.2.1.symm, this.2.2.symm⟩
          clear HZ E
          have hw1 := HWW.out
          go_enter Try.func14, Try.ntmps14
          go_wp2_with (first | (go_at_call 11; (refine (c_iNodeOk _ _ _ _ _ _ xs _ _ HN.out hn2 hka (by (repeat (first | with_reducible exact HA.out | with_reducible refine Row.later ?_ _ | with_reducible refine Row.alloc ?_ _)); done) HNK.out).mono ?_); rintro _ _ ⟨rfl, p, rfl⟩) | (go_at_call 32; (refine (c_itemOk_b _ _ _ _ HIT.out).mono ?_); rintro _ _ ⟨rfl, p, rfl⟩) | ((with_reducible refine wp_region_later (by kernel_rfl) (by kernel_rfl) ?_); (repeat (first | go_big_quiet_skip | quiet_step ((first | (go_at_call 11; first | exact calls_later (c_iNodeOk _ _ _ _ _ _ xs _ _ HN.out hn2 hka (by (repeat (first | with_reducible exact HA.out | with_reducible refine Row.later ?_ _ | with_reducible refine Row.alloc ?_ _)); done) HNK.out) | exact calls_later2 (c_iNodeOk _ _ _ _ _ _ xs _ _ HN.out hn2 hka (by (repeat (first | with_reducible exact HA.out | with_reducible refine Row.later ?_ _ | with_reducible refine Row.alloc ?_ _)); done) HNK.out)) | (go_at_call 32; first | exact calls_later (c_itemOk_b _ _ _ _ HIT.out) | exact calls_later2 (c_itemOk_b _ _ _ _ HIT.out)))))); refine wpQuiet_nil ?_; rintro _ ⟨p, rfl⟩))
          all_goals
            go_ret3
            first | exact Gives.mk rfl (by (repeat (first | with_reducible exact Below.refl _ _ | with_reducible assumption | with_reducible refine Below.drew ?_ | with_reducible refine below_drewN ?_ _ | with_reducible exact HQ.out | with_reducible exact HBW.out | with_reducible refine below_ext ?_ _ _ | with_reducible refine below_then_later ?_ (by first | with_reducible exact Nat.le_refl _ | with_reducible exact HBW.out.size | with_reducible exact HQ.out.size | omega | (simp; done) | (simp; omega) | (simp [later_size]; done) | (simp [later_size]; omega)) _ | with_reducible refine Below.setCell ?_ (by first | with_reducible exact Nat.le_refl _ | with_reducible exact HBW.out.size | with_reducible exact HQ.out.size | omega | (simp; done) | (simp; omega) | (simp [later_size]; done) | (simp [later_size]; omega)) _ | with_reducible refine Below.alloc ?_ (by first | with_reducible exact Nat.le_refl _ | with_reducible exact HBW.out.size | with_reducible exact HQ.out.size | omega | (simp; done) | (simp; omega) | (simp [later_size]; done) | (simp [later_size]; omega)) _))) | exact Gives.mk (ret_three (by omega)) (by (repeat (first | with_reducible exact Below.refl _ _ | with_reducible assumption | with_reducible refine Below.drew ?_ | with_reducible refine below_drewN ?_ _ | with_reducible exact HQ.out | with_reducible exact HBW.out | with_reducible refine below_ext ?_ _ _ | with_reducible refine below_then_later ?_ (by first | with_reducible exact Nat.le_refl _ | with_reducible exact HBW.out.size | with_reducible exact HQ.out.size | omega | (simp; done) | (simp; omega) | (simp [later_size]; done) | (simp [later_size]; omega)) _ | with_reducible refine Below.setCell ?_ (by first | with_reducible exact Nat.le_refl _ | with_reducible exact HBW.out.size | with_reducible exact HQ.out.size | omega | (simp; done) | (simp; omega) | (simp [later_size]; done) | (simp [later_size]; omega)) _ | with_reducible refine Below.alloc ?_ (by first | with_reducible exact Nat.le_refl _ | with_reducible exact HBW.out.size | with_reducible exact HQ.out.size | omega | (simp; done) | (simp; omega) | (simp [later_size]; done) | (simp [later_size]; omega)) _)))
      · by_cases h4 : kd = 4
        · subst kd
          have ha := K4.out rfl
          clear K2 K3 K4 h2
          obtain ⟨rfl, rfl, rfl⟩ : r1 = (key + a) % 100 ∧ r2 = val ∧ r3 = true := by
            have := HZ.out
            unfold changed at this
            rw [if_pos E.out] at this
            simp only [Int.reduceEq, if_true, if_false] at this
            simp only [Prod.mk.injEq] at this
            exact ⟨this.1.symm, this.2.1.symm, this.2.2.symm⟩
          clear HZ E
          go_enter Try.func14, Try.ntmps14
          go_wp2_with (first | (go_at_call 11; (refine (c_iNodeOk _ _ _ _ _ _ xs _ _ HN.out hn2 hka (by (repeat (first | with_reducible exact HA.out | with_reducible refine Row.later ?_ _ | with_reducible refine Row.alloc ?_ _)); done) HNK.out).mono ?_); rintro _ _ ⟨rfl, p, rfl⟩) | (go_at_call 32; (refine (c_itemOk_b _ _ _ _ HIT.out).mono ?_); rintro _ _ ⟨rfl, p, rfl⟩) | ((with_reducible refine wp_region_later (by kernel_rfl) (by kernel_rfl) ?_); (repeat (first | go_big_quiet_skip | quiet_step ((first | (go_at_call 11; first | exact calls_later (c_iNodeOk _ _ _ _ _ _ xs _ _ HN.out hn2 hka (by (repeat (first | with_reducible exact HA.out | with_reducible refine Row.later ?_ _ | with_reducible refine Row.alloc ?_ _)); done) HNK.out) | exact calls_later2 (c_iNodeOk _ _ _ _ _ _ xs _ _ HN.out hn2 hka (by (repeat (first | with_reducible exact HA.out | with_reducible refine Row.later ?_ _ | with_reducible refine Row.alloc ?_ _)); done) HNK.out)) | (go_at_call 32; first | exact calls_later (c_itemOk_b _ _ _ _ HIT.out) | exact calls_later2 (c_itemOk_b _ _ _ _ HIT.out)))))); refine wpQuiet_nil ?_; rintro _ ⟨p, rfl⟩))
          all_goals
            go_ret3
            first | exact Gives.mk rfl (by (repeat (first | with_reducible exact Below.refl _ _ | with_reducible assumption | with_reducible refine Below.drew ?_ | with_reducible refine below_drewN ?_ _ | with_reducible exact HQ.out | with_reducible exact HBW.out | with_reducible refine below_ext ?_ _ _ | with_reducible refine below_then_later ?_ (by first | with_reducible exact Nat.le_refl _ | with_reducible exact HBW.out.size | with_reducible exact HQ.out.size | omega | (simp; done) | (simp; omega) | (simp [later_size]; done) | (simp [later_size]; omega)) _ | with_reducible refine Below.setCell ?_ (by first | with_reducible exact Nat.le_refl _ | with_reducible exact HBW.out.size | with_reducible exact HQ.out.size | omega | (simp; done) | (simp; omega) | (simp [later_size]; done) | (simp [later_size]; omega)) _ | with_reducible refine Below.alloc ?_ (by first | with_reducible exact Nat.le_refl _ | with_reducible exact HBW.out.size | with_reducible exact HQ.out.size | omega | (simp; done) | (simp; omega) | (simp [later_size]; done) | (simp [later_size]; omega)) _))) | exact Gives.mk (ret_three (by omega)) (by (repeat (first | with_reducible exact Below.refl _ _ | with_reducible assumption | with_reducible refine Below.drew ?_ | with_reducible refine below_drewN ?_ _ | with_reducible exact HQ.out | with_reducible exact HBW.out | with_reducible refine below_ext ?_ _ _ | with_reducible refine below_then_later ?_ (by first | with_reducible exact Nat.le_refl _ | with_reducible exact HBW.out.size | with_reducible exact HQ.out.size | omega | (simp; done) | (simp; omega) | (simp [later_size]; done) | (simp [later_size]; omega)) _ | with_reducible refine Below.setCell ?_ (by first | with_reducible exact Nat.le_refl _ | with_reducible exact HBW.out.size | with_reducible exact HQ.out.size | omega | (simp; done) | (simp; omega) | (simp [later_size]; done) | (simp [later_size]; omega)) _ | with_reducible refine Below.alloc ?_ (by first | with_reducible exact Nat.le_refl _ | with_reducible exact HBW.out.size | with_reducible exact HQ.out.size | omega | (simp; done) | (simp; omega) | (simp [later_size]; done) | (simp [later_size]; omega)) _)))
        · by_cases h3 : kd = 3
          · subst kd
            have ha := K3.out rfl
            clear K2 K3 K4 h2 h4
            have htm : key.tmod a = key % a := Int.tmod_eq_emod_of_nonneg (by omega)
            have ha0 : (a == 0) = false := by simp; omega
            have ha1 : ¬ a = 0 := by omega
            obtain ⟨rfl, rfl, rfl⟩ : r1 = key ∧ r2 = val ∧ r3 = (key % a == b) := by
              have := HZ.out
              unfold changed at this
              rw [if_pos E.out] at this
              simp only [Int.reduceEq, if_true, if_false] at this
              simp only [Prod.mk.injEq] at this
              exact ⟨this.1.symm, this.2.1.symm, this.2.2.symm⟩
            clear HZ E
            go_enter Try.func14, Try.ntmps14
            go_wp2_with (first | (go_at_call 11; (refine (c_iNodeOk _ _ _ _ _ _ xs _ _ HN.out hn2 hka (by (repeat (first | with_reducible exact HA.out | with_reducible refine Row.later ?_ _ | with_reducible refine Row.alloc ?_ _)); done) HNK.out).mono ?_); rintro _ _ ⟨rfl, p, rfl⟩) | (go_at_call 32; (refine (c_itemOk_b _ _ _ _ HIT.out).mono ?_); rintro _ _ ⟨rfl, p, rfl⟩) | ((with_reducible refine wp_region_later (by kernel_rfl) (by kernel_rfl) ?_); (repeat (first | go_big_quiet_skip | quiet_step ((first | (go_at_call 11; first | exact calls_later (c_iNodeOk _ _ _ _ _ _ xs _ _ HN.out hn2 hka (by (repeat (first | with_reducible exact HA.out | with_reducible refine Row.later ?_ _ | with_reducible refine Row.alloc ?_ _)); done) HNK.out) | exact calls_later2 (c_iNodeOk _ _ _ _ _ _ xs _ _ HN.out hn2 hka (by (repeat (first | with_reducible exact HA.out | with_reducible refine Row.later ?_ _ | with_reducible refine Row.alloc ?_ _)); done) HNK.out)) | (go_at_call 32; first | exact calls_later (c_itemOk_b _ _ _ _ HIT.out) | exact calls_later2 (c_itemOk_b _ _ _ _ HIT.out)))))); refine wpQuiet_nil ?_; rintro _ ⟨p, rfl⟩))
            all_goals
              go_ret3
              first | exact Gives.mk rfl (by (repeat (first | with_reducible exact Below.refl _ _ | with_reducible assumption | with_reducible refine Below.drew ?_ | with_reducible refine below_drewN ?_ _ | with_reducible exact HQ.out | with_reducible exact HBW.out | with_reducible refine below_ext ?_ _ _ | with_reducible refine below_then_later ?_ (by first | with_reducible exact Nat.le_refl _ | with_reducible exact HBW.out.size | with_reducible exact HQ.out.size | omega | (simp; done) | (simp; omega) | (simp [later_size]; done) | (simp [later_size]; omega)) _ | with_reducible refine Below.setCell ?_ (by first | with_reducible exact Nat.le_refl _ | with_reducible exact HBW.out.size | with_reducible exact HQ.out.size | omega | (simp; done) | (simp; omega) | (simp [later_size]; done) | (simp [later_size]; omega)) _ | with_reducible refine Below.alloc ?_ (by first | with_reducible exact Nat.le_refl _ | with_reducible exact HBW.out.size | with_reducible exact HQ.out.size | omega | (simp; done) | (simp; omega) | (simp [later_size]; done) | (simp [later_size]; omega)) _))) | exact Gives.mk (ret_three (by omega)) (by (repeat (first | with_reducible exact Below.refl _ _ | with_reducible assumption | with_reducible refine Below.drew ?_ | with_reducible refine below_drewN ?_ _ | with_reducible exact HQ.out | with_reducible exact HBW.out | with_reducible refine below_ext ?_ _ _ | with_reducible refine below_then_later ?_ (by first | with_reducible exact Nat.le_refl _ | with_reducible exact HBW.out.size | with_reducible exact HQ.out.size | omega | (simp; done) | (simp; omega) | (simp [later_size]; done) | (simp [later_size]; omega)) _ | with_reducible refine Below.setCell ?_ (by first | with_reducible exact Nat.le_refl _ | with_reducible exact HBW.out.size | with_reducible exact HQ.out.size | omega | (simp; done) | (simp; omega) | (simp [later_size]; done) | (simp [later_size]; omega)) _ | with_reducible refine Below.alloc ?_ (by first | with_reducible exact Nat.le_refl _ | with_reducible exact HBW.out.size | with_reducible exact HQ.out.size | omega | (simp; done) | (simp; omega) | (simp [later_size]; done) | (simp [later_size]; omega)) _)))
          · have e2 : (kd == 2) = false := by simpa using h2
            have e3 : (kd == 3) = false := by simpa using h3
            have e4 : (kd == 4) = false := by simpa using h4
            clear K2 K3 K4
            obtain ⟨rfl, rfl, rfl⟩ : r1 = key ∧ r2 = val ∧ r3 = (kd != 8) := by
              have := HZ.out
              unfold changed at this
              rw [if_pos E.out, if_neg h2, if_neg h4, if_neg h3] at this
              simp only [Prod.mk.injEq] at this
              exact ⟨this.1.symm, this.2.1.symm, this.2.2.symm⟩
            clear HZ E
            go_enter Try.func14, Try.ntmps14
            go_wp2_with (first | (go_at_call 11; (refine (c_iNodeOk _ _ _ _ _ _ xs _ _ HN.out hn2 hka (by (repeat (first | with_reducible exact HA.out | with_reducible refine Row.later ?_ _ | with_reducible refine Row.alloc ?_ _)); done) HNK.out).mono ?_); rintro _ _ ⟨rfl, p, rfl⟩) | (go_at_call 32; (refine (c_itemOk_b _ _ _ _ HIT.out).mono ?_); rintro _ _ ⟨rfl, p, rfl⟩) | ((with_reducible refine wp_region_later (by kernel_rfl) (by kernel_rfl) ?_); (repeat (first | go_big_quiet_skip | quiet_step ((first | (go_at_call 11; first | exact calls_later (c_iNodeOk _ _ _ _ _ _ xs _ _ HN.out hn2 hka (by (repeat (first | with_reducible exact HA.out | with_reducible refine Row.later ?_ _ | with_reducible refine Row.alloc ?_ _)); done) HNK.out) | exact calls_later2 (c_iNodeOk _ _ _ _ _ _ xs _ _ HN.out hn2 hka (by (repeat (first | with_reducible exact HA.out | with_reducible refine Row.later ?_ _ | with_reducible refine Row.alloc ?_ _)); done) HNK.out)) | (go_at_call 32; first | exact calls_later (c_itemOk_b _ _ _ _ HIT.out) | exact calls_later2 (c_itemOk_b _ _ _ _ HIT.out)))))); refine wpQuiet_nil ?_; rintro _ ⟨p, rfl⟩))
            all_goals
              go_ret3
              first | exact Gives.mk rfl (by (repeat (first | with_reducible exact Below.refl _ _ | with_reducible assumption | with_reducible refine Below.drew ?_ | with_reducible refine below_drewN ?_ _ | with_reducible exact HQ.out | with_reducible exact HBW.out | with_reducible refine below_ext ?_ _ _ | with_reducible refine below_then_later ?_ (by first | with_reducible exact Nat.le_refl _ | with_reducible exact HBW.out.size | with_reducible exact HQ.out.size | omega | (simp; done) | (simp; omega) | (simp [later_size]; done) | (simp [later_size]; omega)) _ | with_reducible refine Below.setCell ?_ (by first | with_reducible exact Nat.le_refl _ | with_reducible exact HBW.out.size | with_reducible exact HQ.out.size | omega | (simp; done) | (simp; omega) | (simp [later_size]; done) | (simp [later_size]; omega)) _ | with_reducible refine Below.alloc ?_ (by first | with_reducible exact Nat.le_refl _ | with_reducible exact HBW.out.size | with_reducible exact HQ.out.size | omega | (simp; done) | (simp; omega) | (simp [later_size]; done) | (simp [later_size]; omega)) _))) | exact Gives.mk (ret_three (by omega)) (by (repeat (first | with_reducible exact Below.refl _ _ | with_reducible assumption | with_reducible refine Below.drew ?_ | with_reducible refine below_drewN ?_ _ | with_reducible exact HQ.out | with_reducible exact HBW.out | with_reducible refine below_ext ?_ _ _ | with_reducible refine below_then_later ?_ (by first | with_reducible exact Nat.le_refl _ | with_reducible exact HBW.out.size | with_reducible exact HQ.out.size | omega | (simp; done) | (simp; omega) | (simp [later_size]; done) | (simp [later_size]; omega)) _ | with_reducible refine Below.setCell ?_ (by first | with_reducible exact Nat.le_refl _ | with_reducible exact HBW.out.size | with_reducible exact HQ.out.size | omega | (simp; done) | (simp; omega) | (simp [later_size]; done) | (simp [later_size]; omega)) _ | with_reducible refine Below.alloc ?_ (by first | with_reducible exact Nat.le_refl _ | with_reducible exact HBW.out.size | with_reducible exact HQ.out.size | omega | (simp; done) | (simp; omega) | (simp [later_size]; done) | (simp [later_size]; omega)) _)))
set_option maxHeartbeats 6400000 in
theorem c_sChanged (kd a b : Int) (A : Option Addr) (n c : Nat) (xs : List Int) (key val : Int) (w : World) (r1 r2 : Int) (r3 : Bool) (hn : xs.length = n) (hn2 : n ≤ 1099511627776) (hka : I64 a) (hkd : I64 kd)
    (ha : Row encI 1 w A xs) (hz : changed kd a b xs key val = (r1, r2, r3)) : Calls Try.prog 13 #[.agg #[.int .i64 kd, .int .i64 a, .int .i64 b, .slice A n c], .int .i64 key, .int .i64 val] w (Gives (.tuple #[.int .i64 r1, .int .i64 r2, .bool r3]) w) := by
  have HA := Lib.hid ha
  have HN := Lib.hid hn
  have HZ := Lib.hid hz
  clear ha hn hz
  cases hnk : nodeOk kd a b xs
  · have HNK := Lib.hid hnk
    clear hnk
    obtain ⟨rfl, rfl, rfl⟩ : r1 = key ∧ r2 = val ∧ r3 = false := by
      have := HZ.out
      unfold changed at this
      rw [HNK.out] at this
      simp only [Bool.false_and, Bool.false_eq_true, if_false] at this
      simp only [Prod.mk.injEq] at this
      exact ⟨this.1.symm, this.2.1.symm, this.2.2.symm⟩
    clear HZ
    go_enter Try.func13, Try.ntmps13
    go_wp2_with (first | (go_at_call 9; (refine (c_sNodeOk _ _ _ _ _ _ xs _ _ HN.out hn2 (by (repeat (first | with_reducible exact HA.out | with_reducible refine Row.later ?_ _ | with_reducible refine Row.alloc ?_ _)); done) HNK.out).mono ?_); rintro _ _ ⟨rfl, p, rfl⟩) | (go_at_call 31; (refine (gives_less hls (c_less _ _ _)).mono ?_); rintro _ _ ⟨rfl, p, rfl⟩) | ((with_reducible refine wp_region_later (by kernel_rfl) (by kernel_rfl) ?_); (repeat (first | go_big_quiet_skip | quiet_step ((first | (go_at_call 9; first | exact calls_later (c_sNodeOk _ _ _ _ _ _ xs _ _ HN.out hn2 (by (repeat (first | with_reducible exact HA.out | with_reducible refine Row.later ?_ _ | with_reducible refine Row.alloc ?_ _)); done) HNK.out) | exact calls_later2 (c_sNodeOk _ _ _ _ _ _ xs _ _ HN.out hn2 (by (repeat (first | with_reducible exact HA.out | with_reducible refine Row.later ?_ _ | with_reducible refine Row.alloc ?_ _)); done) HNK.out)) | (go_at_call 31; first | exact calls_later (gives_less hls (c_less _ _ _)) | exact calls_later2 (gives_less hls (c_less _ _ _))))))); refine wpQuiet_nil ?_; rintro _ ⟨p, rfl⟩))
    all_goals
      go_ret3
      first | exact Gives.mk rfl (by (repeat (first | with_reducible exact Below.refl _ _ | with_reducible assumption | with_reducible refine Below.drew ?_ | with_reducible refine below_drewN ?_ _ | with_reducible exact HQ.out | with_reducible exact HBW.out | with_reducible refine below_ext ?_ _ _ | with_reducible refine below_then_later ?_ (by first | with_reducible exact Nat.le_refl _ | with_reducible exact HBW.out.size | with_reducible exact HQ.out.size | omega | (simp; done) | (simp; omega) | (simp [later_size]; done) | (simp [later_size]; omega)) _ | with_reducible refine Below.setCell ?_ (by first | with_reducible exact Nat.le_refl _ | with_reducible exact HBW.out.size | with_reducible exact HQ.out.size | omega | (simp; done) | (simp; omega) | (simp [later_size]; done) | (simp [later_size]; omega)) _ | with_reducible refine Below.alloc ?_ (by first | with_reducible exact Nat.le_refl _ | with_reducible exact HBW.out.size | with_reducible exact HQ.out.size | omega | (simp; done) | (simp; omega) | (simp [later_size]; done) | (simp [later_size]; omega)) _))) | exact Gives.mk (ret_three (by omega)) (by (repeat (first | with_reducible exact Below.refl _ _ | with_reducible assumption | with_reducible refine Below.drew ?_ | with_reducible refine below_drewN ?_ _ | with_reducible exact HQ.out | with_reducible exact HBW.out | with_reducible refine below_ext ?_ _ _ | with_reducible refine below_then_later ?_ (by first | with_reducible exact Nat.le_refl _ | with_reducible exact HBW.out.size | with_reducible exact HQ.out.size | omega | (simp; done) | (simp; omega) | (simp [later_size]; done) | (simp [later_size]; omega)) _ | with_reducible refine Below.setCell ?_ (by first | with_reducible exact Nat.le_refl _ | with_reducible exact HBW.out.size | with_reducible exact HQ.out.size | omega | (simp; done) | (simp; omega) | (simp [later_size]; done) | (simp [later_size]; omega)) _ | with_reducible refine Below.alloc ?_ (by first | with_reducible exact Nat.le_refl _ | with_reducible exact HBW.out.size | with_reducible exact HQ.out.size | omega | (simp; done) | (simp; omega) | (simp [later_size]; done) | (simp [later_size]; omega)) _)))
  · obtain ⟨hk, k2, k4, k3⟩ := nodeOk_ab hnk
    have K2 := Lib.hid k2
    have K4 := Lib.hid k4
    have K3 := Lib.hid k3
    have HNK := Lib.hid hnk
    clear hnk k2 k4 k3
    cases hit : itOk key val
    · have HIT := Lib.hid hit
      have hni : ¬ (0 ≤ key ∧ key ≤ 99 ∧ 0 ≤ val ∧ val ≤ 999) := fun h => by rw [itOk_t (by omega)] at hit; cases hit
      clear hit
      by_cases hke : 0 ≤ key ∧ key ≤ 99
      · have hva : ¬ (0 ≤ val ∧ val ≤ 999) := by omega
        clear hni
        obtain ⟨rfl, rfl, rfl⟩ : r1 = key ∧ r2 = val ∧ r3 = false := by
          have := HZ.out
          unfold changed at this
          rw [HNK.out, HIT.out] at this
          simp only [Bool.and_false, Bool.false_eq_true, if_false] at this
          simp only [Prod.mk.injEq] at this
          exact ⟨this.1.symm, this.2.1.symm, this.2.2.symm⟩
        clear HZ
        go_enter Try.func13, Try.ntmps13
        go_wp2_with (first | (go_at_call 9; (refine (c_sNodeOk _ _ _ _ _ _ xs _ _ HN.out hn2 (by (repeat (first | with_reducible exact HA.out | with_reducible refine Row.later ?_ _ | with_reducible refine Row.alloc ?_ _)); done) HNK.out).mono ?_); rintro _ _ ⟨rfl, p, rfl⟩) | (go_at_call 27; (first | (refine (c_in_t _ _ _ _ (by omega)).mono ?_) | (refine (c_in_f _ _ _ _ (by omega)).mono ?_)); rintro _ _ ⟨rfl, p, rfl⟩) | (go_at_call 31; (refine (gives_less hls (c_less _ _ _)).mono ?_); rintro _ _ ⟨rfl, p, rfl⟩) | ((with_reducible refine wp_region_later (by kernel_rfl) (by kernel_rfl) ?_); (repeat (first | go_big_quiet_skip | quiet_step ((first | (go_at_call 9; first | exact calls_later (c_sNodeOk _ _ _ _ _ _ xs _ _ HN.out hn2 (by (repeat (first | with_reducible exact HA.out | with_reducible refine Row.later ?_ _ | with_reducible refine Row.alloc ?_ _)); done) HNK.out) | exact calls_later2 (c_sNodeOk _ _ _ _ _ _ xs _ _ HN.out hn2 (by (repeat (first | with_reducible exact HA.out | with_reducible refine Row.later ?_ _ | with_reducible refine Row.alloc ?_ _)); done) HNK.out)) | (go_at_call 27; first | exact calls_later (c_in_t _ _ _ _ (by omega)) | exact calls_later2 (c_in_t _ _ _ _ (by omega)) | exact calls_later (c_in_f _ _ _ _ (by omega)) | exact calls_later2 (c_in_f _ _ _ _ (by omega))) | (go_at_call 31; first | exact calls_later (gives_less hls (c_less _ _ _)) | exact calls_later2 (gives_less hls (c_less _ _ _))))))); refine wpQuiet_nil ?_; rintro _ ⟨p, rfl⟩))
        all_goals
          go_ret3
          first | exact Gives.mk rfl (by (repeat (first | with_reducible exact Below.refl _ _ | with_reducible assumption | with_reducible refine Below.drew ?_ | with_reducible refine below_drewN ?_ _ | with_reducible exact HQ.out | with_reducible exact HBW.out | with_reducible refine below_ext ?_ _ _ | with_reducible refine below_then_later ?_ (by first | with_reducible exact Nat.le_refl _ | with_reducible exact HBW.out.size | with_reducible exact HQ.out.size | omega | (simp; done) | (simp; omega) | (simp [later_size]; done) | (simp [later_size]; omega)) _ | with_reducible refine Below.setCell ?_ (by first | with_reducible exact Nat.le_refl _ | with_reducible exact HBW.out.size | with_reducible exact HQ.out.size | omega | (simp; done) | (simp; omega) | (simp [later_size]; done) | (simp [later_size]; omega)) _ | with_reducible refine Below.alloc ?_ (by first | with_reducible exact Nat.le_refl _ | with_reducible exact HBW.out.size | with_reducible exact HQ.out.size | omega | (simp; done) | (simp; omega) | (simp [later_size]; done) | (simp [later_size]; omega)) _))) | exact Gives.mk (ret_three (by omega)) (by (repeat (first | with_reducible exact Below.refl _ _ | with_reducible assumption | with_reducible refine Below.drew ?_ | with_reducible refine below_drewN ?_ _ | with_reducible exact HQ.out | with_reducible exact HBW.out | with_reducible refine below_ext ?_ _ _ | with_reducible refine below_then_later ?_ (by first | with_reducible exact Nat.le_refl _ | with_reducible exact HBW.out.size | with_reducible exact HQ.out.size | omega | (simp; done) | (simp; omega) | (simp [later_size]; done) | (simp [later_size]; omega)) _ | with_reducible refine Below.setCell ?_ (by first | with_reducible exact Nat.le_refl _ | with_reducible exact HBW.out.size | with_reducible exact HQ.out.size | omega | (simp; done) | (simp; omega) | (simp [later_size]; done) | (simp [later_size]; omega)) _ | with_reducible refine Below.alloc ?_ (by first | with_reducible exact Nat.le_refl _ | with_reducible exact HBW.out.size | with_reducible exact HQ.out.size | omega | (simp; done) | (simp; omega) | (simp [later_size]; done) | (simp [later_size]; omega)) _)))
      · clear hni
        obtain ⟨rfl, rfl, rfl⟩ : r1 = key ∧ r2 = val ∧ r3 = false := by
          have := HZ.out
          unfold changed at this
          rw [HNK.out, HIT.out] at this
          simp only [Bool.and_false, Bool.false_eq_true, if_false] at this
          simp only [Prod.mk.injEq] at this
          exact ⟨this.1.symm, this.2.1.symm, this.2.2.symm⟩
        clear HZ
        go_enter Try.func13, Try.ntmps13
        go_wp2_with (first | (go_at_call 9; (refine (c_sNodeOk _ _ _ _ _ _ xs _ _ HN.out hn2 (by (repeat (first | with_reducible exact HA.out | with_reducible refine Row.later ?_ _ | with_reducible refine Row.alloc ?_ _)); done) HNK.out).mono ?_); rintro _ _ ⟨rfl, p, rfl⟩) | (go_at_call 27; (first | (refine (c_in_t _ _ _ _ (by omega)).mono ?_) | (refine (c_in_f _ _ _ _ (by omega)).mono ?_)); rintro _ _ ⟨rfl, p, rfl⟩) | (go_at_call 31; (refine (gives_less hls (c_less _ _ _)).mono ?_); rintro _ _ ⟨rfl, p, rfl⟩) | ((with_reducible refine wp_region_later (by kernel_rfl) (by kernel_rfl) ?_); (repeat (first | go_big_quiet_skip | quiet_step ((first | (go_at_call 9; first | exact calls_later (c_sNodeOk _ _ _ _ _ _ xs _ _ HN.out hn2 (by (repeat (first | with_reducible exact HA.out | with_reducible refine Row.later ?_ _ | with_reducible refine Row.alloc ?_ _)); done) HNK.out) | exact calls_later2 (c_sNodeOk _ _ _ _ _ _ xs _ _ HN.out hn2 (by (repeat (first | with_reducible exact HA.out | with_reducible refine Row.later ?_ _ | with_reducible refine Row.alloc ?_ _)); done) HNK.out)) | (go_at_call 27; first | exact calls_later (c_in_t _ _ _ _ (by omega)) | exact calls_later2 (c_in_t _ _ _ _ (by omega)) | exact calls_later (c_in_f _ _ _ _ (by omega)) | exact calls_later2 (c_in_f _ _ _ _ (by omega))) | (go_at_call 31; first | exact calls_later (gives_less hls (c_less _ _ _)) | exact calls_later2 (gives_less hls (c_less _ _ _))))))); refine wpQuiet_nil ?_; rintro _ ⟨p, rfl⟩))
        all_goals
          go_ret3
          first | exact Gives.mk rfl (by (repeat (first | with_reducible exact Below.refl _ _ | with_reducible assumption | with_reducible refine Below.drew ?_ | with_reducible refine below_drewN ?_ _ | with_reducible exact HQ.out | with_reducible exact HBW.out | with_reducible refine below_ext ?_ _ _ | with_reducible refine below_then_later ?_ (by first | with_reducible exact Nat.le_refl _ | with_reducible exact HBW.out.size | with_reducible exact HQ.out.size | omega | (simp; done) | (simp; omega) | (simp [later_size]; done) | (simp [later_size]; omega)) _ | with_reducible refine Below.setCell ?_ (by first | with_reducible exact Nat.le_refl _ | with_reducible exact HBW.out.size | with_reducible exact HQ.out.size | omega | (simp; done) | (simp; omega) | (simp [later_size]; done) | (simp [later_size]; omega)) _ | with_reducible refine Below.alloc ?_ (by first | with_reducible exact Nat.le_refl _ | with_reducible exact HBW.out.size | with_reducible exact HQ.out.size | omega | (simp; done) | (simp; omega) | (simp [later_size]; done) | (simp [later_size]; omega)) _))) | exact Gives.mk (ret_three (by omega)) (by (repeat (first | with_reducible exact Below.refl _ _ | with_reducible assumption | with_reducible refine Below.drew ?_ | with_reducible refine below_drewN ?_ _ | with_reducible exact HQ.out | with_reducible exact HBW.out | with_reducible refine below_ext ?_ _ _ | with_reducible refine below_then_later ?_ (by first | with_reducible exact Nat.le_refl _ | with_reducible exact HBW.out.size | with_reducible exact HQ.out.size | omega | (simp; done) | (simp; omega) | (simp [later_size]; done) | (simp [later_size]; omega)) _ | with_reducible refine Below.setCell ?_ (by first | with_reducible exact Nat.le_refl _ | with_reducible exact HBW.out.size | with_reducible exact HQ.out.size | omega | (simp; done) | (simp; omega) | (simp [later_size]; done) | (simp [later_size]; omega)) _ | with_reducible refine Below.alloc ?_ (by first | with_reducible exact Nat.le_refl _ | with_reducible exact HBW.out.size | with_reducible exact HQ.out.size | omega | (simp; done) | (simp; omega) | (simp [later_size]; done) | (simp [later_size]; omega)) _)))
    · obtain ⟨hke, hva⟩ := itOk_rng hit
      have HIT := Lib.hid hit
      clear hit
      have E := Lib.hid (show (nodeOk kd a b xs && itOk key val) = true by rw [HNK.out, HIT.out]; rfl)
      by_cases h2 : kd = 2
      · subst kd
        have ha := K2.out rfl
        clear K2 K3 K4
        have hw1 : IntKind.i64.wrap (val + a) = val + a := IntWalk.i64_in _ (by omega)
        have HWW := Lib.hid hw1
        clear hw1
        by_cases hm : 999 < val + a
        · have hmm : min 999 (val + a) = 999 := by omega
          have HMM := Lib.hid hmm
          clear hmm
          have hls : lessI (val + a) 999 = 999 := by unfold lessI; split <;> omega
          have HLS := Lib.hid hls
          clear hls
          obtain ⟨rfl, rfl, rfl⟩ : r1 = key ∧ r2 = 999 ∧ r3 = true := by
            have := HZ.out
            unfold changed at this
            rw [if_pos E.out, HMM.out] at this
            simp only [if_true] at this
            simp only [Prod.mk.injEq] at this
            exact ⟨this.1.symm, this.2.1.symm, this.2.2.symm⟩
          clear HZ E
          go_enter Try.func13, Try.ntmps13
          go_wp2_with (first | (go_at_call 9; (refine (c_sNodeOk _ _ _ _ _ _ xs _ _ HN.out hn2 (by (repeat (first | with_reducible exact HA.out | with_reducible refine Row.later ?_ _ | with_reducible refine Row.alloc ?_ _)); done) HNK.out).mono ?_); rintro _ _ ⟨rfl, p, rfl⟩) | (go_at_call 27; (first | (refine (c_in_t _ _ _ _ (by omega)).mono ?_) | (refine (c_in_f _ _ _ _ (by omega)).mono ?_)); rintro _ _ ⟨rfl, p, rfl⟩) | (go_at_call 31; (refine (gives_less HLS.out (c_less _ _ _)).mono ?_); rintro _ _ ⟨rfl, p, rfl⟩) | ((with_reducible refine wp_region_later (by kernel_rfl) (by kernel_rfl) ?_); (repeat (first | go_big_quiet_skip | quiet_step ((first | (go_at_call 9; first | exact calls_later (c_sNodeOk _ _ _ _ _ _ xs _ _ HN.out hn2 (by (repeat (first | with_reducible exact HA.out | with_reducible refine Row.later ?_ _ | with_reducible refine Row.alloc ?_ _)); done) HNK.out) | exact calls_later2 (c_sNodeOk _ _ _ _ _ _ xs _ _ HN.out hn2 (by (repeat (first | with_reducible exact HA.out | with_reducible refine Row.later ?_ _ | with_reducible refine Row.alloc ?_ _)); done) HNK.out)) | (go_at_call 27; first | exact calls_later (c_in_t _ _ _ _ (by omega)) | exact calls_later2 (c_in_t _ _ _ _ (by omega)) | exact calls_later (c_in_f _ _ _ _ (by omega)) | exact calls_later2 (c_in_f _ _ _ _ (by omega))) | (go_at_call 31; first | exact calls_later (gives_less HLS.out (c_less _ _ _)) | exact calls_later2 (gives_less HLS.out (c_less _ _ _))))))); refine wpQuiet_nil ?_; rintro _ ⟨p, rfl⟩))
          all_goals
            go_ret3
            first | exact Gives.mk rfl (by (repeat (first | with_reducible exact Below.refl _ _ | with_reducible assumption | with_reducible refine Below.drew ?_ | with_reducible refine below_drewN ?_ _ | with_reducible exact HQ.out | with_reducible exact HBW.out | with_reducible refine below_ext ?_ _ _ | with_reducible refine below_then_later ?_ (by first | with_reducible exact Nat.le_refl _ | with_reducible exact HBW.out.size | with_reducible exact HQ.out.size | omega | (simp; done) | (simp; omega) | (simp [later_size]; done) | (simp [later_size]; omega)) _ | with_reducible refine Below.setCell ?_ (by first | with_reducible exact Nat.le_refl _ | with_reducible exact HBW.out.size | with_reducible exact HQ.out.size | omega | (simp; done) | (simp; omega) | (simp [later_size]; done) | (simp [later_size]; omega)) _ | with_reducible refine Below.alloc ?_ (by first | with_reducible exact Nat.le_refl _ | with_reducible exact HBW.out.size | with_reducible exact HQ.out.size | omega | (simp; done) | (simp; omega) | (simp [later_size]; done) | (simp [later_size]; omega)) _))) | exact Gives.mk (ret_three (by omega)) (by (repeat (first | with_reducible exact Below.refl _ _ | with_reducible assumption | with_reducible refine Below.drew ?_ | with_reducible refine below_drewN ?_ _ | with_reducible exact HQ.out | with_reducible exact HBW.out | with_reducible refine below_ext ?_ _ _ | with_reducible refine below_then_later ?_ (by first | with_reducible exact Nat.le_refl _ | with_reducible exact HBW.out.size | with_reducible exact HQ.out.size | omega | (simp; done) | (simp; omega) | (simp [later_size]; done) | (simp [later_size]; omega)) _ | with_reducible refine Below.setCell ?_ (by first | with_reducible exact Nat.le_refl _ | with_reducible exact HBW.out.size | with_reducible exact HQ.out.size | omega | (simp; done) | (simp; omega) | (simp [later_size]; done) | (simp [later_size]; omega)) _ | with_reducible refine Below.alloc ?_ (by first | with_reducible exact Nat.le_refl _ | with_reducible exact HBW.out.size | with_reducible exact HQ.out.size | omega | (simp; done) | (simp; omega) | (simp [later_size]; done) | (simp [later_size]; omega)) _)))
        · have hmm : min 999 (val + a) = val + a := by omega
          have HMM := Lib.hid hmm
          clear hmm
          have hls : lessI (val + a) 999 = val + a := by unfold lessI; split <;> omega
          have HLS := Lib.hid hls
          clear hls
          obtain ⟨rfl, rfl, rfl⟩ : r1 = key ∧ r2 = val + a ∧ r3 = true := by
            have := HZ.out
            unfold changed at this
            rw [if_pos E.out, HMM.out] at this
            simp only [if_true] at this
            simp only [Prod.mk.injEq] at this
            exact ⟨this.1.symm, this.2.1.symm, this.2.2.symm⟩
          clear HZ E
          go_enter Try.func13, Try.ntmps13
          go_wp2_with (first | (go_at_call 9; (refine (c_sNodeOk _ _ _ _ _ _ xs _ _ HN.out hn2 (by (repeat (first | with_reducible exact HA.out | with_reducible refine Row.later ?_ _ | with_reducible refine Row.alloc ?_ _)); done) HNK.out).mono ?_); rintro _ _ ⟨rfl, p, rfl⟩) | (go_at_call 27; (first | (refine (c_in_t _ _ _ _ (by omega)).mono ?_) | (refine (c_in_f _ _ _ _ (by omega)).mono ?_)); rintro _ _ ⟨rfl, p, rfl⟩) | (go_at_call 31; (refine (gives_less HLS.out (c_less _ _ _)).mono ?_); rintro _ _ ⟨rfl, p, rfl⟩) | ((with_reducible refine wp_region_later (by kernel_rfl) (by kernel_rfl) ?_); (repeat (first | go_big_quiet_skip | quiet_step ((first | (go_at_call 9; first | exact calls_later (c_sNodeOk _ _ _ _ _ _ xs _ _ HN.out hn2 (by (repeat (first | with_reducible exact HA.out | with_reducible refine Row.later ?_ _ | with_reducible refine Row.alloc ?_ _)); done) HNK.out) | exact calls_later2 (c_sNodeOk _ _ _ _ _ _ xs _ _ HN.out hn2 (by (repeat (first | with_reducible exact HA.out | with_reducible refine Row.later ?_ _ | with_reducible refine Row.alloc ?_ _)); done) HNK.out)) | (go_at_call 27; first | exact calls_later (c_in_t _ _ _ _ (by omega)) | exact calls_later2 (c_in_t _ _ _ _ (by omega)) | exact calls_later (c_in_f _ _ _ _ (by omega)) | exact calls_later2 (c_in_f _ _ _ _ (by omega))) | (go_at_call 31; first | exact calls_later (gives_less HLS.out (c_less _ _ _)) | exact calls_later2 (gives_less HLS.out (c_less _ _ _))))))); refine wpQuiet_nil ?_; rintro _ ⟨p, rfl⟩))
          all_goals
            go_ret3
            first | exact Gives.mk rfl (by (repeat (first | with_reducible exact Below.refl _ _ | with_reducible assumption | with_reducible refine Below.drew ?_ | with_reducible refine below_drewN ?_ _ | with_reducible exact HQ.out | with_reducible exact HBW.out | with_reducible refine below_ext ?_ _ _ | with_reducible refine below_then_later ?_ (by first | with_reducible exact Nat.le_refl _ | with_reducible exact HBW.out.size | with_reducible exact HQ.out.size | omega | (simp; done) | (simp; omega) | (simp [later_size]; done) | (simp [later_size]; omega)) _ | with_reducible refine Below.setCell ?_ (by first | with_reducible exact Nat.le_refl _ | with_reducible exact HBW.out.size | with_reducible exact HQ.out.size | omega | (simp; done) | (simp; omega) | (simp [later_size]; done) | (simp [later_size]; omega)) _ | with_reducible refine Below.alloc ?_ (by first | with_reducible exact Nat.le_refl _ | with_reducible exact HBW.out.size | with_reducible exact HQ.out.size | omega | (simp; done) | (simp; omega) | (simp [later_size]; done) | (simp [later_size]; omega)) _))) | exact Gives.mk (ret_three (by omega)) (by (repeat (first | with_reducible exact Below.refl _ _ | with_reducible assumption | with_reducible refine Below.drew ?_ | with_reducible refine below_drewN ?_ _ | with_reducible exact HQ.out | with_reducible exact HBW.out | with_reducible refine below_ext ?_ _ _ | with_reducible refine below_then_later ?_ (by first | with_reducible exact Nat.le_refl _ | with_reducible exact HBW.out.size | with_reducible exact HQ.out.size | omega | (simp; done) | (simp; omega) | (simp [later_size]; done) | (simp [later_size]; omega)) _ | with_reducible refine Below.setCell ?_ (by first | with_reducible exact Nat.le_refl _ | with_reducible exact HBW.out.size | with_reducible exact HQ.out.size | omega | (simp; done) | (simp; omega) | (simp [later_size]; done) | (simp [later_size]; omega)) _ | with_reducible refine Below.alloc ?_ (by first | with_reducible exact Nat.le_refl _ | with_reducible exact HBW.out.size | with_reducible exact HQ.out.size | omega | (simp; done) | (simp; omega) | (simp [later_size]; done) | (simp [later_size]; omega)) _)))
      · by_cases h4 : kd = 4
        · subst kd
          have ha := K4.out rfl
          clear K2 K3 K4 h2
          obtain ⟨rfl, rfl, rfl⟩ : r1 = (key + a) % 100 ∧ r2 = val ∧ r3 = true := by
            have := HZ.out
            unfold changed at this
            rw [if_pos E.out] at this
            simp only [Int.reduceEq, if_true, if_false] at this
            simp only [Prod.mk.injEq] at this
            exact ⟨this.1.symm, this.2.1.symm, this.2.2.symm⟩
          clear HZ E
          go_enter Try.func13, Try.ntmps13
          go_wp2_with (first | (go_at_call 9; (refine (c_sNodeOk _ _ _ _ _ _ xs _ _ HN.out hn2 (by (repeat (first | with_reducible exact HA.out | with_reducible refine Row.later ?_ _ | with_reducible refine Row.alloc ?_ _)); done) HNK.out).mono ?_); rintro _ _ ⟨rfl, p, rfl⟩) | (go_at_call 27; (first | (refine (c_in_t _ _ _ _ (by omega)).mono ?_) | (refine (c_in_f _ _ _ _ (by omega)).mono ?_)); rintro _ _ ⟨rfl, p, rfl⟩) | (go_at_call 31; (refine (gives_less hls (c_less _ _ _)).mono ?_); rintro _ _ ⟨rfl, p, rfl⟩) | ((with_reducible refine wp_region_later (by kernel_rfl) (by kernel_rfl) ?_); (repeat (first | go_big_quiet_skip | quiet_step ((first | (go_at_call 9; first | exact calls_later (c_sNodeOk _ _ _ _ _ _ xs _ _ HN.out hn2 (by (repeat (first | with_reducible exact HA.out | with_reducible refine Row.later ?_ _ | with_reducible refine Row.alloc ?_ _)); done) HNK.out) | exact calls_later2 (c_sNodeOk _ _ _ _ _ _ xs _ _ HN.out hn2 (by (repeat (first | with_reducible exact HA.out | with_reducible refine Row.later ?_ _ | with_reducible refine Row.alloc ?_ _)); done) HNK.out)) | (go_at_call 27; first | exact calls_later (c_in_t _ _ _ _ (by omega)) | exact calls_later2 (c_in_t _ _ _ _ (by omega)) | exact calls_later (c_in_f _ _ _ _ (by omega)) | exact calls_later2 (c_in_f _ _ _ _ (by omega))) | (go_at_call 31; first | exact calls_later (gives_less hls (c_less _ _ _)) | exact calls_later2 (gives_less hls (c_less _ _ _))))))); refine wpQuiet_nil ?_; rintro _ ⟨p, rfl⟩))
          all_goals
            go_ret3
            first | exact Gives.mk rfl (by (repeat (first | with_reducible exact Below.refl _ _ | with_reducible assumption | with_reducible refine Below.drew ?_ | with_reducible refine below_drewN ?_ _ | with_reducible exact HQ.out | with_reducible exact HBW.out | with_reducible refine below_ext ?_ _ _ | with_reducible refine below_then_later ?_ (by first | with_reducible exact Nat.le_refl _ | with_reducible exact HBW.out.size | with_reducible exact HQ.out.size | omega | (simp; done) | (simp; omega) | (simp [later_size]; done) | (simp [later_size]; omega)) _ | with_reducible refine Below.setCell ?_ (by first | with_reducible exact Nat.le_refl _ | with_reducible exact HBW.out.size | with_reducible exact HQ.out.size | omega | (simp; done) | (simp; omega) | (simp [later_size]; done) | (simp [later_size]; omega)) _ | with_reducible refine Below.alloc ?_ (by first | with_reducible exact Nat.le_refl _ | with_reducible exact HBW.out.size | with_reducible exact HQ.out.size | omega | (simp; done) | (simp; omega) | (simp [later_size]; done) | (simp [later_size]; omega)) _))) | exact Gives.mk (ret_three (by omega)) (by (repeat (first | with_reducible exact Below.refl _ _ | with_reducible assumption | with_reducible refine Below.drew ?_ | with_reducible refine below_drewN ?_ _ | with_reducible exact HQ.out | with_reducible exact HBW.out | with_reducible refine below_ext ?_ _ _ | with_reducible refine below_then_later ?_ (by first | with_reducible exact Nat.le_refl _ | with_reducible exact HBW.out.size | with_reducible exact HQ.out.size | omega | (simp; done) | (simp; omega) | (simp [later_size]; done) | (simp [later_size]; omega)) _ | with_reducible refine Below.setCell ?_ (by first | with_reducible exact Nat.le_refl _ | with_reducible exact HBW.out.size | with_reducible exact HQ.out.size | omega | (simp; done) | (simp; omega) | (simp [later_size]; done) | (simp [later_size]; omega)) _ | with_reducible refine Below.alloc ?_ (by first | with_reducible exact Nat.le_refl _ | with_reducible exact HBW.out.size | with_reducible exact HQ.out.size | omega | (simp; done) | (simp; omega) | (simp [later_size]; done) | (simp [later_size]; omega)) _)))
        · by_cases h3 : kd = 3
          · subst kd
            have ha := K3.out rfl
            clear K2 K3 K4 h2 h4
            have htm : key.tmod a = key % a := Int.tmod_eq_emod_of_nonneg (by omega)
            have ha0 : (a == 0) = false := by simp; omega
            have ha1 : ¬ a = 0 := by omega
            obtain ⟨rfl, rfl, rfl⟩ : r1 = key ∧ r2 = val ∧ r3 = (key % a == b) := by
              have := HZ.out
              unfold changed at this
              rw [if_pos E.out] at this
              simp only [Int.reduceEq, if_true, if_false] at this
              simp only [Prod.mk.injEq] at this
              exact ⟨this.1.symm, this.2.1.symm, this.2.2.symm⟩
            clear HZ E
            go_enter Try.func13, Try.ntmps13
            go_wp2_with (first | (go_at_call 9; (refine (c_sNodeOk _ _ _ _ _ _ xs _ _ HN.out hn2 (by (repeat (first | with_reducible exact HA.out | with_reducible refine Row.later ?_ _ | with_reducible refine Row.alloc ?_ _)); done) HNK.out).mono ?_); rintro _ _ ⟨rfl, p, rfl⟩) | (go_at_call 27; (first | (refine (c_in_t _ _ _ _ (by omega)).mono ?_) | (refine (c_in_f _ _ _ _ (by omega)).mono ?_)); rintro _ _ ⟨rfl, p, rfl⟩) | (go_at_call 31; (refine (gives_less hls (c_less _ _ _)).mono ?_); rintro _ _ ⟨rfl, p, rfl⟩) | ((with_reducible refine wp_region_later (by kernel_rfl) (by kernel_rfl) ?_); (repeat (first | go_big_quiet_skip | quiet_step ((first | (go_at_call 9; first | exact calls_later (c_sNodeOk _ _ _ _ _ _ xs _ _ HN.out hn2 (by (repeat (first | with_reducible exact HA.out | with_reducible refine Row.later ?_ _ | with_reducible refine Row.alloc ?_ _)); done) HNK.out) | exact calls_later2 (c_sNodeOk _ _ _ _ _ _ xs _ _ HN.out hn2 (by (repeat (first | with_reducible exact HA.out | with_reducible refine Row.later ?_ _ | with_reducible refine Row.alloc ?_ _)); done) HNK.out)) | (go_at_call 27; first | exact calls_later (c_in_t _ _ _ _ (by omega)) | exact calls_later2 (c_in_t _ _ _ _ (by omega)) | exact calls_later (c_in_f _ _ _ _ (by omega)) | exact calls_later2 (c_in_f _ _ _ _ (by omega))) | (go_at_call 31; first | exact calls_later (gives_less hls (c_less _ _ _)) | exact calls_later2 (gives_less hls (c_less _ _ _))))))); refine wpQuiet_nil ?_; rintro _ ⟨p, rfl⟩))
            all_goals
              go_ret3
              first | exact Gives.mk rfl (by (repeat (first | with_reducible exact Below.refl _ _ | with_reducible assumption | with_reducible refine Below.drew ?_ | with_reducible refine below_drewN ?_ _ | with_reducible exact HQ.out | with_reducible exact HBW.out | with_reducible refine below_ext ?_ _ _ | with_reducible refine below_then_later ?_ (by first | with_reducible exact Nat.le_refl _ | with_reducible exact HBW.out.size | with_reducible exact HQ.out.size | omega | (simp; done) | (simp; omega) | (simp [later_size]; done) | (simp [later_size]; omega)) _ | with_reducible refine Below.setCell ?_ (by first | with_reducible exact Nat.le_refl _ | with_reducible exact HBW.out.size | with_reducible exact HQ.out.size | omega | (simp; done) | (simp; omega) | (simp [later_size]; done) | (simp [later_size]; omega)) _ | with_reducible refine Below.alloc ?_ (by first | with_reducible exact Nat.le_refl _ | with_reducible exact HBW.out.size | with_reducible exact HQ.out.size | omega | (simp; done) | (simp; omega) | (simp [later_size]; done) | (simp [later_size]; omega)) _))) | exact Gives.mk (ret_three (by omega)) (by (repeat (first | with_reducible exact Below.refl _ _ | with_reducible assumption | with_reducible refine Below.drew ?_ | with_reducible refine below_drewN ?_ _ | with_reducible exact HQ.out | with_reducible exact HBW.out | with_reducible refine below_ext ?_ _ _ | with_reducible refine below_then_later ?_ (by first | with_reducible exact Nat.le_refl _ | with_reducible exact HBW.out.size | with_reducible exact HQ.out.size | omega | (simp; done) | (simp; omega) | (simp [later_size]; done) | (simp [later_size]; omega)) _ | with_reducible refine Below.setCell ?_ (by first | with_reducible exact Nat.le_refl _ | with_reducible exact HBW.out.size | with_reducible exact HQ.out.size | omega | (simp; done) | (simp; omega) | (simp [later_size]; done) | (simp [later_size]; omega)) _ | with_reducible refine Below.alloc ?_ (by first | with_reducible exact Nat.le_refl _ | with_reducible exact HBW.out.size | with_reducible exact HQ.out.size | omega | (simp; done) | (simp; omega) | (simp [later_size]; done) | (simp [later_size]; omega)) _)))
          · have e2 : (kd == 2) = false := by simpa using h2
            have e3 : (kd == 3) = false := by simpa using h3
            have e4 : (kd == 4) = false := by simpa using h4
            clear K2 K3 K4
            obtain ⟨rfl, rfl, rfl⟩ : r1 = key ∧ r2 = val ∧ r3 = (kd != 8) := by
              have := HZ.out
              unfold changed at this
              rw [if_pos E.out, if_neg h2, if_neg h4, if_neg h3] at this
              simp only [Prod.mk.injEq] at this
              exact ⟨this.1.symm, this.2.1.symm, this.2.2.symm⟩
            clear HZ E
            go_enter Try.func13, Try.ntmps13
            go_wp2_with (first | (go_at_call 9; (refine (c_sNodeOk _ _ _ _ _ _ xs _ _ HN.out hn2 (by (repeat (first | with_reducible exact HA.out | with_reducible refine Row.later ?_ _ | with_reducible refine Row.alloc ?_ _)); done) HNK.out).mono ?_); rintro _ _ ⟨rfl, p, rfl⟩) | (go_at_call 27; (first | (refine (c_in_t _ _ _ _ (by omega)).mono ?_) | (refine (c_in_f _ _ _ _ (by omega)).mono ?_)); rintro _ _ ⟨rfl, p, rfl⟩) | (go_at_call 31; (refine (gives_less hls (c_less _ _ _)).mono ?_); rintro _ _ ⟨rfl, p, rfl⟩) | ((with_reducible refine wp_region_later (by kernel_rfl) (by kernel_rfl) ?_); (repeat (first | go_big_quiet_skip | quiet_step ((first | (go_at_call 9; first | exact calls_later (c_sNodeOk _ _ _ _ _ _ xs _ _ HN.out hn2 (by (repeat (first | with_reducible exact HA.out | with_reducible refine Row.later ?_ _ | with_reducible refine Row.alloc ?_ _)); done) HNK.out) | exact calls_later2 (c_sNodeOk _ _ _ _ _ _ xs _ _ HN.out hn2 (by (repeat (first | with_reducible exact HA.out | with_reducible refine Row.later ?_ _ | with_reducible refine Row.alloc ?_ _)); done) HNK.out)) | (go_at_call 27; first | exact calls_later (c_in_t _ _ _ _ (by omega)) | exact calls_later2 (c_in_t _ _ _ _ (by omega)) | exact calls_later (c_in_f _ _ _ _ (by omega)) | exact calls_later2 (c_in_f _ _ _ _ (by omega))) | (go_at_call 31; first | exact calls_later (gives_less hls (c_less _ _ _)) | exact calls_later2 (gives_less hls (c_less _ _ _))))))); refine wpQuiet_nil ?_; rintro _ ⟨p, rfl⟩))
            all_goals
              go_ret3
              first | exact Gives.mk rfl (by (repeat (first | with_reducible exact Below.refl _ _ | with_reducible assumption | with_reducible refine Below.drew ?_ | with_reducible refine below_drewN ?_ _ | with_reducible exact HQ.out | with_reducible exact HBW.out | with_reducible refine below_ext ?_ _ _ | with_reducible refine below_then_later ?_ (by first | with_reducible exact Nat.le_refl _ | with_reducible exact HBW.out.size | with_reducible exact HQ.out.size | omega | (simp; done) | (simp; omega) | (simp [later_size]; done) | (simp [later_size]; omega)) _ | with_reducible refine Below.setCell ?_ (by first | with_reducible exact Nat.le_refl _ | with_reducible exact HBW.out.size | with_reducible exact HQ.out.size | omega | (simp; done) | (simp; omega) | (simp [later_size]; done) | (simp [later_size]; omega)) _ | with_reducible refine Below.alloc ?_ (by first | with_reducible exact Nat.le_refl _ | with_reducible exact HBW.out.size | with_reducible exact HQ.out.size | omega | (simp; done) | (simp; omega) | (simp [later_size]; done) | (simp [later_size]; omega)) _))) | exact Gives.mk (ret_three (by omega)) (by (repeat (first | with_reducible exact Below.refl _ _ | with_reducible assumption | with_reducible refine Below.drew ?_ | with_reducible refine below_drewN ?_ _ | with_reducible exact HQ.out | with_reducible exact HBW.out | with_reducible refine below_ext ?_ _ _ | with_reducible refine below_then_later ?_ (by first | with_reducible exact Nat.le_refl _ | with_reducible exact HBW.out.size | with_reducible exact HQ.out.size | omega | (simp; done) | (simp; omega) | (simp [later_size]; done) | (simp [later_size]; omega)) _ | with_reducible refine Below.setCell ?_ (by first | with_reducible exact Nat.le_refl _ | with_reducible exact HBW.out.size | with_reducible exact HQ.out.size | omega | (simp; done) | (simp; omega) | (simp [later_size]; done) | (simp [later_size]; omega)) _ | with_reducible refine Below.alloc ?_ (by first | with_reducible exact Nat.le_refl _ | with_reducible exact HBW.out.size | with_reducible exact HQ.out.size | omega | (simp; done) | (simp; omega) | (simp [later_size]; done) | (simp [later_size]; omega)) _)))
end Go.Proofs.Ytnllmfhmffdceaa
