/-
  Loops that read slices of stamps and of counts: EpochOver, Ahead, FrontLeq, TotalCount, CountAt, EpochCount, in the program and in the reference. Conditions: the length fits an int.
-/
import Derived.Test.YtcjdfecajlgcmaaDoorFill
import Derived.Test.YtcjdfecajlgcmaaDoorScal
import Derived.Test.YtcjdfecajlgcmaaDoorStruct
namespace Go.Proofs.YtcjdfecajlgcmaaDoor
open Go.RowKit
set_option linter.unusedVariables false

section
variable {α : Type}
theorem any_succ {P : α → Bool} {xs : List α} {k : Nat} {x : α} (h : (xs.take k).any P = false) (hx : xs[k]? = some x) (hP : P x = false) : (xs.take (k + 1)).any P = false := by
  rw [List.take_add_one, hx, List.any_append, h]
  simp [hP]
theorem any_hit {P : α → Bool} {xs : List α} {k : Nat} {x : α} (hx : xs[k]? = some x) (hP : P x = true) : xs.any P = true := by
  rw [List.any_eq_true]
  exact ⟨x, List.mem_of_getElem? hx, hP⟩
theorem any_end {P : α → Bool} {xs : List α} {n : Nat} (h : (xs.take n).any P = false) (hn : xs.length = n) : xs.any P = false := by
  rwa [List.take_of_length_le (by omega)] at h
theorem find_succ {P : α → Bool} {xs : List α} {k : Nat} {x : α} (h : (xs.take k).find? P = Option.none) (hx : xs[k]? = some x) (hP : P x = false) : (xs.take (k + 1)).find? P = Option.none := by
  rw [List.take_add_one, hx, List.find?_append, h]
  simp [hP]
theorem find_hit {P : α → Bool} {xs : List α} {k : Nat} {x : α} (h : (xs.take k).find? P = Option.none) (hx : xs[k]? = some x) (hP : P x = true) : xs.find? P = some x := by
  have hk : k < xs.length := (List.getElem?_eq_some_iff.1 hx).1
  have e : xs = xs.take k ++ x :: xs.drop (k + 1) := by
    have h1 := List.take_append_drop k xs
    rw [List.drop_eq_getElem_cons hk] at h1
    have h2 : xs[k] = x := by rw [List.getElem?_eq_getElem hk] at hx; exact Option.some.inj hx
    rw [h2] at h1
    exact h1.symm
  rw [e, List.find?_append, h]
  simp [hP]
theorem find_end {P : α → Bool} {xs : List α} {n : Nat} (h : (xs.take n).find? P = Option.none) (hn : xs.length = n) : xs.find? P = Option.none := by
  rwa [List.take_of_length_le (by omega)] at h
theorem fold_succ {β : Type} {f : β → α → β} {b : β} {xs : List α} {k : Nat} {x : α} (hx : xs[k]? = some x) : (xs.take (k + 1)).foldl f b = f ((xs.take k).foldl f b) x := by
  rw [List.take_add_one, hx, List.foldl_append]
  rfl
theorem fold_end {β : Type} {f : β → α → β} {b : β} {xs : List α} {n : Nat} (hn : xs.length = n) : (xs.take n).foldl f b = xs.foldl f b := by
  rw [List.take_of_length_le (by omega)]
end

def overP (e : Int) (x : Int × Int) : Bool := decide (x.1 ≤ e)
def aheadP (a b : Int) (x : Int × Int) : Bool := leqB x.1 x.2 a b
def ahead (xs : List (Int × Int)) (s : Int × Int) : Bool := xs.any (aheadP s.1 s.2)
def notAhead (xs : List (Int × Int)) (s : Int × Int) : Bool := !ahead xs s
def total (xs : List ((Int × Int) × Int)) : Int := xs.foldl (fun s x => wrap64 (s + x.2)) 0
def epochStep (e s : Int) (x : (Int × Int) × Int) : Int := if x.1.1 = e then wrap64 (s + x.2) else s
def epochCount (xs : List ((Int × Int) × Int)) (e : Int) : Int := xs.foldl (epochStep e) 0
def atP (a b : Int) (x : (Int × Int) × Int) : Bool := decide (x.1.1 = a ∧ x.1.2 = b)
def countAt (xs : List ((Int × Int) × Int)) (a b : Int) : Int := match xs.find? (atP a b) with | some x => x.2 | Option.none => 0

set_option maxHeartbeats 1600000 in
theorem c_sCountAt (A : Option Addr) (n c : Nat) (xs : List ((Int × Int) × Int)) (a b' : Int) (w : World) (hn : xs.length = n) (hn2 : n ≤ 9223372036854775807)
    (ha : Row encC 3 w A xs) : Calls Tryd.prog 59 #[.slice A n c, .agg #[.int .i64 a, .int .i64 b']] w (Gives (.int .i64 (countAt xs a b')) w) := by
  have HA := Lib.hid ha
  have HN := Lib.hid hn
  clear ha hn
  go_enter Tryd.func59, Tryd.ntmps59
  go_wp2_with fail
  go_loopw [5] (fun s0 wr => ∃ k : Nat, s0 = .int .i64 k ∧ k ≤ n ∧ (xs.take k).find? (atP a b') = Option.none ∧ ∃ p : Later, wr = later (w.alloc (Obj.cells #[.int .i64 a, .int .i64 b'] 30)) p) (fun s0 _ => n - (intOf s0).toNat)
  case atStart => exact ⟨0, rfl, by omega, by simp, later_refl _⟩
  case round =>
    obtain ⟨k, rfl, hk, hT, p, rfl⟩ := hrel
    have HT := Lib.hid hT
    clear hT
    by_cases hlt : k < n
    · obtain ⟨x, hx⟩ : ∃ x, xs[k]? = some x := ⟨_, List.getElem?_eq_getElem (by rw [HN.out]; exact hlt)⟩
      obtain ⟨b, off, rfl, hcx⟩ := HA.out.at_ hx
      have HX := Lib.hid hx
      have hbl := World.block_lt_of_cell? _ _ (hcx 0 _ rfl)
      simp only at hbl
      have hble := Nat.le_of_lt hbl
      obtain ⟨⟨x1, x2⟩, x3⟩ := x
      have hx0 := hcx 0 _ rfl
      have hx1 := hcx 1 _ rfl
      have hx2 := hcx 2 _ rfl
      clear hcx hx
      simp only [Nat.add_zero] at *
      by_cases he : x1 = a ∧ x2 = b'
      · obtain ⟨rfl, rfl⟩ := he
        go_wp2_with (first | ((with_reducible refine wp_region_later (by kernel_rfl) (by kernel_rfl) ?_); (repeat (first | go_big_quiet_skip | quiet_step ((fail)))); refine wpQuiet_nil ?_; rintro _ ⟨p, rfl⟩))
        all_goals
          go_ret
          exact Gives.mk (by exact ret_int (by unfold countAt; rw [find_hit HT.out HX.out (by unfold atP; simp)])) (by (repeat (first | with_reducible exact Below.refl _ _ | with_reducible assumption | with_reducible refine Below.drew ?_ | with_reducible refine below_drewN ?_ _ | with_reducible exact HQ.out | with_reducible exact HBW.out | with_reducible refine below_ext ?_ _ _ | with_reducible refine below_then_later ?_ (by first | with_reducible exact Nat.le_refl _ | with_reducible exact HBW.out.size | with_reducible exact HQ.out.size | omega | (simp; done) | (simp; omega) | (simp [later_size]; done) | (simp [later_size]; omega)) _ | with_reducible refine Below.setCell ?_ (by first | with_reducible exact Nat.le_refl _ | with_reducible exact HBW.out.size | with_reducible exact HQ.out.size | omega | (simp; done) | (simp; omega) | (simp [later_size]; done) | (simp [later_size]; omega)) _ | with_reducible refine Below.alloc ?_ (by first | with_reducible exact Nat.le_refl _ | with_reducible exact HBW.out.size | with_reducible exact HQ.out.size | omega | (simp; done) | (simp; omega) | (simp [later_size]; done) | (simp [later_size]; omega)) _)))
      · rcases (by omega : ¬ x1 = a ∨ (x1 = a ∧ ¬ x2 = b')) with hne | ⟨rfl, hne⟩
        all_goals clear he
        all_goals
          go_wp2_with (first | ((with_reducible refine wp_region_later (by kernel_rfl) (by kernel_rfl) ?_); (repeat (first | go_big_quiet_skip | quiet_step ((fail)))); refine wpQuiet_nil ?_; rintro _ ⟨p, rfl⟩))
          all_goals
            go_roundw
            case rel => exact ⟨k + 1, by go_num, by omega, find_succ HT.out HX.out (by unfold atP; simp; omega), later_of_below (by (repeat (first | with_reducible exact Below.refl _ _ | with_reducible assumption | with_reducible refine Below.drew ?_ | with_reducible refine below_drewN ?_ _ | with_reducible exact HQ.out | with_reducible exact HBW.out | with_reducible refine below_ext ?_ _ _ | with_reducible refine below_then_later ?_ (by first | with_reducible exact Nat.le_refl _ | with_reducible exact HBW.out.size | with_reducible exact HQ.out.size | omega | (simp; done) | (simp; omega) | (simp [later_size]; done) | (simp [later_size]; omega)) _ | with_reducible refine Below.setCell ?_ (by first | with_reducible exact Nat.le_refl _ | with_reducible exact HBW.out.size | with_reducible exact HQ.out.size | omega | (simp; done) | (simp; omega) | (simp [later_size]; done) | (simp [later_size]; omega)) _ | with_reducible refine Below.alloc ?_ (by first | with_reducible exact Nat.le_refl _ | with_reducible exact HBW.out.size | with_reducible exact HQ.out.size | omega | (simp; done) | (simp; omega) | (simp [later_size]; done) | (simp [later_size]; omega)) _)))⟩
            case measure => simp [intOf]; omega
    · have hkn : k = n := by omega
      have HE := Lib.hid (find_end (hkn ▸ HT.out) HN.out)
      clear hkn
      go_wp2_with (first | ((with_reducible refine wp_region_later (by kernel_rfl) (by kernel_rfl) ?_); (repeat (first | go_big_quiet_skip | quiet_step ((fail)))); refine wpQuiet_nil ?_; rintro _ ⟨p, rfl⟩))
      all_goals
        go_ret
        exact Gives.mk (by exact ret_int (by unfold countAt; rw [HE.out])) (by (repeat (first | with_reducible exact Below.refl _ _ | with_reducible assumption | with_reducible refine Below.drew ?_ | with_reducible refine below_drewN ?_ _ | with_reducible exact HQ.out | with_reducible exact HBW.out | with_reducible refine below_ext ?_ _ _ | with_reducible refine below_then_later ?_ (by first | with_reducible exact Nat.le_refl _ | with_reducible exact HBW.out.size | with_reducible exact HQ.out.size | omega | (simp; done) | (simp; omega) | (simp [later_size]; done) | (simp [later_size]; omega)) _ | with_reducible refine Below.setCell ?_ (by first | with_reducible exact Nat.le_refl _ | with_reducible exact HBW.out.size | with_reducible exact HQ.out.size | omega | (simp; done) | (simp; omega) | (simp [later_size]; done) | (simp [later_size]; omega)) _ | with_reducible refine Below.alloc ?_ (by first | with_reducible exact Nat.le_refl _ | with_reducible exact HBW.out.size | with_reducible exact HQ.out.size | omega | (simp; done) | (simp; omega) | (simp [later_size]; done) | (simp [later_size]; omega)) _)))
end Go.Proofs.YtcjdfecajlgcmaaDoor
