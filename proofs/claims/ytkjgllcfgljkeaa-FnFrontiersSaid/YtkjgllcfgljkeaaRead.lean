/-
  Loops that read slices of stamps and of counts: EpochOver, Ahead, FrontLeq, TotalCount, CountAt, EpochCount, in the program and in the reference. Conditions: the length fits an int.
-/
import Derived.Test.YtkjgllcfgljkeaaFill
import Derived.Test.YtkjgllcfgljkeaaScal
import Derived.Test.YtkjgllcfgljkeaaStruct
namespace Go.Proofs.Ytkjgllcfgljkeaa
open Go.RowKit
set_option linter.unusedVariables false

section
variable {α : Type}
theorem any_succ {P : α → Bool} {xs : List α} {k : Nat} {x : α} (h : (xs.take k).any P = false) (hx : xs[k]? = some x) (hP : P x = false) : (xs.take (k + 1)).any P = false := by
  rw [List.take_add_one, hx, List.any_append, h]
  simp [hP]
theorem any_hit {P : α → Bool} {xs : List α} {k : Nat} {x : α} (hx : xs[k]? = some x) (hP : P x = true) : xs.any P = true := by
  rw [List.any_eq_true]
  exact ⟨x, List.mem_of_getElem? hx, hP⟩
theorem any_end {P : α → Bool} {xs : List α} {n : Nat} (h : (xs.take n).any P = false) (hn : xs.length = n) : xs.any P = false := by
  rwa [List.take_of_length_le (by omega)] at h
theorem find_succ {P : α → Bool} {xs : List α} {k : Nat} {x : α} (h : (xs.take k).find? P = Option.none) (hx : xs[k]? = some x) (hP : P x = false) : (xs.take (k + 1)).find? P = Option.none := by
  rw [List.take_add_one, hx, List.find?_append, h]
  simp [hP]
theorem find_hit {P : α → Bool} {xs : List α} {k : Nat} {x : α} (h : (xs.take k).find? P = Option.none) (hx : xs[k]? = some x) (hP : P x = true) : xs.find? P = some x := by
  have hk : k < xs.length := (List.getElem?_eq_some_iff.1 hx).1
  have e : xs = xs.take k ++ x :: xs.drop (k + 1) := by
    have h1 := List.take_append_drop k xs
    rw [List.drop_eq_getElem_cons hk] at h1
    have h2 : xs[k] = x := by rw [List.getElem?_eq_getElem hk] at hx; exact Option.some.inj hx
    rw [h2] at h1
    exact h1.symm
  rw [e, List.find?_append, h]
  simp [hP]
theorem find_end {P : α → Bool} {xs : List α} {n : Nat} (h : (xs.take n).find? P = Option.none) (hn : xs.length = n) : xs.find? P = Option.none := by
  rwa [List.take_of_length_le (by omega)] at h
theorem fold_succ {β : Type} {f : β → α → β} {b : β} {xs : List α} {k : Nat} {x : α} (hx : xs[k]? = some x) : (xs.take (k + 1)).foldl f b = f ((xs.take k).foldl f b) x := by
  rw [List.take_add_one, hx, List.foldl_append]
  rfl
theorem fold_end {β : Type} {f : β → α → β} {b : β} {xs : List α} {n : Nat} (hn : xs.length = n) : (xs.take n).foldl f b = xs.foldl f b := by
  rw [List.take_of_length_le (by omega)]
end

def overP (e : Int) (x : Int × Int) : Bool := decide (x.1 ≤ e)
def aheadP (a b : Int) (x : Int × Int) : Bool := leqB x.1 x.2 a b
def ahead (xs : List (Int × Int)) (s : Int × Int) : Bool := xs.any (aheadP s.1 s.2)
def notAhead (xs : List (Int × Int)) (s : Int × Int) : Bool := !ahead xs s
def total (xs : List ((Int × Int) × Int)) : Int := xs.foldl (fun s x => wrap64 (s + x.2)) 0
def epochStep (e s : Int) (x : (Int × Int) × Int) : Int := if x.1.1 = e then wrap64 (s + x.2) else s
def epochCount (xs : List ((Int × Int) × Int)) (e : Int) : Int := xs.foldl (epochStep e) 0
def atP (a b : Int) (x : (Int × Int) × Int) : Bool := decide (x.1.1 = a ∧ x.1.2 = b)
def countAt (xs : List ((Int × Int) × Int)) (a b : Int) : Int := match xs.find? (atP a b) with | some x => x.2 | Option.none => 0

set_option maxHeartbeats 1600000 in
theorem c_sEpochOver (A : Option Addr) (n c : Nat) (xs : List (Int × Int)) (ep : Int) (w : World) (hn : xs.length = n) (hn2 : n ≤ 9223372036854775807)
    (ha : Row encS 2 w A xs) : Calls Try.prog 22 #[.slice A n c, .int .i64 ep] w (Gives (.bool (!xs.any (overP ep))) w) := by
  have HA := Lib.hid ha
  have HN := Lib.hid hn
  clear ha hn
  go_enter Try.func22, Try.ntmps22
  go_wp2_with fail
  go_loopw [5] (fun s0 wr => ∃ k : Nat, s0 = .int .i64 k ∧ k ≤ n ∧ (xs.take k).any (overP ep) = false ∧ ∃ p : Later, wr = later (w) p) (fun s0 _ => n - (intOf s0).toNat)
  case atStart => exact ⟨0, rfl, by omega, by simp, later_refl _⟩
  case round =>
    obtain ⟨k, rfl, hk, hT, p, rfl⟩ := hrel
    have HT := Lib.hid hT
    clear hT
    by_cases hlt : k < n
    · obtain ⟨x, hx⟩ : ∃ x, xs[k]? = some x := ⟨_, List.getElem?_eq_getElem (by rw [HN.out]; exact hlt)⟩
      obtain ⟨b, off, rfl, hcx⟩ := HA.out.at_ hx
      have HX := Lib.hid hx
      have hbl := World.block_lt_of_cell? _ _ (hcx 0 _ rfl)
      simp only at hbl
      have hble := Nat.le_of_lt hbl
      obtain ⟨x1, x2⟩ := x
      have hx0 := hcx 0 _ rfl
      have hx1 := hcx 1 _ rfl
      clear hcx hx
      simp only [Nat.add_zero] at *
      by_cases he : x1 ≤ ep
      · go_wp2_with (first | ((with_reducible refine wp_region_later (by kernel_rfl) (by kernel_rfl) ?_); (repeat (first | go_big_quiet_skip | quiet_step ((fail)))); refine wpQuiet_nil ?_; rintro _ ⟨p, rfl⟩))
        all_goals
          go_ret
          exact Gives.mk (by exact ret_bool (by rw [any_hit HX.out (by unfold overP; simp; omega)]; rfl)) (by (repeat (first | with_reducible exact Below.refl _ _ | with_reducible assumption | with_reducible refine Below.drew ?_ | with_reducible refine below_drewN ?_ _ | with_reducible exact HQ.out | with_reducible exact HBW.out | with_reducible refine below_ext ?_ _ _ | with_reducible refine below_then_later ?_ (by first | with_reducible exact Nat.le_refl _ | with_reducible exact HBW.out.size | with_reducible exact HQ.out.size | omega | (simp; done) | (simp; omega) | (simp [later_size]; done) | (simp [later_size]; omega)) _ | with_reducible refine Below.setCell ?_ (by first | with_reducible exact Nat.le_refl _ | with_reducible exact HBW.out.size | with_reducible exact HQ.out.size | omega | (simp; done) | (simp; omega) | (simp [later_size]; done) | (simp [later_size]; omega)) _ | with_reducible refine Below.alloc ?_ (by first | with_reducible exact Nat.le_refl _ | with_reducible exact HBW.out.size | with_reducible exact HQ.out.size | omega | (simp; done) | (simp; omega) | (simp [later_size]; done) | (simp [later_size]; omega)) _)))
      · go_wp2_with (first | ((with_reducible refine wp_region_later (by kernel_rfl) (by kernel_rfl) ?_); (repeat (first | go_big_quiet_skip | quiet_step ((fail)))); refine wpQuiet_nil ?_; rintro _ ⟨p, rfl⟩))
        all_goals
          go_roundw
          case rel => exact ⟨k + 1, by go_num, by omega, any_succ HT.out HX.out (by unfold overP; simp; omega), later_of_below (by (repeat (first | with_reducible exact Below.refl _ _ | with_reducible assumption | with_reducible refine Below.drew ?_ | with_reducible refine below_drewN ?_ _ | with_reducible exact HQ.out | with_reducible exact HBW.out | with_reducible refine below_ext ?_ _ _ | with_reducible refine below_then_later ?_ (by first | with_reducible exact Nat.le_refl _ | with_reducible exact HBW.out.size | with_reducible exact HQ.out.size | omega | (simp; done) | (simp; omega) | (simp [later_size]; done) | (simp [later_size]; omega)) _ | with_reducible refine Below.setCell ?_ (by first | with_reducible exact Nat.le_refl _ | with_reducible exact HBW.out.size | with_reducible exact HQ.out.size | omega | (simp; done) | (simp; omega) | (simp [later_size]; done) | (simp [later_size]; omega)) _ | with_reducible refine Below.alloc ?_ (by first | with_reducible exact Nat.le_refl _ | with_reducible exact HBW.out.size | with_reducible exact HQ.out.size | omega | (simp; done) | (simp; omega) | (simp [later_size]; done) | (simp [later_size]; omega)) _)))⟩
          case measure => simp [intOf]; omega
    · have hkn : k = n := by omega
      have HE := Lib.hid (any_end (hkn ▸ HT.out) HN.out)
      clear hkn
      go_wp2_with (first | ((with_reducible refine wp_region_later (by kernel_rfl) (by kernel_rfl) ?_); (repeat (first | go_big_quiet_skip | quiet_step ((fail)))); refine wpQuiet_nil ?_; rintro _ ⟨p, rfl⟩))
      all_goals
        go_ret
        exact Gives.mk (by exact ret_bool (by rw [HE.out]; rfl)) (by (repeat (first | with_reducible exact Below.refl _ _ | with_reducible assumption | with_reducible refine Below.drew ?_ | with_reducible refine below_drewN ?_ _ | with_reducible exact HQ.out | with_reducible exact HBW.out | with_reducible refine below_ext ?_ _ _ | with_reducible refine below_then_later ?_ (by first | with_reducible exact Nat.le_refl _ | with_reducible exact HBW.out.size | with_reducible exact HQ.out.size | omega | (simp; done) | (simp; omega) | (simp [later_size]; done) | (simp [later_size]; omega)) _ | with_reducible refine Below.setCell ?_ (by first | with_reducible exact Nat.le_refl _ | with_reducible exact HBW.out.size | with_reducible exact HQ.out.size | omega | (simp; done) | (simp; omega) | (simp [later_size]; done) | (simp [later_size]; omega)) _ | with_reducible refine Below.alloc ?_ (by first | with_reducible exact Nat.le_refl _ | with_reducible exact HBW.out.size | with_reducible exact HQ.out.size | omega | (simp; done) | (simp; omega) | (simp [later_size]; done) | (simp [later_size]; omega)) _)))
set_option maxHeartbeats 1600000 in
theorem c_sAhead (A : Option Addr) (n c : Nat) (xs : List (Int × Int)) (a b' : Int) (w : World) (hn : xs.length = n) (hn2 : n ≤ 9223372036854775807)
    (ha : Row encS 2 w A xs) : Calls Try.prog 18 #[.slice A n c, .agg #[.int .i64 a, .int .i64 b']] w (Gives (.bool (ahead xs (a, b'))) w) := by
  have HA := Lib.hid ha
  have HN := Lib.hid hn
  clear ha hn
  go_enter Try.func18, Try.ntmps18
  go_wp2_with fail
  go_loopw [5] (fun s0 wr => ∃ k : Nat, s0 = .int .i64 k ∧ k ≤ n ∧ (xs.take k).any (aheadP a b') = false ∧ ∃ p : Later, wr = later (w.alloc (Obj.cells #[.int .i64 a, .int .i64 b'] 32)) p) (fun s0 _ => n - (intOf s0).toNat)
  case atStart => exact ⟨0, rfl, by omega, by simp, later_refl _⟩
  case round =>
    obtain ⟨k, rfl, hk, hT, p, rfl⟩ := hrel
    have HT := Lib.hid hT
    clear hT
    by_cases hlt : k < n
    · obtain ⟨x, hx⟩ : ∃ x, xs[k]? = some x := ⟨_, List.getElem?_eq_getElem (by rw [HN.out]; exact hlt)⟩
      obtain ⟨b, off, rfl, hcx⟩ := HA.out.at_ hx
      have HX := Lib.hid hx
      have hbl := World.block_lt_of_cell? _ _ (hcx 0 _ rfl)
      simp only at hbl
      have hble := Nat.le_of_lt hbl
      obtain ⟨x1, x2⟩ := x
      have hx0 := hcx 0 _ rfl
      have hx1 := hcx 1 _ rfl
      clear hcx hx
      simp only [Nat.add_zero] at *
      by_cases he : leqB x1 x2 a b' = true
      · go_wp2_with (first | (go_at_call 31; (refine (c_sStampLeq_b _ _ _ _ _ _ (by simpa using he)).mono ?_); rintro _ _ ⟨rfl, p, rfl⟩) | ((with_reducible refine wp_region_later (by kernel_rfl) (by kernel_rfl) ?_); (repeat (first | go_big_quiet_skip | quiet_step ((first | (go_at_call 31; first | exact calls_later (c_sStampLeq_b _ _ _ _ _ _ (by simpa using he)) | exact calls_later2 (c_sStampLeq_b _ _ _ _ _ _ (by simpa using he))))))); refine wpQuiet_nil ?_; rintro _ ⟨p, rfl⟩))
        all_goals
          go_ret
          exact Gives.mk (by exact ret_bool (by unfold ahead; rw [any_hit HX.out (by unfold aheadP; exact he)])) (by (repeat (first | with_reducible exact Below.refl _ _ | with_reducible assumption | with_reducible refine Below.drew ?_ | with_reducible refine below_drewN ?_ _ | with_reducible exact HQ.out | with_reducible exact HBW.out | with_reducible refine below_ext ?_ _ _ | with_reducible refine below_then_later ?_ (by first | with_reducible exact Nat.le_refl _ | with_reducible exact HBW.out.size | with_reducible exact HQ.out.size | omega | (simp; done) | (simp; omega) | (simp [later_size]; done) | (simp [later_size]; omega)) _ | with_reducible refine Below.setCell ?_ (by first | with_reducible exact Nat.le_refl _ | with_reducible exact HBW.out.size | with_reducible exact HQ.out.size | omega | (simp; done) | (simp; omega) | (simp [later_size]; done) | (simp [later_size]; omega)) _ | with_reducible refine Below.alloc ?_ (by first | with_reducible exact Nat.le_refl _ | with_reducible exact HBW.out.size | with_reducible exact HQ.out.size | omega | (simp; done) | (simp; omega) | (simp [later_size]; done) | (simp [later_size]; omega)) _)))
      · go_wp2_with (first | (go_at_call 31; (refine (c_sStampLeq_b _ _ _ _ _ _ (by simpa using he)).mono ?_); rintro _ _ ⟨rfl, p, rfl⟩) | ((with_reducible refine wp_region_later (by kernel_rfl) (by kernel_rfl) ?_); (repeat (first | go_big_quiet_skip | quiet_step ((first | (go_at_call 31; first | exact calls_later (c_sStampLeq_b _ _ _ _ _ _ (by simpa using he)) | exact calls_later2 (c_sStampLeq_b _ _ _ _ _ _ (by simpa using he))))))); refine wpQuiet_nil ?_; rintro _ ⟨p, rfl⟩))
        all_goals
          go_roundw
          case rel => exact ⟨k + 1, by go_num, by omega, any_succ HT.out HX.out (by unfold aheadP; simpa using he), later_of_below (by (repeat (first | with_reducible exact Below.refl _ _ | with_reducible assumption | with_reducible refine Below.drew ?_ | with_reducible refine below_drewN ?_ _ | with_reducible exact HQ.out | with_reducible exact HBW.out | with_reducible refine below_ext ?_ _ _ | with_reducible refine below_then_later ?_ (by first | with_reducible exact Nat.le_refl _ | with_reducible exact HBW.out.size | with_reducible exact HQ.out.size | omega | (simp; done) | (simp; omega) | (simp [later_size]; done) | (simp [later_size]; omega)) _ | with_reducible refine Below.setCell ?_ (by first | with_reducible exact Nat.le_refl _ | with_reducible exact HBW.out.size | with_reducible exact HQ.out.size | omega | (simp; done) | (simp; omega) | (simp [later_size]; done) | (simp [later_size]; omega)) _ | with_reducible refine Below.alloc ?_ (by first | with_reducible exact Nat.le_refl _ | with_reducible exact HBW.out.size | with_reducible exact HQ.out.size | omega | (simp; done) | (simp; omega) | (simp [later_size]; done) | (simp [later_size]; omega)) _)))⟩
          case measure => simp [intOf]; omega
    · have hkn : k = n := by omega
      have HE := Lib.hid (any_end (hkn ▸ HT.out) HN.out)
      clear hkn
      go_wp2_with (first | (go_at_call 31; (refine (c_sStampLeq_b _ _ _ _ _ _ (by simpa using he)).mono ?_); rintro _ _ ⟨rfl, p, rfl⟩) | ((with_reducible refine wp_region_later (by kernel_rfl) (by kernel_rfl) ?_); (repeat (first | go_big_quiet_skip | quiet_step ((first | (go_at_call 31; first | exact calls_later (c_sStampLeq_b _ _ _ _ _ _ (by simpa using he)) | exact calls_later2 (c_sStampLeq_b _ _ _ _ _ _ (by simpa using he))))))); refine wpQuiet_nil ?_; rintro _ ⟨p, rfl⟩))
      all_goals
        go_ret
        exact Gives.mk (by exact ret_bool (by unfold ahead; rw [HE.out])) (by (repeat (first | with_reducible exact Below.refl _ _ | with_reducible assumption | with_reducible refine Below.drew ?_ | with_reducible refine below_drewN ?_ _ | with_reducible exact HQ.out | with_reducible exact HBW.out | with_reducible refine below_ext ?_ _ _ | with_reducible refine below_then_later ?_ (by first | with_reducible exact Nat.le_refl _ | with_reducible exact HBW.out.size | with_reducible exact HQ.out.size | omega | (simp; done) | (simp; omega) | (simp [later_size]; done) | (simp [later_size]; omega)) _ | with_reducible refine Below.setCell ?_ (by first | with_reducible exact Nat.le_refl _ | with_reducible exact HBW.out.size | with_reducible exact HQ.out.size | omega | (simp; done) | (simp; omega) | (simp [later_size]; done) | (simp [later_size]; omega)) _ | with_reducible refine Below.alloc ?_ (by first | with_reducible exact Nat.le_refl _ | with_reducible exact HBW.out.size | with_reducible exact HQ.out.size | omega | (simp; done) | (simp; omega) | (simp [later_size]; done) | (simp [later_size]; omega)) _)))
theorem c_sAhead_b (A : Option Addr) (n c : Nat) (xs : List (Int × Int)) (a b' : Int) (w : World) (z : Bool) (hn : xs.length = n) (hn2 : n ≤ 9223372036854775807)
    (ha : Row encS 2 w A xs) (h : ahead xs (a, b') = z) : Calls Try.prog 18 #[.slice A n c, .agg #[.int .i64 a, .int .i64 b']] w (Gives (.bool z) w) := by
  subst h; exact c_sAhead A n c xs a b' w hn hn2 ha
set_option maxHeartbeats 1600000 in
theorem c_sFrontLeq (A : Option Addr) (n c : Nat) (xs : List (Int × Int)) (A' : Option Addr) (n' c' : Nat) (xs' : List (Int × Int)) (w : World) (hn : xs.length = n) (hn2 : n ≤ 9223372036854775807)
    (ha : Row encS 2 w A xs) (hn' : xs'.length = n') (hn2' : n' ≤ 9223372036854775807) (ha' : Row encS 2 w A' xs') : Calls Try.prog 15 #[.slice A' n' c', .slice A n c] w (Gives (.bool (!xs.any (notAhead xs'))) w) := by
  have HA := Lib.hid ha
  have HN := Lib.hid hn
  clear ha hn
  have HA' := Lib.hid ha'
  have HN' := Lib.hid hn'
  clear ha' hn'
  go_enter Try.func15, Try.ntmps15
  go_wp2_with fail
  go_loopw [5] (fun s0 wr => ∃ k : Nat, s0 = .int .i64 k ∧ k ≤ n ∧ (xs.take k).any (notAhead xs') = false ∧ ∃ p : Later, wr = later (w) p) (fun s0 _ => n - (intOf s0).toNat)
  case atStart => exact ⟨0, rfl, by omega, by simp, later_refl _⟩
  case round =>
    obtain ⟨k, rfl, hk, hT, p, rfl⟩ := hrel
    have HT := Lib.hid hT
    clear hT
    by_cases hlt : k < n
    · obtain ⟨x, hx⟩ : ∃ x, xs[k]? = some x := ⟨_, List.getElem?_eq_getElem (by rw [HN.out]; exact hlt)⟩
      obtain ⟨b, off, rfl, hcx⟩ := HA.out.at_ hx
      have HX := Lib.hid hx
      have hbl := World.block_lt_of_cell? _ _ (hcx 0 _ rfl)
      simp only at hbl
      have hble := Nat.le_of_lt hbl
      obtain ⟨x1, x2⟩ := x
      have hx0 := hcx 0 _ rfl
      have hx1 := hcx 1 _ rfl
      clear hcx hx
      simp only [Nat.add_zero] at *
      by_cases he : notAhead xs' (x1, x2) = true
      · go_wp2_with (first | (go_at_call 18; (refine (c_sAhead_b _ _ _ xs' _ _ _ _ HN'.out hn2' (HA'.out.later _) (by simpa [notAhead] using he)).mono ?_); rintro _ _ ⟨rfl, p, rfl⟩) | ((with_reducible refine wp_region_later (by kernel_rfl) (by kernel_rfl) ?_); (repeat (first | go_big_quiet_skip | quiet_step ((first | (go_at_call 18; first | exact calls_later (c_sAhead_b _ _ _ xs' _ _ _ _ HN'.out hn2' (HA'.out.later _) (by simpa [notAhead] using he)) | exact calls_later2 (c_sAhead_b _ _ _ xs' _ _ _ _ HN'.out hn2' (HA'.out.later _) (by simpa [notAhead] using he))))))); refine wpQuiet_nil ?_; rintro _ ⟨p, rfl⟩))
        all_goals
          go_ret
          exact Gives.mk (by exact ret_bool (by rw [any_hit HX.out he]; rfl)) (by (repeat (first | with_reducible exact Below.refl _ _ | with_reducible assumption | with_reducible refine Below.drew ?_ | with_reducible refine below_drewN ?_ _ | with_reducible exact HQ.out | with_reducible exact HBW.out | with_reducible refine below_ext ?_ _ _ | with_reducible refine below_then_later ?_ (by first | with_reducible exact Nat.le_refl _ | with_reducible exact HBW.out.size | with_reducible exact HQ.out.size | omega | (simp; done) | (simp; omega) | (simp [later_size]; done) | (simp [later_size]; omega)) _ | with_reducible refine Below.setCell ?_ (by first | with_reducible exact Nat.le_refl _ | with_reducible exact HBW.out.size | with_reducible exact HQ.out.size | omega | (simp; done) | (simp; omega) | (simp [later_size]; done) | (simp [later_size]; omega)) _ | with_reducible refine Below.alloc ?_ (by first | with_reducible exact Nat.le_refl _ | with_reducible exact HBW.out.size | with_reducible exact HQ.out.size | omega | (simp; done) | (simp; omega) | (simp [later_size]; done) | (simp [later_size]; omega)) _)))
      · go_wp2_with (first | (go_at_call 18; (refine (c_sAhead_b _ _ _ xs' _ _ _ _ HN'.out hn2' (HA'.out.later _) (by simpa [notAhead] using he)).mono ?_); rintro _ _ ⟨rfl, p, rfl⟩) | ((with_reducible refine wp_region_later (by kernel_rfl) (by kernel_rfl) ?_); (repeat (first | go_big_quiet_skip | quiet_step ((first | (go_at_call 18; first | exact calls_later (c_sAhead_b _ _ _ xs' _ _ _ _ HN'.out hn2' (HA'.out.later _) (by simpa [notAhead] using he)) | exact calls_later2 (c_sAhead_b _ _ _ xs' _ _ _ _ HN'.out hn2' (HA'.out.later _) (by simpa [notAhead] using he))))))); refine wpQuiet_nil ?_; rintro _ ⟨p, rfl⟩))
        all_goals
          go_roundw
          case rel => exact ⟨k + 1, by go_num, by omega, any_succ HT.out HX.out (by simpa using he), later_of_below (by (repeat (first | with_reducible exact Below.refl _ _ | with_reducible assumption | with_reducible refine Below.drew ?_ | with_reducible refine below_drewN ?_ _ | with_reducible exact HQ.out | with_reducible exact HBW.out | with_reducible refine below_ext ?_ _ _ | with_reducible refine below_then_later ?_ (by first | with_reducible exact Nat.le_refl _ | with_reducible exact HBW.out.size | with_reducible exact HQ.out.size | omega | (simp; done) | (simp; omega) | (simp [later_size]; done) | (simp [later_size]; omega)) _ | with_reducible refine Below.setCell ?_ (by first | with_reducible exact Nat.le_refl _ | with_reducible exact HBW.out.size | with_reducible exact HQ.out.size | omega | (simp; done) | (simp; omega) | (simp [later_size]; done) | (simp [later_size]; omega)) _ | with_reducible refine Below.alloc ?_ (by first | with_reducible exact Nat.le_refl _ | with_reducible exact HBW.out.size | with_reducible exact HQ.out.size | omega | (simp; done) | (simp; omega) | (simp [later_size]; done) | (simp [later_size]; omega)) _)))⟩
          case measure => simp [intOf]; omega
    · have hkn : k = n := by omega
      have HE := Lib.hid (any_end (hkn ▸ HT.out) HN.out)
      clear hkn
      go_wp2_with (first | (go_at_call 18; (refine (c_sAhead_b _ _ _ xs' _ _ _ _ HN'.out hn2' (HA'.out.later _) (by simpa [notAhead] using he)).mono ?_); rintro _ _ ⟨rfl, p, rfl⟩) | ((with_reducible refine wp_region_later (by kernel_rfl) (by kernel_rfl) ?_); (repeat (first | go_big_quiet_skip | quiet_step ((first | (go_at_call 18; first | exact calls_later (c_sAhead_b _ _ _ xs' _ _ _ _ HN'.out hn2' (HA'.out.later _) (by simpa [notAhead] using he)) | exact calls_later2 (c_sAhead_b _ _ _ xs' _ _ _ _ HN'.out hn2' (HA'.out.later _) (by simpa [notAhead] using he))))))); refine wpQuiet_nil ?_; rintro _ ⟨p, rfl⟩))
      all_goals
        go_ret
        exact Gives.mk (by exact ret_bool (by rw [HE.out]; rfl)) (by (repeat (first | with_reducible exact Below.refl _ _ | with_reducible assumption | with_reducible refine Below.drew ?_ | with_reducible refine below_drewN ?_ _ | with_reducible exact HQ.out | with_reducible exact HBW.out | with_reducible refine below_ext ?_ _ _ | with_reducible refine below_then_later ?_ (by first | with_reducible exact Nat.le_refl _ | with_reducible exact HBW.out.size | with_reducible exact HQ.out.size | omega | (simp; done) | (simp; omega) | (simp [later_size]; done) | (simp [later_size]; omega)) _ | with_reducible refine Below.setCell ?_ (by first | with_reducible exact Nat.le_refl _ | with_reducible exact HBW.out.size | with_reducible exact HQ.out.size | omega | (simp; done) | (simp; omega) | (simp [later_size]; done) | (simp [later_size]; omega)) _ | with_reducible refine Below.alloc ?_ (by first | with_reducible exact Nat.le_refl _ | with_reducible exact HBW.out.size | with_reducible exact HQ.out.size | omega | (simp; done) | (simp; omega) | (simp [later_size]; done) | (simp [later_size]; omega)) _)))
end Go.Proofs.Ytkjgllcfgljkeaa
