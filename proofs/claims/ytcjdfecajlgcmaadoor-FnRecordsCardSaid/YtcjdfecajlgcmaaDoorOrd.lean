/-
  Orders of stamps and of records: slices.Compare at ints, the program's orderOf, StampOrder, RecordOrder, and the reference's. Conditions: none.
-/
import Derived.Test.YtcjdfecajlgcmaaDoorFill
import Derived.Test.YtcjdfecajlgcmaaDoorScal
namespace Go.Proofs.YtcjdfecajlgcmaaDoor
open Go.RowKit
set_option linter.unusedVariables false

def ord (a b : Int) : Int := if a < b then -1 else if b < a then 1 else 0
theorem ord_lt {a b : Int} (h : a < b) : ord a b = -1 := by unfold ord; rw [if_pos h]
theorem ord_gt {a b : Int} (h : b < a) : ord a b = 1 := by unfold ord; rw [if_neg (by omega), if_pos h]
theorem ord_eq (a : Int) : ord a a = 0 := by unfold ord; rw [if_neg (by omega), if_neg (by omega)]
/-- the first numbers that differ decide -/
def cmpL : List Int → List Int → Int
  | [], [] => 0
  | [], _ :: _ => -1
  | _ :: _, [] => 1
  | x :: xs, y :: ys => if x = y then cmpL xs ys else ord x y
theorem cmpL_at : ∀ (xs ys : List Int) (k : Nat) (x y : Int), xs.take k = ys.take k → xs[k]? = some x → ys[k]? = some y → x ≠ y → cmpL xs ys = ord x y
  | [], _, _, _, _, _, hx, _, _ => by simp at hx
  | _ :: _, [], _, _, _, _, _, hy, _ => by simp at hy
  | a :: xs, b :: ys, 0, x, y, _, hx, hy, hne => by
    simp at hx hy
    subst hx hy
    rw [cmpL, if_neg hne]
  | a :: xs, b :: ys, k + 1, x, y, ht, hx, hy, hne => by
    simp only [List.take_succ_cons, List.cons.injEq] at ht
    simp only [List.getElem?_cons_succ] at hx hy
    rw [cmpL, if_pos ht.1]
    exact cmpL_at xs ys k x y ht.2 hx hy hne
theorem cmpL_eq : ∀ (xs : List Int), cmpL xs xs = 0
  | [] => rfl
  | x :: xs => by rw [cmpL, if_pos rfl]; exact cmpL_eq xs
def stOrd (a b c d : Int) : Int := cmpL [a, b] [c, d]
theorem stOrd_def (a b c d : Int) : stOrd a b c d = if a = c then ord b d else ord a c := by
  unfold stOrd
  simp only [cmpL]
  by_cases h : a = c
  · rw [if_pos h, if_pos h]
    by_cases h2 : b = d
    · subst h2; rw [if_pos rfl, ord_eq]
    · rw [if_neg h2]
  · rw [if_neg h, if_neg h]
theorem ord_rng (a b : Int) : -1 ≤ ord a b ∧ ord a b ≤ 1 := by unfold ord; repeat' split <;> omega
theorem ord_ne {a b : Int} (h : a ≠ b) : ord a b ≠ 0 := by unfold ord; repeat' split <;> omega
theorem stOrd_rng (a b c d : Int) : -1 ≤ stOrd a b c d ∧ stOrd a b c d ≤ 1 := by
  rw [stOrd_def]; split
  · exact ord_rng _ _
  · exact ord_rng _ _
theorem stOrd_zero {a b c d : Int} : stOrd a b c d = 0 ↔ a = c ∧ b = d := by
  rw [stOrd_def]
  split
  · rename_i h
    constructor
    · intro h2
      refine ⟨h, ?_⟩
      by_cases hb : b = d
      · exact hb
      · exact absurd h2 (ord_ne hb)
    · rintro ⟨_, rfl⟩; exact ord_eq b
  · rename_i h
    constructor
    · intro h2; exact absurd h2 (ord_ne h)
    · rintro ⟨h3, _⟩; exact absurd h3 h
/-- the order of two records -/
def rcOrd (o a b k v o' a' b' k' v' : Int) : Int := if stOrd a b a' b' ≠ 0 then stOrd a b a' b' else cmpL [o, k, v] [o', k', v']

theorem row_pair {w : World} {b : Nat} {x y : Int} (h0 : w.cell? ⟨b, 0, Option.none⟩ = some (.int .i64 x)) (h1 : w.cell? ⟨b, 1, Option.none⟩ = some (.int .i64 y)) : Row encI 1 w (some ⟨b, 0, Option.none⟩) [x, y] := fun _ =>
  ⟨b, 0, rfl, fun j z hz i v hv => by
    match j, hz with
    | 0, hz =>
      simp at hz; subst hz
      match i, hv with
      | 0, hv => simp [encI] at hv; subst hv; simpa using h0
      | i + 1, hv => simp [encI] at hv
    | 1, hz =>
      simp at hz; subst hz
      match i, hv with
      | 0, hv => simp [encI] at hv; subst hv; simpa using h1
      | i + 1, hv => simp [encI] at hv
    | j + 2, hz => simp at hz⟩
theorem row_three {w : World} {b : Nat} {x y z : Int} (h0 : w.cell? ⟨b, 0, Option.none⟩ = some (.int .i64 x)) (h1 : w.cell? ⟨b, 1, Option.none⟩ = some (.int .i64 y)) (h2 : w.cell? ⟨b, 2, Option.none⟩ = some (.int .i64 z)) : Row encI 1 w (some ⟨b, 0, Option.none⟩) [x, y, z] := fun _ =>
  ⟨b, 0, rfl, fun j u hu i v hv => by
    match j, hu with
    | 0, hu =>
      simp at hu; subst hu
      match i, hv with
      | 0, hv => simp [encI] at hv; subst hv; simpa using h0
      | i + 1, hv => simp [encI] at hv
    | 1, hu =>
      simp at hu; subst hu
      match i, hv with
      | 0, hv => simp [encI] at hv; subst hv; simpa using h1
      | i + 1, hv => simp [encI] at hv
    | 2, hu =>
      simp at hu; subst hu
      match i, hv with
      | 0, hv => simp [encI] at hv; subst hv; simpa using h2
      | i + 1, hv => simp [encI] at hv
    | j + 3, hu => simp at hu⟩

set_option maxHeartbeats 400000 in
theorem c_isNaN (a : Int) (w : World) : Calls Tryd.prog 78 #[.int .i64 a] w (Gives (.bool false) w) := by
  go_enter Tryd.func78, Tryd.ntmps78
  go_wp2_with (first | ((with_reducible refine wp_region_later (by kernel_rfl) (by kernel_rfl) ?_); (repeat (first | go_big_quiet_skip | quiet_step ((fail)))); refine wpQuiet_nil ?_; rintro _ ⟨p, rfl⟩))
  go_ret
  exact Gives.mk (by first | rfl | simp) (by (repeat (first | with_reducible exact Below.refl _ _ | with_reducible assumption | with_reducible refine Below.drew ?_ | with_reducible refine below_drewN ?_ _ | with_reducible exact HQ.out | with_reducible exact HBW.out | with_reducible refine below_ext ?_ _ _ | with_reducible refine below_then_later ?_ (by first | with_reducible exact Nat.le_refl _ | with_reducible exact HBW.out.size | with_reducible exact HQ.out.size | omega | (simp; done) | (simp; omega) | (simp [later_size]; done) | (simp [later_size]; omega)) _ | with_reducible refine Below.setCell ?_ (by first | with_reducible exact Nat.le_refl _ | with_reducible exact HBW.out.size | with_reducible exact HQ.out.size | omega | (simp; done) | (simp; omega) | (simp [later_size]; done) | (simp [later_size]; omega)) _ | with_reducible refine Below.alloc ?_ (by first | with_reducible exact Nat.le_refl _ | with_reducible exact HBW.out.size | with_reducible exact HQ.out.size | omega | (simp; done) | (simp; omega) | (simp [later_size]; done) | (simp [later_size]; omega)) _)))
set_option maxHeartbeats 400000 in
theorem c_cmpCompare (a b : Int) (w : World) : Calls Tryd.prog 70 #[.int .i64 a, .int .i64 b] w (Gives (.int .i64 (ord a b)) w) := by
  by_cases h1 : a < b
  · rw [ord_lt h1]
    go_enter Tryd.func70, Tryd.ntmps70
    go_wp2_with (first | (go_at_call 78; (refine (c_isNaN _ _).mono ?_); rintro _ _ ⟨rfl, p, rfl⟩) | ((with_reducible refine wp_region_later (by kernel_rfl) (by kernel_rfl) ?_); (repeat (first | go_big_quiet_skip | quiet_step ((first | (go_at_call 78; first | exact calls_later (c_isNaN _ _) | exact calls_later2 (c_isNaN _ _)))))); refine wpQuiet_nil ?_; rintro _ ⟨p, rfl⟩))
    go_ret
    exact Gives.mk rfl (by (repeat (first | with_reducible exact Below.refl _ _ | with_reducible assumption | with_reducible refine Below.drew ?_ | with_reducible refine below_drewN ?_ _ | with_reducible exact HQ.out | with_reducible exact HBW.out | with_reducible refine below_ext ?_ _ _ | with_reducible refine below_then_later ?_ (by first | with_reducible exact Nat.le_refl _ | with_reducible exact HBW.out.size | with_reducible exact HQ.out.size | omega | (simp; done) | (simp; omega) | (simp [later_size]; done) | (simp [later_size]; omega)) _ | with_reducible refine Below.setCell ?_ (by first | with_reducible exact Nat.le_refl _ | with_reducible exact HBW.out.size | with_reducible exact HQ.out.size | omega | (simp; done) | (simp; omega) | (simp [later_size]; done) | (simp [later_size]; omega)) _ | with_reducible refine Below.alloc ?_ (by first | with_reducible exact Nat.le_refl _ | with_reducible exact HBW.out.size | with_reducible exact HQ.out.size | omega | (simp; done) | (simp; omega) | (simp [later_size]; done) | (simp [later_size]; omega)) _)))
  · by_cases h2 : b < a
    · rw [ord_gt h2]
      go_enter Tryd.func70, Tryd.ntmps70
      go_wp2_with (first | (go_at_call 78; (refine (c_isNaN _ _).mono ?_); rintro _ _ ⟨rfl, p, rfl⟩) | ((with_reducible refine wp_region_later (by kernel_rfl) (by kernel_rfl) ?_); (repeat (first | go_big_quiet_skip | quiet_step ((first | (go_at_call 78; first | exact calls_later (c_isNaN _ _) | exact calls_later2 (c_isNaN _ _)))))); refine wpQuiet_nil ?_; rintro _ ⟨p, rfl⟩))
      go_ret
      exact Gives.mk rfl (by (repeat (first | with_reducible exact Below.refl _ _ | with_reducible assumption | with_reducible refine Below.drew ?_ | with_reducible refine below_drewN ?_ _ | with_reducible exact HQ.out | with_reducible exact HBW.out | with_reducible refine below_ext ?_ _ _ | with_reducible refine below_then_later ?_ (by first | with_reducible exact Nat.le_refl _ | with_reducible exact HBW.out.size | with_reducible exact HQ.out.size | omega | (simp; done) | (simp; omega) | (simp [later_size]; done) | (simp [later_size]; omega)) _ | with_reducible refine Below.setCell ?_ (by first | with_reducible exact Nat.le_refl _ | with_reducible exact HBW.out.size | with_reducible exact HQ.out.size | omega | (simp; done) | (simp; omega) | (simp [later_size]; done) | (simp [later_size]; omega)) _ | with_reducible refine Below.alloc ?_ (by first | with_reducible exact Nat.le_refl _ | with_reducible exact HBW.out.size | with_reducible exact HQ.out.size | omega | (simp; done) | (simp; omega) | (simp [later_size]; done) | (simp [later_size]; omega)) _)))
    · have h3 : a = b := by omega
      subst h3
      rw [ord_eq]
      clear h1 h2
      go_enter Tryd.func70, Tryd.ntmps70
      go_wp2_with (first | (go_at_call 78; (refine (c_isNaN _ _).mono ?_); rintro _ _ ⟨rfl, p, rfl⟩) | ((with_reducible refine wp_region_later (by kernel_rfl) (by kernel_rfl) ?_); (repeat (first | go_big_quiet_skip | quiet_step ((first | (go_at_call 78; first | exact calls_later (c_isNaN _ _) | exact calls_later2 (c_isNaN _ _)))))); refine wpQuiet_nil ?_; rintro _ ⟨p, rfl⟩))
      go_ret
      exact Gives.mk rfl (by (repeat (first | with_reducible exact Below.refl _ _ | with_reducible assumption | with_reducible refine Below.drew ?_ | with_reducible refine below_drewN ?_ _ | with_reducible exact HQ.out | with_reducible exact HBW.out | with_reducible refine below_ext ?_ _ _ | with_reducible refine below_then_later ?_ (by first | with_reducible exact Nat.le_refl _ | with_reducible exact HBW.out.size | with_reducible exact HQ.out.size | omega | (simp; done) | (simp; omega) | (simp [later_size]; done) | (simp [later_size]; omega)) _ | with_reducible refine Below.setCell ?_ (by first | with_reducible exact Nat.le_refl _ | with_reducible exact HBW.out.size | with_reducible exact HQ.out.size | omega | (simp; done) | (simp; omega) | (simp [later_size]; done) | (simp [later_size]; omega)) _ | with_reducible refine Below.alloc ?_ (by first | with_reducible exact Nat.le_refl _ | with_reducible exact HBW.out.size | with_reducible exact HQ.out.size | omega | (simp; done) | (simp; omega) | (simp [later_size]; done) | (simp [later_size]; omega)) _)))
theorem c_cmpCompare_v (a b v : Int) (w : World) (h : ord a b = v) : Calls Tryd.prog 70 #[.int .i64 a, .int .i64 b] w (Gives (.int .i64 v) w) := by
  subst h; exact c_cmpCompare a b w
set_option maxHeartbeats 1600000 in
theorem c_Compare (A B : Option Addr) (n c d : Nat) (xs ys : List Int) (w : World) (hn : xs.length = n) (hm : ys.length = n) (hn2 : n ≤ 1048576)
    (ha : Row encI 1 w A xs) (hb : Row encI 1 w B ys) : Calls Tryd.prog 51 #[.slice A n c, .slice B n d] w (Gives (.int .i64 (cmpL xs ys)) w) := by
  have HA := Lib.hid ha
  have HB := Lib.hid hb
  have HN := Lib.hid hn
  have HM := Lib.hid hm
  clear ha hb hn hm
  go_enter Tryd.func51, Tryd.ntmps51
  go_wp2_with fail
  go_loopw [5, 6, 7, 8, 11] (fun s0 s1 s2 s3 s4 wr => ∃ k : Nat, s4 = .int .i64 k ∧ k ≤ n ∧ xs.take k = ys.take k ∧ ∃ p : Later, wr = later w p) (fun s0 s1 s2 s3 s4 _ => n - (intOf s4).toNat)
  case atStart => exact ⟨0, rfl, by omega, by simp, later_refl w⟩
  case round =>
    obtain ⟨k, rfl, hk, hT, p, rfl⟩ := hrel
    have HT := Lib.hid hT
    clear hT
    by_cases hlt : k < n
    · obtain ⟨x, hx⟩ : ∃ x, xs[k]? = some x := ⟨_, List.getElem?_eq_getElem (by rw [HN.out]; exact hlt)⟩
      obtain ⟨y, hy⟩ : ∃ y, ys[k]? = some y := ⟨_, List.getElem?_eq_getElem (by rw [HM.out]; exact hlt)⟩
      obtain ⟨b, off, rfl, hcx⟩ := HA.out.at_ hx
      obtain ⟨b', off', rfl, hcy⟩ := HB.out.at_ hy
      have HX := Lib.hid hx
      have HY := Lib.hid hy
      clear hx hy
      have hx0 := hcx 0 _ rfl
      have hy0 := hcy 0 _ rfl
      clear hcx hcy
      simp only [Nat.add_zero, Nat.mul_one] at *
      by_cases he : x = y
      · have HO := Lib.hid (he ▸ ord_eq x : ord x y = 0)
        have HE := Lib.hid he
        clear he
        go_wp2_with (first | (go_at_call 70; (refine (c_cmpCompare_v _ _ 0 _ HO.out).mono ?_); rintro _ _ ⟨rfl, p, rfl⟩) | ((with_reducible refine wp_region_later (by kernel_rfl) (by kernel_rfl) ?_); (repeat (first | go_big_quiet_skip | quiet_step ((first | (go_at_call 70; first | exact calls_later (c_cmpCompare_v _ _ 0 _ HO.out) | exact calls_later2 (c_cmpCompare_v _ _ 0 _ HO.out)))))); refine wpQuiet_nil ?_; rintro _ ⟨p, rfl⟩))
        all_goals
          go_roundw
          case rel => exact ⟨k + 1, by go_num, by omega, take_eq_succ HT.out HX.out HY.out HE.out, later_of_below (by (repeat (first | with_reducible exact Below.refl _ _ | with_reducible assumption | with_reducible refine Below.drew ?_ | with_reducible refine below_drewN ?_ _ | with_reducible exact HQ.out | with_reducible exact HBW.out | with_reducible refine below_ext ?_ _ _ | with_reducible refine below_then_later ?_ (by first | with_reducible exact Nat.le_refl _ | with_reducible exact HBW.out.size | with_reducible exact HQ.out.size | omega | (simp; done) | (simp; omega) | (simp [later_size]; done) | (simp [later_size]; omega)) _ | with_reducible refine Below.setCell ?_ (by first | with_reducible exact Nat.le_refl _ | with_reducible exact HBW.out.size | with_reducible exact HQ.out.size | omega | (simp; done) | (simp; omega) | (simp [later_size]; done) | (simp [later_size]; omega)) _ | with_reducible refine Below.alloc ?_ (by first | with_reducible exact Nat.le_refl _ | with_reducible exact HBW.out.size | with_reducible exact HQ.out.size | omega | (simp; done) | (simp; omega) | (simp [later_size]; done) | (simp [later_size]; omega)) _)))⟩
          case measure => simp [intOf]; omega
      · have hr := cmpL_at xs ys k x y HT.out HX.out HY.out he
        rcases Int.lt_or_gt_of_ne he with hl | hl
        · have HO := Lib.hid (ord_lt hl)
          have HR := Lib.hid (hr.trans (ord_lt hl))
          clear hr hl he
          go_wp2_with (first | (go_at_call 70; (refine (c_cmpCompare_v _ _ (-1) _ HO.out).mono ?_); rintro _ _ ⟨rfl, p, rfl⟩) | ((with_reducible refine wp_region_later (by kernel_rfl) (by kernel_rfl) ?_); (repeat (first | go_big_quiet_skip | quiet_step ((first | (go_at_call 70; first | exact calls_later (c_cmpCompare_v _ _ (-1) _ HO.out) | exact calls_later2 (c_cmpCompare_v _ _ (-1) _ HO.out)))))); refine wpQuiet_nil ?_; rintro _ ⟨p, rfl⟩))
          all_goals
            go_ret
            exact Gives.mk (ret_int HR.out.symm) (by (repeat (first | with_reducible exact Below.refl _ _ | with_reducible assumption | with_reducible refine Below.drew ?_ | with_reducible refine below_drewN ?_ _ | with_reducible exact HQ.out | with_reducible exact HBW.out | with_reducible refine below_ext ?_ _ _ | with_reducible refine below_then_later ?_ (by first | with_reducible exact Nat.le_refl _ | with_reducible exact HBW.out.size | with_reducible exact HQ.out.size | omega | (simp; done) | (simp; omega) | (simp [later_size]; done) | (simp [later_size]; omega)) _ | with_reducible refine Below.setCell ?_ (by first | with_reducible exact Nat.le_refl _ | with_reducible exact HBW.out.size | with_reducible exact HQ.out.size | omega | (simp; done) | (simp; omega) | (simp [later_size]; done) | (simp [later_size]; omega)) _ | with_reducible refine Below.alloc ?_ (by first | with_reducible exact Nat.le_refl _ | with_reducible exact HBW.out.size | with_reducible exact HQ.out.size | omega | (simp; done) | (simp; omega) | (simp [later_size]; done) | (simp [later_size]; omega)) _)))
        · have HO := Lib.hid (ord_gt hl)
          have HR := Lib.hid (hr.trans (ord_gt hl))
          clear hr hl he
          go_wp2_with (first | (go_at_call 70; (refine (c_cmpCompare_v _ _ 1 _ HO.out).mono ?_); rintro _ _ ⟨rfl, p, rfl⟩) | ((with_reducible refine wp_region_later (by kernel_rfl) (by kernel_rfl) ?_); (repeat (first | go_big_quiet_skip | quiet_step ((first | (go_at_call 70; first | exact calls_later (c_cmpCompare_v _ _ 1 _ HO.out) | exact calls_later2 (c_cmpCompare_v _ _ 1 _ HO.out)))))); refine wpQuiet_nil ?_; rintro _ ⟨p, rfl⟩))
          all_goals
            go_ret
            exact Gives.mk (ret_int HR.out.symm) (by (repeat (first | with_reducible exact Below.refl _ _ | with_reducible assumption | with_reducible refine Below.drew ?_ | with_reducible refine below_drewN ?_ _ | with_reducible exact HQ.out | with_reducible exact HBW.out | with_reducible refine below_ext ?_ _ _ | with_reducible refine below_then_later ?_ (by first | with_reducible exact Nat.le_refl _ | with_reducible exact HBW.out.size | with_reducible exact HQ.out.size | omega | (simp; done) | (simp; omega) | (simp [later_size]; done) | (simp [later_size]; omega)) _ | with_reducible refine Below.setCell ?_ (by first | with_reducible exact Nat.le_refl _ | with_reducible exact HBW.out.size | with_reducible exact HQ.out.size | omega | (simp; done) | (simp; omega) | (simp [later_size]; done) | (simp [later_size]; omega)) _ | with_reducible refine Below.alloc ?_ (by first | with_reducible exact Nat.le_refl _ | with_reducible exact HBW.out.size | with_reducible exact HQ.out.size | omega | (simp; done) | (simp; omega) | (simp [later_size]; done) | (simp [later_size]; omega)) _)))
    · have hkn : k = n := by omega
      have he := eq_of_take (hkn ▸ HT.out) HN.out HM.out
      have HR := Lib.hid (he ▸ cmpL_eq xs : cmpL xs ys = 0)
      clear hkn he
      go_wp2_with (first | ((with_reducible refine wp_region_later (by kernel_rfl) (by kernel_rfl) ?_); (repeat (first | go_big_quiet_skip | quiet_step ((fail)))); refine wpQuiet_nil ?_; rintro _ ⟨p, rfl⟩))
      all_goals
        go_ret
        exact Gives.mk (ret_int HR.out.symm) (by (repeat (first | with_reducible exact Below.refl _ _ | with_reducible assumption | with_reducible refine Below.drew ?_ | with_reducible refine below_drewN ?_ _ | with_reducible exact HQ.out | with_reducible exact HBW.out | with_reducible refine below_ext ?_ _ _ | with_reducible refine below_then_later ?_ (by first | with_reducible exact Nat.le_refl _ | with_reducible exact HBW.out.size | with_reducible exact HQ.out.size | omega | (simp; done) | (simp; omega) | (simp [later_size]; done) | (simp [later_size]; omega)) _ | with_reducible refine Below.setCell ?_ (by first | with_reducible exact Nat.le_refl _ | with_reducible exact HBW.out.size | with_reducible exact HQ.out.size | omega | (simp; done) | (simp; omega) | (simp [later_size]; done) | (simp [later_size]; omega)) _ | with_reducible refine Below.alloc ?_ (by first | with_reducible exact Nat.le_refl _ | with_reducible exact HBW.out.size | with_reducible exact HQ.out.size | omega | (simp; done) | (simp; omega) | (simp [later_size]; done) | (simp [later_size]; omega)) _)))
set_option maxHeartbeats 400000 in
theorem c_orderOf (A B : Option Addr) (n c d : Nat) (xs ys : List Int) (w : World) (hn : xs.length = n) (hm : ys.length = n) (hn2 : n ≤ 1048576)
    (ha : Row encI 1 w A xs) (hb : Row encI 1 w B ys) : Calls Tryd.prog 32 #[.slice A n c, .slice B n d] w (Gives (.int .i64 (cmpL xs ys)) w) := by
  have HI := Lib.hid (c_Compare A B n c d xs ys w hn hm hn2 ha hb)
  clear ha hb hn hm
  go_enter Tryd.func32, Tryd.ntmps32
  go_wp2_with (first | (go_at_call 51; (refine (HI.out).mono ?_); rintro _ _ ⟨rfl, p, rfl⟩) | ((with_reducible refine wp_region_later (by kernel_rfl) (by kernel_rfl) ?_); (repeat (first | go_big_quiet_skip | quiet_step ((first | (go_at_call 51; first | exact calls_later (HI.out) | exact calls_later2 (HI.out)))))); refine wpQuiet_nil ?_; rintro _ ⟨p, rfl⟩))
  go_ret
  exact Gives.mk rfl (by (repeat (first | with_reducible exact Below.refl _ _ | with_reducible assumption | with_reducible refine Below.drew ?_ | with_reducible refine below_drewN ?_ _ | with_reducible exact HQ.out | with_reducible exact HBW.out | with_reducible refine below_ext ?_ _ _ | with_reducible refine below_then_later ?_ (by first | with_reducible exact Nat.le_refl _ | with_reducible exact HBW.out.size | with_reducible exact HQ.out.size | omega | (simp; done) | (simp; omega) | (simp [later_size]; done) | (simp [later_size]; omega)) _ | with_reducible refine Below.setCell ?_ (by first | with_reducible exact Nat.le_refl _ | with_reducible exact HBW.out.size | with_reducible exact HQ.out.size | omega | (simp; done) | (simp; omega) | (simp [later_size]; done) | (simp [later_size]; omega)) _ | with_reducible refine Below.alloc ?_ (by first | with_reducible exact Nat.le_refl _ | with_reducible exact HBW.out.size | with_reducible exact HQ.out.size | omega | (simp; done) | (simp; omega) | (simp [later_size]; done) | (simp [later_size]; omega)) _)))
set_option maxHeartbeats 800000 in
theorem c_iStampOrder (a b c d : Int) (w : World) : Calls Tryd.prog 31 #[.agg #[.int .i64 a, .int .i64 b], .agg #[.int .i64 c, .int .i64 d]] w (Gives (.int .i64 (stOrd a b c d)) w) := by
  go_enter Tryd.func31, Tryd.ntmps31
  go_wp2_with (first | (go_at_call 32; (refine (c_orderOf _ _ 2 _ _ [a, b] [c, d] _ rfl rfl (by omega) (row_pair (by simp [go_sem]) (by simp [go_sem])) (row_pair (by simp [go_sem]) (by simp [go_sem]))).mono ?_); rintro _ _ ⟨rfl, p, rfl⟩) | ((with_reducible refine wp_region_later (by kernel_rfl) (by kernel_rfl) ?_); (repeat (first | go_big_quiet_skip | quiet_step ((first | (go_at_call 32; first | exact calls_later (c_orderOf _ _ 2 _ _ [a, b] [c, d] _ rfl rfl (by omega) (row_pair (by simp [go_sem]) (by simp [go_sem])) (row_pair (by simp [go_sem]) (by simp [go_sem]))) | exact calls_later2 (c_orderOf _ _ 2 _ _ [a, b] [c, d] _ rfl rfl (by omega) (row_pair (by simp [go_sem]) (by simp [go_sem])) (row_pair (by simp [go_sem]) (by simp [go_sem])))))))); refine wpQuiet_nil ?_; rintro _ ⟨p, rfl⟩))
  go_ret
  exact Gives.mk rfl (by (repeat (first | with_reducible exact Below.refl _ _ | with_reducible assumption | with_reducible refine Below.drew ?_ | with_reducible refine below_drewN ?_ _ | with_reducible exact HQ.out | with_reducible exact HBW.out | with_reducible refine below_ext ?_ _ _ | with_reducible refine below_then_later ?_ (by first | with_reducible exact Nat.le_refl _ | with_reducible exact HBW.out.size | with_reducible exact HQ.out.size | omega | (simp; done) | (simp; omega) | (simp [later_size]; done) | (simp [later_size]; omega)) _ | with_reducible refine Below.setCell ?_ (by first | with_reducible exact Nat.le_refl _ | with_reducible exact HBW.out.size | with_reducible exact HQ.out.size | omega | (simp; done) | (simp; omega) | (simp [later_size]; done) | (simp [later_size]; omega)) _ | with_reducible refine Below.alloc ?_ (by first | with_reducible exact Nat.le_refl _ | with_reducible exact HBW.out.size | with_reducible exact HQ.out.size | omega | (simp; done) | (simp; omega) | (simp [later_size]; done) | (simp [later_size]; omega)) _)))
set_option maxHeartbeats 400000 in
theorem c_l02Order (a b : Int) (w : World) : Calls Tryd.prog 46 #[.int .i64 a, .int .i64 b] w (Gives (.int .i64 (ord a b)) w) := by
  by_cases h1 : a < b
  · rw [ord_lt h1]
    go_enter Tryd.func46, Tryd.ntmps46
    go_wp2_with (first | ((with_reducible refine wp_region_later (by kernel_rfl) (by kernel_rfl) ?_); (repeat (first | go_big_quiet_skip | quiet_step ((fail)))); refine wpQuiet_nil ?_; rintro _ ⟨p, rfl⟩))
    go_ret
    exact Gives.mk rfl (by (repeat (first | with_reducible exact Below.refl _ _ | with_reducible assumption | with_reducible refine Below.drew ?_ | with_reducible refine below_drewN ?_ _ | with_reducible exact HQ.out | with_reducible exact HBW.out | with_reducible refine below_ext ?_ _ _ | with_reducible refine below_then_later ?_ (by first | with_reducible exact Nat.le_refl _ | with_reducible exact HBW.out.size | with_reducible exact HQ.out.size | omega | (simp; done) | (simp; omega) | (simp [later_size]; done) | (simp [later_size]; omega)) _ | with_reducible refine Below.setCell ?_ (by first | with_reducible exact Nat.le_refl _ | with_reducible exact HBW.out.size | with_reducible exact HQ.out.size | omega | (simp; done) | (simp; omega) | (simp [later_size]; done) | (simp [later_size]; omega)) _ | with_reducible refine Below.alloc ?_ (by first | with_reducible exact Nat.le_refl _ | with_reducible exact HBW.out.size | with_reducible exact HQ.out.size | omega | (simp; done) | (simp; omega) | (simp [later_size]; done) | (simp [later_size]; omega)) _)))
  · by_cases h2 : b < a
    · rw [ord_gt h2]
      go_enter Tryd.func46, Tryd.ntmps46
      go_wp2_with (first | ((with_reducible refine wp_region_later (by kernel_rfl) (by kernel_rfl) ?_); (repeat (first | go_big_quiet_skip | quiet_step ((fail)))); refine wpQuiet_nil ?_; rintro _ ⟨p, rfl⟩))
      go_ret
      exact Gives.mk rfl (by (repeat (first | with_reducible exact Below.refl _ _ | with_reducible assumption | with_reducible refine Below.drew ?_ | with_reducible refine below_drewN ?_ _ | with_reducible exact HQ.out | with_reducible exact HBW.out | with_reducible refine below_ext ?_ _ _ | with_reducible refine below_then_later ?_ (by first | with_reducible exact Nat.le_refl _ | with_reducible exact HBW.out.size | with_reducible exact HQ.out.size | omega | (simp; done) | (simp; omega) | (simp [later_size]; done) | (simp [later_size]; omega)) _ | with_reducible refine Below.setCell ?_ (by first | with_reducible exact Nat.le_refl _ | with_reducible exact HBW.out.size | with_reducible exact HQ.out.size | omega | (simp; done) | (simp; omega) | (simp [later_size]; done) | (simp [later_size]; omega)) _ | with_reducible refine Below.alloc ?_ (by first | with_reducible exact Nat.le_refl _ | with_reducible exact HBW.out.size | with_reducible exact HQ.out.size | omega | (simp; done) | (simp; omega) | (simp [later_size]; done) | (simp [later_size]; omega)) _)))
    · have h3 : a = b := by omega
      subst h3
      rw [ord_eq]
      clear h1 h2
      go_enter Tryd.func46, Tryd.ntmps46
      go_wp2_with (first | ((with_reducible refine wp_region_later (by kernel_rfl) (by kernel_rfl) ?_); (repeat (first | go_big_quiet_skip | quiet_step ((fail)))); refine wpQuiet_nil ?_; rintro _ ⟨p, rfl⟩))
      go_ret
      exact Gives.mk rfl (by (repeat (first | with_reducible exact Below.refl _ _ | with_reducible assumption | with_reducible refine Below.drew ?_ | with_reducible refine below_drewN ?_ _ | with_reducible exact HQ.out | with_reducible exact HBW.out | with_reducible refine below_ext ?_ _ _ | with_reducible refine below_then_later ?_ (by first | with_reducible exact Nat.le_refl _ | with_reducible exact HBW.out.size | with_reducible exact HQ.out.size | omega | (simp; done) | (simp; omega) | (simp [later_size]; done) | (simp [later_size]; omega)) _ | with_reducible refine Below.setCell ?_ (by first | with_reducible exact Nat.le_refl _ | with_reducible exact HBW.out.size | with_reducible exact HQ.out.size | omega | (simp; done) | (simp; omega) | (simp [later_size]; done) | (simp [later_size]; omega)) _ | with_reducible refine Below.alloc ?_ (by first | with_reducible exact Nat.le_refl _ | with_reducible exact HBW.out.size | with_reducible exact HQ.out.size | omega | (simp; done) | (simp; omega) | (simp [later_size]; done) | (simp [later_size]; omega)) _)))
theorem c_l02Order_v (a b v : Int) (w : World) (h : ord a b = v) : Calls Tryd.prog 46 #[.int .i64 a, .int .i64 b] w (Gives (.int .i64 v) w) := by
  subst h; exact c_l02Order a b w
set_option maxHeartbeats 800000 in
theorem c_sStampOrder (a b c d : Int) (w : World) : Calls Tryd.prog 45 #[.agg #[.int .i64 a, .int .i64 b], .agg #[.int .i64 c, .int .i64 d]] w (Gives (.int .i64 (stOrd a b c d)) w) := by
  rw [stOrd_def]
  by_cases h : a = c
  · subst h
    rw [if_pos rfl]
    have HO := Lib.hid (ord_eq a)
    go_enter Tryd.func45, Tryd.ntmps45
    go_wp2_with (first | (go_at_call 46; (with_reducible refine (c_l02Order_v a a 0 _ HO.out).mono ?_); rintro _ _ ⟨rfl, p, rfl⟩) | (go_at_call 46; (with_reducible refine (c_l02Order b d _).mono ?_); rintro _ _ ⟨rfl, p, rfl⟩) | ((with_reducible refine wp_region_later (by kernel_rfl) (by kernel_rfl) ?_); (repeat (first | go_big_quiet_skip | quiet_step ((first | (go_at_call 46; first | with_reducible exact calls_later (c_l02Order_v a a 0 _ HO.out) | with_reducible exact calls_later2 (c_l02Order_v a a 0 _ HO.out)) | (go_at_call 46; first | with_reducible exact calls_later (c_l02Order b d _) | with_reducible exact calls_later2 (c_l02Order b d _)))))); refine wpQuiet_nil ?_; rintro _ ⟨p, rfl⟩))
    all_goals
      go_ret
      exact Gives.mk rfl (by (repeat (first | with_reducible exact Below.refl _ _ | with_reducible assumption | with_reducible refine Below.drew ?_ | with_reducible refine below_drewN ?_ _ | with_reducible exact HQ.out | with_reducible exact HBW.out | with_reducible refine below_ext ?_ _ _ | with_reducible refine below_then_later ?_ (by first | with_reducible exact Nat.le_refl _ | with_reducible exact HBW.out.size | with_reducible exact HQ.out.size | omega | (simp; done) | (simp; omega) | (simp [later_size]; done) | (simp [later_size]; omega)) _ | with_reducible refine Below.setCell ?_ (by first | with_reducible exact Nat.le_refl _ | with_reducible exact HBW.out.size | with_reducible exact HQ.out.size | omega | (simp; done) | (simp; omega) | (simp [later_size]; done) | (simp [later_size]; omega)) _ | with_reducible refine Below.alloc ?_ (by first | with_reducible exact Nat.le_refl _ | with_reducible exact HBW.out.size | with_reducible exact HQ.out.size | omega | (simp; done) | (simp; omega) | (simp [later_size]; done) | (simp [later_size]; omega)) _)))
  · rw [if_neg h]
    rcases Int.lt_or_gt_of_ne h with hl | hl
    · have HO := Lib.hid (ord_lt hl)
      rw [ord_lt hl]
      clear hl h
      go_enter Tryd.func45, Tryd.ntmps45
      go_wp2_with (first | (go_at_call 46; (refine (c_l02Order_v _ _ (-1) _ HO.out).mono ?_); rintro _ _ ⟨rfl, p, rfl⟩) | ((with_reducible refine wp_region_later (by kernel_rfl) (by kernel_rfl) ?_); (repeat (first | go_big_quiet_skip | quiet_step ((first | (go_at_call 46; first | exact calls_later (c_l02Order_v _ _ (-1) _ HO.out) | exact calls_later2 (c_l02Order_v _ _ (-1) _ HO.out)))))); refine wpQuiet_nil ?_; rintro _ ⟨p, rfl⟩))
      all_goals
        go_ret
        exact Gives.mk rfl (by (repeat (first | with_reducible exact Below.refl _ _ | with_reducible assumption | with_reducible refine Below.drew ?_ | with_reducible refine below_drewN ?_ _ | with_reducible exact HQ.out | with_reducible exact HBW.out | with_reducible refine below_ext ?_ _ _ | with_reducible refine below_then_later ?_ (by first | with_reducible exact Nat.le_refl _ | with_reducible exact HBW.out.size | with_reducible exact HQ.out.size | omega | (simp; done) | (simp; omega) | (simp [later_size]; done) | (simp [later_size]; omega)) _ | with_reducible refine Below.setCell ?_ (by first | with_reducible exact Nat.le_refl _ | with_reducible exact HBW.out.size | with_reducible exact HQ.out.size | omega | (simp; done) | (simp; omega) | (simp [later_size]; done) | (simp [later_size]; omega)) _ | with_reducible refine Below.alloc ?_ (by first | with_reducible exact Nat.le_refl _ | with_reducible exact HBW.out.size | with_reducible exact HQ.out.size | omega | (simp; done) | (simp; omega) | (simp [later_size]; done) | (simp [later_size]; omega)) _)))
    · have HO := Lib.hid (ord_gt hl)
      rw [ord_gt hl]
      clear hl h
      go_enter Tryd.func45, Tryd.ntmps45
      go_wp2_with (first | (go_at_call 46; (refine (c_l02Order_v _ _ 1 _ HO.out).mono ?_); rintro _ _ ⟨rfl, p, rfl⟩) | ((with_reducible refine wp_region_later (by kernel_rfl) (by kernel_rfl) ?_); (repeat (first | go_big_quiet_skip | quiet_step ((first | (go_at_call 46; first | exact calls_later (c_l02Order_v _ _ 1 _ HO.out) | exact calls_later2 (c_l02Order_v _ _ 1 _ HO.out)))))); refine wpQuiet_nil ?_; rintro _ ⟨p, rfl⟩))
      all_goals
        go_ret
        exact Gives.mk rfl (by (repeat (first | with_reducible exact Below.refl _ _ | with_reducible assumption | with_reducible refine Below.drew ?_ | with_reducible refine below_drewN ?_ _ | with_reducible exact HQ.out | with_reducible exact HBW.out | with_reducible refine below_ext ?_ _ _ | with_reducible refine below_then_later ?_ (by first | with_reducible exact Nat.le_refl _ | with_reducible exact HBW.out.size | with_reducible exact HQ.out.size | omega | (simp; done) | (simp; omega) | (simp [later_size]; done) | (simp [later_size]; omega)) _ | with_reducible refine Below.setCell ?_ (by first | with_reducible exact Nat.le_refl _ | with_reducible exact HBW.out.size | with_reducible exact HQ.out.size | omega | (simp; done) | (simp; omega) | (simp [later_size]; done) | (simp [later_size]; omega)) _ | with_reducible refine Below.alloc ?_ (by first | with_reducible exact Nat.le_refl _ | with_reducible exact HBW.out.size | with_reducible exact HQ.out.size | omega | (simp; done) | (simp; omega) | (simp [later_size]; done) | (simp [later_size]; omega)) _)))

def firstNZ : List Int → Int
  | [] => 0
  | x :: xs => if x = 0 then firstNZ xs else x
theorem firstNZ_at : ∀ (xs : List Int) (k : Nat) (x : Int), firstNZ (xs.take k) = 0 → (∀ z ∈ xs.take k, z = 0) → xs[k]? = some x → x ≠ 0 → firstNZ xs = x
  | [], _, _, _, _, hx, _ => by simp at hx
  | a :: xs, 0, x, _, _, hx, hne => by
    simp at hx; subst hx
    rw [firstNZ, if_neg hne]
  | a :: xs, k + 1, x, h1, h2, hx, hne => by
    simp only [List.take_succ_cons, List.mem_cons, forall_eq_or_imp] at h2
    rw [List.take_succ_cons, firstNZ, if_pos h2.1] at h1
    rw [firstNZ, if_pos h2.1]
    simp only [List.getElem?_cons_succ] at hx
    exact firstNZ_at xs k x h1 h2.2 hx hne
theorem firstNZ_zero : ∀ (xs : List Int), (∀ z ∈ xs, z = 0) → firstNZ xs = 0
  | [], _ => rfl
  | x :: xs, h => by rw [firstNZ, if_pos (h x (by simp))]; exact firstNZ_zero xs (fun z hz => h z (by simp [hz]))
theorem row_four {w : World} {b : Nat} {x y z u : Int} (h0 : w.cell? ⟨b, 0, Option.none⟩ = some (.int .i64 x)) (h1 : w.cell? ⟨b, 1, Option.none⟩ = some (.int .i64 y)) (h2 : w.cell? ⟨b, 2, Option.none⟩ = some (.int .i64 z)) (h3 : w.cell? ⟨b, 3, Option.none⟩ = some (.int .i64 u)) : Row encI 1 w (some ⟨b, 0, Option.none⟩) [x, y, z, u] := fun _ =>
  ⟨b, 0, rfl, fun j t ht i v hv => by
    match j, ht with
    | 0, ht =>
      simp at ht; subst ht
      match i, hv with
      | 0, hv => simp [encI] at hv; subst hv; simpa using h0
      | i + 1, hv => simp [encI] at hv
    | 1, ht =>
      simp at ht; subst ht
      match i, hv with
      | 0, hv => simp [encI] at hv; subst hv; simpa using h1
      | i + 1, hv => simp [encI] at hv
    | 2, ht =>
      simp at ht; subst ht
      match i, hv with
      | 0, hv => simp [encI] at hv; subst hv; simpa using h2
      | i + 1, hv => simp [encI] at hv
    | 3, ht =>
      simp at ht; subst ht
      match i, hv with
      | 0, hv => simp [encI] at hv; subst hv; simpa using h3
      | i + 1, hv => simp [encI] at hv
    | j + 4, ht => simp at ht⟩
theorem cmpL_three (a b c a' b' c' : Int) : cmpL [a, b, c] [a', b', c'] = firstNZ [ord a a', ord b b', ord c c'] := by
  simp only [cmpL, firstNZ]
  by_cases h1 : a = a'
  · subst h1
    rw [if_pos rfl, ord_eq, if_pos rfl]
    by_cases h2 : b = b'
    · subst h2
      rw [if_pos rfl, ord_eq, if_pos rfl]
      by_cases h3 : c = c'
      · subst h3; rw [if_pos rfl, ord_eq, if_pos rfl]
      · rw [if_neg h3, if_neg (ord_ne h3)]
    · rw [if_neg h2, if_neg (ord_ne h2)]
  · rw [if_neg h1, if_neg (ord_ne h1)]
theorem rcOrd_def (o a b k v o' a' b' k' v' : Int) : rcOrd o a b k v o' a' b' k' v' = firstNZ [stOrd a b a' b', ord o o', ord k k', ord v v'] := by
  unfold rcOrd
  rw [cmpL_three]
  simp only [firstNZ]
  by_cases h : stOrd a b a' b' = 0
  · rw [if_neg (by simpa using h), if_pos h]
  · rw [if_pos h, if_neg h]
theorem c_iStampOrder_v (a b c d v : Int) (w : World) (h : stOrd a b c d = v) : Calls Tryd.prog 31 #[.agg #[.int .i64 a, .int .i64 b], .agg #[.int .i64 c, .int .i64 d]] w (Gives (.int .i64 v) w) := by
  subst h; exact c_iStampOrder a b c d w
set_option maxHeartbeats 1600000 in
theorem c_iRecordOrder (o a b k v o' a' b' k' v' : Int) (w : World) : Calls Tryd.prog 10 #[.agg #[.int .i64 o, .int .i64 a, .int .i64 b, .int .i64 k, .int .i64 v], .agg #[.int .i64 o', .int .i64 a', .int .i64 b', .int .i64 k', .int .i64 v']] w (Gives (.int .i64 (rcOrd o a b k v o' a' b' k' v')) w) := by
  have hr := stOrd_rng a b a' b'
  by_cases h0 : stOrd a b a' b' = 0
  · have he : rcOrd o a b k v o' a' b' k' v' = cmpL [o, k, v] [o', k', v'] := by unfold rcOrd; rw [if_neg (by simpa using h0)]
    have HO := Lib.hid h0
    rw [he]
    clear he h0 hr
    go_enter Tryd.func10, Tryd.ntmps10
    go_wp2_with (first | (go_at_call 31; (refine (c_iStampOrder_v _ _ _ _ 0 _ HO.out).mono ?_); rintro _ _ ⟨rfl, p, rfl⟩) | (go_at_call 32; (refine (c_orderOf _ _ 3 _ _ [o, k, v] [o', k', v'] _ rfl rfl (by omega) (row_three (by simp [go_sem]) (by simp [go_sem]) (by simp [go_sem])) (row_three (by simp [go_sem]) (by simp [go_sem]) (by simp [go_sem]))).mono ?_); rintro _ _ ⟨rfl, p, rfl⟩) | ((with_reducible refine wp_region_later (by kernel_rfl) (by kernel_rfl) ?_); (repeat (first | go_big_quiet_skip | quiet_step ((first | (go_at_call 31; first | exact calls_later (c_iStampOrder_v _ _ _ _ 0 _ HO.out) | exact calls_later2 (c_iStampOrder_v _ _ _ _ 0 _ HO.out)) | (go_at_call 32; first | exact calls_later (c_orderOf _ _ 3 _ _ [o, k, v] [o', k', v'] _ rfl rfl (by omega) (row_three (by simp [go_sem]) (by simp [go_sem]) (by simp [go_sem])) (row_three (by simp [go_sem]) (by simp [go_sem]) (by simp [go_sem]))) | exact calls_later2 (c_orderOf _ _ 3 _ _ [o, k, v] [o', k', v'] _ rfl rfl (by omega) (row_three (by simp [go_sem]) (by simp [go_sem]) (by simp [go_sem])) (row_three (by simp [go_sem]) (by simp [go_sem]) (by simp [go_sem])))))))); refine wpQuiet_nil ?_; rintro _ ⟨p, rfl⟩))
    go_ret
    exact Gives.mk rfl (by (repeat (first | with_reducible exact Below.refl _ _ | with_reducible assumption | with_reducible refine Below.drew ?_ | with_reducible refine below_drewN ?_ _ | with_reducible exact HQ.out | with_reducible exact HBW.out | with_reducible refine below_ext ?_ _ _ | with_reducible refine below_then_later ?_ (by first | with_reducible exact Nat.le_refl _ | with_reducible exact HBW.out.size | with_reducible exact HQ.out.size | omega | (simp; done) | (simp; omega) | (simp [later_size]; done) | (simp [later_size]; omega)) _ | with_reducible refine Below.setCell ?_ (by first | with_reducible exact Nat.le_refl _ | with_reducible exact HBW.out.size | with_reducible exact HQ.out.size | omega | (simp; done) | (simp; omega) | (simp [later_size]; done) | (simp [later_size]; omega)) _ | with_reducible refine Below.alloc ?_ (by first | with_reducible exact Nat.le_refl _ | with_reducible exact HBW.out.size | with_reducible exact HQ.out.size | omega | (simp; done) | (simp; omega) | (simp [later_size]; done) | (simp [later_size]; omega)) _)))
  · have he : rcOrd o a b k v o' a' b' k' v' = stOrd a b a' b' := by unfold rcOrd; rw [if_pos h0]
    rw [he]
    rcases (by omega : stOrd a b a' b' = -1 ∨ stOrd a b a' b' = 1) with h1 | h1
    · have HO := Lib.hid h1
      rw [h1]
      clear he h0 hr h1
      go_enter Tryd.func10, Tryd.ntmps10
      go_wp2_with (first | (go_at_call 31; (refine (c_iStampOrder_v _ _ _ _ (-1) _ HO.out).mono ?_); rintro _ _ ⟨rfl, p, rfl⟩) | ((with_reducible refine wp_region_later (by kernel_rfl) (by kernel_rfl) ?_); (repeat (first | go_big_quiet_skip | quiet_step ((first | (go_at_call 31; first | exact calls_later (c_iStampOrder_v _ _ _ _ (-1) _ HO.out) | exact calls_later2 (c_iStampOrder_v _ _ _ _ (-1) _ HO.out)))))); refine wpQuiet_nil ?_; rintro _ ⟨p, rfl⟩))
      go_ret
      exact Gives.mk rfl (by (repeat (first | with_reducible exact Below.refl _ _ | with_reducible assumption | with_reducible refine Below.drew ?_ | with_reducible refine below_drewN ?_ _ | with_reducible exact HQ.out | with_reducible exact HBW.out | with_reducible refine below_ext ?_ _ _ | with_reducible refine below_then_later ?_ (by first | with_reducible exact Nat.le_refl _ | with_reducible exact HBW.out.size | with_reducible exact HQ.out.size | omega | (simp; done) | (simp; omega) | (simp [later_size]; done) | (simp [later_size]; omega)) _ | with_reducible refine Below.setCell ?_ (by first | with_reducible exact Nat.le_refl _ | with_reducible exact HBW.out.size | with_reducible exact HQ.out.size | omega | (simp; done) | (simp; omega) | (simp [later_size]; done) | (simp [later_size]; omega)) _ | with_reducible refine Below.alloc ?_ (by first | with_reducible exact Nat.le_refl _ | with_reducible exact HBW.out.size | with_reducible exact HQ.out.size | omega | (simp; done) | (simp; omega) | (simp [later_size]; done) | (simp [later_size]; omega)) _)))
    · have HO := Lib.hid h1
      rw [h1]
      clear he h0 hr h1
      go_enter Tryd.func10, Tryd.ntmps10
      go_wp2_with (first | (go_at_call 31; (refine (c_iStampOrder_v _ _ _ _ 1 _ HO.out).mono ?_); rintro _ _ ⟨rfl, p, rfl⟩) | ((with_reducible refine wp_region_later (by kernel_rfl) (by kernel_rfl) ?_); (repeat (first | go_big_quiet_skip | quiet_step ((first | (go_at_call 31; first | exact calls_later (c_iStampOrder_v _ _ _ _ 1 _ HO.out) | exact calls_later2 (c_iStampOrder_v _ _ _ _ 1 _ HO.out)))))); refine wpQuiet_nil ?_; rintro _ ⟨p, rfl⟩))
      go_ret
      exact Gives.mk rfl (by (repeat (first | with_reducible exact Below.refl _ _ | with_reducible assumption | with_reducible refine Below.drew ?_ | with_reducible refine below_drewN ?_ _ | with_reducible exact HQ.out | with_reducible exact HBW.out | with_reducible refine below_ext ?_ _ _ | with_reducible refine below_then_later ?_ (by first | with_reducible exact Nat.le_refl _ | with_reducible exact HBW.out.size | with_reducible exact HQ.out.size | omega | (simp; done) | (simp; omega) | (simp [later_size]; done) | (simp [later_size]; omega)) _ | with_reducible refine Below.setCell ?_ (by first | with_reducible exact Nat.le_refl _ | with_reducible exact HBW.out.size | with_reducible exact HQ.out.size | omega | (simp; done) | (simp; omega) | (simp [later_size]; done) | (simp [later_size]; omega)) _ | with_reducible refine Below.alloc ?_ (by first | with_reducible exact Nat.le_refl _ | with_reducible exact HBW.out.size | with_reducible exact HQ.out.size | omega | (simp; done) | (simp; omega) | (simp [later_size]; done) | (simp [later_size]; omega)) _)))
set_option maxHeartbeats 1600000 in
theorem c_sRecordOrder (o a b k v o' a' b' k' v' : Int) (w : World) : Calls Tryd.prog 20 #[.agg #[.int .i64 o, .int .i64 a, .int .i64 b, .int .i64 k, .int .i64 v], .agg #[.int .i64 o', .int .i64 a', .int .i64 b', .int .i64 k', .int .i64 v']] w (Gives (.int .i64 (rcOrd o a b k v o' a' b' k' v')) w) := by
  rw [rcOrd_def]
  have HS := fun W => Lib.hid (c_sStampOrder a b a' b' W)
  generalize stOrd a b a' b' = z0 at *
  have H1 := fun W => Lib.hid (c_l02Order o o' W)
  have H2 := fun W => Lib.hid (c_l02Order k k' W)
  have H3 := fun W => Lib.hid (c_l02Order v v' W)
  generalize ord o o' = z1 at *
  generalize ord k k' = z2 at *
  generalize ord v v' = z3 at *
  have HHS := Lib.hid HS
  have HH1 := Lib.hid H1
  have HH2 := Lib.hid H2
  have HH3 := Lib.hid H3
  clear HS H1 H2 H3
  go_enter Tryd.func20, Tryd.ntmps20
  go_wp2_with (first | (go_at_call 45; (with_reducible refine ((HHS.out _).out).mono ?_); rintro _ _ ⟨rfl, p, rfl⟩) | (go_at_call 46; (with_reducible refine ((HH1.out _).out).mono ?_); rintro _ _ ⟨rfl, p, rfl⟩) | (go_at_call 46; (with_reducible refine ((HH2.out _).out).mono ?_); rintro _ _ ⟨rfl, p, rfl⟩) | (go_at_call 46; (with_reducible refine ((HH3.out _).out).mono ?_); rintro _ _ ⟨rfl, p, rfl⟩) | ((with_reducible refine wp_region_later (by kernel_rfl) (by kernel_rfl) ?_); (repeat (first | go_big_quiet_skip | quiet_step ((first | (go_at_call 45; first | with_reducible exact calls_later ((HHS.out _).out) | with_reducible exact calls_later2 ((HHS.out _).out)) | (go_at_call 46; first | with_reducible exact calls_later ((HH1.out _).out) | with_reducible exact calls_later2 ((HH1.out _).out)) | (go_at_call 46; first | with_reducible exact calls_later ((HH2.out _).out) | with_reducible exact calls_later2 ((HH2.out _).out)) | (go_at_call 46; first | with_reducible exact calls_later ((HH3.out _).out) | with_reducible exact calls_later2 ((HH3.out _).out)))))); refine wpQuiet_nil ?_; rintro _ ⟨p, rfl⟩) | ((with_reducible refine wp_region_tail 20 (by kernel_rfl) (by kernel_rfl) ?_); simp only [List.take_succ_cons, List.take_zero, List.drop_succ_cons, List.drop_zero]; (repeat (first | go_big_quiet_skip | quiet_step ((first | (go_at_call 45; first | with_reducible exact calls_later ((HHS.out _).out) | with_reducible exact calls_later2 ((HHS.out _).out)) | (go_at_call 46; first | with_reducible exact calls_later ((HH1.out _).out) | with_reducible exact calls_later2 ((HH1.out _).out)) | (go_at_call 46; first | with_reducible exact calls_later ((HH2.out _).out) | with_reducible exact calls_later2 ((HH2.out _).out)) | (go_at_call 46; first | with_reducible exact calls_later ((HH3.out _).out) | with_reducible exact calls_later2 ((HH3.out _).out)))))); refine wpQuiet_nil ?_; rintro _ ⟨p, rfl⟩))
  go_loopw [6] (fun s6 wr => ∃ (i : Nat), s6 = .int .i64 i ∧ i ≤ 4 ∧ (∀ z ∈ [z0, z1, z2, z3].take i, z = 0) ∧ Row encI 1 wr (some ⟨(later ((w.alloc (Obj.cells #[.int .i64 o, .int .i64 a, .int .i64 b, .int .i64 k, .int .i64 v] 32)).alloc (Obj.cells #[.int .i64 o', .int .i64 a', .int .i64 b', .int .i64 k', .int .i64 v'] 32)) p).heap.size, 0, Option.none⟩) [z0, z1, z2, z3] ∧ Below w.heap.size w wr) (fun s6 _ => 4 - (intOf s6).toNat)
  case atStart => exact ⟨0, rfl, by omega, by simp, row_four (by simp [go_sem]) (by simp [go_sem]) (by simp [go_sem]) (by simp [go_sem]), by (repeat (first | with_reducible exact Below.refl _ _ | with_reducible assumption | with_reducible refine Below.drew ?_ | with_reducible refine below_drewN ?_ _ | with_reducible exact HQ.out | with_reducible exact HBW.out | with_reducible refine below_ext ?_ _ _ | with_reducible refine below_then_later ?_ (by first | with_reducible exact Nat.le_refl _ | with_reducible exact HBW.out.size | with_reducible exact HQ.out.size | omega | (simp; done) | (simp; omega) | (simp [later_size]; done) | (simp [later_size]; omega)) _ | with_reducible refine Below.setCell ?_ (by first | with_reducible exact Nat.le_refl _ | with_reducible exact HBW.out.size | with_reducible exact HQ.out.size | omega | (simp; done) | (simp; omega) | (simp [later_size]; done) | (simp [later_size]; omega)) _ | with_reducible refine Below.alloc ?_ (by first | with_reducible exact Nat.le_refl _ | with_reducible exact HBW.out.size | with_reducible exact HQ.out.size | omega | (simp; done) | (simp; omega) | (simp [later_size]; done) | (simp [later_size]; omega)) _))⟩
  case round =>
    obtain ⟨i, rfl, hk, hz, hrow, hbel⟩ := hrel
    have HZ := Lib.hid hz
    have HR := Lib.hid hrow
    have HB := Lib.hid hbel
    clear hz hrow hbel
    by_cases hlt : i < 4
    · obtain ⟨x, hx⟩ : ∃ x, [z0, z1, z2, z3][i]? = some x := ⟨_, List.getElem?_eq_getElem (by simpa using hlt)⟩
      obtain ⟨b1, off, hA, hcx⟩ := HR.out.at_ hx
      injection hA with hA
      injection hA with hA1 hA2
      subst hA1 hA2
      have HX := Lib.hid hx
      have hx0 := hcx 0 _ rfl
      clear hcx hx
      simp only [Nat.add_zero, Nat.mul_one, Nat.zero_add] at hx0
      by_cases he : x = 0
      · subst he
        go_wp2_with (first | ((with_reducible refine wp_region_later (by kernel_rfl) (by kernel_rfl) ?_); (repeat (first | go_big_quiet_skip | quiet_step ((fail)))); refine wpQuiet_nil ?_; rintro _ ⟨p, rfl⟩))
        all_goals
          go_roundw
          case rel => exact ⟨i + 1, by go_num, by omega, (by
            intro z hz
            rw [List.take_add_one, HX.out] at hz
            rcases List.mem_append.1 hz with hz | hz
            · exact HZ.out z hz
            · simpa using hz), HR.out, HB.out⟩
          case measure => simp [intOf]; omega
      · have hv := firstNZ_at [z0, z1, z2, z3] i x (firstNZ_zero _ HZ.out) HZ.out HX.out he
        have HV := Lib.hid hv
        have he2 : (x != 0) = true := by simpa using he
        clear hv he
        go_wp2_with (first | ((with_reducible refine wp_region_later (by kernel_rfl) (by kernel_rfl) ?_); (repeat (first | go_big_quiet_skip | quiet_step ((fail)))); refine wpQuiet_nil ?_; rintro _ ⟨p, rfl⟩))
        all_goals
          go_ret
          exact Gives.mk (ret_int HV.out.symm) HB.out
    · have hk4 : i = 4 := by omega
      have hv : firstNZ [z0, z1, z2, z3] = 0 := firstNZ_zero _ (by
        intro z hz
        have h4 : [z0, z1, z2, z3].take i = [z0, z1, z2, z3] := by rw [hk4]; rfl
        exact HZ.out z (by rw [h4]; exact hz))
      have HV := Lib.hid hv
      clear hv hk4
      go_wp2_with (first | ((with_reducible refine wp_region_later (by kernel_rfl) (by kernel_rfl) ?_); (repeat (first | go_big_quiet_skip | quiet_step ((fail)))); refine wpQuiet_nil ?_; rintro _ ⟨p, rfl⟩))
      all_goals
        go_ret
        exact Gives.mk (ret_int HV.out.symm) HB.out
end Go.Proofs.YtcjdfecajlgcmaaDoor
