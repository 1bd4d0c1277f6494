/-
  MergeFronts, FrontOf, FrontierOk of both sides. Conditions: the lengths are at most 2^32 (together).
-/
import Derived.Test.YthnemjaipdheoaaMinI
import Derived.Test.YthnemjaipdheoaaMinS
import Derived.Test.YthnemjaipdheoaaFn
import Derived.Test.YthnemjaipdheoaaRead
namespace Go.Proofs.Ythnemjaipdheoaa
open Go.RowKit
set_option linter.unusedVariables false
def frOf (xs : List ((Int × Int) × Int)) : List (Int × Int) := (xs.filter fun x => decide (0 < x.2)).map (·.1)
theorem frOf_len (xs : List ((Int × Int) × Int)) : (frOf xs).length ≤ xs.length := by unfold frOf; rw [List.length_map]; exact List.length_filter_le _ _
theorem frOf_yes {xs : List ((Int × Int) × Int)} {acc : List (Int × Int)} {k : Nat} {a b z : Int} (h : frOf (xs.take k) = acc) (hx : xs[k]? = some ((a, b), z)) (he : 0 < z) : frOf (xs.take (k + 1)) = acc ++ [(a, b)] := by
  unfold frOf at h ⊢
  rw [List.take_add_one, hx, List.filter_append, List.map_append, h]
  simp [he]
theorem frOf_no {xs : List ((Int × Int) × Int)} {acc : List (Int × Int)} {k : Nat} {a b z : Int} (h : frOf (xs.take k) = acc) (hx : xs[k]? = some ((a, b), z)) (he : ¬ 0 < z) : frOf (xs.take (k + 1)) = acc := by
  unfold frOf at h ⊢
  rw [List.take_add_one, hx, List.filter_append, List.map_append, h]
  simp [he]
def notOk (x : Int × Int) : Bool := !stOk x.1 x.2
def frOk (xs : List (Int × Int)) : Bool := !xs.any notOk && decide (xs = minimal xs)
theorem dec_symm {α : Type} [DecidableEq α] (x y : α) : decide (x = y) = (!false && decide (y = x)) := by
  simp only [Bool.not_false, Bool.true_and]
  exact decide_eq_decide.2 ⟨Eq.symm, Eq.symm⟩
set_option maxHeartbeats 3200000 in
theorem c_iFrontOf (A : Option Addr) (n c : Nat) (xs : List ((Int × Int) × Int)) (w : World) (hn : xs.length = n) (hn2 : n ≤ 4294967296)
    (ha : Row encC 3 w A xs) : Calls Try.prog 15 #[.slice A n c] w (MadeOwn encS 2 id (minimal (frOf xs)) w) := by
  obtain ⟨i0, hi0, hz0, hs0, hb0⟩ := info_parts infoSt
  have HI := Lib.hid hi0
  have HZ := Lib.hid hz0
  have HS := Lib.hid hs0
  have HB := Lib.hid hb0
  clear hi0 hz0 hs0 hb0
  have HA := Lib.hid ha
  have HN := Lib.hid hn
  clear ha hn
  go_enter Try.func15, Try.ntmps15
  go_wp2_with fail
  go_loopw [3, 8] (fun v ii wr => ∃ (j : Nat) (acc : List (Int × Int)) (L : Nat), ii = .int .i64 j ∧ j ≤ n ∧ acc.length = L ∧ frOf (xs.take j) = acc ∧ wr.ownsRow w.heap.size 26 2 v L (acc.flatMap encS) ∧ ∃ p : Later, wr = later w p) (fun _ ii _ => n - (intOf ii).toNat)
  case atStart => exact ⟨0, [], 0, rfl, by omega, rfl, rfl, World.ownsRow_nil _ _ _ _, later_of_below (by (repeat (first | with_reducible exact Below.refl _ _ | with_reducible assumption | with_reducible refine Below.drew ?_ | with_reducible refine below_drewN ?_ _ | with_reducible exact HQ.out | with_reducible exact HBW.out | with_reducible refine below_ext ?_ _ _ | with_reducible refine below_then_later ?_ (by first | with_reducible exact Nat.le_refl _ | with_reducible exact HBW.out.size | with_reducible exact HQ.out.size | omega | (simp; done) | (simp; omega) | (simp [later_size]; done) | (simp [later_size]; omega)) _ | with_reducible refine Below.setCell ?_ (by first | with_reducible exact Nat.le_refl _ | with_reducible exact HBW.out.size | with_reducible exact HQ.out.size | omega | (simp; done) | (simp; omega) | (simp [later_size]; done) | (simp [later_size]; omega)) _ | with_reducible refine Below.alloc ?_ (by first | with_reducible exact Nat.le_refl _ | with_reducible exact HBW.out.size | with_reducible exact HQ.out.size | omega | (simp; done) | (simp; omega) | (simp [later_size]; done) | (simp [later_size]; omega)) _)))⟩
  case round =>
    obtain ⟨j, acc, L, rfl, hj, hL, hF, hW, pw, rfl⟩ := hrel
    have hlen : L ≤ j := by
      rw [← hL, ← hF]
      exact Nat.le_trans (frOf_len _) (List.length_take_le _ _)
    have HF := Lib.hid hF
    have HW := Lib.hid hW
    have HL := Lib.hid hL
    clear hF hW hL
    by_cases hlt : j < n
    · obtain ⟨x, hx⟩ : ∃ x, xs[j]? = some x := ⟨_, List.getElem?_eq_getElem (by rw [HN.out]; exact hlt)⟩
      obtain ⟨bk, off, rfl, hcx⟩ := HA.out.at_ hx
      have HX := Lib.hid hx
      have hbl := World.block_lt_of_cell? _ _ (hcx 0 _ rfl)
      simp only at hbl
      have hble := Nat.le_of_lt hbl
      obtain ⟨⟨x1, x2⟩, x3⟩ := x
      have hx0 := hcx 0 _ rfl
      have hx1 := hcx 1 _ rfl
      have hx2 := hcx 2 _ rfl
      clear hcx hx
      simp only [Nat.add_zero] at *
      by_cases he : 0 < x3
      · have hed : decide (x3 > 0) = true := decide_eq_true he
        go_wp2_with (first | (at_builtin; refine wpList_append_row _ encS 2 lenS (by decide) oneS rfl (.tmp 15) (.tmp 18) 38 rfl w.heap.size 26 i0 _ 16 Try.underlying38 HI.out HZ.out HS.out HB.out rfl u3 L acc rfl (by (repeat (first | with_reducible exact HW.out | with_reducible refine World.ownsRow.alloc ?_ _ | with_reducible refine ownsRow_later ?_ _ | with_reducible refine World.ownsRow.drew ?_)); done) _ _ _ [(x1, x2)] rfl rfl (row_oneS (x1, x2) _ _ _ (by first | with_reducible rfl | (simp; done) | (simp [later_size]; done) | (simp [later_size]; omega))) (by unfold maxLen; omega) (by omega) (by first | (simp; done) | (simp; omega) | (simp [later_size]; done) | (simp [later_size]; omega)) ?_; intro v1 w1 hown hg hbe; have HW1 := Lib.hid hown; have hG1 := hbe w.heap.size w (by (repeat (first | with_reducible exact Below.refl _ _ | with_reducible assumption | with_reducible refine Below.drew ?_ | with_reducible refine below_drewN ?_ _ | with_reducible exact HQ.out | with_reducible exact HBW.out | with_reducible refine below_ext ?_ _ _ | with_reducible refine below_then_later ?_ (by first | with_reducible exact Nat.le_refl _ | with_reducible exact HBW.out.size | with_reducible exact HQ.out.size | omega | (simp; done) | (simp; omega) | (simp [later_size]; done) | (simp [later_size]; omega)) _ | with_reducible refine Below.setCell ?_ (by first | with_reducible exact Nat.le_refl _ | with_reducible exact HBW.out.size | with_reducible exact HQ.out.size | omega | (simp; done) | (simp; omega) | (simp [later_size]; done) | (simp [later_size]; omega)) _ | with_reducible refine Below.alloc ?_ (by first | with_reducible exact Nat.le_refl _ | with_reducible exact HBW.out.size | with_reducible exact HQ.out.size | omega | (simp; done) | (simp; omega) | (simp [later_size]; done) | (simp [later_size]; omega)) _))) (by first | (simp; done) | (simp; omega) | (simp [later_size]; done) | (simp [later_size]; omega)) (Nat.le_refl _); clear hown hbe hg) | ((with_reducible refine wp_region_later (by kernel_rfl) (by kernel_rfl) ?_); (repeat (first | go_big_quiet_skip | quiet_step ((fail)))); refine wpQuiet_nil ?_; rintro _ ⟨p, rfl⟩))
        all_goals
          go_roundw
          case rel => exact ⟨j + 1, acc ++ [(x1, x2)], L + 1, by go_num, by omega, by simp [HL.out], frOf_yes HF.out HX.out he, HW1.out, later_of_below hG1⟩
          case measure => simp [intOf]; omega
      · have hed : decide (x3 > 0) = false := decide_eq_false he
        go_wp2_with (first | ((with_reducible refine wp_region_later (by kernel_rfl) (by kernel_rfl) ?_); (repeat (first | go_big_quiet_skip | quiet_step ((fail)))); refine wpQuiet_nil ?_; rintro _ ⟨p, rfl⟩))
        all_goals
          go_roundw
          case rel => exact ⟨j + 1, acc, L, by go_num, by omega, HL.out, frOf_no HF.out HX.out he, (by (repeat (first | with_reducible exact HW.out | with_reducible refine World.ownsRow.alloc ?_ _ | with_reducible refine ownsRow_later ?_ _ | with_reducible refine World.ownsRow.drew ?_)); done), later_of_below (by (repeat (first | with_reducible exact Below.refl _ _ | with_reducible assumption | with_reducible refine Below.drew ?_ | with_reducible refine below_drewN ?_ _ | with_reducible exact HQ.out | with_reducible exact HBW.out | with_reducible refine below_ext ?_ _ _ | with_reducible refine below_then_later ?_ (by first | with_reducible exact Nat.le_refl _ | with_reducible exact HBW.out.size | with_reducible exact HQ.out.size | omega | (simp; done) | (simp; omega) | (simp [later_size]; done) | (simp [later_size]; omega)) _ | with_reducible refine Below.setCell ?_ (by first | with_reducible exact Nat.le_refl _ | with_reducible exact HBW.out.size | with_reducible exact HQ.out.size | omega | (simp; done) | (simp; omega) | (simp [later_size]; done) | (simp [later_size]; omega)) _ | with_reducible refine Below.alloc ?_ (by first | with_reducible exact Nat.le_refl _ | with_reducible exact HBW.out.size | with_reducible exact HQ.out.size | omega | (simp; done) | (simp; omega) | (simp [later_size]; done) | (simp [later_size]; omega)) _)))⟩
          case measure => simp [intOf]; omega
    · have HJ := Lib.hid (show frOf xs = acc by have := HF.out; rwa [List.take_of_length_le (by rw [HN.out]; omega)] at this)
      clear HF
      obtain ⟨A9, c9, hv9, hO9, hc9, hm9⟩ := own_of_ownsRow lenS HW.out HL.out
      subst hv9
      have HL9 := HL
      have HO9 := Lib.hid hO9
      clear hO9
      go_wp2_with (first | (go_at_call 37; (with_reducible refine (c_iMinimal A9 L c9 acc _ (by first | (simp only [List.length_append, HX.out, HY.out]; done) | exact HL9.out) (by omega) (by (repeat (first | with_reducible exact HO9.out.row | with_reducible refine Row.later ?_ _ | with_reducible refine Row.drew ?_)); done)).mono ?_); rintro _ w9 ⟨A8, n8, c8, rfl, hl8, hc8, hm8, hO8, p8, rfl⟩; (try simp only [later_later] at hO8); have HO8 := Lib.hid hO8; have HL8 := Lib.hid hl8; clear hO8 hl8) | ((with_reducible refine wp_region_later (by kernel_rfl) (by kernel_rfl) ?_); (repeat (first | go_big_quiet_skip | quiet_step ((fail)))); refine wpQuiet_nil ?_; rintro _ ⟨p, rfl⟩))
      all_goals
        go_ret
        rw [HJ.out]
        exact ⟨A8, n8, c8, rfl, HL8.out, hc8, hm8, HO8.out.mono (by first | (simp [later_size]; done) | (simp [later_size]; omega)), later_of_below (by (repeat (first | with_reducible exact Below.refl _ _ | with_reducible assumption | with_reducible refine Below.drew ?_ | with_reducible refine below_drewN ?_ _ | with_reducible exact HQ.out | with_reducible exact HBW.out | with_reducible refine below_ext ?_ _ _ | with_reducible refine below_then_later ?_ (by first | with_reducible exact Nat.le_refl _ | with_reducible exact HBW.out.size | with_reducible exact HQ.out.size | omega | (simp; done) | (simp; omega) | (simp [later_size]; done) | (simp [later_size]; omega)) _ | with_reducible refine Below.setCell ?_ (by first | with_reducible exact Nat.le_refl _ | with_reducible exact HBW.out.size | with_reducible exact HQ.out.size | omega | (simp; done) | (simp; omega) | (simp [later_size]; done) | (simp [later_size]; omega)) _ | with_reducible refine Below.alloc ?_ (by first | with_reducible exact Nat.le_refl _ | with_reducible exact HBW.out.size | with_reducible exact HQ.out.size | omega | (simp; done) | (simp; omega) | (simp [later_size]; done) | (simp [later_size]; omega)) _)))⟩
set_option maxHeartbeats 3200000 in
theorem c_sFrontOf (A : Option Addr) (n c : Nat) (xs : List ((Int × Int) × Int)) (w : World) (hn : xs.length = n) (hn2 : n ≤ 4294967296)
    (ha : Row encC 3 w A xs) : Calls Try.prog 17 #[.slice A n c] w (MadeOwn encS 2 id (minimal (frOf xs)) w) := by
  obtain ⟨i0, hi0, hz0, hs0, hb0⟩ := info_parts infoSt
  have HI := Lib.hid hi0
  have HZ := Lib.hid hz0
  have HS := Lib.hid hs0
  have HB := Lib.hid hb0
  clear hi0 hz0 hs0 hb0
  have HA := Lib.hid ha
  have HN := Lib.hid hn
  clear ha hn
  go_enter Try.func17, Try.ntmps17
  go_wp2_with fail
  go_loopw [3, 4] (fun v ii wr => ∃ (j : Nat) (acc : List (Int × Int)) (L : Nat), ii = .int .i64 j ∧ j ≤ n ∧ acc.length = L ∧ frOf (xs.take j) = acc ∧ wr.ownsRow w.heap.size 26 2 v L (acc.flatMap encS) ∧ ∃ p : Later, wr = later w p) (fun _ ii _ => n - (intOf ii).toNat)
  case atStart => exact ⟨0, [], 0, rfl, by omega, rfl, rfl, own_empty _ _ _ _ _ (by first | rfl | (simp; done) | (simp [later_size]; done)) (by simp), later_of_below (by (repeat (first | with_reducible exact Below.refl _ _ | with_reducible assumption | with_reducible refine Below.drew ?_ | with_reducible refine below_drewN ?_ _ | with_reducible exact HQ.out | with_reducible exact HBW.out | with_reducible refine below_ext ?_ _ _ | with_reducible refine below_then_later ?_ (by first | with_reducible exact Nat.le_refl _ | with_reducible exact HBW.out.size | with_reducible exact HQ.out.size | omega | (simp; done) | (simp; omega) | (simp [later_size]; done) | (simp [later_size]; omega)) _ | with_reducible refine Below.setCell ?_ (by first | with_reducible exact Nat.le_refl _ | with_reducible exact HBW.out.size | with_reducible exact HQ.out.size | omega | (simp; done) | (simp; omega) | (simp [later_size]; done) | (simp [later_size]; omega)) _ | with_reducible refine Below.alloc ?_ (by first | with_reducible exact Nat.le_refl _ | with_reducible exact HBW.out.size | with_reducible exact HQ.out.size | omega | (simp; done) | (simp; omega) | (simp [later_size]; done) | (simp [later_size]; omega)) _)))⟩
  case round =>
    obtain ⟨j, acc, L, rfl, hj, hL, hF, hW, pw, rfl⟩ := hrel
    have hlen : L ≤ j := by
      rw [← hL, ← hF]
      exact Nat.le_trans (frOf_len _) (List.length_take_le _ _)
    have HF := Lib.hid hF
    have HW := Lib.hid hW
    have HL := Lib.hid hL
    clear hF hW hL
    by_cases hlt : j < n
    · obtain ⟨x, hx⟩ : ∃ x, xs[j]? = some x := ⟨_, List.getElem?_eq_getElem (by rw [HN.out]; exact hlt)⟩
      obtain ⟨bk, off, rfl, hcx⟩ := HA.out.at_ hx
      have HX := Lib.hid hx
      have hbl := World.block_lt_of_cell? _ _ (hcx 0 _ rfl)
      simp only at hbl
      have hble := Nat.le_of_lt hbl
      obtain ⟨⟨x1, x2⟩, x3⟩ := x
      have hx0 := hcx 0 _ rfl
      have hx1 := hcx 1 _ rfl
      have hx2 := hcx 2 _ rfl
      clear hcx hx
      simp only [Nat.add_zero] at *
      by_cases he : 0 < x3
      · have hed : decide (x3 > 0) = true := decide_eq_true he
        go_wp2_with (first | (at_builtin; refine wpList_append_row _ encS 2 lenS (by decide) oneS rfl (.tmp 18) (.tmp 24) 38 rfl w.heap.size 26 i0 _ 16 Try.underlying38 HI.out HZ.out HS.out HB.out rfl u3 L acc rfl (by (repeat (first | with_reducible exact HW.out | with_reducible refine World.ownsRow.alloc ?_ _ | with_reducible refine ownsRow_later ?_ _ | with_reducible refine World.ownsRow.drew ?_)); done) _ _ _ [(x1, x2)] rfl rfl (row_oneS (x1, x2) _ _ _ (by first | with_reducible rfl | (simp; done) | (simp [later_size]; done) | (simp [later_size]; omega))) (by unfold maxLen; omega) (by omega) (by first | (simp; done) | (simp; omega) | (simp [later_size]; done) | (simp [later_size]; omega)) ?_; intro v1 w1 hown hg hbe; have HW1 := Lib.hid hown; have hG1 := hbe w.heap.size w (by (repeat (first | with_reducible exact Below.refl _ _ | with_reducible assumption | with_reducible refine Below.drew ?_ | with_reducible refine below_drewN ?_ _ | with_reducible exact HQ.out | with_reducible exact HBW.out | with_reducible refine below_ext ?_ _ _ | with_reducible refine below_then_later ?_ (by first | with_reducible exact Nat.le_refl _ | with_reducible exact HBW.out.size | with_reducible exact HQ.out.size | omega | (simp; done) | (simp; omega) | (simp [later_size]; done) | (simp [later_size]; omega)) _ | with_reducible refine Below.setCell ?_ (by first | with_reducible exact Nat.le_refl _ | with_reducible exact HBW.out.size | with_reducible exact HQ.out.size | omega | (simp; done) | (simp; omega) | (simp [later_size]; done) | (simp [later_size]; omega)) _ | with_reducible refine Below.alloc ?_ (by first | with_reducible exact Nat.le_refl _ | with_reducible exact HBW.out.size | with_reducible exact HQ.out.size | omega | (simp; done) | (simp; omega) | (simp [later_size]; done) | (simp [later_size]; omega)) _))) (by first | (simp; done) | (simp; omega) | (simp [later_size]; done) | (simp [later_size]; omega)) (Nat.le_refl _); clear hown hbe hg) | ((with_reducible refine wp_region_later (by kernel_rfl) (by kernel_rfl) ?_); (repeat (first | go_big_quiet_skip | quiet_step ((fail)))); refine wpQuiet_nil ?_; rintro _ ⟨p, rfl⟩))
        all_goals
          go_roundw
          case rel => exact ⟨j + 1, acc ++ [(x1, x2)], L + 1, by go_num, by omega, by simp [HL.out], frOf_yes HF.out HX.out he, HW1.out, later_of_below hG1⟩
          case measure => simp [intOf]; omega
      · have hed : decide (x3 > 0) = false := decide_eq_false he
        go_wp2_with (first | ((with_reducible refine wp_region_later (by kernel_rfl) (by kernel_rfl) ?_); (repeat (first | go_big_quiet_skip | quiet_step ((fail)))); refine wpQuiet_nil ?_; rintro _ ⟨p, rfl⟩))
        all_goals
          go_roundw
          case rel => exact ⟨j + 1, acc, L, by go_num, by omega, HL.out, frOf_no HF.out HX.out he, (by (repeat (first | with_reducible exact HW.out | with_reducible refine World.ownsRow.alloc ?_ _ | with_reducible refine ownsRow_later ?_ _ | with_reducible refine World.ownsRow.drew ?_)); done), later_of_below (by (repeat (first | with_reducible exact Below.refl _ _ | with_reducible assumption | with_reducible refine Below.drew ?_ | with_reducible refine below_drewN ?_ _ | with_reducible exact HQ.out | with_reducible exact HBW.out | with_reducible refine below_ext ?_ _ _ | with_reducible refine below_then_later ?_ (by first | with_reducible exact Nat.le_refl _ | with_reducible exact HBW.out.size | with_reducible exact HQ.out.size | omega | (simp; done) | (simp; omega) | (simp [later_size]; done) | (simp [later_size]; omega)) _ | with_reducible refine Below.setCell ?_ (by first | with_reducible exact Nat.le_refl _ | with_reducible exact HBW.out.size | with_reducible exact HQ.out.size | omega | (simp; done) | (simp; omega) | (simp [later_size]; done) | (simp [later_size]; omega)) _ | with_reducible refine Below.alloc ?_ (by first | with_reducible exact Nat.le_refl _ | with_reducible exact HBW.out.size | with_reducible exact HQ.out.size | omega | (simp; done) | (simp; omega) | (simp [later_size]; done) | (simp [later_size]; omega)) _)))⟩
          case measure => simp [intOf]; omega
    · have HJ := Lib.hid (show frOf xs = acc by have := HF.out; rwa [List.take_of_length_le (by rw [HN.out]; omega)] at this)
      clear HF
      obtain ⟨A9, c9, hv9, hO9, hc9, hm9⟩ := own_of_ownsRow lenS HW.out HL.out
      subst hv9
      have HL9 := HL
      have HO9 := Lib.hid hO9
      clear hO9
      go_wp2_with (first | (go_at_call 38; (with_reducible refine (c_sMinimal A9 L c9 acc _ (by first | (simp only [List.length_append, HX.out, HY.out]; done) | exact HL9.out) (by omega) (by (repeat (first | with_reducible exact HO9.out.row | with_reducible refine Row.later ?_ _ | with_reducible refine Row.drew ?_)); done)).mono ?_); rintro _ w9 ⟨A8, n8, c8, rfl, hl8, hc8, hm8, hO8, p8, rfl⟩; (try simp only [later_later] at hO8); have HO8 := Lib.hid hO8; have HL8 := Lib.hid hl8; clear hO8 hl8) | ((with_reducible refine wp_region_later (by kernel_rfl) (by kernel_rfl) ?_); (repeat (first | go_big_quiet_skip | quiet_step ((fail)))); refine wpQuiet_nil ?_; rintro _ ⟨p, rfl⟩))
      all_goals
        go_ret
        rw [HJ.out]
        exact ⟨A8, n8, c8, rfl, HL8.out, hc8, hm8, HO8.out.mono (by first | (simp [later_size]; done) | (simp [later_size]; omega)), later_of_below (by (repeat (first | with_reducible exact Below.refl _ _ | with_reducible assumption | with_reducible refine Below.drew ?_ | with_reducible refine below_drewN ?_ _ | with_reducible exact HQ.out | with_reducible exact HBW.out | with_reducible refine below_ext ?_ _ _ | with_reducible refine below_then_later ?_ (by first | with_reducible exact Nat.le_refl _ | with_reducible exact HBW.out.size | with_reducible exact HQ.out.size | omega | (simp; done) | (simp; omega) | (simp [later_size]; done) | (simp [later_size]; omega)) _ | with_reducible refine Below.setCell ?_ (by first | with_reducible exact Nat.le_refl _ | with_reducible exact HBW.out.size | with_reducible exact HQ.out.size | omega | (simp; done) | (simp; omega) | (simp [later_size]; done) | (simp [later_size]; omega)) _ | with_reducible refine Below.alloc ?_ (by first | with_reducible exact Nat.le_refl _ | with_reducible exact HBW.out.size | with_reducible exact HQ.out.size | omega | (simp; done) | (simp; omega) | (simp [later_size]; done) | (simp [later_size]; omega)) _)))⟩
theorem m_iMinimal (A : Option Addr) (n c : Nat) (xs r : List (Int × Int)) (w : World) (hn : xs.length = n) (hn2 : n ≤ 4294967296) (ha : Row encS 2 w A xs) (hr : minimal xs = r) : Calls Try.prog 37 #[.slice A n c] w (MadeOwn encS 2 id r w) := hr ▸ c_iMinimal A n c xs w hn hn2 ha
theorem m_iFrontOf (A : Option Addr) (n c : Nat) (xs : List ((Int × Int) × Int)) (r : List (Int × Int)) (w : World) (hn : xs.length = n) (hn2 : n ≤ 4294967296) (ha : Row encC 3 w A xs) (hr : minimal (frOf xs) = r) : Calls Try.prog 15 #[.slice A n c] w (MadeOwn encS 2 id r w) := hr ▸ c_iFrontOf A n c xs w hn hn2 ha
theorem m_sMinimal (A : Option Addr) (n c : Nat) (xs r : List (Int × Int)) (w : World) (hn : xs.length = n) (hn2 : n ≤ 4294967296) (ha : Row encS 2 w A xs) (hr : minimal xs = r) : Calls Try.prog 38 #[.slice A n c] w (MadeOwn encS 2 id r w) := hr ▸ c_sMinimal A n c xs w hn hn2 ha
theorem m_sFrontOf (A : Option Addr) (n c : Nat) (xs : List ((Int × Int) × Int)) (r : List (Int × Int)) (w : World) (hn : xs.length = n) (hn2 : n ≤ 4294967296) (ha : Row encC 3 w A xs) (hr : minimal (frOf xs) = r) : Calls Try.prog 17 #[.slice A n c] w (MadeOwn encS 2 id r w) := hr ▸ c_sFrontOf A n c xs w hn hn2 ha
end Go.Proofs.Ythnemjaipdheoaa
