/-
  slices.ContainsFunc at the program's three closures, and what rests on it: EpochOver, Ahead, FrontLeq, SameFront; the law's counting down. Conditions: the length fits an int.
-/
import Derived.Test.YthnemjaipdheoaaRead
import Derived.Test.YthnemjaipdheoaaEq
import Derived.Test.YthnemjaipdheoaaBelowP
namespace Go.Proofs.Ythnemjaipdheoaa
open Go.RowKit
set_option linter.unusedVariables false

theorem idx_lt {α : Type} {P : α → Bool} {xs : List α} {n : Nat} (hn : xs.length = n) (h : xs.any P = true) : xs.findIdx P < n := by
  rw [← hn]; exact List.findIdx_lt_length.2 (by simpa using h)

set_option maxHeartbeats 800000 in
theorem cl_Minimal (x1 x2 : Int) (q : Nat) (a b' : Int) (w : World) (hcap : w.cell? ⟨q, 0, Option.none⟩ = some (.int .i64 a) ∧ w.cell? ⟨q, 1, Option.none⟩ = some (.int .i64 b')) : Calls Try.prog 45 #[.agg #[.int .i64 x1, .int .i64 x2], .pointer (some ⟨q, 0, Option.none⟩)] w (Gives (.bool (belowP a b' (x1, x2))) w) := by
  obtain ⟨hcap0, hcap1⟩ := hcap
  have hq := World.block_lt_of_cell? _ _ hcap0
  simp only at hq
  have hqle := Nat.le_of_lt hq
  go_enter Try.func45, Try.ntmps45
  go_wp2_with (first | (go_at_call 46; (refine (c_iStampLeq _ _ _ _ _).mono ?_); rintro _ _ ⟨rfl, p, rfl⟩) | ((with_reducible refine wp_region_later (by kernel_rfl) (by kernel_rfl) ?_); (repeat (first | go_big_quiet_skip | quiet_step ((first | (go_at_call 46; first | exact calls_later (c_iStampLeq _ _ _ _ _) | exact calls_later2 (c_iStampLeq _ _ _ _ _)))))); refine wpQuiet_nil ?_; rintro _ ⟨p, rfl⟩))
  all_goals
    go_ret
    exact Gives.mk (ret_bool (by simp [belowP, *])) (by (repeat (first | with_reducible exact Below.refl _ _ | with_reducible assumption | with_reducible refine Below.drew ?_ | with_reducible refine below_drewN ?_ _ | with_reducible exact HQ.out | with_reducible exact HBW.out | with_reducible refine below_ext ?_ _ _ | with_reducible refine below_then_later ?_ (by first | with_reducible exact Nat.le_refl _ | with_reducible exact HBW.out.size | with_reducible exact HQ.out.size | omega | (simp; done) | (simp; omega) | (simp [later_size]; done) | (simp [later_size]; omega)) _ | with_reducible refine Below.setCell ?_ (by first | with_reducible exact Nat.le_refl _ | with_reducible exact HBW.out.size | with_reducible exact HQ.out.size | omega | (simp; done) | (simp; omega) | (simp [later_size]; done) | (simp [later_size]; omega)) _ | with_reducible refine Below.alloc ?_ (by first | with_reducible exact Nat.le_refl _ | with_reducible exact HBW.out.size | with_reducible exact HQ.out.size | omega | (simp; done) | (simp; omega) | (simp [later_size]; done) | (simp [later_size]; omega)) _)))
theorem clb_Minimal (x1 x2 : Int) (q : Nat) (a b' : Int) (w : World) (z : Bool) (hcap : w.cell? ⟨q, 0, Option.none⟩ = some (.int .i64 a) ∧ w.cell? ⟨q, 1, Option.none⟩ = some (.int .i64 b')) (h : belowP a b' (x1, x2) = z) : Calls Try.prog 45 #[.agg #[.int .i64 x1, .int .i64 x2], .pointer (some ⟨q, 0, Option.none⟩)] w (Gives (.bool z) w) := by
  subst h; exact cl_Minimal x1 x2 q a b' w hcap
set_option maxHeartbeats 1600000 in
theorem ix_Minimal (A : Option Addr) (n c : Nat) (xs : List (Int × Int)) (q : Nat) (a b' : Int) (w : World) (hn : xs.length = n) (hn2 : n ≤ 9223372036854775807)
    (ha : Row encS 2 w A xs) (hcap : w.cell? ⟨q, 0, Option.none⟩ = some (.int .i64 a) ∧ w.cell? ⟨q, 1, Option.none⟩ = some (.int .i64 b')) : Calls Try.prog 51 #[.slice A n c, .func (.func 45) #[] #[.pointer (some ⟨q, 0, Option.none⟩)]] w (fun e w' => ∃ i : Int, (0 ≤ i ↔ xs.any (belowP a b') = true) ∧ -1 ≤ i ∧ i ≤ 9223372036854775807 ∧ Gives (.int .i64 i) w e w') := by
  have HA := Lib.hid ha
  have HN := Lib.hid hn
  have HC := fun (x1 x2 : Int) (z : Bool) (hz : belowP a b' (x1, x2) = z) (p : Later) => clb_Minimal x1 x2 q a b' (later w p) z ⟨by rw [later_cell (by rw [hcap.1]; rfl)]; exact hcap.1, by rw [later_cell (by rw [hcap.2]; rfl)]; exact hcap.2⟩ hz
  clear ha hn hcap
  have HCC := Lib.hid HC
  clear HC
  go_enter Try.func51, Try.ntmps51
  go_wp2_with fail
  go_loopw [5, 8] (fun s0 s1 wr => ∃ k : Nat, s1 = .int .i64 k ∧ k ≤ n ∧ (xs.take k).any (belowP a b') = false ∧ ∃ p : Later, wr = later w p) (fun s0 s1 _ => n - (intOf s1).toNat)
  case atStart => exact ⟨0, rfl, by omega, by simp, later_refl _⟩
  case round =>
    obtain ⟨k, rfl, hk, hT, p, rfl⟩ := hrel
    have HT := Lib.hid hT
    clear hT
    by_cases hlt : k < n
    · obtain ⟨x, hx⟩ : ∃ x, xs[k]? = some x := ⟨_, List.getElem?_eq_getElem (by rw [HN.out]; exact hlt)⟩
      obtain ⟨b, off, rfl, hcx⟩ := HA.out.at_ hx
      have HX := Lib.hid hx
      have hbl := World.block_lt_of_cell? _ _ (hcx 0 _ rfl)
      simp only at hbl
      have hble := Nat.le_of_lt hbl
      obtain ⟨x1, x2⟩ := x
      have hx0 := hcx 0 _ rfl
      have hx1 := hcx 1 _ rfl
      clear hcx hx
      simp only [Nat.add_zero] at *
      by_cases he : belowP a b' (x1, x2) = true
      · have HE := Lib.hid he
        clear he
        go_wp2_with (first | (go_at_call 45; (refine (HCC.out _ _ true HE.out _).mono ?_); rintro _ _ ⟨rfl, p, rfl⟩) | ((with_reducible refine wp_region_later (by kernel_rfl) (by kernel_rfl) ?_); (repeat (first | go_big_quiet_skip | quiet_step ((first | (go_at_call 45; first | exact calls_later (HCC.out _ _ true HE.out _) | exact calls_later2 (HCC.out _ _ true HE.out _)))))); refine wpQuiet_nil ?_; rintro _ ⟨p, rfl⟩))
        all_goals
          go_ret
          refine ⟨_, ?_, ?_, ?_, Gives.mk rfl (by (repeat (first | with_reducible exact Below.refl _ _ | with_reducible assumption | with_reducible refine Below.drew ?_ | with_reducible refine below_drewN ?_ _ | with_reducible exact HQ.out | with_reducible exact HBW.out | with_reducible refine below_ext ?_ _ _ | with_reducible refine below_then_later ?_ (by first | with_reducible exact Nat.le_refl _ | with_reducible exact HBW.out.size | with_reducible exact HQ.out.size | omega | (simp; done) | (simp; omega) | (simp [later_size]; done) | (simp [later_size]; omega)) _ | with_reducible refine Below.setCell ?_ (by first | with_reducible exact Nat.le_refl _ | with_reducible exact HBW.out.size | with_reducible exact HQ.out.size | omega | (simp; done) | (simp; omega) | (simp [later_size]; done) | (simp [later_size]; omega)) _ | with_reducible refine Below.alloc ?_ (by first | with_reducible exact Nat.le_refl _ | with_reducible exact HBW.out.size | with_reducible exact HQ.out.size | omega | (simp; done) | (simp; omega) | (simp [later_size]; done) | (simp [later_size]; omega)) _)))⟩
          · simp [any_hit HX.out HE.out]
          · omega
          · omega
      · have he' : belowP a b' (x1, x2) = false := by simpa using he
        have HE := Lib.hid he'
        clear he he'
        go_wp2_with (first | (go_at_call 45; (refine (HCC.out _ _ false HE.out _).mono ?_); rintro _ _ ⟨rfl, p, rfl⟩) | ((with_reducible refine wp_region_later (by kernel_rfl) (by kernel_rfl) ?_); (repeat (first | go_big_quiet_skip | quiet_step ((first | (go_at_call 45; first | exact calls_later (HCC.out _ _ false HE.out _) | exact calls_later2 (HCC.out _ _ false HE.out _)))))); refine wpQuiet_nil ?_; rintro _ ⟨p, rfl⟩))
        all_goals
          go_roundw
          case rel => exact ⟨k + 1, by go_num, by omega, any_succ HT.out HX.out HE.out, later_of_below (by (repeat (first | with_reducible exact Below.refl _ _ | with_reducible assumption | with_reducible refine Below.drew ?_ | with_reducible refine below_drewN ?_ _ | with_reducible exact HQ.out | with_reducible exact HBW.out | with_reducible refine below_ext ?_ _ _ | with_reducible refine below_then_later ?_ (by first | with_reducible exact Nat.le_refl _ | with_reducible exact HBW.out.size | with_reducible exact HQ.out.size | omega | (simp; done) | (simp; omega) | (simp [later_size]; done) | (simp [later_size]; omega)) _ | with_reducible refine Below.setCell ?_ (by first | with_reducible exact Nat.le_refl _ | with_reducible exact HBW.out.size | with_reducible exact HQ.out.size | omega | (simp; done) | (simp; omega) | (simp [later_size]; done) | (simp [later_size]; omega)) _ | with_reducible refine Below.alloc ?_ (by first | with_reducible exact Nat.le_refl _ | with_reducible exact HBW.out.size | with_reducible exact HQ.out.size | omega | (simp; done) | (simp; omega) | (simp [later_size]; done) | (simp [later_size]; omega)) _)))⟩
          case measure => simp [intOf]; omega
    · have hkn : k = n := by omega
      have HE := Lib.hid (any_end (hkn ▸ HT.out) HN.out)
      clear hkn
      go_wp2_with (first | ((with_reducible refine wp_region_later (by kernel_rfl) (by kernel_rfl) ?_); (repeat (first | go_big_quiet_skip | quiet_step ((fail)))); refine wpQuiet_nil ?_; rintro _ ⟨p, rfl⟩))
      all_goals
        go_ret
        refine ⟨_, ?_, ?_, ?_, Gives.mk rfl (by (repeat (first | with_reducible exact Below.refl _ _ | with_reducible assumption | with_reducible refine Below.drew ?_ | with_reducible refine below_drewN ?_ _ | with_reducible exact HQ.out | with_reducible exact HBW.out | with_reducible refine below_ext ?_ _ _ | with_reducible refine below_then_later ?_ (by first | with_reducible exact Nat.le_refl _ | with_reducible exact HBW.out.size | with_reducible exact HQ.out.size | omega | (simp; done) | (simp; omega) | (simp [later_size]; done) | (simp [later_size]; omega)) _ | with_reducible refine Below.setCell ?_ (by first | with_reducible exact Nat.le_refl _ | with_reducible exact HBW.out.size | with_reducible exact HQ.out.size | omega | (simp; done) | (simp; omega) | (simp [later_size]; done) | (simp [later_size]; omega)) _ | with_reducible refine Below.alloc ?_ (by first | with_reducible exact Nat.le_refl _ | with_reducible exact HBW.out.size | with_reducible exact HQ.out.size | omega | (simp; done) | (simp; omega) | (simp [later_size]; done) | (simp [later_size]; omega)) _)))⟩
        · simp [HE.out]
        · omega
        · omega
set_option maxHeartbeats 800000 in
theorem cf_Minimal (A : Option Addr) (n c : Nat) (xs : List (Int × Int)) (q : Nat) (a b' : Int) (w : World) (hn : xs.length = n) (hn2 : n ≤ 9223372036854775807)
    (ha : Row encS 2 w A xs) (hcap : w.cell? ⟨q, 0, Option.none⟩ = some (.int .i64 a) ∧ w.cell? ⟨q, 1, Option.none⟩ = some (.int .i64 b')) : Calls Try.prog 44 #[.slice A n c, .func (.func 45) #[] #[.pointer (some ⟨q, 0, Option.none⟩)]] w (Gives (.bool (xs.any (belowP a b'))) w) := by
  have HI := Lib.hid (ix_Minimal A n c xs q a b' w hn hn2 ha hcap)
  clear ha hn hcap
  go_enter Try.func44, Try.ntmps44
  go_wp2_with fail
  refine HI.out.mono ?_
  rintro _ _ ⟨i, h1, h2, h3, rfl, p, rfl⟩
  have H1 := Lib.hid h1
  clear h1 HI
  by_cases h0 : 0 ≤ i
  · have H2 := Lib.hid (H1.out.1 h0)
    clear H1
    go_wp2
    go_ret
    exact Gives.mk (ret_bool (by rw [H2.out])) (by (repeat (first | with_reducible exact Below.refl _ _ | with_reducible assumption | with_reducible refine Below.drew ?_ | with_reducible refine below_drewN ?_ _ | with_reducible exact HQ.out | with_reducible exact HBW.out | with_reducible refine below_ext ?_ _ _ | with_reducible refine below_then_later ?_ (by first | with_reducible exact Nat.le_refl _ | with_reducible exact HBW.out.size | with_reducible exact HQ.out.size | omega | (simp; done) | (simp; omega) | (simp [later_size]; done) | (simp [later_size]; omega)) _ | with_reducible refine Below.setCell ?_ (by first | with_reducible exact Nat.le_refl _ | with_reducible exact HBW.out.size | with_reducible exact HQ.out.size | omega | (simp; done) | (simp; omega) | (simp [later_size]; done) | (simp [later_size]; omega)) _ | with_reducible refine Below.alloc ?_ (by first | with_reducible exact Nat.le_refl _ | with_reducible exact HBW.out.size | with_reducible exact HQ.out.size | omega | (simp; done) | (simp; omega) | (simp [later_size]; done) | (simp [later_size]; omega)) _)))
  · have hf : xs.any (belowP a b') = false := by
      cases hh : xs.any (belowP a b')
      · rfl
      · exact absurd (H1.out.2 hh) h0
    have H2 := Lib.hid hf
    clear H1 hf
    go_wp2
    go_ret
    exact Gives.mk (ret_bool (by rw [H2.out]; simp; omega)) (by (repeat (first | with_reducible exact Below.refl _ _ | with_reducible assumption | with_reducible refine Below.drew ?_ | with_reducible refine below_drewN ?_ _ | with_reducible exact HQ.out | with_reducible exact HBW.out | with_reducible refine below_ext ?_ _ _ | with_reducible refine below_then_later ?_ (by first | with_reducible exact Nat.le_refl _ | with_reducible exact HBW.out.size | with_reducible exact HQ.out.size | omega | (simp; done) | (simp; omega) | (simp [later_size]; done) | (simp [later_size]; omega)) _ | with_reducible refine Below.setCell ?_ (by first | with_reducible exact Nat.le_refl _ | with_reducible exact HBW.out.size | with_reducible exact HQ.out.size | omega | (simp; done) | (simp; omega) | (simp [later_size]; done) | (simp [later_size]; omega)) _ | with_reducible refine Below.alloc ?_ (by first | with_reducible exact Nat.le_refl _ | with_reducible exact HBW.out.size | with_reducible exact HQ.out.size | omega | (simp; done) | (simp; omega) | (simp [later_size]; done) | (simp [later_size]; omega)) _)))
end Go.Proofs.Ythnemjaipdheoaa
