/-
  MergeFronts, FrontOf, FrontierOk of both sides. Conditions: the lengths are at most 2^32 (together).
-/
import Derived.Test.YtkjgllcfgljkeaaMinI
import Derived.Test.YtkjgllcfgljkeaaMinS
import Derived.Test.YtkjgllcfgljkeaaFn
import Derived.Test.YtkjgllcfgljkeaaRead
namespace Go.Proofs.Ytkjgllcfgljkeaa
open Go.RowKit
set_option linter.unusedVariables false
def frOf (xs : List ((Int × Int) × Int)) : List (Int × Int) := (xs.filter fun x => decide (0 < x.2)).map (·.1)
theorem frOf_len (xs : List ((Int × Int) × Int)) : (frOf xs).length ≤ xs.length := by unfold frOf; rw [List.length_map]; exact List.length_filter_le _ _
theorem frOf_yes {xs : List ((Int × Int) × Int)} {acc : List (Int × Int)} {k : Nat} {a b z : Int} (h : frOf (xs.take k) = acc) (hx : xs[k]? = some ((a, b), z)) (he : 0 < z) : frOf (xs.take (k + 1)) = acc ++ [(a, b)] := by
  unfold frOf at h ⊢
  rw [List.take_add_one, hx, List.filter_append, List.map_append, h]
  simp [he]
theorem frOf_no {xs : List ((Int × Int) × Int)} {acc : List (Int × Int)} {k : Nat} {a b z : Int} (h : frOf (xs.take k) = acc) (hx : xs[k]? = some ((a, b), z)) (he : ¬ 0 < z) : frOf (xs.take (k + 1)) = acc := by
  unfold frOf at h ⊢
  rw [List.take_add_one, hx, List.filter_append, List.map_append, h]
  simp [he]
def notOk (x : Int × Int) : Bool := !stOk x.1 x.2
def frOk (xs : List (Int × Int)) : Bool := !xs.any notOk && decide (xs = minimal xs)
theorem dec_symm {α : Type} [DecidableEq α] (x y : α) : decide (x = y) = (!false && decide (y = x)) := by
  simp only [Bool.not_false, Bool.true_and]
  exact decide_eq_decide.2 ⟨Eq.symm, Eq.symm⟩
set_option maxHeartbeats 1600000 in
theorem c_iMergeFronts (A : Option Addr) (n c : Nat) (xs : List (Int × Int)) (B : Option Addr) (m d : Nat) (ys : List (Int × Int)) (w : World) (hn : xs.length = n) (hm : ys.length = m) (hs : n + m ≤ 4294967296)
    (ha : Row encS 2 w A xs) (hb : Row encS 2 w B ys) : Calls Try.prog 7 #[.slice A n c, .slice B m d] w (MadeOwn encS 2 id (minimal (xs ++ ys)) w) := by
  obtain ⟨i0, hi0, hz0, hs0, hb0⟩ := info_parts infoSt
  have HI := Lib.hid hi0
  have HZ := Lib.hid hz0
  have HS := Lib.hid hs0
  have HB := Lib.hid hb0
  clear hi0 hz0 hs0 hb0
  have HA := Lib.hid ha
  have HBB := Lib.hid hb
  have HX := Lib.hid hn
  have HY := Lib.hid hm
  clear ha hb hn hm
  go_enter Try.func7, Try.ntmps7
  go_wp2_with (first | (at_builtin; refine wpList_append_row _ encS 2 lenS (by decide) oneS rfl (.const (.slice Option.none 0 0)) (.tmp 5) 24 rfl w.heap.size 32 i0 _ 16 Try.underlying24 HI.out HZ.out HS.out HB.out rfl (.slice Option.none 0 0) 0 [] rfl (by (repeat (first | exact World.ownsRow_nil _ _ _ _ | exact own_empty _ _ _ _ _ (by first | rfl | (simp; done)) (by simp) | with_reducible refine World.ownsRow.alloc ?_ _ | with_reducible refine World.ownsRow.drew ?_)); done) _ _ _ xs rfl HX.out (by (repeat (first | with_reducible exact HA.out | with_reducible refine Row.alloc ?_ _ | with_reducible refine Row.drew ?_)); done) (by unfold maxLen; omega) (by omega) (by first | (simp; done) | (simp; omega) | (simp [later_size]; done) | (simp [later_size]; omega)) ?_; intro v1 w1 hown hg hbe; have HQ := Lib.hid (hbe w.heap.size w (by (repeat (first | with_reducible exact Below.refl _ _ | with_reducible assumption | with_reducible refine Below.drew ?_ | with_reducible refine below_drewN ?_ _ | with_reducible exact HQ.out | with_reducible exact HBW.out | with_reducible refine below_ext ?_ _ _ | with_reducible refine below_then_later ?_ (by first | with_reducible exact Nat.le_refl _ | with_reducible exact HBW.out.size | with_reducible exact HQ.out.size | omega | (simp; done) | (simp; omega) | (simp [later_size]; done) | (simp [later_size]; omega)) _ | with_reducible refine Below.setCell ?_ (by first | with_reducible exact Nat.le_refl _ | with_reducible exact HBW.out.size | with_reducible exact HQ.out.size | omega | (simp; done) | (simp; omega) | (simp [later_size]; done) | (simp [later_size]; omega)) _ | with_reducible refine Below.alloc ?_ (by first | with_reducible exact Nat.le_refl _ | with_reducible exact HBW.out.size | with_reducible exact HQ.out.size | omega | (simp; done) | (simp; omega) | (simp [later_size]; done) | (simp [later_size]; omega)) _))) (by first | (simp; done) | (simp; omega) | (simp [later_size]; done) | (simp [later_size]; omega)) (Nat.le_refl _)); simp only [Nat.zero_add, List.nil_append] at hown; have HW := Lib.hid hown; clear hown hg hbe) | (at_builtin; refine wpList_append_row _ encS 2 lenS (by decide) oneS rfl (.tmp 6) (.tmp 7) 24 rfl w.heap.size 32 i0 _ 16 Try.underlying24 HI.out HZ.out HS.out HB.out rfl v1 n xs rfl (by (repeat (first | with_reducible exact HW.out | with_reducible refine World.ownsRow.alloc ?_ _ | with_reducible refine ownsRow_later ?_ _ | with_reducible refine World.ownsRow.drew ?_)); done) _ _ _ ys rfl HY.out (HBB.out.below HQ.out) (by unfold maxLen; omega) (by omega) (by first | exact HQ.out.size | with_reducible rfl | exact Nat.le_refl _ | (simp; done) | (simp; omega)) ?_; intro v2 w2 hown hg hbe; have HQ2 := Lib.hid (hbe w.heap.size w (by (repeat (first | with_reducible exact Below.refl _ _ | with_reducible assumption | with_reducible refine Below.drew ?_ | with_reducible refine below_drewN ?_ _ | with_reducible exact HQ.out | with_reducible exact HBW.out | with_reducible refine below_ext ?_ _ _ | with_reducible refine below_then_later ?_ (by first | with_reducible exact Nat.le_refl _ | with_reducible exact HBW.out.size | with_reducible exact HQ.out.size | omega | (simp; done) | (simp; omega) | (simp [later_size]; done) | (simp [later_size]; omega)) _ | with_reducible refine Below.setCell ?_ (by first | with_reducible exact Nat.le_refl _ | with_reducible exact HBW.out.size | with_reducible exact HQ.out.size | omega | (simp; done) | (simp; omega) | (simp [later_size]; done) | (simp [later_size]; omega)) _ | with_reducible refine Below.alloc ?_ (by first | with_reducible exact Nat.le_refl _ | with_reducible exact HBW.out.size | with_reducible exact HQ.out.size | omega | (simp; done) | (simp; omega) | (simp [later_size]; done) | (simp [later_size]; omega)) _))) (by first | exact HQ.out.size | with_reducible rfl | exact Nat.le_refl _ | (simp; done) | (simp; omega)) (Nat.le_refl _)); obtain ⟨A9, c9, rfl, hO9, hc9, hm9⟩ := own_of_ownsRow lenS hown (by simp only [List.length_append, HX.out, HY.out]); have HO9 := Lib.hid hO9; clear hown hg hbe HW HQ; have HQ := HQ2; clear HQ2) | (go_at_call 8; (with_reducible refine (c_iMinimal A9 (n + m) c9 (xs ++ ys) _ (by first | (simp only [List.length_append, HX.out, HY.out]; done) | exact HL9.out) (by omega) HO9.out.row).mono ?_); rintro _ w9 ⟨A8, n8, c8, rfl, hl8, hc8, hm8, hO8, p8, rfl⟩; (try simp only [later_later] at hO8); have HO8 := Lib.hid hO8; have HL8 := Lib.hid hl8; clear hO8 hl8) | ((with_reducible refine wp_region_later (by kernel_rfl) (by kernel_rfl) ?_); (repeat (first | go_big_quiet_skip | quiet_step ((fail)))); refine wpQuiet_nil ?_; rintro _ ⟨p, rfl⟩))
  all_goals
    go_ret
    exact ⟨A8, n8, c8, rfl, HL8.out, hc8, hm8, HO8.out.mono HQ.out.size, later_of_below (by (repeat (first | with_reducible exact Below.refl _ _ | with_reducible assumption | with_reducible refine Below.drew ?_ | with_reducible refine below_drewN ?_ _ | with_reducible exact HQ.out | with_reducible exact HBW.out | with_reducible refine below_ext ?_ _ _ | with_reducible refine below_then_later ?_ (by first | with_reducible exact Nat.le_refl _ | with_reducible exact HBW.out.size | with_reducible exact HQ.out.size | omega | (simp; done) | (simp; omega) | (simp [later_size]; done) | (simp [later_size]; omega)) _ | with_reducible refine Below.setCell ?_ (by first | with_reducible exact Nat.le_refl _ | with_reducible exact HBW.out.size | with_reducible exact HQ.out.size | omega | (simp; done) | (simp; omega) | (simp [later_size]; done) | (simp [later_size]; omega)) _ | with_reducible refine Below.alloc ?_ (by first | with_reducible exact Nat.le_refl _ | with_reducible exact HBW.out.size | with_reducible exact HQ.out.size | omega | (simp; done) | (simp; omega) | (simp [later_size]; done) | (simp [later_size]; omega)) _)))⟩
set_option maxHeartbeats 1600000 in
theorem c_sMergeFronts (A : Option Addr) (n c : Nat) (xs : List (Int × Int)) (B : Option Addr) (m d : Nat) (ys : List (Int × Int)) (w : World) (hn : xs.length = n) (hm : ys.length = m) (hs : n + m ≤ 4294967296)
    (ha : Row encS 2 w A xs) (hb : Row encS 2 w B ys) : Calls Try.prog 10 #[.slice A n c, .slice B m d] w (MadeOwn encS 2 id (minimal (xs ++ ys)) w) := by
  obtain ⟨i0, hi0, hz0, hs0, hb0⟩ := info_parts infoSt
  have HI := Lib.hid hi0
  have HZ := Lib.hid hz0
  have HS := Lib.hid hs0
  have HB := Lib.hid hb0
  clear hi0 hz0 hs0 hb0
  have HA := Lib.hid ha
  have HBB := Lib.hid hb
  have HX := Lib.hid hn
  have HY := Lib.hid hm
  clear ha hb hn hm
  go_enter Try.func10, Try.ntmps10
  go_wp2_with (first | (at_builtin; refine wpList_append_row _ encS 2 lenS (by decide) oneS rfl (.tmp 5) (.tmp 6) 24 rfl w.heap.size 32 i0 _ 16 Try.underlying24 HI.out HZ.out HS.out HB.out rfl (.slice (some ⟨_, 0, Option.none⟩) 0 0) 0 [] rfl (by (repeat (first | exact World.ownsRow_nil _ _ _ _ | exact own_empty _ _ _ _ _ (by first | rfl | (simp; done)) (by simp) | with_reducible refine World.ownsRow.alloc ?_ _ | with_reducible refine World.ownsRow.drew ?_)); done) _ _ _ xs rfl HX.out (by (repeat (first | with_reducible exact HA.out | with_reducible refine Row.alloc ?_ _ | with_reducible refine Row.drew ?_)); done) (by unfold maxLen; omega) (by omega) (by first | (simp; done) | (simp; omega) | (simp [later_size]; done) | (simp [later_size]; omega)) ?_; intro v1 w1 hown hg hbe; have HQ := Lib.hid (hbe w.heap.size w (by (repeat (first | with_reducible exact Below.refl _ _ | with_reducible assumption | with_reducible refine Below.drew ?_ | with_reducible refine below_drewN ?_ _ | with_reducible exact HQ.out | with_reducible exact HBW.out | with_reducible refine below_ext ?_ _ _ | with_reducible refine below_then_later ?_ (by first | with_reducible exact Nat.le_refl _ | with_reducible exact HBW.out.size | with_reducible exact HQ.out.size | omega | (simp; done) | (simp; omega) | (simp [later_size]; done) | (simp [later_size]; omega)) _ | with_reducible refine Below.setCell ?_ (by first | with_reducible exact Nat.le_refl _ | with_reducible exact HBW.out.size | with_reducible exact HQ.out.size | omega | (simp; done) | (simp; omega) | (simp [later_size]; done) | (simp [later_size]; omega)) _ | with_reducible refine Below.alloc ?_ (by first | with_reducible exact Nat.le_refl _ | with_reducible exact HBW.out.size | with_reducible exact HQ.out.size | omega | (simp; done) | (simp; omega) | (simp [later_size]; done) | (simp [later_size]; omega)) _))) (by first | (simp; done) | (simp; omega) | (simp [later_size]; done) | (simp [later_size]; omega)) (Nat.le_refl _)); simp only [Nat.zero_add, List.nil_append] at hown; have HW := Lib.hid hown; clear hown hg hbe) | (at_builtin; refine wpList_append_row _ encS 2 lenS (by decide) oneS rfl (.tmp 7) (.tmp 8) 24 rfl w.heap.size 32 i0 _ 16 Try.underlying24 HI.out HZ.out HS.out HB.out rfl v1 n xs rfl (by (repeat (first | with_reducible exact HW.out | with_reducible refine World.ownsRow.alloc ?_ _ | with_reducible refine ownsRow_later ?_ _ | with_reducible refine World.ownsRow.drew ?_)); done) _ _ _ ys rfl HY.out (HBB.out.below HQ.out) (by unfold maxLen; omega) (by omega) (by first | exact HQ.out.size | with_reducible rfl | exact Nat.le_refl _ | (simp; done) | (simp; omega)) ?_; intro v2 w2 hown hg hbe; have HQ2 := Lib.hid (hbe w.heap.size w (by (repeat (first | with_reducible exact Below.refl _ _ | with_reducible assumption | with_reducible refine Below.drew ?_ | with_reducible refine below_drewN ?_ _ | with_reducible exact HQ.out | with_reducible exact HBW.out | with_reducible refine below_ext ?_ _ _ | with_reducible refine below_then_later ?_ (by first | with_reducible exact Nat.le_refl _ | with_reducible exact HBW.out.size | with_reducible exact HQ.out.size | omega | (simp; done) | (simp; omega) | (simp [later_size]; done) | (simp [later_size]; omega)) _ | with_reducible refine Below.setCell ?_ (by first | with_reducible exact Nat.le_refl _ | with_reducible exact HBW.out.size | with_reducible exact HQ.out.size | omega | (simp; done) | (simp; omega) | (simp [later_size]; done) | (simp [later_size]; omega)) _ | with_reducible refine Below.alloc ?_ (by first | with_reducible exact Nat.le_refl _ | with_reducible exact HBW.out.size | with_reducible exact HQ.out.size | omega | (simp; done) | (simp; omega) | (simp [later_size]; done) | (simp [later_size]; omega)) _))) (by first | exact HQ.out.size | with_reducible rfl | exact Nat.le_refl _ | (simp; done) | (simp; omega)) (Nat.le_refl _)); obtain ⟨A9, c9, rfl, hO9, hc9, hm9⟩ := own_of_ownsRow lenS hown (by simp only [List.length_append, HX.out, HY.out]); have HO9 := Lib.hid hO9; clear hown hg hbe HW HQ; have HQ := HQ2; clear HQ2) | (go_at_call 11; (with_reducible refine (c_sMinimal A9 (n + m) c9 (xs ++ ys) _ (by first | (simp only [List.length_append, HX.out, HY.out]; done) | exact HL9.out) (by omega) HO9.out.row).mono ?_); rintro _ w9 ⟨A8, n8, c8, rfl, hl8, hc8, hm8, hO8, p8, rfl⟩; (try simp only [later_later] at hO8); have HO8 := Lib.hid hO8; have HL8 := Lib.hid hl8; clear hO8 hl8) | ((with_reducible refine wp_region_later (by kernel_rfl) (by kernel_rfl) ?_); (repeat (first | go_big_quiet_skip | quiet_step ((fail)))); refine wpQuiet_nil ?_; rintro _ ⟨p, rfl⟩))
  all_goals
    go_ret
    exact ⟨A8, n8, c8, rfl, HL8.out, hc8, hm8, HO8.out.mono HQ.out.size, later_of_below (by (repeat (first | with_reducible exact Below.refl _ _ | with_reducible assumption | with_reducible refine Below.drew ?_ | with_reducible refine below_drewN ?_ _ | with_reducible exact HQ.out | with_reducible exact HBW.out | with_reducible refine below_ext ?_ _ _ | with_reducible refine below_then_later ?_ (by first | with_reducible exact Nat.le_refl _ | with_reducible exact HBW.out.size | with_reducible exact HQ.out.size | omega | (simp; done) | (simp; omega) | (simp [later_size]; done) | (simp [later_size]; omega)) _ | with_reducible refine Below.setCell ?_ (by first | with_reducible exact Nat.le_refl _ | with_reducible exact HBW.out.size | with_reducible exact HQ.out.size | omega | (simp; done) | (simp; omega) | (simp [later_size]; done) | (simp [later_size]; omega)) _ | with_reducible refine Below.alloc ?_ (by first | with_reducible exact Nat.le_refl _ | with_reducible exact HBW.out.size | with_reducible exact HQ.out.size | omega | (simp; done) | (simp; omega) | (simp [later_size]; done) | (simp [later_size]; omega)) _)))⟩
set_option maxHeartbeats 3200000 in
theorem c_iFrontierOk (A : Option Addr) (n c : Nat) (xs : List (Int × Int)) (w : World) (hn : xs.length = n) (hn2 : n ≤ 4294967296)
    (ha : Row encS 2 w A xs) : Calls Try.prog 12 #[.slice A n c] w (Gives (.bool (frOk xs)) w) := by
  have HA := Lib.hid ha
  have HN := Lib.hid hn
  clear ha hn
  go_enter Try.func12, Try.ntmps12
  go_wp2_with fail
  go_loopw [7] (fun s0 wr => ∃ k : Nat, s0 = .int .i64 k ∧ k ≤ n ∧ (xs.take k).any notOk = false ∧ ∃ p : Later, wr = later w p) (fun s0 _ => n - (intOf s0).toNat)
  case atStart => exact ⟨0, rfl, by omega, by simp, later_refl _⟩
  case round =>
    obtain ⟨k, rfl, hk, hT, p, rfl⟩ := hrel
    have HT := Lib.hid hT
    clear hT
    by_cases hlt : k < n
    · obtain ⟨x, hx⟩ : ∃ x, xs[k]? = some x := ⟨_, List.getElem?_eq_getElem (by rw [HN.out]; exact hlt)⟩
      obtain ⟨b, off, rfl, hcx⟩ := HA.out.at_ hx
      have HX := Lib.hid hx
      have hbl := World.block_lt_of_cell? _ _ (hcx 0 _ rfl)
      simp only at hbl
      have hble := Nat.le_of_lt hbl
      obtain ⟨x1, x2⟩ := x
      have hx0 := hcx 0 _ rfl
      have hx1 := hcx 1 _ rfl
      clear hcx hx
      simp only [Nat.add_zero] at *
      cases hs : stOk x1 x2
      · have HS := Lib.hid hs
        clear hs
        go_wp2_with (first | (go_at_call 33; (refine (c_iStampOk_b _ _ _ _ HS.out).mono ?_); rintro _ _ ⟨rfl, p, rfl⟩) | ((with_reducible refine wp_region_later (by kernel_rfl) (by kernel_rfl) ?_); (repeat (first | go_big_quiet_skip | quiet_step ((first | (go_at_call 33; first | exact calls_later (c_iStampOk_b _ _ _ _ HS.out) | exact calls_later2 (c_iStampOk_b _ _ _ _ HS.out)))))); refine wpQuiet_nil ?_; rintro _ ⟨p, rfl⟩))
        all_goals
          go_ret
          exact Gives.mk (ret_bool (by unfold frOk; rw [any_hit HX.out (by unfold notOk; rw [HS.out]; rfl)]; rfl)) (by (repeat (first | with_reducible exact Below.refl _ _ | with_reducible assumption | with_reducible refine Below.drew ?_ | with_reducible refine below_drewN ?_ _ | with_reducible exact HQ.out | with_reducible exact HBW.out | with_reducible refine below_ext ?_ _ _ | with_reducible refine below_then_later ?_ (by first | with_reducible exact Nat.le_refl _ | with_reducible exact HBW.out.size | with_reducible exact HQ.out.size | omega | (simp; done) | (simp; omega) | (simp [later_size]; done) | (simp [later_size]; omega)) _ | with_reducible refine Below.setCell ?_ (by first | with_reducible exact Nat.le_refl _ | with_reducible exact HBW.out.size | with_reducible exact HQ.out.size | omega | (simp; done) | (simp; omega) | (simp [later_size]; done) | (simp [later_size]; omega)) _ | with_reducible refine Below.alloc ?_ (by first | with_reducible exact Nat.le_refl _ | with_reducible exact HBW.out.size | with_reducible exact HQ.out.size | omega | (simp; done) | (simp; omega) | (simp [later_size]; done) | (simp [later_size]; omega)) _)))
      · have HS := Lib.hid hs
        clear hs
        go_wp2_with (first | (go_at_call 33; (refine (c_iStampOk_b _ _ _ _ HS.out).mono ?_); rintro _ _ ⟨rfl, p, rfl⟩) | ((with_reducible refine wp_region_later (by kernel_rfl) (by kernel_rfl) ?_); (repeat (first | go_big_quiet_skip | quiet_step ((first | (go_at_call 33; first | exact calls_later (c_iStampOk_b _ _ _ _ HS.out) | exact calls_later2 (c_iStampOk_b _ _ _ _ HS.out)))))); refine wpQuiet_nil ?_; rintro _ ⟨p, rfl⟩))
        all_goals
          go_roundw
          case rel => exact ⟨k + 1, by go_num, by omega, any_succ HT.out HX.out (by unfold notOk; rw [HS.out]; rfl), later_of_below (by (repeat (first | with_reducible exact Below.refl _ _ | with_reducible assumption | with_reducible refine Below.drew ?_ | with_reducible refine below_drewN ?_ _ | with_reducible exact HQ.out | with_reducible exact HBW.out | with_reducible refine below_ext ?_ _ _ | with_reducible refine below_then_later ?_ (by first | with_reducible exact Nat.le_refl _ | with_reducible exact HBW.out.size | with_reducible exact HQ.out.size | omega | (simp; done) | (simp; omega) | (simp [later_size]; done) | (simp [later_size]; omega)) _ | with_reducible refine Below.setCell ?_ (by first | with_reducible exact Nat.le_refl _ | with_reducible exact HBW.out.size | with_reducible exact HQ.out.size | omega | (simp; done) | (simp; omega) | (simp [later_size]; done) | (simp [later_size]; omega)) _ | with_reducible refine Below.alloc ?_ (by first | with_reducible exact Nat.le_refl _ | with_reducible exact HBW.out.size | with_reducible exact HQ.out.size | omega | (simp; done) | (simp; omega) | (simp [later_size]; done) | (simp [later_size]; omega)) _)))⟩
          case measure => simp [intOf]; omega
    · have hkn : k = n := by omega
      have HE := Lib.hid (any_end (hkn ▸ HT.out) HN.out)
      clear hkn
      have HL9 := HN
      have hml := minimal_len xs
      rw [HN.out] at hml
      go_wp2_with (first | (go_at_call 8; (with_reducible refine (c_iMinimal _ n _ xs _ (by first | (simp only [List.length_append, HX.out, HY.out]; done) | exact HL9.out) (by omega) (by (repeat (first | with_reducible exact HA.out | with_reducible refine Row.later ?_ _ | with_reducible refine Row.alloc ?_ _ | with_reducible refine Row.drew ?_)); done)).mono ?_); rintro _ w9 ⟨A8, n8, c8, rfl, hl8, hc8, hm8, hO8, p8, rfl⟩; (try simp only [later_later] at hO8); have HO8 := Lib.hid hO8; have HL8 := Lib.hid hl8; have hn8 : n8 ≤ n := (by rw [← hl8]; exact hml); clear hO8 hl8) | (go_at_call 23; (with_reducible refine (c_iSameFront _ _ n n8 _ _ xs (minimal xs) _ HN.out HL8.out (by omega) (by omega) (by (repeat (first | with_reducible exact HA.out | with_reducible refine Row.later ?_ _ | with_reducible refine Row.alloc ?_ _ | with_reducible refine Row.drew ?_)); done) (by (repeat (first | with_reducible exact HO8.out.row | with_reducible refine Row.later ?_ _ | with_reducible refine Row.drew ?_)); done)).mono ?_); rintro _ _ ⟨rfl, p, rfl⟩) | ((with_reducible refine wp_region_later (by kernel_rfl) (by kernel_rfl) ?_); (repeat (first | go_big_quiet_skip | quiet_step ((fail)))); refine wpQuiet_nil ?_; rintro _ ⟨p, rfl⟩))
      all_goals
        go_ret
        exact Gives.mk (ret_bool (by unfold frOk; rw [HE.out]; rfl)) (by (repeat (first | with_reducible exact Below.refl _ _ | with_reducible assumption | with_reducible refine Below.drew ?_ | with_reducible refine below_drewN ?_ _ | with_reducible exact HQ.out | with_reducible exact HBW.out | with_reducible refine below_ext ?_ _ _ | with_reducible refine below_then_later ?_ (by first | with_reducible exact Nat.le_refl _ | with_reducible exact HBW.out.size | with_reducible exact HQ.out.size | omega | (simp; done) | (simp; omega) | (simp [later_size]; done) | (simp [later_size]; omega)) _ | with_reducible refine Below.setCell ?_ (by first | with_reducible exact Nat.le_refl _ | with_reducible exact HBW.out.size | with_reducible exact HQ.out.size | omega | (simp; done) | (simp; omega) | (simp [later_size]; done) | (simp [later_size]; omega)) _ | with_reducible refine Below.alloc ?_ (by first | with_reducible exact Nat.le_refl _ | with_reducible exact HBW.out.size | with_reducible exact HQ.out.size | omega | (simp; done) | (simp; omega) | (simp [later_size]; done) | (simp [later_size]; omega)) _)))
set_option maxHeartbeats 3200000 in
theorem c_sFrontierOk (A : Option Addr) (n c : Nat) (xs : List (Int × Int)) (w : World) (hn : xs.length = n) (hn2 : n ≤ 4294967296)
    (ha : Row encS 2 w A xs) : Calls Try.prog 13 #[.slice A n c] w (Gives (.bool (frOk xs)) w) := by
  have HA := Lib.hid ha
  have HN := Lib.hid hn
  clear ha hn
  go_enter Try.func13, Try.ntmps13
  go_wp2_with fail
  go_loopw [3] (fun s0 wr => ∃ k : Nat, s0 = .int .i64 k ∧ k ≤ n ∧ (xs.take k).any notOk = false ∧ ∃ p : Later, wr = later w p) (fun s0 _ => n - (intOf s0).toNat)
  case atStart => exact ⟨0, rfl, by omega, by simp, later_refl _⟩
  case round =>
    obtain ⟨k, rfl, hk, hT, p, rfl⟩ := hrel
    have HT := Lib.hid hT
    clear hT
    by_cases hlt : k < n
    · obtain ⟨x, hx⟩ : ∃ x, xs[k]? = some x := ⟨_, List.getElem?_eq_getElem (by rw [HN.out]; exact hlt)⟩
      obtain ⟨b, off, rfl, hcx⟩ := HA.out.at_ hx
      have HX := Lib.hid hx
      have hbl := World.block_lt_of_cell? _ _ (hcx 0 _ rfl)
      simp only at hbl
      have hble := Nat.le_of_lt hbl
      obtain ⟨x1, x2⟩ := x
      have hx0 := hcx 0 _ rfl
      have hx1 := hcx 1 _ rfl
      clear hcx hx
      simp only [Nat.add_zero] at *
      cases hs : stOk x1 x2
      · have HS := Lib.hid hs
        clear hs
        go_wp2_with (first | (go_at_call 34; (refine (c_sStampOk_b _ _ _ _ HS.out).mono ?_); rintro _ _ ⟨rfl, p, rfl⟩) | ((with_reducible refine wp_region_later (by kernel_rfl) (by kernel_rfl) ?_); (repeat (first | go_big_quiet_skip | quiet_step ((first | (go_at_call 34; first | exact calls_later (c_sStampOk_b _ _ _ _ HS.out) | exact calls_later2 (c_sStampOk_b _ _ _ _ HS.out)))))); refine wpQuiet_nil ?_; rintro _ ⟨p, rfl⟩))
        all_goals
          go_ret
          exact Gives.mk (ret_bool (by unfold frOk; rw [any_hit HX.out (by unfold notOk; rw [HS.out]; rfl)]; rfl)) (by (repeat (first | with_reducible exact Below.refl _ _ | with_reducible assumption | with_reducible refine Below.drew ?_ | with_reducible refine below_drewN ?_ _ | with_reducible exact HQ.out | with_reducible exact HBW.out | with_reducible refine below_ext ?_ _ _ | with_reducible refine below_then_later ?_ (by first | with_reducible exact Nat.le_refl _ | with_reducible exact HBW.out.size | with_reducible exact HQ.out.size | omega | (simp; done) | (simp; omega) | (simp [later_size]; done) | (simp [later_size]; omega)) _ | with_reducible refine Below.setCell ?_ (by first | with_reducible exact Nat.le_refl _ | with_reducible exact HBW.out.size | with_reducible exact HQ.out.size | omega | (simp; done) | (simp; omega) | (simp [later_size]; done) | (simp [later_size]; omega)) _ | with_reducible refine Below.alloc ?_ (by first | with_reducible exact Nat.le_refl _ | with_reducible exact HBW.out.size | with_reducible exact HQ.out.size | omega | (simp; done) | (simp; omega) | (simp [later_size]; done) | (simp [later_size]; omega)) _)))
      · have HS := Lib.hid hs
        clear hs
        go_wp2_with (first | (go_at_call 34; (refine (c_sStampOk_b _ _ _ _ HS.out).mono ?_); rintro _ _ ⟨rfl, p, rfl⟩) | ((with_reducible refine wp_region_later (by kernel_rfl) (by kernel_rfl) ?_); (repeat (first | go_big_quiet_skip | quiet_step ((first | (go_at_call 34; first | exact calls_later (c_sStampOk_b _ _ _ _ HS.out) | exact calls_later2 (c_sStampOk_b _ _ _ _ HS.out)))))); refine wpQuiet_nil ?_; rintro _ ⟨p, rfl⟩))
        all_goals
          go_roundw
          case rel => exact ⟨k + 1, by go_num, by omega, any_succ HT.out HX.out (by unfold notOk; rw [HS.out]; rfl), later_of_below (by (repeat (first | with_reducible exact Below.refl _ _ | with_reducible assumption | with_reducible refine Below.drew ?_ | with_reducible refine below_drewN ?_ _ | with_reducible exact HQ.out | with_reducible exact HBW.out | with_reducible refine below_ext ?_ _ _ | with_reducible refine below_then_later ?_ (by first | with_reducible exact Nat.le_refl _ | with_reducible exact HBW.out.size | with_reducible exact HQ.out.size | omega | (simp; done) | (simp; omega) | (simp [later_size]; done) | (simp [later_size]; omega)) _ | with_reducible refine Below.setCell ?_ (by first | with_reducible exact Nat.le_refl _ | with_reducible exact HBW.out.size | with_reducible exact HQ.out.size | omega | (simp; done) | (simp; omega) | (simp [later_size]; done) | (simp [later_size]; omega)) _ | with_reducible refine Below.alloc ?_ (by first | with_reducible exact Nat.le_refl _ | with_reducible exact HBW.out.size | with_reducible exact HQ.out.size | omega | (simp; done) | (simp; omega) | (simp [later_size]; done) | (simp [later_size]; omega)) _)))⟩
          case measure => simp [intOf]; omega
    · have hkn : k = n := by omega
      have HE := Lib.hid (any_end (hkn ▸ HT.out) HN.out)
      clear hkn
      have HL9 := HN
      have hml := minimal_len xs
      rw [HN.out] at hml
      go_wp2_with (first | (go_at_call 11; (with_reducible refine (c_sMinimal _ n _ xs _ (by first | (simp only [List.length_append, HX.out, HY.out]; done) | exact HL9.out) (by omega) (by (repeat (first | with_reducible exact HA.out | with_reducible refine Row.later ?_ _ | with_reducible refine Row.alloc ?_ _ | with_reducible refine Row.drew ?_)); done)).mono ?_); rintro _ w9 ⟨A8, n8, c8, rfl, hl8, hc8, hm8, hO8, p8, rfl⟩; (try simp only [later_later] at hO8); have HO8 := Lib.hid hO8; have HL8 := Lib.hid hl8; have hn8 : n8 ≤ n := (by rw [← hl8]; exact hml); clear hO8 hl8) | (go_at_call 35; (with_reducible refine (c_sSameFront _ _ n8 n _ _ (minimal xs) xs _ HL8.out HN.out (by omega) (by omega) (by (repeat (first | with_reducible exact HO8.out.row | with_reducible refine Row.later ?_ _ | with_reducible refine Row.drew ?_)); done) (by (repeat (first | with_reducible exact HA.out | with_reducible refine Row.later ?_ _ | with_reducible refine Row.alloc ?_ _ | with_reducible refine Row.drew ?_)); done)).mono ?_); rintro _ _ ⟨rfl, p, rfl⟩) | ((with_reducible refine wp_region_later (by kernel_rfl) (by kernel_rfl) ?_); (repeat (first | go_big_quiet_skip | quiet_step ((fail)))); refine wpQuiet_nil ?_; rintro _ ⟨p, rfl⟩))
      all_goals
        go_ret
        exact Gives.mk (ret_bool (by unfold frOk; rw [HE.out]; exact dec_symm _ _)) (by (repeat (first | with_reducible exact Below.refl _ _ | with_reducible assumption | with_reducible refine Below.drew ?_ | with_reducible refine below_drewN ?_ _ | with_reducible exact HQ.out | with_reducible exact HBW.out | with_reducible refine below_ext ?_ _ _ | with_reducible refine below_then_later ?_ (by first | with_reducible exact Nat.le_refl _ | with_reducible exact HBW.out.size | with_reducible exact HQ.out.size | omega | (simp; done) | (simp; omega) | (simp [later_size]; done) | (simp [later_size]; omega)) _ | with_reducible refine Below.setCell ?_ (by first | with_reducible exact Nat.le_refl _ | with_reducible exact HBW.out.size | with_reducible exact HQ.out.size | omega | (simp; done) | (simp; omega) | (simp [later_size]; done) | (simp [later_size]; omega)) _ | with_reducible refine Below.alloc ?_ (by first | with_reducible exact Nat.le_refl _ | with_reducible exact HBW.out.size | with_reducible exact HQ.out.size | omega | (simp; done) | (simp; omega) | (simp [later_size]; done) | (simp [later_size]; omega)) _)))
theorem m_iMinimal (A : Option Addr) (n c : Nat) (xs r : List (Int × Int)) (w : World) (hn : xs.length = n) (hn2 : n ≤ 4294967296) (ha : Row encS 2 w A xs) (hr : minimal xs = r) : Calls Try.prog 8 #[.slice A n c] w (MadeOwn encS 2 id r w) := hr ▸ c_iMinimal A n c xs w hn hn2 ha
theorem m_iMergeFronts (A : Option Addr) (n c : Nat) (xs : List (Int × Int)) (B : Option Addr) (m d : Nat) (ys r : List (Int × Int)) (w : World) (hn : xs.length = n) (hm : ys.length = m) (hs : n + m ≤ 4294967296) (ha : Row encS 2 w A xs) (hb : Row encS 2 w B ys) (hr : minimal (xs ++ ys) = r) : Calls Try.prog 7 #[.slice A n c, .slice B m d] w (MadeOwn encS 2 id r w) := hr ▸ c_iMergeFronts A n c xs B m d ys w hn hm hs ha hb
theorem m_sMinimal (A : Option Addr) (n c : Nat) (xs r : List (Int × Int)) (w : World) (hn : xs.length = n) (hn2 : n ≤ 4294967296) (ha : Row encS 2 w A xs) (hr : minimal xs = r) : Calls Try.prog 11 #[.slice A n c] w (MadeOwn encS 2 id r w) := hr ▸ c_sMinimal A n c xs w hn hn2 ha
theorem m_sMergeFronts (A : Option Addr) (n c : Nat) (xs : List (Int × Int)) (B : Option Addr) (m d : Nat) (ys r : List (Int × Int)) (w : World) (hn : xs.length = n) (hm : ys.length = m) (hs : n + m ≤ 4294967296) (ha : Row encS 2 w A xs) (hb : Row encS 2 w B ys) (hr : minimal (xs ++ ys) = r) : Calls Try.prog 10 #[.slice A n c, .slice B m d] w (MadeOwn encS 2 id r w) := hr ▸ c_sMergeFronts A n c xs B m d ys w hn hm hs ha hb
end Go.Proofs.Ytkjgllcfgljkeaa
