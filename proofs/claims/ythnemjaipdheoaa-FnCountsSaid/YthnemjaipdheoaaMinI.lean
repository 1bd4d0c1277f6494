/-
  Minimal, MergeFronts of the program: the least stamps in order. Conditions: the length is at most 2^32.
-/
import Derived.Test.YthnemjaipdheoaaMinP
import Derived.Test.YthnemjaipdheoaaSort
import Derived.Test.YthnemjaipdheoaaFn
namespace Go.Proofs.Ythnemjaipdheoaa
open Go.RowKit
set_option linter.unusedVariables false

theorem infoSt : (Try.prog.info? 26).map (fun i => (i.zero, i.size, i.bytes)) = some (some (.agg #[.int .i64 0, .int .i64 0]), 2, 16) := by kernel_rfl
set_option maxHeartbeats 1600000 in
theorem ix_Stamp (A : Option Addr) (n c : Nat) (xs : List (Int × Int)) (a b' : Int) (w : World) (hn : xs.length = n) (hn2 : n ≤ 9223372036854775807)
    (ha : Row encS 2 w A xs) : Calls Try.prog 52 #[.slice A n c, .agg #[.int .i64 a, .int .i64 b']] w (fun e w' => ∃ i : Int, (0 ≤ i ↔ (a, b') ∈ xs) ∧ -1 ≤ i ∧ i ≤ 9223372036854775807 ∧ Gives (.int .i64 i) w e w') := by
  have HA := Lib.hid ha
  have HN := Lib.hid hn
  clear ha hn
  go_enter Try.func52, Try.ntmps52
  go_wp2_with fail
  go_loopw [5, 8] (fun s0 s1 wr => ∃ k : Nat, s1 = .int .i64 k ∧ k ≤ n ∧ Hid ((a, b') ∉ xs.take k) ∧ ∃ p : Later, wr = later (w.alloc (Obj.cells #[.int .i64 a, .int .i64 b'] 26)) p) (fun s0 s1 _ => n - (intOf s1).toNat)
  case atStart => exact ⟨0, rfl, by omega, Lib.hid (by simp), later_refl _⟩
  case round =>
    obtain ⟨k, rfl, hk, HT, p, rfl⟩ := hrel
    by_cases hlt : k < n
    · obtain ⟨x, hx⟩ : ∃ x, xs[k]? = some x := ⟨_, List.getElem?_eq_getElem (by rw [HN.out]; exact hlt)⟩
      obtain ⟨b, off, rfl, hcx⟩ := HA.out.at_ hx
      have HX := Lib.hid hx
      have hbl := World.block_lt_of_cell? _ _ (hcx 0 _ rfl)
      simp only at hbl
      have hble := Nat.le_of_lt hbl
      obtain ⟨x1, x2⟩ := x
      have hx0 := hcx 0 _ rfl
      have hx1 := hcx 1 _ rfl
      clear hcx hx
      simp only [Nat.add_zero] at *
      by_cases he : a = x1 ∧ b' = x2
      · obtain ⟨rfl, rfl⟩ := he
        go_wp2_with (first | ((with_reducible refine wp_region_later (by kernel_rfl) (by kernel_rfl) ?_); (repeat (first | go_big_quiet_skip | quiet_step ((fail)))); refine wpQuiet_nil ?_; rintro _ ⟨p, rfl⟩))
        all_goals
          go_ret
          refine ⟨_, ?_, ?_, ?_, Gives.mk rfl (by (repeat (first | with_reducible exact Below.refl _ _ | with_reducible assumption | with_reducible refine Below.drew ?_ | with_reducible refine below_drewN ?_ _ | with_reducible exact HQ.out | with_reducible exact HBW.out | with_reducible refine below_ext ?_ _ _ | with_reducible refine below_then_later ?_ (by first | with_reducible exact Nat.le_refl _ | with_reducible exact HBW.out.size | with_reducible exact HQ.out.size | omega | (simp; done) | (simp; omega) | (simp [later_size]; done) | (simp [later_size]; omega)) _ | with_reducible refine Below.setCell ?_ (by first | with_reducible exact Nat.le_refl _ | with_reducible exact HBW.out.size | with_reducible exact HQ.out.size | omega | (simp; done) | (simp; omega) | (simp [later_size]; done) | (simp [later_size]; omega)) _ | with_reducible refine Below.alloc ?_ (by first | with_reducible exact Nat.le_refl _ | with_reducible exact HBW.out.size | with_reducible exact HQ.out.size | omega | (simp; done) | (simp; omega) | (simp [later_size]; done) | (simp [later_size]; omega)) _)))⟩
          · have := List.mem_of_getElem? HX.out
            constructor
            · intro _; exact this
            · intro _; omega
          · omega
          · omega
      · have HT2 := Lib.hid (show (a, b') ∉ xs.take (k + 1) by
          rw [List.take_add_one, HX.out]
          simp only [Option.toList_some, List.mem_append, List.mem_singleton, Prod.mk.injEq]
          exact fun h => h.elim HT.out he)
        by_cases h1 : a = x1
        · have h2 : ¬ b' = x2 := fun e => he ⟨h1, e⟩
          subst h1
          clear he
          go_wp2_with (first | ((with_reducible refine wp_region_later (by kernel_rfl) (by kernel_rfl) ?_); (repeat (first | go_big_quiet_skip | quiet_step ((fail)))); refine wpQuiet_nil ?_; rintro _ ⟨p, rfl⟩))
          all_goals
            go_roundw
            case rel => exact ⟨k + 1, by go_num, by omega, HT2, later_of_below (by (repeat (first | with_reducible exact Below.refl _ _ | with_reducible assumption | with_reducible refine Below.drew ?_ | with_reducible refine below_drewN ?_ _ | with_reducible exact HQ.out | with_reducible exact HBW.out | with_reducible refine below_ext ?_ _ _ | with_reducible refine below_then_later ?_ (by first | with_reducible exact Nat.le_refl _ | with_reducible exact HBW.out.size | with_reducible exact HQ.out.size | omega | (simp; done) | (simp; omega) | (simp [later_size]; done) | (simp [later_size]; omega)) _ | with_reducible refine Below.setCell ?_ (by first | with_reducible exact Nat.le_refl _ | with_reducible exact HBW.out.size | with_reducible exact HQ.out.size | omega | (simp; done) | (simp; omega) | (simp [later_size]; done) | (simp [later_size]; omega)) _ | with_reducible refine Below.alloc ?_ (by first | with_reducible exact Nat.le_refl _ | with_reducible exact HBW.out.size | with_reducible exact HQ.out.size | omega | (simp; done) | (simp; omega) | (simp [later_size]; done) | (simp [later_size]; omega)) _)))⟩
            case measure => simp [intOf]; omega
        · clear he
          go_wp2_with (first | ((with_reducible refine wp_region_later (by kernel_rfl) (by kernel_rfl) ?_); (repeat (first | go_big_quiet_skip | quiet_step ((fail)))); refine wpQuiet_nil ?_; rintro _ ⟨p, rfl⟩))
          all_goals
            go_roundw
            case rel => exact ⟨k + 1, by go_num, by omega, HT2, later_of_below (by (repeat (first | with_reducible exact Below.refl _ _ | with_reducible assumption | with_reducible refine Below.drew ?_ | with_reducible refine below_drewN ?_ _ | with_reducible exact HQ.out | with_reducible exact HBW.out | with_reducible refine below_ext ?_ _ _ | with_reducible refine below_then_later ?_ (by first | with_reducible exact Nat.le_refl _ | with_reducible exact HBW.out.size | with_reducible exact HQ.out.size | omega | (simp; done) | (simp; omega) | (simp [later_size]; done) | (simp [later_size]; omega)) _ | with_reducible refine Below.setCell ?_ (by first | with_reducible exact Nat.le_refl _ | with_reducible exact HBW.out.size | with_reducible exact HQ.out.size | omega | (simp; done) | (simp; omega) | (simp [later_size]; done) | (simp [later_size]; omega)) _ | with_reducible refine Below.alloc ?_ (by first | with_reducible exact Nat.le_refl _ | with_reducible exact HBW.out.size | with_reducible exact HQ.out.size | omega | (simp; done) | (simp; omega) | (simp [later_size]; done) | (simp [later_size]; omega)) _)))⟩
            case measure => simp [intOf]; omega
    · have hkn : k = n := by omega
      have HE := Lib.hid (show (a, b') ∉ xs by have := HT.out; rwa [List.take_of_length_le (by rw [HN.out]; omega)] at this)
      clear hkn
      go_wp2_with (first | ((with_reducible refine wp_region_later (by kernel_rfl) (by kernel_rfl) ?_); (repeat (first | go_big_quiet_skip | quiet_step ((fail)))); refine wpQuiet_nil ?_; rintro _ ⟨p, rfl⟩))
      all_goals
        go_ret
        refine ⟨_, ?_, ?_, ?_, Gives.mk rfl (by (repeat (first | with_reducible exact Below.refl _ _ | with_reducible assumption | with_reducible refine Below.drew ?_ | with_reducible refine below_drewN ?_ _ | with_reducible exact HQ.out | with_reducible exact HBW.out | with_reducible refine below_ext ?_ _ _ | with_reducible refine below_then_later ?_ (by first | with_reducible exact Nat.le_refl _ | with_reducible exact HBW.out.size | with_reducible exact HQ.out.size | omega | (simp; done) | (simp; omega) | (simp [later_size]; done) | (simp [later_size]; omega)) _ | with_reducible refine Below.setCell ?_ (by first | with_reducible exact Nat.le_refl _ | with_reducible exact HBW.out.size | with_reducible exact HQ.out.size | omega | (simp; done) | (simp; omega) | (simp [later_size]; done) | (simp [later_size]; omega)) _ | with_reducible refine Below.alloc ?_ (by first | with_reducible exact Nat.le_refl _ | with_reducible exact HBW.out.size | with_reducible exact HQ.out.size | omega | (simp; done) | (simp; omega) | (simp [later_size]; done) | (simp [later_size]; omega)) _)))⟩
        · constructor
          · intro h; omega
          · intro h; exact absurd h HE.out
        · omega
        · omega
set_option maxHeartbeats 800000 in
theorem c_Contains (A : Option Addr) (n c : Nat) (xs : List (Int × Int)) (a b' : Int) (z : Bool) (w : World) (hn : xs.length = n) (hn2 : n ≤ 9223372036854775807)
    (ha : Row encS 2 w A xs) (hz : decide ((a, b') ∈ xs) = z) : Calls Try.prog 47 #[.slice A n c, .agg #[.int .i64 a, .int .i64 b']] w (Gives (.bool z) w) := by
  have HA := Lib.hid ha
  have HN := Lib.hid hn
  have HZ := Lib.hid hz
  clear ha hn hz
  go_enter Try.func47, Try.ntmps47
  go_wp2_with fail
  refine (ix_Stamp A n c xs a b' _ HN.out hn2 (HA.out.alloc _)).mono ?_
  rintro _ _ ⟨i, h1, h2, h3, rfl, p, rfl⟩
  have H1 := Lib.hid h1
  clear h1
  by_cases h0 : 0 ≤ i
  · obtain rfl : z = true := by rw [← HZ.out]; exact decide_eq_true (H1.out.1 h0)
    clear H1 HZ
    go_wp2
    go_ret
    exact Gives.mk rfl (by (repeat (first | with_reducible exact Below.refl _ _ | with_reducible assumption | with_reducible refine Below.drew ?_ | with_reducible refine below_drewN ?_ _ | with_reducible exact HQ.out | with_reducible exact HBW.out | with_reducible refine below_ext ?_ _ _ | with_reducible refine below_then_later ?_ (by first | with_reducible exact Nat.le_refl _ | with_reducible exact HBW.out.size | with_reducible exact HQ.out.size | omega | (simp; done) | (simp; omega) | (simp [later_size]; done) | (simp [later_size]; omega)) _ | with_reducible refine Below.setCell ?_ (by first | with_reducible exact Nat.le_refl _ | with_reducible exact HBW.out.size | with_reducible exact HQ.out.size | omega | (simp; done) | (simp; omega) | (simp [later_size]; done) | (simp [later_size]; omega)) _ | with_reducible refine Below.alloc ?_ (by first | with_reducible exact Nat.le_refl _ | with_reducible exact HBW.out.size | with_reducible exact HQ.out.size | omega | (simp; done) | (simp; omega) | (simp [later_size]; done) | (simp [later_size]; omega)) _)))
  · obtain rfl : z = false := by rw [← HZ.out]; exact decide_eq_false fun h => h0 (H1.out.2 h)
    clear H1 HZ
    go_wp2
    go_ret
    exact Gives.mk (ret_bool (by simp; omega)) (by (repeat (first | with_reducible exact Below.refl _ _ | with_reducible assumption | with_reducible refine Below.drew ?_ | with_reducible refine below_drewN ?_ _ | with_reducible exact HQ.out | with_reducible exact HBW.out | with_reducible refine below_ext ?_ _ _ | with_reducible refine below_then_later ?_ (by first | with_reducible exact Nat.le_refl _ | with_reducible exact HBW.out.size | with_reducible exact HQ.out.size | omega | (simp; done) | (simp; omega) | (simp [later_size]; done) | (simp [later_size]; omega)) _ | with_reducible refine Below.setCell ?_ (by first | with_reducible exact Nat.le_refl _ | with_reducible exact HBW.out.size | with_reducible exact HQ.out.size | omega | (simp; done) | (simp; omega) | (simp [later_size]; done) | (simp [later_size]; omega)) _ | with_reducible refine Below.alloc ?_ (by first | with_reducible exact Nat.le_refl _ | with_reducible exact HBW.out.size | with_reducible exact HQ.out.size | omega | (simp; done) | (simp; omega) | (simp [later_size]; done) | (simp [later_size]; omega)) _)))
theorem cfz_Minimal (A : Option Addr) (n c : Nat) (xs : List (Int × Int)) (q : Nat) (a b' : Int) (z : Bool) (w : World) (hn : xs.length = n) (hn2 : n ≤ 9223372036854775807) (ha : Row encS 2 w A xs)
    (hcap : w.cell? ⟨q, 0, Option.none⟩ = some (.int .i64 a) ∧ w.cell? ⟨q, 1, Option.none⟩ = some (.int .i64 b')) (hz : xs.any (belowP a b') = z) : Calls Try.prog 44 #[.slice A n c, .func (.func 45) #[] #[.pointer (some ⟨q, 0, Option.none⟩)]] w (Gives (.bool z) w) :=
  hz ▸ cf_Minimal A n c xs q a b' w hn hn2 ha hcap
set_option maxHeartbeats 6400000 in
theorem c_iMinimal (A : Option Addr) (n c : Nat) (xs : List (Int × Int)) (w : World) (hn : xs.length = n) (hn2 : n ≤ 4294967296)
    (ha : Row encS 2 w A xs) : Calls Try.prog 37 #[.slice A n c] w (MadeOwn encS 2 id (minimal xs) w) := by
  obtain ⟨i0, hi0, hz0, hs0, hb0⟩ := info_parts infoSt
  have HI := Lib.hid hi0
  have HZ := Lib.hid hz0
  have HS := Lib.hid hs0
  have HB := Lib.hid hb0
  have HA := Lib.hid ha
  have HN := Lib.hid hn
  clear ha hn hi0 hz0 hs0 hb0
  go_enter Try.func37, Try.ntmps37
  go_wp2_with fail
  go_loopw [3, 9] (fun v ii wr => ∃ (j : Nat) (acc : List (Int × Int)) (L : Nat), ii = .int .i64 j ∧ j ≤ n ∧ Hid (acc.length = L) ∧ Hid (mn xs (xs.take j) = acc) ∧ Hid (wr.ownsRow w.heap.size 26 2 v L (acc.flatMap encS)) ∧ ∃ p : Later, wr = later w p) (fun _ ii _ => n - (intOf ii).toNat)
  case atStart => exact ⟨0, [], 0, rfl, by omega, Lib.hid rfl, Lib.hid rfl, Lib.hid (World.ownsRow_nil _ _ _ _), later_of_below (by (repeat (first | with_reducible exact Below.refl _ _ | with_reducible assumption | with_reducible refine Below.drew ?_ | with_reducible refine below_drewN ?_ _ | with_reducible exact HQ.out | with_reducible exact HBW.out | with_reducible refine below_ext ?_ _ _ | with_reducible refine below_then_later ?_ (by first | with_reducible exact Nat.le_refl _ | with_reducible exact HBW.out.size | with_reducible exact HQ.out.size | omega | (simp; done) | (simp; omega) | (simp [later_size]; done) | (simp [later_size]; omega)) _ | with_reducible refine Below.setCell ?_ (by first | with_reducible exact Nat.le_refl _ | with_reducible exact HBW.out.size | with_reducible exact HQ.out.size | omega | (simp; done) | (simp; omega) | (simp [later_size]; done) | (simp [later_size]; omega)) _ | with_reducible refine Below.alloc ?_ (by first | with_reducible exact Nat.le_refl _ | with_reducible exact HBW.out.size | with_reducible exact HQ.out.size | omega | (simp; done) | (simp; omega) | (simp [later_size]; done) | (simp [later_size]; omega)) _)))⟩
  case round =>
    obtain ⟨j, acc, L, rfl, hj, HL, HF, HW, pw, rfl⟩ := hrel
    have hlen : L ≤ j := by
      rw [← HL.out, ← HF.out]
      exact mn_take_len _ _ _
    obtain ⟨A2, c2, hv, hO, hc2, hm2⟩ := own_of_ownsRow lenS HW.out HL.out
    subst hv
    have HO := Lib.hid hO
    clear hO
    by_cases hlt : j < n
    · obtain ⟨x, hx⟩ : ∃ x, xs[j]? = some x := ⟨_, List.getElem?_eq_getElem (by rw [HN.out]; exact hlt)⟩
      obtain ⟨bk, off, rfl, hcx⟩ := HA.out.at_ hx
      have HX := Lib.hid hx
      have hbl := World.block_lt_of_cell? _ _ (hcx 0 _ rfl)
      simp only at hbl
      have hble := Nat.le_of_lt hbl
      obtain ⟨x1, x2⟩ := x
      have hx0 := hcx 0 _ rfl
      have hx1 := hcx 1 _ rfl
      clear hcx hx
      simp only [Nat.add_zero] at *
      have HST := Lib.hid (mn_succ HF.out HX.out)
      obtain ⟨z, hz⟩ : ∃ z, xs.any (belowP x1 x2) = z := ⟨_, rfl⟩
      have HZ1 := Lib.hid hz
      clear hz
      cases z with
      | true =>
        go_wp2_with (first | (go_at_call 44; refine (cfz_Minimal _ n c xs _ x1 x2 true _ HN.out (by omega) ((HA.out.later _).alloc _) (by first | (simp; done) | (constructor <;> simp)) HZ1.out).mono ?_; rintro _ _ ⟨rfl, p, rfl⟩) | ((with_reducible refine wp_region_later (by kernel_rfl) (by kernel_rfl) ?_); (repeat (first | go_big_quiet_skip | quiet_step ((fail)))); refine wpQuiet_nil ?_; rintro _ ⟨p, rfl⟩))
        all_goals
          go_roundw
          case rel => exact ⟨j + 1, acc, L, by go_num, by omega, HL, Lib.hid (by rw [HST.out]; exact step_below HZ1.out), Lib.hid (by (repeat (first | with_reducible exact HW.out | with_reducible refine World.ownsRow.alloc ?_ _ | with_reducible refine ownsRow_later ?_ _ | with_reducible refine World.ownsRow.drew ?_)); done), later_of_below (by (repeat (first | with_reducible exact Below.refl _ _ | with_reducible assumption | with_reducible refine Below.drew ?_ | with_reducible refine below_drewN ?_ _ | with_reducible exact HQ.out | with_reducible exact HBW.out | with_reducible refine below_ext ?_ _ _ | with_reducible refine below_then_later ?_ (by first | with_reducible exact Nat.le_refl _ | with_reducible exact HBW.out.size | with_reducible exact HQ.out.size | omega | (simp; done) | (simp; omega) | (simp [later_size]; done) | (simp [later_size]; omega)) _ | with_reducible refine Below.setCell ?_ (by first | with_reducible exact Nat.le_refl _ | with_reducible exact HBW.out.size | with_reducible exact HQ.out.size | omega | (simp; done) | (simp; omega) | (simp [later_size]; done) | (simp [later_size]; omega)) _ | with_reducible refine Below.alloc ?_ (by first | with_reducible exact Nat.le_refl _ | with_reducible exact HBW.out.size | with_reducible exact HQ.out.size | omega | (simp; done) | (simp; omega) | (simp [later_size]; done) | (simp [later_size]; omega)) _)))⟩
          case measure => simp [intOf]; omega
      | false =>
        by_cases hm : (x1, x2) ∈ acc
        · go_wp2_with (first | (go_at_call 44; refine (cfz_Minimal _ n c xs _ x1 x2 false _ HN.out (by omega) ((HA.out.later _).alloc _) (by first | (simp; done) | (constructor <;> simp)) HZ1.out).mono ?_; rintro _ _ ⟨rfl, p, rfl⟩) | (go_at_call 47; (refine (c_Contains A2 L c2 acc x1 x2 true _ HL.out (by omega) (by (repeat (first | with_reducible exact HO.out.row | with_reducible refine Row.later ?_ _ | with_reducible refine Row.alloc ?_ _)); done) (decide_eq_true hm)).mono ?_); rintro _ _ ⟨rfl, p, rfl⟩) | ((with_reducible refine wp_region_later (by kernel_rfl) (by kernel_rfl) ?_); (repeat (first | go_big_quiet_skip | quiet_step ((first | (go_at_call 47; first | exact calls_later (c_Contains A2 L c2 acc x1 x2 true _ HL.out (by omega) (by (repeat (first | with_reducible exact HO.out.row | with_reducible refine Row.later ?_ _ | with_reducible refine Row.alloc ?_ _)); done) (decide_eq_true hm)) | exact calls_later2 (c_Contains A2 L c2 acc x1 x2 true _ HL.out (by omega) (by (repeat (first | with_reducible exact HO.out.row | with_reducible refine Row.later ?_ _ | with_reducible refine Row.alloc ?_ _)); done) (decide_eq_true hm))))))); refine wpQuiet_nil ?_; rintro _ ⟨p, rfl⟩))
          all_goals
            go_roundw
            case rel => exact ⟨j + 1, acc, L, by go_num, by omega, HL, Lib.hid (by rw [HST.out]; exact step_in hm), Lib.hid (by (repeat (first | with_reducible exact HW.out | with_reducible refine World.ownsRow.alloc ?_ _ | with_reducible refine ownsRow_later ?_ _ | with_reducible refine World.ownsRow.drew ?_)); done), later_of_below (by (repeat (first | with_reducible exact Below.refl _ _ | with_reducible assumption | with_reducible refine Below.drew ?_ | with_reducible refine below_drewN ?_ _ | with_reducible exact HQ.out | with_reducible exact HBW.out | with_reducible refine below_ext ?_ _ _ | with_reducible refine below_then_later ?_ (by first | with_reducible exact Nat.le_refl _ | with_reducible exact HBW.out.size | with_reducible exact HQ.out.size | omega | (simp; done) | (simp; omega) | (simp [later_size]; done) | (simp [later_size]; omega)) _ | with_reducible refine Below.setCell ?_ (by first | with_reducible exact Nat.le_refl _ | with_reducible exact HBW.out.size | with_reducible exact HQ.out.size | omega | (simp; done) | (simp; omega) | (simp [later_size]; done) | (simp [later_size]; omega)) _ | with_reducible refine Below.alloc ?_ (by first | with_reducible exact Nat.le_refl _ | with_reducible exact HBW.out.size | with_reducible exact HQ.out.size | omega | (simp; done) | (simp; omega) | (simp [later_size]; done) | (simp [later_size]; omega)) _)))⟩
            case measure => simp [intOf]; omega
        · go_wp2_with (first | (at_builtin; refine wpList_append_row _ encS 2 lenS (by decide) oneS rfl (.tmp 24) (.tmp 26) 38 rfl w.heap.size 26 i0 _ 16 Try.underlying38 HI.out HZ.out HS.out HB.out rfl (.slice A2 L c2) L acc rfl (by (repeat (first | with_reducible exact HW.out | with_reducible exact ownsRow_draw HW.out _ | with_reducible refine World.ownsRow.alloc ?_ _ | with_reducible refine World.ownsRow.drew ?_ | with_reducible refine ownsRow_later ?_ _)); done) _ _ _ [(x1, x2)] rfl rfl (row_oneS (x1, x2) _ _ _ (by first | with_reducible rfl | (simp; done) | (simp; omega) | (simp [later_size]; done) | (simp [later_size]; omega))) (by unfold maxLen; omega) (by omega) (by first | with_reducible rfl | (simp; done) | (simp; omega) | (simp [later_size]; done) | (simp [later_size]; omega)) ?_; intro v1 w1 hown hg hbe; have HW1 := Lib.hid hown; have hG1 := hbe w.heap.size w (by (repeat (first | with_reducible exact Below.refl _ _ | with_reducible assumption | with_reducible refine Below.drew ?_ | with_reducible refine below_drewN ?_ _ | with_reducible exact HQ.out | with_reducible exact HBW.out | with_reducible refine below_ext ?_ _ _ | with_reducible refine below_then_later ?_ (by first | with_reducible exact Nat.le_refl _ | with_reducible exact HBW.out.size | with_reducible exact HQ.out.size | omega | (simp; done) | (simp; omega) | (simp [later_size]; done) | (simp [later_size]; omega)) _ | with_reducible refine Below.setCell ?_ (by first | with_reducible exact Nat.le_refl _ | with_reducible exact HBW.out.size | with_reducible exact HQ.out.size | omega | (simp; done) | (simp; omega) | (simp [later_size]; done) | (simp [later_size]; omega)) _ | with_reducible refine Below.alloc ?_ (by first | with_reducible exact Nat.le_refl _ | with_reducible exact HBW.out.size | with_reducible exact HQ.out.size | omega | (simp; done) | (simp; omega) | (simp [later_size]; done) | (simp [later_size]; omega)) _))) (by first | with_reducible rfl | (simp; done) | (simp; omega) | (simp [later_size]; done) | (simp [later_size]; omega)) (Nat.le_refl _); clear hown hbe) | (go_at_call 44; refine (cfz_Minimal _ n c xs _ x1 x2 false _ HN.out (by omega) ((HA.out.later _).alloc _) (by first | (simp; done) | (constructor <;> simp)) HZ1.out).mono ?_; rintro _ _ ⟨rfl, p, rfl⟩) | (go_at_call 47; (refine (c_Contains A2 L c2 acc x1 x2 false _ HL.out (by omega) (by (repeat (first | with_reducible exact HO.out.row | with_reducible refine Row.later ?_ _ | with_reducible refine Row.alloc ?_ _)); done) (decide_eq_false hm)).mono ?_); rintro _ _ ⟨rfl, p, rfl⟩) | ((with_reducible refine wp_region_later (by kernel_rfl) (by kernel_rfl) ?_); (repeat (first | go_big_quiet_skip | quiet_step ((first | (go_at_call 47; first | exact calls_later (c_Contains A2 L c2 acc x1 x2 false _ HL.out (by omega) (by (repeat (first | with_reducible exact HO.out.row | with_reducible refine Row.later ?_ _ | with_reducible refine Row.alloc ?_ _)); done) (decide_eq_false hm)) | exact calls_later2 (c_Contains A2 L c2 acc x1 x2 false _ HL.out (by omega) (by (repeat (first | with_reducible exact HO.out.row | with_reducible refine Row.later ?_ _ | with_reducible refine Row.alloc ?_ _)); done) (decide_eq_false hm))))))); refine wpQuiet_nil ?_; rintro _ ⟨p, rfl⟩))
          all_goals
            go_roundw
            case rel => exact ⟨j + 1, acc ++ [(x1, x2)], L + 1, by go_num, by omega, Lib.hid (by simp [HL.out]), Lib.hid (by rw [HST.out]; exact step_new HZ1.out hm), HW1, later_of_below hG1⟩
            case measure => simp [intOf]; omega
    · have HJ := Lib.hid (show mn xs xs = acc by have := HF.out; rwa [List.take_of_length_le (by rw [HN.out]; omega)] at this)
      go_wp2_with (first | (go_at_call 48; (with_reducible refine (c_sortS A2 L c2 acc _ HL.out (by omega) HO.out).mono ?_); rintro _ w2 ⟨rfl, hg, hO2⟩; have HB2 := Lib.hid (below_grown (lo := w.heap.size) (below_later w pw) hg (below_later w pw).size (fun b hb => HO.out.low HL.out hb)); have HO2 := Lib.hid hO2; clear hg hO2 HO) | ((with_reducible refine wp_region_later (by kernel_rfl) (by kernel_rfl) ?_); (repeat (first | go_big_quiet_skip | quiet_step ((fail)))); refine wpQuiet_nil ?_; rintro _ ⟨p, rfl⟩))
      go_ret
      exact ⟨A2, L, c2, rfl, by unfold minimal; rw [srt_len, HJ.out]; exact HL.out, hc2, hm2, (by unfold minimal; rw [HJ.out]; exact HO2.out), later_of_below HB2.out⟩
end Go.Proofs.Ythnemjaipdheoaa
