/-
  The law's copies of slices of structs (make, then one element a round), and the law's counting down. Conditions: the length is at most 2^20.
-/
import Derived.Test.YtljdinbpmakliaaFill
import Derived.Test.YtljdinbpmakliaaScal
namespace Go.Proofs.Ytljdinbpmakliaa
open Go.RowKit
set_option linter.unusedVariables false

theorem infoRecord : (Try.prog.info? 49).map (fun i => (i.zero, i.size, i.bytes)) = some (some (.agg #[.int .i64 0, .int .i64 0, .int .i64 0, .int .i64 0, .int .i64 0]), 5, 40) := by kernel_rfl
set_option maxHeartbeats 1600000 in
theorem c_toRecordS (A : Option Addr) (n c : Nat) (xs : List (Int × (Int × Int) × Int × Int)) (w : World) (hn : xs.length = n) (hn2 : n ≤ 1048576)
    (ha : Row encR 5 w A xs) : Calls Try.prog 10 #[.slice A n c] w (Copied 49 (xs.flatMap encR).toArray n w) := by
  obtain ⟨i0, hi0, hz0, hs0, hb0⟩ := info_parts infoRecord
  have HA := Lib.hid ha
  have HN := Lib.hid hn
  clear ha hn
  have hmk : ∀ u : World, (Instr.makeSlice 24 (.int .i64 (n : Int)) (.int .i64 (n : Int))).run Try.prog u = .ok (.slice (some ⟨u.heap.size, 0, Option.none⟩) n n) (u.alloc (.cells (fill encR 5 xs 0) 49)) := fun u => by
    rw [run_make_rowN _ _ i0 _ Try.underlying24 hi0 hz0 _ _ n n (Nat.le_refl _) (by rw [hb0]; omega) (by omega) u, hs0]
    have hz : (Value.agg #[.int .i64 0, .int .i64 0, .int .i64 0, .int .i64 0, .int .i64 0]).cells = Array.replicate 5 (Value.int .i64 0) := rfl
    rw [hz, madeCells_zero 5 n (by omega)]
    have hf : fill encR 5 xs 0 = (List.replicate (n * 5) (Value.int .i64 0)).toArray := by unfold fill; simp [HN.out]
    rw [hf]
  clear hi0 hz0 hs0 hb0
  go_enter Try.func10, Try.ntmps10
  go_wp2_with fail
  go_loopw [4] (fun i wr => ∃ k : Nat, i = .int .i64 k ∧ k ≤ n ∧ ∃ p : Later, wr = later (w.alloc (Obj.cells (fill encR 5 xs k) 49)) p) (fun i _ => n - (intOf i).toNat)
  case atStart => exact ⟨0, rfl, by omega, later_refl _⟩
  case round =>
    obtain ⟨k, rfl, hk, p, rfl⟩ := hrel
    clear hmk
    by_cases hlt : k < n
    · obtain ⟨x, hx⟩ : ∃ x, xs[k]? = some x := ⟨_, List.getElem?_eq_getElem (by rw [HN.out]; exact hlt)⟩
      obtain ⟨b, off, rfl, hcx⟩ := HA.out.at_ hx
      have HX := Lib.hid hx
      have hz0 := fill_get encR 5 (fun _ => rfl) xs k (by rw [HN.out]; exact hlt) 0 (by omega)
      have hz1 := fill_get encR 5 (fun _ => rfl) xs k (by rw [HN.out]; exact hlt) 1 (by omega)
      have hz2 := fill_get encR 5 (fun _ => rfl) xs k (by rw [HN.out]; exact hlt) 2 (by omega)
      have hz3 := fill_get encR 5 (fun _ => rfl) xs k (by rw [HN.out]; exact hlt) 3 (by omega)
      have hz4 := fill_get encR 5 (fun _ => rfl) xs k (by rw [HN.out]; exact hlt) 4 (by omega)
      have hbl := World.block_lt_of_cell? _ _ (hcx 0 _ rfl)
      simp only at hbl
      have hble := Nat.le_of_lt hbl
      obtain ⟨x1, ⟨x2, x3⟩, x4, x5⟩ := x
      have hx0 := hcx 0 _ rfl
      have hx1 := hcx 1 _ rfl
      have hx2 := hcx 2 _ rfl
      have hx3 := hcx 3 _ rfl
      have hx4 := hcx 4 _ rfl
      have hsz := fill_size encR 5 (fun _ => rfl) xs k (by rw [HN.out]; omega)
      have HS := Lib.hid (fill_succ encR 5 (fun _ => rfl) xs k _ hx)
      clear hcx hx hsz
      simp only [Nat.add_zero] at *
      generalize hF : fill encR 5 xs k = F at *
      clear hF
      go_wp2_with (first | (go_at_call 25; (refine (c_toRecord _ _ _ _ _ _).mono ?_); rintro _ _ ⟨rfl, p, rfl⟩) | ((with_reducible refine wp_region_later (by kernel_rfl) (by kernel_rfl) ?_); (repeat (first | go_big_quiet_skip | quiet_step ((first | (go_at_call 25; first | exact calls_later (c_toRecord _ _ _ _ _ _) | exact calls_later2 (c_toRecord _ _ _ _ _ _)))))); refine wpQuiet_nil ?_; rintro _ ⟨p, rfl⟩))
      all_goals
        go_roundw
        case rel => exact ⟨k + 1, by go_num, by omega, _, by rw [← HS.out]; rfl⟩
        case measure => simp [intOf]; omega
    · have hkn : k = n := by omega
      subst hkn
      go_wp2_with (first | ((with_reducible refine wp_region_later (by kernel_rfl) (by kernel_rfl) ?_); (repeat (first | go_big_quiet_skip | quiet_step ((fail)))); refine wpQuiet_nil ?_; rintro _ ⟨p, rfl⟩))
      go_ret
      exact ⟨rfl, p, by rw [← HN.out, fill_all]⟩
end Go.Proofs.Ytljdinbpmakliaa
