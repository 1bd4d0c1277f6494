/-
  The law's marking of a slice's cells with ascending numbers, and its asking for them. Conditions: the length is at most 2^40.
-/
import Derived.Test.YtljdinbpmakliaaOwn
namespace Go.Proofs.Ytljdinbpmakliaa
open Go.RowKit
set_option linter.unusedVariables false

theorem Mrk.done {k0 : Int} {t : Nat} {A : Option Addr} {row : Option Nat} {w wr : World} (h : Mrk k0 t t A row w wr) : w.grownBy wr row ∧ Row (encM k0) 1 wr A (List.range t) := ⟨h.1, h.2.1⟩
theorem mark_ret {a b : Int} (h : a = b) : Ending.returned (.int .i64 a) = .returned (.int .i64 b) := by rw [h]
theorem mark_cell {k0 : Int} {w : World} {A : Option Addr} {t m : Nat} (h : Row (encM k0) 1 w A (List.range t)) (hm : m < t) : ∃ b off, A = some ⟨b, off, Option.none⟩ ∧ ∀ i, i < t → w.cell? ⟨b, off + i, Option.none⟩ = some (.int .i64 (k0 + i)) := by
  obtain ⟨b, off, e, hc⟩ := h (by simp; omega)
  refine ⟨b, off, e, fun i hi => ?_⟩
  have := hc i i (List.getElem?_range hi) 0 (.int .i64 (k0 + i)) (by simp [encM])
  simpa using this

set_option maxHeartbeats 1600000 in
theorem c_markRecordS {enc : Int × (Int × Int) × Int × Int → List Value} {lo : Nat} (A : Option Addr) (n c : Nat) (xs : List (Int × (Int × Int) × Int × Int)) (k0 : Int) (w : World) (hn : xs.length = n) (hn2 : n ≤ 1099511627776) (hk0 : 0 ≤ k0) (hk1 : k0 ≤ 1099511627776)
    (ha : Own enc 5 lo w A xs) : Calls Try.prog 13 #[.slice A n c, .int .i64 k0] w (Marked A n 5 k0 w) := by
  have HM := Lib.hid (Mrk.start ha hn k0)
  clear ha hn
  go_enter Try.func13, Try.ntmps13
  go_wp2_with fail
  go_loopw [1, 5] (fun kk ii wr => ∃ j : Nat, ii = .int .i64 j ∧ j ≤ n ∧ kk = .int .i64 (k0 + 5 * j) ∧ Mrk k0 (n * 5) (j * 5) A (ob A n) w wr) (fun _ ii _ => n - (intOf ii).toNat)
  case atStart => exact ⟨0, rfl, by omega, by go_num, by simpa using HM.out⟩
  case round =>
    obtain ⟨j, rfl, hj, rfl, hR⟩ := hrel
    have HR := Lib.hid hR
    clear hR
    by_cases hlt : j < n
    · obtain ⟨b, off, hA, hrow, hc⟩ := HR.out.2.2 (by omega)
      have HAA := Lib.hid hA
      subst hA
      clear hrow
      obtain ⟨hs0, hf0⟩ := hc (j * 5 + 0) (by omega)
      obtain ⟨v0, hx0⟩ := Option.isSome_iff_exists.1 hs0
      replace hx0 : wr.cell? ⟨b, off + j * 5, Option.none⟩ = some v0 := by simpa [Nat.add_assoc] using hx0
      replace hf0 : wr.frozen? ⟨b, off + j * 5, Option.none⟩ = false := by simpa [Nat.add_assoc] using hf0
      clear hs0
      obtain ⟨hs1, hf1⟩ := hc (j * 5 + 1) (by omega)
      obtain ⟨v1, hx1⟩ := Option.isSome_iff_exists.1 hs1
      replace hx1 : wr.cell? ⟨b, off + j * 5 + 1, Option.none⟩ = some v1 := by simpa [Nat.add_assoc] using hx1
      replace hf1 : wr.frozen? ⟨b, off + j * 5 + 1, Option.none⟩ = false := by simpa [Nat.add_assoc] using hf1
      clear hs1
      obtain ⟨hs2, hf2⟩ := hc (j * 5 + 2) (by omega)
      obtain ⟨v2, hx2⟩ := Option.isSome_iff_exists.1 hs2
      replace hx2 : wr.cell? ⟨b, off + j * 5 + 2, Option.none⟩ = some v2 := by simpa [Nat.add_assoc] using hx2
      replace hf2 : wr.frozen? ⟨b, off + j * 5 + 2, Option.none⟩ = false := by simpa [Nat.add_assoc] using hf2
      clear hs2
      obtain ⟨hs3, hf3⟩ := hc (j * 5 + 3) (by omega)
      obtain ⟨v3, hx3⟩ := Option.isSome_iff_exists.1 hs3
      replace hx3 : wr.cell? ⟨b, off + j * 5 + 3, Option.none⟩ = some v3 := by simpa [Nat.add_assoc] using hx3
      replace hf3 : wr.frozen? ⟨b, off + j * 5 + 3, Option.none⟩ = false := by simpa [Nat.add_assoc] using hf3
      clear hs3
      obtain ⟨hs4, hf4⟩ := hc (j * 5 + 4) (by omega)
      obtain ⟨v4, hx4⟩ := Option.isSome_iff_exists.1 hs4
      replace hx4 : wr.cell? ⟨b, off + j * 5 + 4, Option.none⟩ = some v4 := by simpa [Nat.add_assoc] using hx4
      replace hf4 : wr.frozen? ⟨b, off + j * 5 + 4, Option.none⟩ = false := by simpa [Nat.add_assoc] using hf4
      clear hs4
      have hbl := World.block_lt_of_cell? _ _ hx0
      simp only at hbl
      have hble := Nat.le_of_lt hbl
      clear hc
      have HST := Lib.hid ((((((HR.out).step (v := k0 + 5 * (j : Int)) (o := off + j * 5) HAA.out (by omega) (by push_cast; omega) (by omega)).step (v := k0 + 5 * (j : Int) + 1) (o := off + j * 5 + 1) HAA.out (by omega) (by push_cast; omega) (by omega)).step (v := k0 + 5 * (j : Int) + 1 + 1) (o := off + j * 5 + 2) HAA.out (by omega) (by push_cast; omega) (by omega)).step (v := k0 + 5 * (j : Int) + 1 + 1 + 1) (o := off + j * 5 + 3) HAA.out (by omega) (by push_cast; omega) (by omega)).step (v := k0 + 5 * (j : Int) + 1 + 1 + 1 + 1) (o := off + j * 5 + 4) HAA.out (by omega) (by push_cast; omega) (by omega))
      clear HR HM
      go_wp2_with fail
      all_goals
        go_roundw
        case rel => exact ⟨j + 1, by go_num, by omega, by go_num, by rw [Nat.succ_mul]; exact HST.out⟩
        case measure => simp [intOf]; omega
    · have hjn : j = n := by omega
      subst hjn
      have HD := Lib.hid HR.out.done
      clear HR HM
      go_wp2_with fail
      go_ret
      exact ⟨mark_ret (by omega), HD.out⟩
set_option maxHeartbeats 1600000 in
theorem c_heldRecordS (A : Option Addr) (n c : Nat) (k0 : Int) (w : World) (hn2 : n ≤ 1099511627776) (hk0 : 0 ≤ k0) (hk1 : k0 ≤ 1099511627776)
    (ha : Row (encM k0) 1 w A (List.range (n * 5))) : Calls Try.prog 14 #[.slice A n c, .int .i64 k0] w (Gives (.int .i64 (k0 + 5 * n)) w) := by
  have HA := Lib.hid ha
  clear ha
  go_enter Try.func14, Try.ntmps14
  go_wp2_with fail
  go_loopw [1, 5] (fun kk ii wr => ∃ j : Nat, ii = .int .i64 j ∧ j ≤ n ∧ kk = .int .i64 (k0 + 5 * j) ∧ ∃ p : Later, wr = later w p) (fun _ ii _ => n - (intOf ii).toNat)
  case atStart => exact ⟨0, rfl, by omega, by go_num, later_refl _⟩
  case round =>
    obtain ⟨j, rfl, hj, rfl, p, rfl⟩ := hrel
    by_cases hlt : j < n
    · obtain ⟨b, off, hA, hc⟩ := mark_cell (m := j * 5) HA.out (by omega)
      subst hA
      have hx0 : w.cell? ⟨b, off + j * 5, Option.none⟩ = some (.int .i64 (k0 + 5 * (j : Int))) := by rw [show off + j * 5 = off + (j * 5 + 0) by omega, hc _ (by omega)]; congr 2; omega
      have hx1 : w.cell? ⟨b, off + j * 5 + 1, Option.none⟩ = some (.int .i64 (k0 + 5 * (j : Int) + 1)) := by rw [show off + j * 5 + 1 = off + (j * 5 + 1) by omega, hc _ (by omega)]; congr 2; omega
      have hx2 : w.cell? ⟨b, off + j * 5 + 2, Option.none⟩ = some (.int .i64 (k0 + 5 * (j : Int) + 2)) := by rw [show off + j * 5 + 2 = off + (j * 5 + 2) by omega, hc _ (by omega)]; congr 2; omega
      have hx3 : w.cell? ⟨b, off + j * 5 + 3, Option.none⟩ = some (.int .i64 (k0 + 5 * (j : Int) + 3)) := by rw [show off + j * 5 + 3 = off + (j * 5 + 3) by omega, hc _ (by omega)]; congr 2; omega
      have hx4 : w.cell? ⟨b, off + j * 5 + 4, Option.none⟩ = some (.int .i64 (k0 + 5 * (j : Int) + 4)) := by rw [show off + j * 5 + 4 = off + (j * 5 + 4) by omega, hc _ (by omega)]; congr 2; omega
      have hbl := World.block_lt_of_cell? _ _ hx0
      simp only at hbl
      have hble := Nat.le_of_lt hbl
      clear hc HA
      go_wp2_with fail
      all_goals
        go_roundw
        case rel => exact ⟨j + 1, by go_num, by omega, by go_num, _, rfl⟩
        case measure => simp [intOf]; omega
    · have hjn : j = n := by omega
      subst hjn
      clear HA
      go_wp2_with fail
      go_ret
      exact Gives.mk rfl (by (repeat (first | with_reducible exact Below.refl _ _ | with_reducible assumption | with_reducible refine Below.drew ?_ | with_reducible refine below_drewN ?_ _ | with_reducible exact HQ.out | with_reducible exact HBW.out | with_reducible refine below_ext ?_ _ _ | with_reducible refine below_then_later ?_ (by first | with_reducible exact Nat.le_refl _ | with_reducible exact HBW.out.size | with_reducible exact HQ.out.size | omega | (simp; done) | (simp; omega) | (simp [later_size]; done) | (simp [later_size]; omega)) _ | with_reducible refine Below.setCell ?_ (by first | with_reducible exact Nat.le_refl _ | with_reducible exact HBW.out.size | with_reducible exact HQ.out.size | omega | (simp; done) | (simp; omega) | (simp [later_size]; done) | (simp [later_size]; omega)) _ | with_reducible refine Below.alloc ?_ (by first | with_reducible exact Nat.le_refl _ | with_reducible exact HBW.out.size | with_reducible exact HQ.out.size | omega | (simp; done) | (simp; omega) | (simp [later_size]; done) | (simp [later_size]; omega)) _)))
end Go.Proofs.Ytljdinbpmakliaa
