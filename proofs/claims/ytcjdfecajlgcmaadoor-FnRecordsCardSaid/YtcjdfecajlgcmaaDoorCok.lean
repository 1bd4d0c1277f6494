/-
  CountsOk of the program and of the reference. Conditions: the length fits an int.
-/
import Derived.Test.YtcjdfecajlgcmaaDoorRead
import Derived.Test.YtcjdfecajlgcmaaDoorOrd
import Derived.Test.YtcjdfecajlgcmaaDoorPick
import Derived.IntWalk
namespace Go.Proofs.YtcjdfecajlgcmaaDoor
open Go.RowKit
set_option linter.unusedVariables false

def ctOk1 (x : (Int × Int) × Int) : Bool := stOk x.1.1 x.1.2 && decide (-1000000 ≤ x.2 ∧ x.2 ≤ 1000000) && !decide (x.2 = 0)
def ctAft (xs : List ((Int × Int) × Int)) (x : (Int × Int) × Int) : Nat → Bool
  | 0 => true
  | j + 1 => match xs[j]? with
    | some y => decide (stOrd y.1.1 y.1.2 x.1.1 x.1.2 < 0)
    | Option.none => true
def ctAt (xs : List ((Int × Int) × Int)) (k : Nat) : Bool := match xs[k]? with
  | some x => ctOk1 x && ctAft xs x k
  | Option.none => true
def ctsOk (xs : List ((Int × Int) × Int)) : Bool := (List.range xs.length).all (ctAt xs)
theorem ct_next {xs : List ((Int × Int) × Int)} {k : Nat} {x : (Int × Int) × Int} (h : ∀ j, j < k → ctAt xs j = true) (hx : xs[k]? = some x) (h1 : ctOk1 x = true) (h2 : ctAft xs x k = true) : ∀ j, j < k + 1 → ctAt xs j = true := by
  intro j hj
  by_cases he : j = k
  · subst he
    unfold ctAt
    rw [hx]
    simp [h1, h2]
  · exact h j (by omega)
theorem ct_end {xs : List ((Int × Int) × Int)} {k n : Nat} (h : ∀ j, j < k → ctAt xs j = true) (hk : k = n) (hn : xs.length = n) : ctsOk xs = true := by
  unfold ctsOk
  rw [List.all_eq_true]
  intro j hj
  exact h j (by rw [List.mem_range] at hj; omega)
theorem ct_hit {xs : List ((Int × Int) × Int)} {k n : Nat} {x : (Int × Int) × Int} (hx : xs[k]? = some x) (h1 : (ctOk1 x && ctAft xs x k) = false) : ctsOk xs = false := by
  unfold ctsOk
  rw [List.all_eq_false]
  refine ⟨k, ?_, ?_⟩
  · rw [List.mem_range]; exact (List.getElem?_eq_some_iff.1 hx).1
  · unfold ctAt
    rw [hx]
    simp only
    rw [h1]
    simp
theorem ct_aft {xs : List ((Int × Int) × Int)} {x y : (Int × Int) × Int} {j : Nat} {v : Int} (hy : xs[j]? = some y) (hv : stOrd y.1.1 y.1.2 x.1.1 x.1.2 = v) : ctAft xs x (j + 1) = decide (v < 0) := by
  simp only [ctAft, hy, hv]
theorem ct_aft' {xs : List ((Int × Int) × Int)} {x y : (Int × Int) × Int} {k : Nat} {v : Int} (hk : 0 < k) (hy : xs[k - 1]? = some y) (hv : stOrd y.1.1 y.1.2 x.1.1 x.1.2 = v) : ctAft xs x k = decide (v < 0) := by
  obtain ⟨j, rfl⟩ : ∃ j, k = j + 1 := ⟨k - 1, by omega⟩
  exact ct_aft hy hv
theorem ct_aft0 {xs : List ((Int × Int) × Int)} {x : (Int × Int) × Int} {k : Nat} (hk : ¬ 0 < k) : ctAft xs x k = true := by
  obtain rfl : k = 0 := by omega
  rfl

theorem so_s (a b c d v : Int) (w : World) (h : stOrd a b c d = v) : Calls Tryd.prog 45 #[.agg #[.int .i64 a, .int .i64 b], .agg #[.int .i64 c, .int .i64 d]] w (Gives (.int .i64 v) w) := by
  subst h; exact c_sStampOrder a b c d w
theorem so_i (a b c d v : Int) (w : World) (h : stOrd a b c d = v) : Calls Tryd.prog 31 #[.agg #[.int .i64 a, .int .i64 b], .agg #[.int .i64 c, .int .i64 d]] w (Gives (.int .i64 v) w) := by
  subst h; exact c_iStampOrder a b c d w
end Go.Proofs.YtcjdfecajlgcmaaDoor
