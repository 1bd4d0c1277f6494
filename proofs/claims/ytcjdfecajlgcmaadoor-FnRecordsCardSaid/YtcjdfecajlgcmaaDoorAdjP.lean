/-
  What Adjust and AddCounts compute, in plain lists. Conditions: none.
-/
import Derived.Test.YtcjdfecajlgcmaaDoorCok
import Derived.Test.YtcjdfecajlgcmaaDoorApp
namespace Go.Proofs.YtcjdfecajlgcmaaDoor
open Go.RowKit
set_option linter.unusedVariables false

def adjStep (a b tot : Int) (st : List ((Int × Int) × Int) × Bool) (x : (Int × Int) × Int) : List ((Int × Int) × Int) × Bool :=
  if x.1.1 = a ∧ x.1.2 = b then (if st.2 = false ∧ stOrd a b x.1.1 x.1.2 ≤ 0 then (st.1 ++ [((a, b), tot)], true) else st)
  else if st.2 = false ∧ stOrd a b x.1.1 x.1.2 ≤ 0 then (st.1 ++ [((a, b), tot)] ++ [x], true) else (st.1 ++ [x], st.2)
def adjRun (xs : List ((Int × Int) × Int)) (a b tot : Int) : List ((Int × Int) × Int) × Bool := xs.foldl (adjStep a b tot) ([], decide (tot = 0))
def adjOut (xs : List ((Int × Int) × Int)) (a b tot : Int) : List ((Int × Int) × Int) :=
  if (adjRun xs a b tot).2 = true then (adjRun xs a b tot).1 else (adjRun xs a b tot).1 ++ [((a, b), tot)]
def adjGo (xs : List ((Int × Int) × Int)) (a b n : Int) : Bool :=
  ctsOk xs && stOk a b && decide (-2000000 ≤ n ∧ n ≤ 2000000) && decide (-1000000 ≤ countAt xs a b + n ∧ countAt xs a b + n ≤ 1000000)
def adjust (xs : List ((Int × Int) × Int)) (a b n : Int) : List ((Int × Int) × Int) × Bool :=
  if adjGo xs a b n = true then (adjOut xs a b (countAt xs a b + n), true) else (xs, false)

theorem adjRun_take {xs : List ((Int × Int) × Int)} {a b tot : Int} {k : Nat} {x : (Int × Int) × Int} {acc : List ((Int × Int) × Int)} {pb : Bool} {r : List ((Int × Int) × Int) × Bool} (h : adjRun (xs.take k) a b tot = (acc, pb)) (hx : xs[k]? = some x) (hr : adjStep a b tot (acc, pb) x = r) : adjRun (xs.take (k + 1)) a b tot = r := by
  unfold adjRun at h ⊢
  rw [List.take_add_one, hx, List.foldl_append, h]
  exact hr
theorem adj_len0 (a b tot : Int) : ∀ (xs : List ((Int × Int) × Int)) (st : List ((Int × Int) × Int) × Bool), ((xs.foldl (adjStep a b tot) st).1.length + (if (xs.foldl (adjStep a b tot) st).2 = true then 0 else 1)) ≤ xs.length + (st.1.length + (if st.2 = true then 0 else 1))
  | [], st => by simp; exact Nat.le_refl _
  | x :: xs, st => by
    rw [List.foldl_cons]
    refine Nat.le_trans (adj_len0 a b tot xs _) ?_
    rw [List.length_cons]
    have : ((adjStep a b tot st x).1.length + (if (adjStep a b tot st x).2 = true then 0 else 1)) ≤ st.1.length + (if st.2 = true then 0 else 1) + 1 := by
      unfold adjStep
      split
      · split
        · rename_i h
          simp [h.1]
        · omega
      · split
        · rename_i h
          simp [h.1]
        · simp
          omega
    omega
theorem adj_len {xs acc : List ((Int × Int) × Int)} {a b tot : Int} {pb : Bool} (h : adjRun xs a b tot = (acc, pb)) : acc.length ≤ xs.length + 1 ∧ (pb = false → acc.length ≤ xs.length) := by
  have := adj_len0 a b tot xs ([], decide (tot = 0))
  unfold adjRun at h
  rw [h] at this
  simp only [List.length_nil] at this
  constructor
  · split at this <;> split at this <;> omega
  · intro hp
    subst hp
    simp at this
    split at this <;> omega
theorem adjOut_len (xs : List ((Int × Int) × Int)) (a b tot : Int) : (adjOut xs a b tot).length ≤ xs.length + 1 := by
  have h := adj_len (xs := xs) (a := a) (b := b) (tot := tot) (acc := (adjRun xs a b tot).1) (pb := (adjRun xs a b tot).2) rfl
  unfold adjOut
  split
  · exact h.1
  · rename_i hp
    have := h.2 (by simpa using hp)
    simp
    exact this
theorem adjust_len (xs : List ((Int × Int) × Int)) (a b n : Int) : (adjust xs a b n).1.length ≤ xs.length + 1 := by
  unfold adjust
  split
  · exact adjOut_len _ _ _ _
  · simp

theorem ct_mem {xs : List ((Int × Int) × Int)} (h : ctsOk xs = true) {x : (Int × Int) × Int} (hx : x ∈ xs) : ctOk1 x = true := by
  obtain ⟨k, hk⟩ := List.mem_iff_getElem?.1 hx
  unfold ctsOk at h
  rw [List.all_eq_true] at h
  have := h k (by rw [List.mem_range]; exact (List.getElem?_eq_some_iff.1 hk).1)
  unfold ctAt at this
  rw [hk] at this
  simp only [Bool.and_eq_true] at this
  exact this.1
theorem countAt_rng {xs : List ((Int × Int) × Int)} (h : ctsOk xs = true) (a b : Int) : -1000000 ≤ countAt xs a b ∧ countAt xs a b ≤ 1000000 := by
  unfold countAt
  split
  · rename_i x hx
    have := ct_mem h (List.mem_of_find?_eq_some hx)
    unfold ctOk1 at this
    simp at this
    omega
  · omega
theorem infoCount : (Tryd.prog.info? 62).map (fun i => (i.zero, i.size, i.bytes)) = some (some (.agg #[.int .i64 0, .int .i64 0, .int .i64 0]), 3, 24) := by kernel_rfl
theorem gives_at {P : Program} {f : FuncId} {args : Array Value} {w : World} {x y : Int} (h : x = y) (hc : Calls P f args w (Gives (.int .i64 x) w)) : Calls P f args w (Gives (.int .i64 y) w) := by subst h; exact hc
end Go.Proofs.YtcjdfecajlgcmaaDoor
