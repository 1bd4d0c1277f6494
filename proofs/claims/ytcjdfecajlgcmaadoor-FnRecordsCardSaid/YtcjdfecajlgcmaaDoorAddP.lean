/-
  What AddCounts computes, in plain lists. Conditions: none.
-/
import Derived.Test.YtcjdfecajlgcmaaDoorAdjP
namespace Go.Proofs.YtcjdfecajlgcmaaDoor
open Go.RowKit
set_option linter.unusedVariables false

def addStep (st : Option (List ((Int × Int) × Int))) (x : (Int × Int) × Int) : Option (List ((Int × Int) × Int)) :=
  st.bind fun o => if (adjust o x.1.1 x.1.2 x.2).2 = true then some (adjust o x.1.1 x.1.2 x.2).1 else Option.none
def addRun (xs ys : List ((Int × Int) × Int)) : Option (List ((Int × Int) × Int)) := ys.foldl addStep (some xs)
def addGo (xs ys : List ((Int × Int) × Int)) : Bool := ctsOk xs && ctsOk ys && (addRun xs ys).isSome
def addCounts (xs ys : List ((Int × Int) × Int)) : List ((Int × Int) × Int) × Bool :=
  if addGo xs ys = true then ((addRun xs ys).getD [], true) else (xs, false)
theorem addStep_none (ys : List ((Int × Int) × Int)) : ys.foldl addStep Option.none = Option.none := by
  induction ys with
  | nil => rfl
  | cons y ys ih => simpa [addStep] using ih
theorem addRun_some {xs ys acc R : List ((Int × Int) × Int)} {k : Nat} {x : (Int × Int) × Int} (h : addRun xs (ys.take k) = some acc) (hx : ys[k]? = some x) (hR : (adjust acc x.1.1 x.1.2 x.2).1 = R) (hK : (adjust acc x.1.1 x.1.2 x.2).2 = true) : addRun xs (ys.take (k + 1)) = some R := by
  unfold addRun at h ⊢
  rw [List.take_add_one, hx, List.foldl_append, h]
  simp [addStep, hR, hK]
theorem addRun_none {xs ys acc : List ((Int × Int) × Int)} {k : Nat} {x : (Int × Int) × Int} (h : addRun xs (ys.take k) = some acc) (hx : ys[k]? = some x) (hK : (adjust acc x.1.1 x.1.2 x.2).2 = false) : addRun xs ys = Option.none := by
  have hk : k < ys.length := (List.getElem?_eq_some_iff.1 hx).1
  have h1 : addRun xs (ys.take (k + 1)) = Option.none := by
    unfold addRun at h ⊢
    rw [List.take_add_one, hx, List.foldl_append, h]
    simp [addStep, hK]
  rw [← List.take_append_drop (k + 1) ys]
  unfold addRun at h1 ⊢
  rw [List.foldl_append, h1, addStep_none]
theorem addRun_end {xs ys acc : List ((Int × Int) × Int)} {n : Nat} (h : addRun xs (ys.take n) = some acc) (hn : ys.length ≤ n) : addRun xs ys = some acc := by
  rwa [List.take_of_length_le hn] at h
theorem addRun_len : ∀ (ys : List ((Int × Int) × Int)) {xs r : List ((Int × Int) × Int)}, addRun xs ys = some r → r.length ≤ xs.length + ys.length
  | [], xs, r, h => by
    simp [addRun] at h
    subst h
    simp
  | y :: ys, xs, r, h => by
    unfold addRun at h
    rw [List.foldl_cons] at h
    by_cases hK : (adjust xs y.1.1 y.1.2 y.2).2 = true
    · have e : addStep (some xs) y = some (adjust xs y.1.1 y.1.2 y.2).1 := by simp [addStep, hK]
      rw [e] at h
      have h1 := addRun_len ys (xs := (adjust xs y.1.1 y.1.2 y.2).1) h
      have h2 := adjust_len xs y.1.1 y.1.2 y.2
      simp only [List.length_cons]
      omega
    · have e : addStep (some xs) y = Option.none := by simp [addStep, hK]
      rw [e, addStep_none] at h
      cases h
theorem addCounts_len (xs ys : List ((Int × Int) × Int)) : (addCounts xs ys).1.length ≤ xs.length + ys.length := by
  unfold addCounts
  split
  · cases h : addRun xs ys with
    | none => simp
    | some r => simpa using addRun_len ys h
  · simp
theorem ct_n {xs : List ((Int × Int) × Int)} (h : ctsOk xs = true) {x : (Int × Int) × Int} {k : Nat} (hx : xs[k]? = some x) : I64 x.2 := by
  have := ct_mem h (List.mem_of_getElem? hx)
  unfold ctOk1 at this
  simp at this
  unfold I64
  omega
theorem addCounts_yes {xs ys acc : List ((Int × Int) × Int)} (h1 : ctsOk xs = true) (h2 : ctsOk ys = true) (h : addRun xs ys = some acc) : addCounts xs ys = (acc, true) := by
  simp [addCounts, addGo, h1, h2, h]
theorem addCounts_no {xs ys : List ((Int × Int) × Int)} (h : ctsOk xs = false ∨ ctsOk ys = false ∨ addRun xs ys = Option.none) : addCounts xs ys = (xs, false) := by
  have : addGo xs ys = false := by
    unfold addGo
    rcases h with h | h | h <;> simp [h]
  simp [addCounts, this]
end Go.Proofs.YtcjdfecajlgcmaaDoor
