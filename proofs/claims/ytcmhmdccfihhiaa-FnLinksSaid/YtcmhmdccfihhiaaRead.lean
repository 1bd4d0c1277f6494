/-
  Loops that read slices of stamps and of counts: EpochOver, Ahead, FrontLeq, TotalCount, CountAt, EpochCount, in the program and in the reference. Conditions: the length fits an int.
-/
import Derived.Test.YtcmhmdccfihhiaaFill
import Derived.Test.YtcmhmdccfihhiaaScal
import Derived.Test.YtcmhmdccfihhiaaStruct
namespace Go.Proofs.Ytcmhmdccfihhiaa
open Go.RowKit
set_option linter.unusedVariables false

section
variable {α : Type}
theorem any_succ {P : α → Bool} {xs : List α} {k : Nat} {x : α} (h : (xs.take k).any P = false) (hx : xs[k]? = some x) (hP : P x = false) : (xs.take (k + 1)).any P = false := by
  rw [List.take_add_one, hx, List.any_append, h]
  simp [hP]
theorem any_hit {P : α → Bool} {xs : List α} {k : Nat} {x : α} (hx : xs[k]? = some x) (hP : P x = true) : xs.any P = true := by
  rw [List.any_eq_true]
  exact ⟨x, List.mem_of_getElem? hx, hP⟩
theorem any_end {P : α → Bool} {xs : List α} {n : Nat} (h : (xs.take n).any P = false) (hn : xs.length = n) : xs.any P = false := by
  rwa [List.take_of_length_le (by omega)] at h
theorem find_succ {P : α → Bool} {xs : List α} {k : Nat} {x : α} (h : (xs.take k).find? P = Option.none) (hx : xs[k]? = some x) (hP : P x = false) : (xs.take (k + 1)).find? P = Option.none := by
  rw [List.take_add_one, hx, List.find?_append, h]
  simp [hP]
theorem find_hit {P : α → Bool} {xs : List α} {k : Nat} {x : α} (h : (xs.take k).find? P = Option.none) (hx : xs[k]? = some x) (hP : P x = true) : xs.find? P = some x := by
  have hk : k < xs.length := (List.getElem?_eq_some_iff.1 hx).1
  have e : xs = xs.take k ++ x :: xs.drop (k + 1) := by
    have h1 := List.take_append_drop k xs
    rw [List.drop_eq_getElem_cons hk] at h1
    have h2 : xs[k] = x := by rw [List.getElem?_eq_getElem hk] at hx; exact Option.some.inj hx
    rw [h2] at h1
    exact h1.symm
  rw [e, List.find?_append, h]
  simp [hP]
theorem find_end {P : α → Bool} {xs : List α} {n : Nat} (h : (xs.take n).find? P = Option.none) (hn : xs.length = n) : xs.find? P = Option.none := by
  rwa [List.take_of_length_le (by omega)] at h
theorem fold_succ {β : Type} {f : β → α → β} {b : β} {xs : List α} {k : Nat} {x : α} (hx : xs[k]? = some x) : (xs.take (k + 1)).foldl f b = f ((xs.take k).foldl f b) x := by
  rw [List.take_add_one, hx, List.foldl_append]
  rfl
theorem fold_end {β : Type} {f : β → α → β} {b : β} {xs : List α} {n : Nat} (hn : xs.length = n) : (xs.take n).foldl f b = xs.foldl f b := by
  rw [List.take_of_length_le (by omega)]
end

def overP (e : Int) (x : Int × Int) : Bool := decide (x.1 ≤ e)
def aheadP (a b : Int) (x : Int × Int) : Bool := leqB x.1 x.2 a b
def ahead (xs : List (Int × Int)) (s : Int × Int) : Bool := xs.any (aheadP s.1 s.2)
def notAhead (xs : List (Int × Int)) (s : Int × Int) : Bool := !ahead xs s
def total (xs : List ((Int × Int) × Int)) : Int := xs.foldl (fun s x => wrap64 (s + x.2)) 0
def epochStep (e s : Int) (x : (Int × Int) × Int) : Int := if x.1.1 = e then wrap64 (s + x.2) else s
def epochCount (xs : List ((Int × Int) × Int)) (e : Int) : Int := xs.foldl (epochStep e) 0
def atP (a b : Int) (x : (Int × Int) × Int) : Bool := decide (x.1.1 = a ∧ x.1.2 = b)
def countAt (xs : List ((Int × Int) × Int)) (a b : Int) : Int := match xs.find? (atP a b) with | some x => x.2 | Option.none => 0

end Go.Proofs.Ytcmhmdccfihhiaa
