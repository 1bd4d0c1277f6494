/-
  Opening a law's arguments: structs of ints by value, slices of such structs. Conditions: none.
-/
import Derived.Test.YtopaapgbenpbaaaDoorKit
namespace Go.Proofs.YtopaapgbenpbaaaDoor
open Go.ChangeShapes Go.WideShapes Go.ChangeAt Go.RowKit Go.Deep Go.Joins
set_option linter.unusedVariables false

section
variable {H : Type} {enc : TypeId × Value → H} {P : Program} {w : World} {base : Nat} {spare : Nat → Bool} {held : Bool}

/-- a struct {int; struct {int; int}; int; int}: its five cells -/
theorem trod_rec {t s i : TypeId} {f0 f1 f2 f3 g0 g1 : Field} {fuel : Nat} {cs : List Value} {x : DataW H × List MemPlace} (ht : P.underlying t = some (.struct #[f0, f1, f2, f3])) (hs : P.underlying s = some (.struct #[g0, g1])) (hi : P.underlying i = some (.int .i64))
    (o : f0.offset = 0 ∧ f1.offset = 1 ∧ f2.offset = 3 ∧ f3.offset = 4 ∧ g0.offset = 0 ∧ g1.offset = 1) (y : f0.type = i ∧ f1.type = s ∧ f2.type = i ∧ f3.type = i ∧ g0.type = i ∧ g1.type = i)
    (c : P.cellsOf i = 1 ∧ P.cellsOf s = 2 ∧ P.cellsOf t = 5) (h : DataW.trod enc P w base spare held fuel t cs = some x) :
    ∃ a b c d e : Int, cs = [.int .i64 a, .int .i64 b, .int .i64 c, .int .i64 d, .int .i64 e] ∧ I64 a ∧ I64 b ∧ I64 c ∧ I64 d ∧ I64 e := by
  obtain ⟨xs, n, _, _, hlen, hxl, hf⟩ := DataW.trod_struct ht h
  have hl : cs.length = 5 := hlen.trans c.2.2
  match cs, hl with
  | [c0, c1, c2, c3, c4], _ =>
    have e0 := hf 0 f0 rfl
    have e1 := hf 1 f1 rfl
    have e2 := hf 2 f2 rfl
    have e3 := hf 3 f3 rfl
    rw [o.1, y.1, c.1] at e0
    rw [o.2.1, y.2.1, c.2.1] at e1
    rw [o.2.2.1, y.2.2.1, c.1] at e2
    rw [o.2.2.2.1, y.2.2.2.1, c.1] at e3
    have l0 : xs[0]? = some (xs[0]'(by simp at hxl; omega)) := List.getElem?_eq_getElem _
    have l1 : xs[1]? = some (xs[1]'(by simp at hxl; omega)) := List.getElem?_eq_getElem _
    have l2 : xs[2]? = some (xs[2]'(by simp at hxl; omega)) := List.getElem?_eq_getElem _
    have l3 : xs[3]? = some (xs[3]'(by simp at hxl; omega)) := List.getElem?_eq_getElem _
    rw [l0] at e0
    rw [l1] at e1
    rw [l2] at e2
    rw [l3] at e3
    obtain ⟨a, ea, _, wa⟩ := DataW.trod_int hi e0
    obtain ⟨b, b', eb, wb, wb'⟩ := trod_two hs (by rw [y.2.2.2.2.1]; exact hi) (by rw [y.2.2.2.2.2]; exact hi) ⟨o.2.2.2.2.1, o.2.2.2.2.2, by rw [y.2.2.2.2.1]; exact c.1, by rw [y.2.2.2.2.2]; exact c.1, c.2.1⟩ (i := i) e1
    obtain ⟨d, ed, _, wd⟩ := DataW.trod_int hi e2
    obtain ⟨e, ee, _, we⟩ := DataW.trod_int hi e3
    simp at ea eb ed ee
    obtain ⟨rfl, rfl⟩ := eb
    subst ea ed ee
    exact ⟨a, b, b', d, e, rfl, i64_of_wf wa, wb, wb', i64_of_wf wd, i64_of_wf we⟩

/-- a struct {struct {int; int}; int}: its three cells -/
theorem trod_cnt {t s i : TypeId} {f0 f1 g0 g1 : Field} {fuel : Nat} {cs : List Value} {x : DataW H × List MemPlace} (ht : P.underlying t = some (.struct #[f0, f1])) (hs : P.underlying s = some (.struct #[g0, g1])) (hi : P.underlying i = some (.int .i64))
    (o : f0.offset = 0 ∧ f1.offset = 2 ∧ g0.offset = 0 ∧ g1.offset = 1) (y : f0.type = s ∧ f1.type = i ∧ g0.type = i ∧ g1.type = i)
    (c : P.cellsOf i = 1 ∧ P.cellsOf s = 2 ∧ P.cellsOf t = 3) (h : DataW.trod enc P w base spare held fuel t cs = some x) :
    ∃ a b c : Int, cs = [.int .i64 a, .int .i64 b, .int .i64 c] ∧ I64 a ∧ I64 b ∧ I64 c := by
  obtain ⟨xs, n, _, _, hlen, hxl, hf⟩ := DataW.trod_struct ht h
  have hl : cs.length = 3 := hlen.trans c.2.2
  match cs, hl with
  | [c0, c1, c2], _ =>
    have e0 := hf 0 f0 rfl
    have e1 := hf 1 f1 rfl
    rw [o.1, y.1, c.2.1] at e0
    rw [o.2.1, y.2.1, c.1] at e1
    have l0 : xs[0]? = some (xs[0]'(by simp at hxl; omega)) := List.getElem?_eq_getElem _
    have l1 : xs[1]? = some (xs[1]'(by simp at hxl; omega)) := List.getElem?_eq_getElem _
    rw [l0] at e0
    rw [l1] at e1
    obtain ⟨b, b', eb, wb, wb'⟩ := trod_two hs (by rw [y.2.2.1]; exact hi) (by rw [y.2.2.2]; exact hi) ⟨o.2.2.1, o.2.2.2, by rw [y.2.2.1]; exact c.1, by rw [y.2.2.2]; exact c.1, c.2.1⟩ (i := i) e0
    obtain ⟨d, ed, _, wd⟩ := DataW.trod_int hi e1
    simp at eb ed
    obtain ⟨rfl, rfl⟩ := eb
    subst ed
    exact ⟨b, b', d, rfl, wb, wb', i64_of_wf wd⟩

theorem open_two {r : Reach} {b0 : Nat} {t : TypeId} {f0 f1 : Field} {v : Value} {d : DataW H} {p : List MemPlace} (hs : P.underlying t = some (.struct #[f0, f1])) (h0 : P.underlying f0.type = some (.int .i64)) (h1 : P.underlying f1.type = some (.int .i64))
    (o : f0.offset = 0 ∧ f1.offset = 1 ∧ P.cellsOf f0.type = 1 ∧ P.cellsOf f1.type = 1 ∧ P.cellsOf t = 2) (hv : Value.okWide P w r b0 t v) (h : DataW.Trod enc P w base spare held t v d p) :
    ∃ a b : Int, v = .agg #[.int .i64 a, .int .i64 b] ∧ I64 a ∧ I64 b := by
  obtain ⟨cs, rfl, hsz⟩ := okWide_struct hs hv
  obtain ⟨fuel, hf⟩ := h
  obtain ⟨a, b, e, wa, wb⟩ := trod_two (i := 0) hs h0 h1 o hf
  refine ⟨a, b, ?_, wa, wb⟩
  obtain ⟨l⟩ := cs
  simp [Value.cells] at e
  subst e
  rfl

theorem open_rec {r : Reach} {b0 : Nat} {t s i : TypeId} {f0 f1 f2 f3 g0 g1 : Field} {v : Value} {d : DataW H} {p : List MemPlace} (ht : P.underlying t = some (.struct #[f0, f1, f2, f3])) (hs : P.underlying s = some (.struct #[g0, g1])) (hi : P.underlying i = some (.int .i64))
    (o : f0.offset = 0 ∧ f1.offset = 1 ∧ f2.offset = 3 ∧ f3.offset = 4 ∧ g0.offset = 0 ∧ g1.offset = 1) (y : f0.type = i ∧ f1.type = s ∧ f2.type = i ∧ f3.type = i ∧ g0.type = i ∧ g1.type = i)
    (c : P.cellsOf i = 1 ∧ P.cellsOf s = 2 ∧ P.cellsOf t = 5) (hv : Value.okWide P w r b0 t v) (h : DataW.Trod enc P w base spare held t v d p) :
    ∃ a b c d e : Int, v = .agg #[.int .i64 a, .int .i64 b, .int .i64 c, .int .i64 d, .int .i64 e] ∧ I64 a ∧ I64 b ∧ I64 c ∧ I64 d ∧ I64 e := by
  obtain ⟨cs, rfl, hsz⟩ := okWide_struct ht hv
  obtain ⟨fuel, hf⟩ := h
  obtain ⟨a, b, c', d, e, he, ws⟩ := trod_rec ht hs hi o y c hf
  refine ⟨a, b, c', d, e, ?_, ws⟩
  obtain ⟨l⟩ := cs
  simp [Value.cells] at he
  subst he
  rfl
end
end Go.Proofs.YtopaapgbenpbaaaDoor
