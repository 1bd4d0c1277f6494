/-
  Opening a law's arguments that are structs with a slice in them: links, nodes. Conditions: none.
-/
import Derived.Test.YtljdinbpmakliaaSl
namespace Go.Proofs.Ytljdinbpmakliaa
open Go.ChangeShapes Go.WideShapes Go.ChangeAt Go.RowKit Go.Deep Go.Joins
set_option linter.unusedVariables false

section
variable {H : Type} {enc : TypeId × Value → H} {P : Program} {w : World} {base : Nat} {spare : Nat → Bool} {held : Bool}

/-- a slice's one cell, where the elements' cells are all known to be of one make -/
theorem trod_row {α : Type} [Inhabited α] {t e : TypeId} {k fu0 : Nat} {cs0 : List Value} {x0 : DataW H × List MemPlace} (en : α → List Value) (ok : α → Prop) (hk : 0 < k) (ht : P.underlying t = some (.slice e)) (hC : P.cellsOf e = k)
    (hel : ∀ {fuel : Nat} {cs : List Value} {x : DataW H × List MemPlace}, DataW.trod enc P w base spare held fuel e cs = some x → ∃ y : α, cs = en y ∧ ok y)
    (hf : DataW.trod enc P w base spare held fu0 t cs0 = some x0) :
    ∃ (A : Option Addr) (n c : Nat) (xs : List α), cs0 = [.slice A n c] ∧ xs.length = n ∧ n ≤ c ∧ c ≤ maxLen ∧ Row en k w A xs ∧ ∀ x ∈ xs, ok x := by
  rcases open_slice ht hf with ⟨h0, _⟩ | ⟨a, n, c, m, fu, D, Pl, hcs, hb, hl, hm, hmm, hx, hi⟩
  · subst h0
    exact ⟨_, _, _, [], rfl, rfl, Nat.le_refl _, by simp [maxLen], Row.nil, by simp⟩
  · subst hcs
    have hlm : n ≤ m := by rw [hmm]; split <;> omega
    have hch : ∀ i, i < n → ∃ y : α, w.cells? base (a.add (i * P.cellsOf e)) (P.cellsOf e) = some (en y) ∧ ok y := fun i him => by
      obtain ⟨cs', hc1, hc2⟩ := hi i (by omega)
      obtain ⟨y, rfl, hy⟩ := hel hc2
      exact ⟨y, hc1, hy⟩
    obtain ⟨f, hf⟩ := choose_lt hch
    refine ⟨_, _, _, (List.range n).map f, rfl, by simp, hl, hm, ?_, ?_⟩
    · intro hn
      have hn0 : 0 < n := by simpa using hn
      have hspot : a.spot = Option.none := by
        have h0 := (World.cells?_some (hf 0 hn0).1).2.2 0 (by rw [hC]; exact hk)
        have hlen := (World.cells?_some (hf 0 hn0).1).2.1
        have hs : ((en (f 0))[0]?).isSome = true := by
          have : 0 < (en (f 0)).length := by rw [hlen, hC]; exact hk
          simp [this]
        rw [← h0] at hs
        simp only [Nat.zero_mul] at hs
        unfold World.cell? at hs
        have e0 : (a.add 0).add 0 = a := by simp [Addr.add]
        rw [e0] at hs
        split at hs
        · split at hs
          · cases hs
          · rename_i hsp; simpa using hsp
        · cases hs
      obtain ⟨b, off, sp⟩ := a
      simp only at hspot
      subst hspot
      refine ⟨b, off, rfl, fun j x hx i v hv => ?_⟩
      have hj : j < n := by
        have := (List.getElem?_eq_some_iff.1 hx).1
        simpa using this
      have hxe : x = f j := by
        simp [hj] at hx
        exact hx.symm
      subst hxe
      have hilt : i < (en (f j)).length := (List.getElem?_eq_some_iff.1 hv).1
      obtain ⟨_, hlen, hat⟩ := World.cells?_some (hf j hj).1
      have h1 := hat i (by omega)
      rw [hv] at h1
      rw [← h1, hC]
      have ea : ∀ z, (⟨b, off, Option.none⟩ : Addr).add z = ⟨b, off + z, Option.none⟩ := fun z => by
        unfold Addr.add; split <;> simp_all
      have ea2 : ∀ o z, (⟨b, o, Option.none⟩ : Addr).add z = ⟨b, o + z, Option.none⟩ := fun o z => by
        unfold Addr.add; split <;> simp_all
      rw [ea, ea2]
    · intro x hx
      obtain ⟨j, hj, rfl⟩ := List.mem_map.1 hx
      exact (hf j (by simpa using hj)).2

theorem trod_recs {tt t s i : TypeId} {f0 f1 f2 f3 g0 g1 : Field} {fu0 : Nat} {cs0 : List Value} {x0 : DataW H × List MemPlace} (htt : P.underlying tt = some (.slice t)) (ht : P.underlying t = some (.struct #[f0, f1, f2, f3])) (hs : P.underlying s = some (.struct #[g0, g1])) (hi : P.underlying i = some (.int .i64))
    (o : f0.offset = 0 ∧ f1.offset = 1 ∧ f2.offset = 3 ∧ f3.offset = 4 ∧ g0.offset = 0 ∧ g1.offset = 1) (y : f0.type = i ∧ f1.type = s ∧ f2.type = i ∧ f3.type = i ∧ g0.type = i ∧ g1.type = i)
    (c : P.cellsOf i = 1 ∧ P.cellsOf s = 2 ∧ P.cellsOf t = 5) (h : DataW.trod enc P w base spare held fu0 tt cs0 = some x0) :
    ∃ (A : Option Addr) (n c : Nat) (xs : List (Int × (Int × Int) × Int × Int)), cs0 = [.slice A n c] ∧ xs.length = n ∧ n ≤ c ∧ c ≤ maxLen ∧ Row encR 5 w A xs ∧ ∀ x ∈ xs, okR x :=
  trod_row encR okR (by decide) htt c.2.2 (fun hf => by
    obtain ⟨a, b, b', e, f, rfl, wa, wb, wb', we, wf⟩ := trod_rec ht hs hi o y c hf
    exact ⟨(a, (b, b'), e, f), rfl, wa, wb, wb', we, wf⟩) h
theorem trod_ints {t e : TypeId} {fu0 : Nat} {cs0 : List Value} {x0 : DataW H × List MemPlace} (ht : P.underlying t = some (.slice e)) (hs : P.underlying e = some (.int .i64)) (o : P.cellsOf e = 1) (h : DataW.trod enc P w base spare held fu0 t cs0 = some x0) :
    ∃ (A : Option Addr) (n c : Nat) (xs : List Int), cs0 = [.slice A n c] ∧ xs.length = n ∧ n ≤ c ∧ c ≤ maxLen ∧ Row encI 1 w A xs ∧ ∀ x ∈ xs, okI x :=
  trod_row encI okI (by decide) ht o (fun hf => by
    obtain ⟨a, rfl, _, wa⟩ := DataW.trod_int hs hf
    exact ⟨a, rfl, i64_of_wf wa⟩) h

theorem open_link {r : Reach} {b0 : Nat} {t i rt : TypeId} {f0 f1 f2 f3 f4 f5 : Field} {v : Value} {d : DataW H} {p : List MemPlace} (hs : P.underlying t = some (.struct #[f0, f1, f2, f3, f4, f5])) (hi : P.underlying i = some (.int .i64))
    (o : f0.offset = 0 ∧ f1.offset = 1 ∧ f2.offset = 2 ∧ f3.offset = 3 ∧ f4.offset = 4 ∧ f5.offset = 5) (y : f0.type = i ∧ f1.type = rt ∧ f2.type = i ∧ f3.type = i ∧ f4.type = i ∧ f5.type = i)
    (c : P.cellsOf i = 1 ∧ P.cellsOf rt = 1 ∧ P.cellsOf t = 6)
    (hrow : ∀ {fuel : Nat} {cs : List Value} {x : DataW H × List MemPlace}, DataW.trod enc P w base spare held fuel rt cs = some x → ∃ (A : Option Addr) (n c : Nat) (xs : List (Int × (Int × Int) × Int × Int)), cs = [.slice A n c] ∧ xs.length = n ∧ n ≤ c ∧ c ≤ maxLen ∧ Row encR 5 w A xs ∧ ∀ x ∈ xs, okR x)
    (hv : Value.okWide P w r b0 t v) (h : DataW.Trod enc P w base spare held t v d p) :
    ∃ (cap : Int) (A : Option Addr) (n c : Nat) (xs : List (Int × (Int × Int) × Int × Int)) (cr bk st gt : Int), v = .agg #[.int .i64 cap, .slice A n c, .int .i64 cr, .int .i64 bk, .int .i64 st, .int .i64 gt] ∧ xs.length = n ∧ n ≤ c ∧ c ≤ maxLen ∧ Row encR 5 w A xs ∧ (∀ x ∈ xs, okR x) ∧ I64 cap ∧ I64 cr ∧ I64 bk ∧ I64 st ∧ I64 gt := by
  obtain ⟨cs, rfl, hsz⟩ := okWide_struct hs hv
  obtain ⟨l⟩ := cs
  match l, hsz.trans c.2.2 with
  | [c0, c1, c2, c3, c4, c5], _ =>
    obtain ⟨fuel, hf⟩ := h
    obtain ⟨xs, n, _, hx, hlen, hxl, hg⟩ := DataW.trod_struct hs hf
    have e0 := hg 0 f0 rfl
    have e1 := hg 1 f1 rfl
    have e2 := hg 2 f2 rfl
    have e3 := hg 3 f3 rfl
    have e4 := hg 4 f4 rfl
    have e5 := hg 5 f5 rfl
    rw [o.1, y.1, c.1] at e0
    rw [o.2.1, y.2.1, c.2.1] at e1
    rw [o.2.2.1, y.2.2.1, c.1] at e2
    rw [o.2.2.2.1, y.2.2.2.1, c.1] at e3
    rw [o.2.2.2.2.1, y.2.2.2.2.1, c.1] at e4
    rw [o.2.2.2.2.2, y.2.2.2.2.2, c.1] at e5
    have l0 : xs[0]? = some (xs[0]'(by simp at hxl; omega)) := List.getElem?_eq_getElem _
    have l1 : xs[1]? = some (xs[1]'(by simp at hxl; omega)) := List.getElem?_eq_getElem _
    have l2 : xs[2]? = some (xs[2]'(by simp at hxl; omega)) := List.getElem?_eq_getElem _
    have l3 : xs[3]? = some (xs[3]'(by simp at hxl; omega)) := List.getElem?_eq_getElem _
    have l4 : xs[4]? = some (xs[4]'(by simp at hxl; omega)) := List.getElem?_eq_getElem _
    have l5 : xs[5]? = some (xs[5]'(by simp at hxl; omega)) := List.getElem?_eq_getElem _
    rw [l0] at e0
    rw [l1] at e1
    rw [l2] at e2
    rw [l3] at e3
    rw [l4] at e4
    rw [l5] at e5
    obtain ⟨a, ea, _, wa⟩ := DataW.trod_int hi e0
    obtain ⟨A, n, cc, ys, eb, h1, h2, h3, h4, h5⟩ := hrow e1
    obtain ⟨b, ec, _, wb⟩ := DataW.trod_int hi e2
    obtain ⟨d, ed, _, wd⟩ := DataW.trod_int hi e3
    obtain ⟨e, ee, _, we⟩ := DataW.trod_int hi e4
    obtain ⟨g, eg, _, wg⟩ := DataW.trod_int hi e5
    simp [Value.cells] at ea eb ec ed ee eg
    subst ea eb ec ed ee eg
    exact ⟨a, A, n, cc, ys, b, d, e, g, rfl, h1, h2, h3, h4, h5, i64_of_wf wa, i64_of_wf wb, i64_of_wf wd, i64_of_wf we, i64_of_wf wg⟩
theorem open_node {r : Reach} {b0 : Nat} {t i rt : TypeId} {f0 f1 f2 f3 : Field} {v : Value} {d : DataW H} {p : List MemPlace} (hs : P.underlying t = some (.struct #[f0, f1, f2, f3])) (hi : P.underlying i = some (.int .i64))
    (o : f0.offset = 0 ∧ f1.offset = 1 ∧ f2.offset = 2 ∧ f3.offset = 3) (y : f0.type = i ∧ f1.type = i ∧ f2.type = i ∧ f3.type = rt)
    (c : P.cellsOf i = 1 ∧ P.cellsOf rt = 1 ∧ P.cellsOf t = 4)
    (hrow : ∀ {fuel : Nat} {cs : List Value} {x : DataW H × List MemPlace}, DataW.trod enc P w base spare held fuel rt cs = some x → ∃ (A : Option Addr) (n c : Nat) (xs : List Int), cs = [.slice A n c] ∧ xs.length = n ∧ n ≤ c ∧ c ≤ maxLen ∧ Row encI 1 w A xs ∧ ∀ x ∈ xs, okI x)
    (hv : Value.okWide P w r b0 t v) (h : DataW.Trod enc P w base spare held t v d p) :
    ∃ (kd na nb : Int) (A : Option Addr) (n c : Nat) (xs : List Int), v = .agg #[.int .i64 kd, .int .i64 na, .int .i64 nb, .slice A n c] ∧ xs.length = n ∧ n ≤ c ∧ c ≤ maxLen ∧ Row encI 1 w A xs ∧ (∀ x ∈ xs, okI x) ∧ I64 kd ∧ I64 na ∧ I64 nb := by
  obtain ⟨cs, rfl, hsz⟩ := okWide_struct hs hv
  obtain ⟨l⟩ := cs
  match l, hsz.trans c.2.2 with
  | [c0, c1, c2, c3], _ =>
    obtain ⟨fuel, hf⟩ := h
    obtain ⟨xs, n, _, hx, hlen, hxl, hg⟩ := DataW.trod_struct hs hf
    have e0 := hg 0 f0 rfl
    have e1 := hg 1 f1 rfl
    have e2 := hg 2 f2 rfl
    have e3 := hg 3 f3 rfl
    rw [o.1, y.1, c.1] at e0
    rw [o.2.1, y.2.1, c.1] at e1
    rw [o.2.2.1, y.2.2.1, c.1] at e2
    rw [o.2.2.2, y.2.2.2, c.2.1] at e3
    have l0 : xs[0]? = some (xs[0]'(by simp at hxl; omega)) := List.getElem?_eq_getElem _
    have l1 : xs[1]? = some (xs[1]'(by simp at hxl; omega)) := List.getElem?_eq_getElem _
    have l2 : xs[2]? = some (xs[2]'(by simp at hxl; omega)) := List.getElem?_eq_getElem _
    have l3 : xs[3]? = some (xs[3]'(by simp at hxl; omega)) := List.getElem?_eq_getElem _
    rw [l0] at e0
    rw [l1] at e1
    rw [l2] at e2
    rw [l3] at e3
    obtain ⟨a, ea, _, wa⟩ := DataW.trod_int hi e0
    obtain ⟨b, eb, _, wb⟩ := DataW.trod_int hi e1
    obtain ⟨d, ed, _, wd⟩ := DataW.trod_int hi e2
    obtain ⟨A, n, cc, ys, ec, h1, h2, h3, h4, h5⟩ := hrow e3
    simp [Value.cells] at ea eb ec ed
    subst ea eb ec ed
    exact ⟨a, b, d, A, n, cc, ys, rfl, h1, h2, h3, h4, h5, i64_of_wf wa, i64_of_wf wb, i64_of_wf wd⟩
end
end Go.Proofs.Ytljdinbpmakliaa
