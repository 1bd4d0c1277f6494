/-
  Slices that read as lists: the words for them, and how an argument that is a slice of structs is opened. Conditions: none.
-/
import Derived.Test.YtopaapgbenpbaaaDoorOpen
namespace Go.Proofs.YtopaapgbenpbaaaDoor
open Go.ChangeShapes Go.WideShapes Go.ChangeAt Go.RowKit Go.Deep Go.Joins
set_option linter.unusedVariables false

def encI (x : Int) : List Value := [.int .i64 x]
def encS (x : Int × Int) : List Value := [.int .i64 x.1, .int .i64 x.2]
def encC (x : (Int × Int) × Int) : List Value := [.int .i64 x.1.1, .int .i64 x.1.2, .int .i64 x.2]
def encR (x : Int × (Int × Int) × Int × Int) : List Value := [.int .i64 x.1, .int .i64 x.2.1.1, .int .i64 x.2.1.2, .int .i64 x.2.2.1, .int .i64 x.2.2.2]
def okI (x : Int) : Prop := I64 x
def okS (x : Int × Int) : Prop := I64 x.1 ∧ I64 x.2
def okC (x : (Int × Int) × Int) : Prop := I64 x.1.1 ∧ I64 x.1.2 ∧ I64 x.2
def okR (x : Int × (Int × Int) × Int × Int) : Prop := I64 x.1 ∧ I64 x.2.1.1 ∧ I64 x.2.1.2 ∧ I64 x.2.2.1 ∧ I64 x.2.2.2

section
variable {α : Type}
/-- the slice at A holds xs, k cells an element -/
def Row (enc : α → List Value) (k : Nat) (w : World) (A : Option Addr) (xs : List α) : Prop :=
  0 < xs.length → ∃ b off, A = some ⟨b, off, Option.none⟩ ∧ ∀ j x, xs[j]? = some x → ∀ i v, (enc x)[i]? = some v → w.cell? ⟨b, off + j * k + i, Option.none⟩ = some v

theorem Row.later {enc : α → List Value} {k : Nat} {w : World} {A : Option Addr} {xs : List α} (h : Row enc k w A xs) (p : Later) : Row enc k (later w p) A xs := fun hn => by
  obtain ⟨b, off, hA, hc⟩ := h hn
  refine ⟨b, off, hA, fun j x hx i v hv => ?_⟩
  have := hc j x hx i v hv
  rw [later_cell (by rw [this]; rfl)]
  exact this
theorem Row.below {enc : α → List Value} {k : Nat} {w w' : World} {A : Option Addr} {xs : List α} (h : Row enc k w A xs) (hb : Below w.heap.size w w') : Row enc k w' A xs := by
  obtain ⟨p, rfl⟩ := later_of_below hb
  exact h.later p
theorem Row.nil {enc : α → List Value} {k : Nat} {w : World} {A : Option Addr} : Row enc k w A [] := fun h => absurd h (by simp)

/-- one element's cells, in whatever later world -/
theorem Row.at_ {enc : α → List Value} {k : Nat} {w : World} {A : Option Addr} {xs : List α} {j : Nat} {x : α} (h : Row enc k w A xs) (hx : xs[j]? = some x) :
    ∃ b off, A = some ⟨b, off, Option.none⟩ ∧ (∀ i v, (enc x)[i]? = some v → w.cell? ⟨b, off + j * k + i, Option.none⟩ = some v) := by
  have hj : j < xs.length := (List.getElem?_eq_some_iff.1 hx).1
  obtain ⟨b, off, hA, hc⟩ := h (by omega)
  exact ⟨b, off, hA, hc j x hx⟩
end

theorem later_refl (w : World) : ∃ p : Later, w = later w p := ⟨⟨w.drawn, #[]⟩, by simp [later]⟩

theorem take_eq_succ {α : Type} {xs ys : List α} {k : Nat} {x y : α} (h : xs.take k = ys.take k) (hx : xs[k]? = some x) (hy : ys[k]? = some y) (he : x = y) : xs.take (k + 1) = ys.take (k + 1) := by
  rw [List.take_add_one, List.take_add_one, h, hx, hy, he]
theorem ne_of_at {α : Type} {xs ys : List α} {k : Nat} {x y : α} (hx : xs[k]? = some x) (hy : ys[k]? = some y) (he : x ≠ y) : xs ≠ ys := fun h => by
  subst h; rw [hx] at hy; exact he (Option.some.inj hy)
theorem eq_of_take {α : Type} {xs ys : List α} {n : Nat} (h : xs.take n = ys.take n) (hx : xs.length = n) (hy : ys.length = n) : xs = ys := by
  rw [List.take_of_length_le (by omega), List.take_of_length_le (by omega)] at h
  exact h

section
variable {H : Type} {enc : TypeId × Value → H} {P : Program} {w : World} {base : Nat} {spare : Nat → Bool} {held : Bool}

/-- a slice whose elements' cells are all known to be of one make: opened to a list -/
theorem open_row {α : Type} [Inhabited α] {r : Reach} {b0 : Nat} {t e : TypeId} {k : Nat} {v : Value} {d : DataW H} {p : List MemPlace} (en : α → List Value) (ok : α → Prop) (hk : 0 < k) (ht : P.underlying t = some (.slice e)) (hC : P.cellsOf e = k)
    (hel : ∀ {fuel : Nat} {cs : List Value} {x : DataW H × List MemPlace}, DataW.trod enc P w base spare held fuel e cs = some x → ∃ y : α, cs = en y ∧ ok y)
    (hv : Value.okWide P w r b0 t v) (h : DataW.Trod enc P w base spare held t v d p) :
    ∃ (A : Option Addr) (n c : Nat) (xs : List α), v = .slice A n c ∧ xs.length = n ∧ n ≤ c ∧ c ≤ maxLen ∧ Row en k w A xs ∧ ∀ x ∈ xs, ok x := by
  obtain ⟨A, n, c, rfl⟩ := okWide_slice ht hv
  obtain ⟨fuel, hf⟩ := h
  rcases open_slice ht hf with ⟨h0, _⟩ | ⟨a, len, cap, m, fu, D, Pl, hcs, hb, hl, hm, hmm, hx, hi⟩
  · simp [Value.cells] at h0
    obtain ⟨rfl, rfl, rfl⟩ := h0
    exact ⟨_, _, _, [], rfl, rfl, Nat.le_refl _, by simp [maxLen], Row.nil, by simp⟩
  · simp [Value.cells] at hcs
    obtain ⟨rfl, rfl, rfl⟩ := hcs
    have hlm : n ≤ m := by rw [hmm]; split <;> omega
    have hch : ∀ i, i < n → ∃ y : α, w.cells? base (a.add (i * P.cellsOf e)) (P.cellsOf e) = some (en y) ∧ ok y := fun i him => by
      obtain ⟨cs', hc1, hc2⟩ := hi i (by omega)
      obtain ⟨y, rfl, hy⟩ := hel hc2
      exact ⟨y, hc1, hy⟩
    obtain ⟨f, hf⟩ := choose_lt hch
    refine ⟨_, _, _, (List.range n).map f, rfl, by simp, hl, hm, ?_, ?_⟩
    · intro hn
      have hn0 : 0 < n := by simpa using hn
      have hspot : a.spot = Option.none := by
        have h0 := (World.cells?_some (hf 0 hn0).1).2.2 0 (by rw [hC]; exact hk)
        have hlen := (World.cells?_some (hf 0 hn0).1).2.1
        have hs : ((en (f 0))[0]?).isSome = true := by
          have : 0 < (en (f 0)).length := by rw [hlen, hC]; exact hk
          simp [this]
        rw [← h0] at hs
        simp only [Nat.zero_mul] at hs
        unfold World.cell? at hs
        have e0 : (a.add 0).add 0 = a := by simp [Addr.add]
        rw [e0] at hs
        split at hs
        · split at hs
          · cases hs
          · rename_i hsp; simpa using hsp
        · cases hs
      obtain ⟨b, off, sp⟩ := a
      simp only at hspot
      subst hspot
      refine ⟨b, off, rfl, fun j x hx i v hv => ?_⟩
      have hj : j < n := by
        have := (List.getElem?_eq_some_iff.1 hx).1
        simpa using this
      have hxe : x = f j := by
        simp [hj] at hx
        exact hx.symm
      subst hxe
      have hilt : i < (en (f j)).length := (List.getElem?_eq_some_iff.1 hv).1
      obtain ⟨_, hlen, hat⟩ := World.cells?_some (hf j hj).1
      have h1 := hat i (by omega)
      rw [hv] at h1
      rw [← h1, hC]
      have ea : ∀ z, (⟨b, off, Option.none⟩ : Addr).add z = ⟨b, off + z, Option.none⟩ := fun z => by
        unfold Addr.add; split <;> simp_all
      have ea2 : ∀ o z, (⟨b, o, Option.none⟩ : Addr).add z = ⟨b, o + z, Option.none⟩ := fun o z => by
        unfold Addr.add; split <;> simp_all
      rw [ea, ea2]
    · intro x hx
      obtain ⟨j, hj, rfl⟩ := List.mem_map.1 hx
      exact (hf j (by simpa using hj)).2

theorem open_stamps {r : Reach} {b0 : Nat} {t e : TypeId} {f0 f1 : Field} {v : Value} {d : DataW H} {p : List MemPlace} (ht : P.underlying t = some (.slice e)) (hs : P.underlying e = some (.struct #[f0, f1])) (h0 : P.underlying f0.type = some (.int .i64)) (h1 : P.underlying f1.type = some (.int .i64))
    (o : f0.offset = 0 ∧ f1.offset = 1 ∧ P.cellsOf f0.type = 1 ∧ P.cellsOf f1.type = 1 ∧ P.cellsOf e = 2) (hv : Value.okWide P w r b0 t v) (h : DataW.Trod enc P w base spare held t v d p) :
    ∃ (A : Option Addr) (n c : Nat) (xs : List (Int × Int)), v = .slice A n c ∧ xs.length = n ∧ n ≤ c ∧ c ≤ maxLen ∧ Row encS 2 w A xs ∧ ∀ x ∈ xs, okS x :=
  open_row encS okS (by decide) ht o.2.2.2.2 (fun hf => by
    obtain ⟨a, b, rfl, wa, wb⟩ := trod_two (i := 0) hs h0 h1 o hf
    exact ⟨(a, b), rfl, wa, wb⟩) hv h

theorem open_ints_ {r : Reach} {b0 : Nat} {t e : TypeId} {v : Value} {d : DataW H} {p : List MemPlace} (ht : P.underlying t = some (.slice e)) (hs : P.underlying e = some (.int .i64)) (o : P.cellsOf e = 1) (hv : Value.okWide P w r b0 t v) (h : DataW.Trod enc P w base spare held t v d p) :
    ∃ (A : Option Addr) (n c : Nat) (xs : List Int), v = .slice A n c ∧ xs.length = n ∧ n ≤ c ∧ c ≤ maxLen ∧ Row encI 1 w A xs ∧ ∀ x ∈ xs, okI x :=
  open_row encI okI (by decide) ht o (fun hf => by
    obtain ⟨a, rfl, _, wa⟩ := DataW.trod_int hs hf
    exact ⟨a, rfl, i64_of_wf wa⟩) hv h

theorem open_counts {r : Reach} {b0 : Nat} {tt t s i : TypeId} {f0 f1 g0 g1 : Field} {v : Value} {d : DataW H} {p : List MemPlace} (htt : P.underlying tt = some (.slice t)) (ht : P.underlying t = some (.struct #[f0, f1])) (hs : P.underlying s = some (.struct #[g0, g1])) (hi : P.underlying i = some (.int .i64))
    (o : f0.offset = 0 ∧ f1.offset = 2 ∧ g0.offset = 0 ∧ g1.offset = 1) (y : f0.type = s ∧ f1.type = i ∧ g0.type = i ∧ g1.type = i)
    (c : P.cellsOf i = 1 ∧ P.cellsOf s = 2 ∧ P.cellsOf t = 3) (hv : Value.okWide P w r b0 tt v) (h : DataW.Trod enc P w base spare held tt v d p) :
    ∃ (A : Option Addr) (n c : Nat) (xs : List ((Int × Int) × Int)), v = .slice A n c ∧ xs.length = n ∧ n ≤ c ∧ c ≤ maxLen ∧ Row encC 3 w A xs ∧ ∀ x ∈ xs, okC x :=
  open_row encC okC (by decide) htt c.2.2 (fun hf => by
    obtain ⟨a, b, e, rfl, wa, wb, we⟩ := trod_cnt ht hs hi o y c hf
    exact ⟨((a, b), e), rfl, wa, wb, we⟩) hv h

theorem open_recs {r : Reach} {b0 : Nat} {tt t s i : TypeId} {f0 f1 f2 f3 g0 g1 : Field} {v : Value} {d : DataW H} {p : List MemPlace} (htt : P.underlying tt = some (.slice t)) (ht : P.underlying t = some (.struct #[f0, f1, f2, f3])) (hs : P.underlying s = some (.struct #[g0, g1])) (hi : P.underlying i = some (.int .i64))
    (o : f0.offset = 0 ∧ f1.offset = 1 ∧ f2.offset = 3 ∧ f3.offset = 4 ∧ g0.offset = 0 ∧ g1.offset = 1) (y : f0.type = i ∧ f1.type = s ∧ f2.type = i ∧ f3.type = i ∧ g0.type = i ∧ g1.type = i)
    (c : P.cellsOf i = 1 ∧ P.cellsOf s = 2 ∧ P.cellsOf t = 5) (hv : Value.okWide P w r b0 tt v) (h : DataW.Trod enc P w base spare held tt v d p) :
    ∃ (A : Option Addr) (n c : Nat) (xs : List (Int × (Int × Int) × Int × Int)), v = .slice A n c ∧ xs.length = n ∧ n ≤ c ∧ c ≤ maxLen ∧ Row encR 5 w A xs ∧ ∀ x ∈ xs, okR x :=
  open_row encR okR (by decide) htt c.2.2 (fun hf => by
    obtain ⟨a, b, b', e, f, rfl, wa, wb, wb', we, wf⟩ := trod_rec ht hs hi o y c hf
    exact ⟨(a, (b, b'), e, f), rfl, wa, wb, wb', we, wf⟩) hv h
end
end Go.Proofs.YtopaapgbenpbaaaDoor
