/-
  Slices that a call has made and may write: the words for them, kept over calls, and what marking leaves. Conditions: none.
-/
import Derived.Test.YtopaapgbenpbaaaDoorFill
namespace Go.Proofs.YtopaapgbenpbaaaDoor
open Go.RowKit
set_option linter.unusedVariables false

section
variable {α : Type} {enc : α → List Value} {k : Nat} {w w' : World} {A : Option Addr} {xs : List α}

/-- the slice at A holds xs, in a block from lo on, and its cells may be written -/
def Own (enc : α → List Value) (k lo : Nat) (w : World) (A : Option Addr) (xs : List α) : Prop :=
  Row enc k w A xs ∧ (0 < xs.length → ∀ b off, A = some ⟨b, off, Option.none⟩ → lo ≤ b ∧ ∀ j, j < xs.length * k → (w.cell? ⟨b, off + j, Option.none⟩).isSome = true ∧ w.frozen? ⟨b, off + j, Option.none⟩ = false)

/-- the block of a slice of n elements -/
def ob (A : Option Addr) (n : Nat) : Option Nat := if n = 0 then Option.none else A.map (·.block)
theorem ob_some {A : Option Addr} {n b : Nat} (h : some b = ob A n) : 0 < n ∧ ∃ off sp, A = some ⟨b, off, sp⟩ := by
  unfold ob at h
  split at h
  · cases h
  · rename_i hn
    cases A with
    | none => cases h
    | some a =>
      obtain ⟨b', o, s⟩ := a
      simp at h
      subst h
      exact ⟨by omega, _, _, rfl⟩

theorem Own.row {lo : Nat} (h : Own enc k lo w A xs) : Row enc k w A xs := h.1
theorem Own.nil {lo : Nat} : Own enc k lo w A ([] : List α) := ⟨Row.nil, fun h => absurd h (by simp)⟩
theorem Own.low {lo : Nat} (h : Own enc k lo w A xs) {n b : Nat} (hn : xs.length = n) (hb : some b = ob A n) : lo ≤ b := by
  obtain ⟨h0, off, sp, rfl⟩ := ob_some hb
  obtain ⟨b', off', e, _⟩ := h.1 (by omega)
  simp at e
  obtain ⟨rfl, rfl, rfl⟩ := e
  exact (h.2 (by omega) _ _ rfl).1
theorem Row.block_lt {n b : Nat} (hk : ∀ x, (enc x).length = k) (hk0 : 0 < k) (h : Row enc k w A xs) (hn : xs.length = n) (hb : some b = ob A n) : b < w.heap.size := by
  obtain ⟨h0, off, sp, rfl⟩ := ob_some hb
  obtain ⟨b', off', e, hc⟩ := h (by omega)
  simp at e
  obtain ⟨rfl, rfl, rfl⟩ := e
  obtain ⟨x, hx⟩ : ∃ x, xs[0]? = some x := ⟨_, List.getElem?_eq_getElem (by omega)⟩
  obtain ⟨v, hv⟩ : ∃ v, (enc x)[0]? = some v := ⟨_, List.getElem?_eq_getElem (by rw [hk]; exact hk0)⟩
  exact World.block_lt_of_cell? _ _ (hc 0 x hx 0 v hv)
theorem Own.mono {lo lo' : Nat} (h : Own enc k lo w A xs) (hl : lo' ≤ lo) : Own enc k lo' w A xs :=
  ⟨h.1, fun h0 b off e => ⟨Nat.le_trans hl (h.2 h0 b off e).1, (h.2 h0 b off e).2⟩⟩

theorem Row.grown {row : Option Nat} (h : Row enc k w A xs) (hg : w.grownBy w' row) (hne : ∀ b, some b = ob A xs.length → some b ≠ row) : Row enc k w' A xs := fun h0 => by
  obtain ⟨b, off, e, hc⟩ := h h0
  refine ⟨b, off, e, fun j x hx i v hv => hg.cell (hc j x hx i v hv) (hne b ?_)⟩
  subst e
  unfold ob
  rw [if_neg (by omega)]
  rfl
theorem Own.grown {lo : Nat} {row : Option Nat} (h : Own enc k lo w A xs) (hg : w.grownBy w' row) (hne : ∀ b, some b = ob A xs.length → some b ≠ row) : Own enc k lo w' A xs := by
  refine ⟨h.1.grown hg hne, fun h0 b off e => ⟨(h.2 h0 b off e).1, fun j hj => ?_⟩⟩
  have hb : some b ≠ row := hne b (by subst e; unfold ob; rw [if_neg (by omega)]; rfl)
  obtain ⟨hs, hf⟩ := (h.2 h0 b off e).2 j hj
  obtain ⟨v, hv⟩ := Option.isSome_iff_exists.1 hs
  have hlt := World.block_lt_of_cell? _ _ hv
  have hbl := hg.block b hlt hb
  exact ⟨by rw [hg.cell hv hb]; rfl, by rw [World.frozen?_of_block (w := w) (w' := w') hbl]; exact hf⟩
theorem grownBy_later (w : World) (p : Later) (row : Option Nat) : w.grownBy (later w p) row :=
  ⟨rfl, rfl, rfl, (below_later w p).size, fun j hj _ => (below_later w p).block j hj⟩
theorem Own.later {lo : Nat} (h : Own enc k lo w A xs) (p : Later) : Own enc k lo (later w p) A xs :=
  h.grown (grownBy_later w p Option.none) (fun _ _ => by simp)
theorem Own.drew {lo : Nat} (h : Own enc k lo w A xs) : Own enc k lo w.drew A xs := h
theorem Own.drewN {lo : Nat} (h : Own enc k lo w A xs) (n : Nat) : Own enc k lo (w.drewN n) A xs := h
theorem Own.alloc {lo : Nat} (h : Own enc k lo w A xs) (o : Obj) : Own enc k lo (w.alloc o) A xs :=
  h.grown (World.grownBy_alloc w o Option.none) (fun _ _ => by simp)

/-- what was there below the written slice's floor stands -/
theorem below_grown {B lo n : Nat} {a : World} {A' : Option Addr} (h : Below B a w) (hg : w.grownBy w' (ob A' n)) (hB : B ≤ w.heap.size) (hlo : ∀ b, some b = ob A' n → B ≤ b) : Below B a w' :=
  h.grown hg hB fun j hj => hlo j hj.symm
/-- a slice that lies from lo on stands while one below lo is written -/
theorem Own.above {lo n : Nat} {A' : Option Addr} (h : Own enc k lo w A xs) (hg : w.grownBy w' (ob A' n)) (hlt : ∀ b, some b = ob A' n → b < lo) : Own enc k lo w' A xs :=
  h.grown hg fun b hb e => by
    have h1 := h.low rfl hb
    have h2 := hlt b e
    omega
/-- a slice that lay below lo stands while one from lo on is written -/
theorem Own.under {lo lo' n : Nat} {A' : Option Addr} (hk : ∀ x, (enc x).length = k) (hk0 : 0 < k) {w0 : World} (h : Own enc k lo w A xs) (h0 : Row enc k w0 A xs) (hs : w0.heap.size ≤ lo') (hg : w.grownBy w' (ob A' n)) (hle : ∀ b, some b = ob A' n → lo' ≤ b) : Own enc k lo w' A xs :=
  h.grown hg fun b hb e => by
    have h1 := h0.block_lt hk hk0 rfl hb
    have h2 := hle b e
    omega

theorem own_copied (enc : α → List Value) (k : Nat) (hk : ∀ x, (enc x).length = k) (w : World) (xs : List α) (E : TypeId) (p : Later) :
    Own enc k w.heap.size (later (w.alloc (.cells (xs.flatMap enc).toArray E)) p) (some ⟨w.heap.size, 0, Option.none⟩) xs := by
  refine Own.later ⟨row_new enc k hk w xs E, fun h0 b off e => ?_⟩ p
  simp at e
  obtain ⟨rfl, rfl⟩ := e
  refine ⟨Nat.le_refl _, fun j hj => ⟨?_, ?_⟩⟩
  · rw [World.cell?_alloc_new]
    have hl := flatMap_len enc k hk xs
    rw [List.getElem?_toArray, List.getElem?_eq_getElem (by omega)]
    rfl
  · rw [World.frozen?_alloc_new]

theorem own_of_ownsRow {E : TypeId} {base n : Nat} {v : Value} (hk : ∀ x, (enc x).length = k) (h : w.ownsRow base E k v n (xs.flatMap enc)) (hn : xs.length = n) :
    ∃ A c, v = .slice A n c ∧ Own enc k base w A xs ∧ n ≤ c ∧ c ≤ maxLen := by
  obtain ⟨h1, h2⟩ := h
  rcases h2 with ⟨rfl, h0⟩ | ⟨g, cap, cur, rfl, hb, hg, hnc, hcm, hsz, htk⟩
  · subst h0
    have hx : xs = [] := List.eq_nil_of_length_eq_zero hn
    subst hx
    exact ⟨_, _, rfl, Own.nil, Nat.le_refl _, by simp [maxLen]⟩
  · refine ⟨_, _, rfl, ⟨fun h0 => ⟨g, 0, rfl, fun j x hx i v hv => ?_⟩, fun h0 b off e => ?_⟩, hnc, hcm⟩
    · have := flatMap_get enc k hk xs j i x v hx hv
      rw [← htk, List.getElem?_take] at this
      split at this
      · rw [cell_of_row w g _ cur E (0, 0) hg]
        simpa using this
      · cases this
    · simp at e
      obtain ⟨rfl, rfl⟩ := e
      refine ⟨hb, fun j hj => ⟨?_, ?_⟩⟩
      · rw [cell_of_row w g _ cur E (0, 0) hg]
        have hl : xs.length * k ≤ cap * k := Nat.mul_le_mul_right k (by omega)
        rw [Array.getElem?_eq_getElem (by omega)]
        rfl
      · simp [World.frozen?, hg]
end

/-- the marks: the numbers from k0 on -/
def encM (k0 : Int) (i : Nat) : List Value := [.int .i64 (k0 + i)]
/-- marked up to cell m of the slice's t cells -/
def Mrk (k0 : Int) (t m : Nat) (A : Option Addr) (row : Option Nat) (w wr : World) : Prop :=
  w.grownBy wr row ∧ Row (encM k0) 1 wr A (List.range m) ∧ (0 < t → ∃ b off, A = some ⟨b, off, Option.none⟩ ∧ row = some b ∧ ∀ j, j < t → (wr.cell? ⟨b, off + j, Option.none⟩).isSome = true ∧ wr.frozen? ⟨b, off + j, Option.none⟩ = false)
theorem Mrk.start {α : Type} {enc : α → List Value} {k lo : Nat} {w : World} {A : Option Addr} {xs : List α} {n : Nat} (h : Own enc k lo w A xs) (hn : xs.length = n) (k0 : Int) : Mrk k0 (n * k) 0 A (ob A n) w w := by
  refine ⟨World.grownBy.refl w _, Row.nil, fun h0 => ?_⟩
  have hn0 : 0 < n := Nat.pos_of_mul_pos_right h0
  obtain ⟨b, off, e, _⟩ := h.1 (by omega)
  refine ⟨b, off, e, ?_, fun j hj => (h.2 (by omega) b off e).2 j (by rw [hn]; exact hj)⟩
  subst e
  unfold ob
  rw [if_neg (by omega)]
  rfl
theorem Mrk.drew {k0 : Int} {t m : Nat} {A : Option Addr} {row : Option Nat} {w wr : World} (h : Mrk k0 t m A row w wr) : Mrk k0 t m A row w wr.drew :=
  ⟨⟨h.1.os, h.1.tape, h.1.output, h.1.size, h.1.block⟩, h.2⟩
theorem Mrk.later {k0 : Int} {t m : Nat} {A : Option Addr} {row : Option Nat} {w wr : World} (h : Mrk k0 t m A row w wr) (p : Later) : Mrk k0 t m A row w (later wr p) := by
  refine ⟨?_, h.2.1.later p, fun h0 => ?_⟩
  · have hb := below_later wr p
    exact ⟨h.1.os, h.1.tape, h.1.output, Nat.le_trans h.1.size hb.size, fun j hj hne => (hb.block j (Nat.lt_of_lt_of_le hj h.1.size)).trans (h.1.block j hj hne)⟩
  · obtain ⟨b, off, e, er, hc⟩ := h.2.2 h0
    refine ⟨b, off, e, er, fun j hj => ?_⟩
    rw [later_cell (hc j hj).1, later_frozen (hc j hj).1]
    exact hc j hj
/-- one more cell -/
theorem Mrk.step {k0 v : Int} {t m b off o : Nat} {A : Option Addr} {row : Option Nat} {w wr : World} (h : Mrk k0 t m A row w wr) (hA : A = some ⟨b, off, Option.none⟩) (hm : m < t) (hv : v = k0 + m) (ho : o = off + m) :
    Mrk k0 t (m + 1) A row w (wr.setCell ⟨b, o, Option.none⟩ (.int .i64 v)) := by
  subst hv ho
  obtain ⟨b', off', e, er, hc⟩ := h.2.2 (by omega)
  rw [hA] at e
  simp at e
  obtain ⟨rfl, rfl⟩ := e
  have hother : ∀ q, q ≠ (⟨b, off + m, Option.none⟩ : Addr) → (wr.setCell ⟨b, off + m, Option.none⟩ (.int .i64 (k0 + m))).cell? q = wr.cell? q := fun q hq =>
    World.cell?_setCell_other wr _ q _ (Ne.symm hq)
  have hsome := (hc m hm).1
  obtain ⟨v0, hv0⟩ := Option.isSome_iff_exists.1 hsome
  have hself : (wr.setCell ⟨b, off + m, Option.none⟩ (.int .i64 (k0 + m))).cell? ⟨b, off + m, Option.none⟩ = some (.int .i64 (k0 + m)) := World.cell?_setCell_same wr _ _ hv0
  refine ⟨?_, fun _ => ⟨b, off, hA, fun j x hx i v hv => ?_⟩, fun _ => ⟨b, off, hA, er, fun j hj => ?_⟩⟩
  · refine ⟨h.1.os, h.1.tape, h.1.output, by simpa [World.setCell] using h.1.size, fun j hj hne => ?_⟩
    rw [Below.heap_setCell _ _ _ _ (by rintro rfl; exact hne er.symm)]
    exact h.1.block j hj hne
  · have hj : j < m + 1 := by
      have := (List.getElem?_eq_some_iff.1 hx).1
      simpa using this
    have hx' : x = j := by
      rw [List.getElem?_range hj] at hx
      exact (Option.some.inj hx).symm
    subst hx'
    have hi : i = 0 := by
      have := (List.getElem?_eq_some_iff.1 hv).1
      simp [encM] at this
      exact this
    subst hi
    simp [encM] at hv
    subst hv
    simp only [Nat.mul_one, Nat.add_zero]
    by_cases he : x = m
    · subst he
      exact hself
    · rw [hother _ (fun e => he (by have := congrArg Addr.off e; simp at this; omega))]
      obtain ⟨b2, off2, e2, hc2⟩ := h.2.1 (by simp; omega)
      rw [hA] at e2
      simp at e2
      obtain ⟨rfl, rfl⟩ := e2
      have := hc2 x x (List.getElem?_range (by omega)) 0 (.int .i64 (k0 + x)) (by simp [encM])
      simpa using this
  · constructor
    · by_cases he : j = m
      · subst he
        rw [hself]
        rfl
      · rw [hother _ (fun e => he (by have := congrArg Addr.off e; simp at this; omega))]
        exact (hc j hj).1
    · rw [World.frozen?_setCell]
      exact (hc j hj).2

/-- a slice is marked: its cells hold the numbers from k0 on; nothing else has turned -/
def Marked (A : Option Addr) (n k : Nat) (k0 : Int) (w : World) (e : Ending) (w' : World) : Prop :=
  e = .returned (.int .i64 (k0 + (n * k : Nat))) ∧ w.grownBy w' (ob A n) ∧ Row (encM k0) 1 w' A (List.range (n * k))
end Go.Proofs.YtopaapgbenpbaaaDoor
