/-
  Blocks known whole, in worlds that are named anew; slices of the call's own while other blocks are written. Conditions: none.
-/
import Derived.Test.YtcmhmdccfihhiaaLaw
namespace Go.Proofs.Ytcmhmdccfihhiaa
open Go.RowKit
set_option linter.unusedVariables false

/-- the block g holds just these cells, which may be written -/
def Blk (g : Nat) (vs : List Value) (t : TypeId) (W : World) : Prop := W.heap[g]? = some (.cells vs.toArray t (0, 0))
section
variable {g : Nat} {vs : List Value} {t : TypeId} {W W' : World}
theorem Blk.lt (h : Blk g vs t W) : g < W.heap.size := (Array.getElem?_eq_some_iff.1 h).1
theorem Blk.cell (h : Blk g vs t W) {i : Nat} {v : Value} (hv : vs[i]? = some v) : W.cell? ⟨g, i, Option.none⟩ = some v := by
  unfold Blk at h
  rw [cell_of_row W g _ vs.toArray t (0, 0) h]
  simpa using hv
theorem Blk.frozen (h : Blk g vs t W) (i : Nat) : W.frozen? ⟨g, i, Option.none⟩ = false := by
  unfold Blk at h
  simp [World.frozen?, h]
theorem Blk.new (w : World) (g : Nat) (vs : List Value) (t : TypeId) (hg : g = w.heap.size) : Blk g vs t (w.alloc (.cells vs.toArray t)) := by
  subst hg
  unfold Blk World.alloc
  simp
theorem Blk.alloc (h : Blk g vs t W) (o : Obj) : Blk g vs t (W.alloc o) := by
  have := h.lt
  unfold Blk at h ⊢
  rw [World.alloc, Array.getElem?_push_lt this, ← h, Array.getElem?_eq_getElem this]
theorem Blk.drew (h : Blk g vs t W) : Blk g vs t W.drew := h
theorem Blk.drewN (h : Blk g vs t W) (n : Nat) : Blk g vs t (W.drewN n) := h
theorem Blk.later (h : Blk g vs t W) (p : Later) : Blk g vs t (later W p) := by
  unfold Blk at *
  rw [(below_later W p).block g (Blk.lt h), h]
theorem Blk.to {p : Later} (hp : W' = Go.Proofs.Ytcmhmdccfihhiaa.later W p) (h : Blk g vs t W) : Blk g vs t W' := by subst hp; exact h.later p
theorem Blk.grown {row : Option Nat} (h : Blk g vs t W) (hg : W.grownBy W' row) (hne : some g ≠ row) : Blk g vs t W' := by
  have := hg.block g h.lt hne
  unfold Blk at *
  rw [this, h]
theorem Blk.other (h : Blk g vs t W) {a : Addr} (hne : g ≠ a.block) (v : Value) : Blk g vs t (W.setCell a v) := by
  unfold Blk at *
  rw [Below.heap_setCell _ _ _ _ hne, h]
theorem Blk.set (h : Blk g vs t W) (i : Nat) (v : Value) : Blk g (vs.set i v) t (W.setCell ⟨g, i, Option.none⟩ v) := by
  unfold Blk at *
  have hlt := (Array.getElem?_eq_some_iff.1 h).1
  unfold World.setCell
  simp only [Array.getElem?_modify, h, if_true, Option.map_some]
  simp
theorem Blk.conv {vs' : List Value} (h : Blk g vs t W) (e : vs = vs') : Blk g vs' t W := e ▸ h
theorem ownsRow_ne {base : Nat} {e : TypeId} {size n : Nat} {v : Value} {xs : List Value} (h : W.ownsRow base e size v n xs) (hb : Blk g vs t W) (hne : e ≠ t) : v.ownBlock ≠ some g := by
  obtain ⟨_, h2⟩ := h
  rcases h2 with ⟨rfl, _⟩ | ⟨g', cap, cur, rfl, _, hg, _⟩
  · simp [Value.ownBlock]
  · intro he
    simp [Value.ownBlock] at he
    subst he
    unfold Blk at hb
    rw [hb] at hg
    simp only [Option.some.injEq, Obj.cells.injEq] at hg
    exact hne hg.2.1.symm
end
section
variable {α : Type} {enc : α → List Value} {k lo n : Nat} {w : World} {A : Option Addr} {xs : List α}
theorem ob_of_own {b : Nat} {c : Nat} (h : some b = ob A n) : (Value.slice A n c).ownBlock = some b := by
  obtain ⟨_, off, sp, rfl⟩ := ob_some h
  rfl
/-- a made slice stands while a cell of another block is written -/
theorem Own.set (h : Own enc k lo w A xs) (hn : xs.length = n) (a : Addr) (v : Value) (hne : some a.block ≠ ob A n) : Own enc k lo (w.setCell a v) A xs := by
  refine h.grown (w' := w.setCell a v) (row := some a.block) ?_ (fun b hb e => ?_)
  · exact ⟨rfl, rfl, rfl, by simp [World.setCell], fun j hj hne => Below.heap_setCell _ _ _ _ (fun e => hne (by rw [e]))⟩
  · rw [hn] at hb
    rw [← e] at hne
    exact hne hb
theorem Own.ne_low (h : Own enc k lo w A xs) (hn : xs.length = n) {g : Nat} (hg : g < lo) : some g ≠ ob A n := fun e => by
  have := h.low hn e
  omega
theorem Own.ne_high {L g : Nat} (h : Lt A n L) (hg : L ≤ g) : some g ≠ ob A n := fun e => by
  have := h g e
  omega
end
section
variable {base n m : Nat} {e : TypeId} {size : Nat} {v : Value} {xs : List Value} {w : World}
theorem ownsRow_set (h : w.ownsRow base e size v n xs) (a : Addr) (u : Value) (hne : v.ownBlock ≠ some a.block) : (w.setCell a u).ownsRow base e size v n xs :=
  h.kept (row := some a.block) ⟨rfl, rfl, rfl, by simp [World.setCell], fun j hj hne => Below.heap_setCell _ _ _ _ (fun e => hne (by rw [e]))⟩ (.inr hne)
theorem ownsRow_ne_low {g : Nat} (h : w.ownsRow base e size v n xs) (hg : g < base) : v.ownBlock ≠ some g := fun e => by
  have := (h.lt _ e).1
  omega
theorem ownsRow_ne_high {g : Nat} (h : w.ownsRow base e size v n xs) (hg : w.heap.size ≤ g) : v.ownBlock ≠ some g := fun e => by
  have := (h.lt _ e).2
  omega
end
end Go.Proofs.Ytcmhmdccfihhiaa
