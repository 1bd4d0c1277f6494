/-
  Worlds named anew at a call or at a region, with what is known of them: the words for it. Conditions: none.
-/
import Derived.Test.YtopaapgbenpbaaaDoorLaw
namespace Go.Proofs.YtopaapgbenpbaaaDoor
open Go.RowKit
set_option linter.unusedVariables false

theorem calls_anchor {P : Program} {f : FuncId} {args : Array Value} {w : World} {G : Ending → World → Prop} {F : World → Prop} (hF : F w) (h : ∀ W, F W → Calls P f args W G) : Calls P f args w G := h w hF
theorem wp_anchor {P : Program} {Q : Exit → Act → World → Prop} {c : Code} {a : Act} {w : World} {F : World → Prop} (hF : F w) (h : ∀ W, F W → c.wp P Q a W) : c.wp P Q a w := h w hF

/-- the block g holds these cells -/
def Box (g : Nat) (vs : List Value) (w : World) : Prop := ∀ i v, vs[i]? = some v → w.cell? ⟨g, i, Option.none⟩ = some v
theorem box_later {g : Nat} {vs : List Value} {w : World} (h : Box g vs w) (p : Later) : Box g vs (later w p) := fun i v hv => by
  have := h i v hv
  rw [later_cell (by rw [this]; rfl)]
  exact this
theorem box_alloc {g : Nat} {vs : List Value} {w : World} (h : Box g vs w) (o : Obj) : Box g vs (w.alloc o) := fun i v hv => by
  have := h i v hv
  rw [World.cell?_alloc_lt w o _ (World.block_lt_of_cell? _ _ this)]
  exact this
theorem box_drew {g : Nat} {vs : List Value} {w : World} (h : Box g vs w) : Box g vs w.drew := h
theorem box_drewN {g : Nat} {vs : List Value} {w : World} (h : Box g vs w) (n : Nat) : Box g vs (w.drewN n) := h
theorem box_to {g : Nat} {vs : List Value} {w w2 : World} {p : Later} (hp : w2 = later w p) (h : Box g vs w) : Box g vs w2 := by subst hp; exact box_later h p
theorem box_new (w : World) (g : Nat) (vs : List Value) (t : TypeId) (hg : g = w.heap.size) : Box g vs (w.alloc (.cells vs.toArray t)) := fun i v hv => by
  subst hg
  rw [World.cell?_alloc_new]
  simpa using hv
theorem box_grown {g : Nat} {vs : List Value} {w w2 : World} {row : Option Nat} (h : Box g vs w) (hg : w.grownBy w2 row) (hne : some g ≠ row) : Box g vs w2 := fun i v hv => hg.cell (h i v hv) hne
/-- a box below a made slice stands while the slice is written; one above it too -/
theorem box_stay_under {α : Type} {enc : α → List Value} {k lo n g : Nat} {vs : List Value} {w w2 : World} {A : Option Addr} {xs : List α} (h : Box g vs w) (hl : g < lo) (hY : Own enc k lo w A xs) (hn : xs.length = n) (hg : w.grownBy w2 (ob A n)) : Box g vs w2 :=
  box_grown h hg fun e => by have := hY.low hn e; omega
theorem box_stay_above {n g L : Nat} {vs : List Value} {w w2 : World} {A : Option Addr} (h : Box g vs w) (hl : Lt A n L) (hL : L ≤ g) (hg : w.grownBy w2 (ob A n)) : Box g vs w2 :=
  box_grown h hg fun e => by have := hl g e; omega
theorem below_marked {α : Type} {enc : α → List Value} {k lo n : Nat} {w0 w w2 : World} {A : Option Addr} {xs : List α} (h : Below w0.heap.size w0 w) (hY : Own enc k lo w A xs) (hn : xs.length = n) (hlo : w0.heap.size ≤ lo) (hg : w.grownBy w2 (ob A n)) : Below w0.heap.size w0 w2 :=
  below_grown (lo := lo) h hg h.size fun b hb => Nat.le_trans hlo (hY.low hn hb)
theorem grown_size {w w2 : World} {row : Option Nat} (h : w.grownBy w2 row) : w.heap.size ≤ w2.heap.size := h.size
theorem below_self (w : World) : Below w.heap.size w w := Below.refl _ _
section
variable {α : Type} {enc : α → List Value} {k lo : Nat} {A : Option Addr} {xs : List α}
theorem cell_swap {B B' : World} {p : Later} (hs : B'.heap.size = B.heap.size) {a : Addr} (hb : B.heap.size ≤ a.block) : (later B' p).cell? a = (later B p).cell? a ∧ (later B' p).frozen? a = (later B p).frozen? a := by
  have he : (later B' p).heap[a.block]? = (later B p).heap[a.block]? := by
    unfold later
    simp only
    rw [Array.getElem?_append_right (by omega), Array.getElem?_append_right hb, hs]
  unfold World.cell? World.frozen?
  rw [he]
  exact ⟨rfl, rfl⟩
/-- a made slice stands where an old block is written -/
theorem own_swap {B B' : World} {p : Later} (hs : B'.heap.size = B.heap.size) (hl : B.heap.size ≤ lo) (h : Own enc k lo (later B p) A xs) : Own enc k lo (later B' p) A xs := by
  refine ⟨fun h0 => ?_, fun h0 b off e => ?_⟩
  · obtain ⟨b, off, e, hc⟩ := h.1 h0
    have hlo := (h.2 h0 b off e).1
    refine ⟨b, off, e, fun j x hx i v hv => ?_⟩
    rw [(cell_swap hs (a := ⟨b, off + j * k + i, Option.none⟩) (Nat.le_trans hl hlo)).1]
    exact hc j x hx i v hv
  · obtain ⟨hlo, hc⟩ := h.2 h0 b off e
    refine ⟨hlo, fun j hj => ?_⟩
    obtain ⟨h1, h2⟩ := cell_swap (p := p) hs (a := ⟨b, off + j, Option.none⟩) (Nat.le_trans hl hlo)
    rw [h1, h2]
    exact hc j hj
end
end Go.Proofs.YtopaapgbenpbaaaDoor
