/-
  Worlds named anew at a call or at a region, with what is known of them: the words for it. Conditions: none.
-/
import Derived.Test.YtnllmfhmffdceaaLaw
namespace Go.Proofs.Ytnllmfhmffdceaa
open Go.RowKit
set_option linter.unusedVariables false

theorem calls_anchor {P : Program} {f : FuncId} {args : Array Value} {w : World} {G : Ending → World → Prop} {F : World → Prop} (hF : F w) (h : ∀ W, F W → Calls P f args W G) : Calls P f args w G := h w hF
theorem wp_anchor {P : Program} {Q : Exit → Act → World → Prop} {c : Code} {a : Act} {w : World} {F : World → Prop} (hF : F w) (h : ∀ W, F W → c.wp P Q a W) : c.wp P Q a w := h w hF

/-- the block g holds these cells -/
def Box (g : Nat) (vs : List Value) (w : World) : Prop := ∀ i v, vs[i]? = some v → w.cell? ⟨g, i, Option.none⟩ = some v
theorem box_later {g : Nat} {vs : List Value} {w : World} (h : Box g vs w) (p : Later) : Box g vs (later w p) := fun i v hv => by
  have := h i v hv
  rw [later_cell (by rw [this]; rfl)]
  exact this
theorem box_alloc {g : Nat} {vs : List Value} {w : World} (h : Box g vs w) (o : Obj) : Box g vs (w.alloc o) := fun i v hv => by
  have := h i v hv
  rw [World.cell?_alloc_lt w o _ (World.block_lt_of_cell? _ _ this)]
  exact this
theorem box_drew {g : Nat} {vs : List Value} {w : World} (h : Box g vs w) : Box g vs w.drew := h
theorem box_drewN {g : Nat} {vs : List Value} {w : World} (h : Box g vs w) (n : Nat) : Box g vs (w.drewN n) := h
theorem box_to {g : Nat} {vs : List Value} {w w2 : World} {p : Later} (hp : w2 = later w p) (h : Box g vs w) : Box g vs w2 := by subst hp; exact box_later h p
theorem box_new (w : World) (g : Nat) (vs : List Value) (t : TypeId) (hg : g = w.heap.size) : Box g vs (w.alloc (.cells vs.toArray t)) := fun i v hv => by
  subst hg
  rw [World.cell?_alloc_new]
  simpa using hv
theorem box_grown {g : Nat} {vs : List Value} {w w2 : World} {row : Option Nat} (h : Box g vs w) (hg : w.grownBy w2 row) (hne : some g ≠ row) : Box g vs w2 := fun i v hv => hg.cell (h i v hv) hne
/-- a box below a made slice stands while the slice is written; one above it too -/
theorem box_stay_under {α : Type} {enc : α → List Value} {k lo n g : Nat} {vs : List Value} {w w2 : World} {A : Option Addr} {xs : List α} (h : Box g vs w) (hl : g < lo) (hY : Own enc k lo w A xs) (hn : xs.length = n) (hg : w.grownBy w2 (ob A n)) : Box g vs w2 :=
  box_grown h hg fun e => by have := hY.low hn e; omega
theorem box_stay_above {n g L : Nat} {vs : List Value} {w w2 : World} {A : Option Addr} (h : Box g vs w) (hl : Lt A n L) (hL : L ≤ g) (hg : w.grownBy w2 (ob A n)) : Box g vs w2 :=
  box_grown h hg fun e => by have := hl g e; omega
theorem below_marked {α : Type} {enc : α → List Value} {k lo n : Nat} {w0 w w2 : World} {A : Option Addr} {xs : List α} (h : Below w0.heap.size w0 w) (hY : Own enc k lo w A xs) (hn : xs.length = n) (hlo : w0.heap.size ≤ lo) (hg : w.grownBy w2 (ob A n)) : Below w0.heap.size w0 w2 :=
  below_grown (lo := lo) h hg h.size fun b hb => Nat.le_trans hlo (hY.low hn hb)
theorem grown_size {w w2 : World} {row : Option Nat} (h : w.grownBy w2 row) : w.heap.size ≤ w2.heap.size := h.size
theorem below_self (w : World) : Below w.heap.size w w := Below.refl _ _
end Go.Proofs.Ytnllmfhmffdceaa
