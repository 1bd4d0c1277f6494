/-
  What the laws on made slices share: worlds named anew at a call, facts carried along, the law's copies as made slices. Conditions: none.
-/
import Derived.Test.YtopaapgbenpbaaaDoorApp
import Derived.Test.YtopaapgbenpbaaaDoorMark
import Derived.Test.YtopaapgbenpbaaaDoorPick
import Derived.Test.YtopaapgbenpbaaaDoorTo
import Derived.Test.YtopaapgbenpbaaaDoorEq
namespace Go.Proofs.YtopaapgbenpbaaaDoor
open Go.RowKit
set_option linter.unusedVariables false

section
variable {α : Type} {enc : α → List Value} {k lo : Nat} {w w2 : World} {A : Option Addr} {xs : List α} {p : Later}
theorem own_to (hp : w2 = later w p) (h : Own enc k lo w A xs) : Own enc k lo w2 A xs := by rw [hp]; exact h.later p
theorem row_to (hp : w2 = later w p) (h : Row enc k w A xs) : Row enc k w2 A xs := by rw [hp]; exact h.later p
theorem calls_rebase {P : Program} {f : FuncId} {args : Array Value} {B0 : World} {q : Later} {n : Nat} {os : Array Obj} {F : Ending → World → Prop}
    (h : ∀ q' p', later B0 q' = later (later B0 q) p' → Calls P f args (later B0 q') F) : Calls P f args (later B0 ⟨n, q.os ++ os⟩) F :=
  h _ ⟨n, os⟩ (later_later B0 q ⟨n, os⟩).symm
theorem wp_rebase {P : Program} {Q : Exit → Act → World → Prop} {c : Code} {a : Act} {B0 : World} {q : Later} {n : Nat} {os : Array Obj}
    (h : ∀ q' p', later B0 q' = later (later B0 q) p' → c.wp P Q a (later B0 q')) : c.wp P Q a (later B0 ⟨n, q.os ++ os⟩) :=
  h _ ⟨n, os⟩ (later_later B0 q ⟨n, os⟩).symm
theorem below_to (hp : w2 = later w p) {a : World} (h : Below a.heap.size a w) : Below a.heap.size a w2 := by
  subst hp
  exact h.trans ((below_later w p).mono h.size)
theorem later_fold {B0 : World} {q p : Later} (h : w2 = later (later B0 q) p) : ∃ q2, w2 = later B0 q2 := ⟨_, h.trans (later_later _ _ _)⟩

theorem later_grown {B0 : World} {n : Nat} {q : Later} (hX : Own enc k lo (later B0 q) A xs) (hn : xs.length = n) (hlo : B0.heap.size ≤ lo) (hg : (later B0 q).grownBy w2 (ob A n)) : ∃ q2, w2 = later B0 q2 :=
  later_of_below (below_grown (lo := lo) (below_later B0 q) hg (by simp [later_size]) (fun b hb => Nat.le_trans hlo (hX.low hn hb)))

/-- the block of a slice lies below a bound -/
def Lt (A : Option Addr) (n L : Nat) : Prop := ∀ b, some b = ob A n → b < L
theorem Lt.of_row {n : Nat} (hk : ∀ x, (enc x).length = k) (hk0 : 0 < k) (h : Row enc k w A xs) (hn : xs.length = n) : Lt A n w.heap.size := fun b hb => h.block_lt hk hk0 hn hb

/-- of two slices the later one is written: the earlier one stands -/
theorem Own.stay_under {n n' lo' : Nat} {β : Type} {enc' : β → List Value} {k' : Nat} {A' : Option Addr} {ys : List β} (h : Own enc k lo w A xs) (hn : xs.length = n) (hl : Lt A n lo') (hY : Own enc' k' lo' w A' ys) (hn' : ys.length = n') (hg : w.grownBy w2 (ob A' n')) : Own enc k lo w2 A xs :=
  h.grown hg fun b hb e => by
    rw [hn] at hb
    have h1 := hl b hb
    have h2 := hY.low hn' e
    omega
theorem Row.stay_under {n n' lo' : Nat} {β : Type} {enc' : β → List Value} {k' : Nat} {A' : Option Addr} {ys : List β} (h : Row enc k w A xs) (hn : xs.length = n) (hl : Lt A n lo') (hY : Own enc' k' lo' w A' ys) (hn' : ys.length = n') (hg : w.grownBy w2 (ob A' n')) : Row enc k w2 A xs :=
  h.grown hg fun b hb e => by
    rw [hn] at hb
    have h1 := hl b hb
    have h2 := hY.low hn' e
    omega
/-- of two slices the earlier one is written: the later one stands -/
theorem Own.stay_above {n' : Nat} {A' : Option Addr} (h : Own enc k lo w A xs) (hl : Lt A' n' lo) (hg : w.grownBy w2 (ob A' n')) : Own enc k lo w2 A xs := h.above hg hl
end

theorem MadeOwn.of_copied {α : Type} {enc : α → List Value} {k : Nat} (hk : ∀ x, (enc x).length = k) {P : Program} {f : FuncId} {args : Array Value} {w : World} {xs : List α} {n : Nat} {E : TypeId} (hn : xs.length = n) (hm : n ≤ maxLen) (h : Calls P f args w (Copied E (xs.flatMap enc).toArray n w)) :
    Calls P f args w (MadeOwn enc k id xs w) :=
  h.mono fun e w' ⟨he, p, hp⟩ => by
    subst he hp
    refine ⟨_, n, n, rfl, hn, Nat.le_refl _, hm, own_copied enc k hk w xs E p, later_of_below ?_⟩
    exact below_then_later (below_box _ _) (by simp) _

end Go.Proofs.YtopaapgbenpbaaaDoor
