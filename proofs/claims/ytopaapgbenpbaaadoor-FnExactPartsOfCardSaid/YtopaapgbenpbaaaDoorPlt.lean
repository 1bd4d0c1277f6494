/-
  A drawn region walked along a tree of the prover's: an operation that yields one value in every world of a class may be taken ahead at any place of the tree; where one operation alone comes up it is walked; where two come up both ways are walked. Conditions: the region's shape, a Bool.
-/
import Derived.Test.YtopaapgbenpbaaaDoorPick
namespace Go.Proofs.YtopaapgbenpbaaaDoor
open Go.RowKit
set_option linter.unusedVariables false

inductive Plt where
  | nil : Plt
  | pick (k : Nat) (t : Plt) : Plt
  | one (k : Nat) (t : Plt) : Plt
  | two (k : Nat) (t : Plt) (j : Nat) (u : Plt) : Plt
def Plt.size : Plt → Nat
  | .nil => 0
  | .pick _ t => t.size + 1
  | .one _ t => t.size + 1
  | .two _ t _ _ => t.size + 1
section
variable {P : Program} {ops : Array Oper} {md : Region.Mode} {S : World → Prop} {Q : Exit → Act → World → Prop}
def pltB (md : Region.Mode) (ops : Array Oper) : Plt → Array Bool → Bool
  | .nil, listed => (Region.ready md ops listed).isEmpty
  | .pick k t, listed => (Region.ready md ops listed).contains k && Region.free md ops listed k && decide (k < ops.size) && pltB md ops t (listed.setIfInBounds k true)
  | .one k t, listed => decide (Region.ready md ops listed = [k]) && decide (k < ops.size) && pltB md ops t (listed.setIfInBounds k true)
  | .two k t j u, listed => decide (Region.ready md ops listed = [k, j]) && decide (k < ops.size) && decide (j < ops.size) && decide (t.size = u.size) && pltB md ops t (listed.setIfInBounds k true) && pltB md ops u (listed.setIfInBounds j true)
def wpPlt (P : Program) (ops : Array Oper) (S : World → Prop) (Q : Exit → Act → World → Prop) : Plt → Act → World → Prop
  | .nil, a, w => Q .normal a w
  | .pick k t, a, w => if Region.wanted (ops.toList.getD k default) (yielded ops a.tmps) then ∃ v, (∀ w', S w' → (execOp a.eval (ops.toList.getD k default)).run P w' = .ok (.value v) w') ∧ wpPlt P ops S Q t (a.put (ops.toList.getD k default).dst v) w else wpPlt P ops S Q t (a.put (ops.toList.getD k default).dst undef) w
  | .one k t, a, w => wpList P ops (onward S (wpPlt P ops S Q t)) [ops.toList.getD k default] a w
  | .two k t j u, a, w => wpList P ops (onward S (wpPlt P ops S Q t)) [ops.toList.getD k default] a w ∧ wpList P ops (onward S (wpPlt P ops S Q u)) [ops.toList.getD j default] a w
theorem wpPlt_nil {a : Act} {w : World} (h : Q .normal a w) : wpPlt P ops S Q .nil a w := h
theorem wpPlt_pick {k : Nat} {t : Plt} {a : Act} {w : World}
    (h : ∀ J : Act → Prop, (∀ a, wpPlt P ops S Q t a w → J a) → if Region.wanted (ops.toList.getD k default) (yielded ops a.tmps) then ∃ v, (∀ w', S w' → (execOp a.eval (ops.toList.getD k default)).run P w' = .ok (.value v) w') ∧ J (a.put (ops.toList.getD k default).dst v) else J (a.put (ops.toList.getD k default).dst undef)) : wpPlt P ops S Q (.pick k t) a w :=
  h _ (fun _ h => h)
theorem wpPlt_one {k : Nat} {t : Plt} {a : Act} {w : World} (h : ∀ J : Act → World → Prop, (∀ a w, wpPlt P ops S Q t a w → J a w) → wpList P ops (onward S J) [ops.toList.getD k default] a w) : wpPlt P ops S Q (.one k t) a w := h _ fun _ _ h => h
theorem wpPlt_two {k j : Nat} {t u : Plt} {a : Act} {w : World} (h : ∀ J : Act → World → Prop, (∀ a w, wpPlt P ops S Q t a w → J a w) → wpList P ops (onward S J) [ops.toList.getD k default] a w)
    (h2 : ∀ J : Act → World → Prop, (∀ a w, wpPlt P ops S Q u a w → J a w) → wpList P ops (onward S J) [ops.toList.getD j default] a w) : wpPlt P ops S Q (.two k t j u) a w := ⟨h _ fun _ _ h => h, h2 _ fun _ _ h => h⟩
theorem plt_anchor {t : Plt} {a : Act} {w : World} {F : World → Prop} (hF : F w) (h : ∀ W, F W → wpPlt P ops S Q t a W) : wpPlt P ops S Q t a w := h w hF
theorem onward_any {J : Act → World → Prop} {a : Act} {w : World} (h : J a w) : onward (fun _ => True) J .normal a w := ⟨rfl, trivial, h⟩

theorem onward_S {J : Act → World → Prop} {a : Act} {w : World} (hs : S w) (h : J a w) : onward S J .normal a w := ⟨rfl, hs, h⟩
theorem wpAnyH_of_plt (hsel : Region.noSelect ops = true) : ∀ (t : Plt) (listed : Array Bool) (a : Act) (w : World), pltB md ops t listed = true → S w → wpPlt P ops S Q t a w → wpAnyH P md ops (sure Q) S t.size listed a w
  | .nil, listed, a, w, hB, hS, h => ⟨by simpa [pltB] using hB, rfl, h⟩
  | .pick k t, listed, a, w, hB, hS, h => by
    simp only [pltB, Bool.and_eq_true, decide_eq_true_eq] at hB
    obtain ⟨⟨⟨hr, hf⟩, hk⟩, hB'⟩ := hB
    have hk' : ops[k]? = some (ops.toList.getD k default) := by simp [List.getD, hk]
    simp only [wpPlt] at h
    have hQ : ∀ c (a : Act) (w : World) (v : Value), sure Q (.panic c) (a.put (ops.toList.getD k default).dst v) w → sure Q (.panic c) a w := fun _ _ _ _ h => absurd h.1 (by simp)
    by_cases hw : Region.wanted (ops.toList.getD k default) (yielded ops a.tmps) = true
    · rw [if_pos hw] at h
      obtain ⟨v, hv, h⟩ := h
      exact wpAnyH_take hk' hsel hf hr (fun c a w => hQ c a w v) (.inl ⟨hw, hv⟩) hS (wpAnyH_of_plt hsel t _ _ w hB' hS h)
    · rw [if_neg hw] at h
      exact wpAnyH_take hk' hsel hf hr (fun c a w => hQ c a w undef) (.inr ⟨by simpa using hw, rfl⟩) hS (wpAnyH_of_plt hsel t _ _ w hB' hS h)
  | .one k t, listed, a, w, hB, hS, h => by
    simp only [pltB, Bool.and_eq_true, decide_eq_true_eq] at hB
    have hk : ops[k]? = some (ops.toList.getD k default) := by simp [List.getD, hB.1.2]
    refine wpAnyH_all hB.1.1 (by simp) fun i hi => ?_
    have hik : i = k := by simpa using hi
    subst hik
    exact treeStep hk h fun a' w' h' => ⟨h'.2.1, wpAnyH_of_plt hsel t _ a' w' hB.2 h'.2.1 h'.2.2⟩
  | .two k t j u, listed, a, w, hB, hS, h => by
    simp only [pltB, Bool.and_eq_true, decide_eq_true_eq] at hB
    obtain ⟨⟨⟨⟨⟨hr, hk⟩, hj⟩, hs⟩, ht⟩, hu⟩ := hB
    have hk' : ops[k]? = some (ops.toList.getD k default) := by simp [List.getD, hk]
    have hj' : ops[j]? = some (ops.toList.getD j default) := by simp [List.getD, hj]
    refine wpAnyH_all hr (by simp) fun i hi => ?_
    have hik : i = k ∨ i = j := by simpa using hi
    rcases hik with rfl | rfl
    · exact treeStep hk' h.1 fun a' w' h' => ⟨h'.2.1, wpAnyH_of_plt hsel t _ a' w' ht h'.2.1 h'.2.2⟩
    · exact treeStep hj' h.2 fun a' w' h' => ⟨h'.2.1, by rw [hs]; exact wpAnyH_of_plt hsel u _ a' w' hu h'.2.1 h'.2.2⟩

theorem wp_region_plt (S : World → Prop) {id : Nat} {a : Act} {w : World} {l : List Oper} (t : Plt) (hm : P.follows .mixedOrders = true)
    (hB : (Region.noSelect l.toArray && decide (t.size = l.length) && pltB .any l.toArray t (Array.replicate l.length false)) = true)
    (h0 : S w.drew) (h : wpPlt P l.toArray S Q t a w.drew) : (Code.region id l.toArray true).wp P Q a w := by
  simp only [Bool.and_eq_true, decide_eq_true_eq] at hB
  obtain ⟨⟨hsel, hlen⟩, hB⟩ := hB
  refine Code.wp_mono (Q := sure Q) (fun e a w he => by obtain ⟨rfl, he⟩ := he; exact he) ?_
  refine wp_region_held (S := S) hm ?_
  have := wpAnyH_of_plt (md := .any) (Q := Q) hsel t _ a w.drew hB h0 h
  rw [hlen] at this
  simpa using this
/-- the class of the later worlds -/
theorem wp_region_plt_later {id : Nat} {a : Act} {w : World} {l : List Oper} (t : Plt) (hm : P.follows .mixedOrders = true)
    (hB : (Region.noSelect l.toArray && decide (t.size = l.length) && pltB .any l.toArray t (Array.replicate l.length false)) = true)
    (h : wpPlt P l.toArray (fun w' => ∃ q : Later, w' = later w q) Q t a w.drew) : (Code.region id l.toArray true).wp P Q a w :=
  wp_region_plt _ t hm hB ⟨⟨w.drawn + 1, #[]⟩, by rw [← World.drew_eq]; unfold later; rw [Array.append_empty]⟩ h
theorem wp_region_plt_any {id : Nat} {a : Act} {w : World} {l : List Oper} (t : Plt) (hm : P.follows .mixedOrders = true)
    (hB : (Region.noSelect l.toArray && decide (t.size = l.length) && pltB .any l.toArray t (Array.replicate l.length false)) = true)
    (h : wpPlt P l.toArray (fun _ => True) Q t a w.drew) : (Code.region id l.toArray true).wp P Q a w :=
  wp_region_plt _ t hm hB trivial h
end
end Go.Proofs.YtopaapgbenpbaaaDoor
