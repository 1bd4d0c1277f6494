/-
  A drawn region walked in one order of the prover's: first the loads that he names (each yields one value in every later world, and leaves the world alone), then the rest, which then comes up in one order alone; behind each of these the world is a later one again. Conditions: the region's shape, a Bool.
-/
import Derived.Test.YtopaapgbenpbaaaDoorKit
import Derived.OrdersHeld
import Derived.Deep.RegionHeld3
namespace Go.Proofs.YtopaapgbenpbaaaDoor
open Go.RowKit

/-! cells of old blocks through several 'alloc's (the walk's set looks two conditions deep, no deeper) -/
theorem lt_base {w : World} {o : Obj} {p : Later} : (w.heap.size < (later (w.alloc o) p).heap.size) = True := eq_true (Nat.lt_of_lt_of_le (by simp) (below_later (w.alloc o) p).size)
theorem lt_alloc_later {w : World} {n : Nat} {o : Obj} {p : Later} (h : n < w.heap.size) : (n < (later (w.alloc o) p).heap.size) = True := eq_true (Nat.lt_of_lt_of_le (by simp; omega) (below_later (w.alloc o) p).size)
theorem le_alloc_later {w : World} {n : Nat} {o : Obj} {p : Later} (h : n ≤ w.heap.size) : (n ≤ (later (w.alloc o) p).heap.size) = True := eq_true (Nat.le_trans (by simp; omega) (below_later (w.alloc o) p).size)
theorem cell_alloc_later {w : World} {a : Addr} {o : Obj} {p : Later} (h : a.block < w.heap.size) : (later (w.alloc o) p).cell? a = w.cell? a := by
  rw [later_cell_lt (by simp; omega), World.cell?_alloc_lt w o a h]
theorem frozen_alloc_later {w : World} {a : Addr} {o : Obj} {p : Later} (h : a.block < w.heap.size) : (later (w.alloc o) p).frozen? a = w.frozen? a := by
  rw [later_frozen_lt (by simp; omega)]
  have hb : Below w.heap.size w (w.alloc o) := Below.alloc (Below.refl _ _) (Nat.le_refl _) o
  exact hb.frozen h
attribute [go_sem] lt_base lt_alloc_later le_alloc_later cell_alloc_later frozen_alloc_later

section
variable {P : Program} {ops : Array Oper} {md : Region.Mode} {S : World → Prop} {Q : Exit → Act → World → Prop}

def restB (md : Region.Mode) (ops : Array Oper) : List Nat → Array Bool → Bool
  | [], listed => (Region.ready md ops listed).isEmpty
  | k :: s, listed => decide (Region.ready md ops listed = [k]) && decide (k < ops.size) && restB md ops s (listed.setIfInBounds k true)
def planB (md : Region.Mode) (ops : Array Oper) : List Nat → List Nat → Array Bool → Bool
  | [], s, listed => restB md ops s listed
  | k :: p, s, listed => (Region.ready md ops listed).contains k && Region.free md ops listed k && decide (k < ops.size) && planB md ops p s (listed.setIfInBounds k true)

/-- the loads, taken first -/
def wpPick (P : Program) (ops : Array Oper) (S : World → Prop) (K : Act → Prop) : List Oper → Act → Prop
  | [], a => K a
  | o :: l, a => if Region.wanted o (yielded ops a.tmps) then ∃ v, (∀ w, S w → (execOp a.eval o).run P w = .ok (.value v) w) ∧ wpPick P ops S K l (a.put o.dst v) else wpPick P ops S K l (a.put o.dst undef)

/-- one operation's exit: the world is of the class again, and on -/
def onward (S : World → Prop) (K : Act → World → Prop) (e : Exit) (a : Act) (w : World) : Prop := e = .normal ∧ S w ∧ K a w

/-- the rest, one behind the other -/
def wpSeqC (P : Program) (ops : Array Oper) (S : World → Prop) (Q : Exit → Act → World → Prop) : List Oper → Act → World → Prop
  | [], a, w => Q .normal a w
  | o :: l, a, w => wpList P ops (onward S (wpSeqC P ops S Q l)) [o] a w

theorem wpPick_nil {K : Act → Prop} {a : Act} (h : K a) : wpPick P ops S K [] a := h
theorem wpPick_step {K : Act → Prop} {a : Act} {o : Oper} {l : List Oper}
    (h : ∀ J : Act → Prop, (∀ a, wpPick P ops S K l a → J a) → if Region.wanted o (yielded ops a.tmps) then ∃ v, (∀ w, S w → (execOp a.eval o).run P w = .ok (.value v) w) ∧ J (a.put o.dst v) else J (a.put o.dst undef)) : wpPick P ops S K (o :: l) a :=
  h _ (fun _ h => h)
theorem wpSeqC_nil {a : Act} {w : World} (h : Q .normal a w) : wpSeqC P ops S Q [] a w := h
theorem wpSeqC_cons {o : Oper} {l : List Oper} {a : Act} {w : World} (h : ∀ J : Act → World → Prop, (∀ a w, wpSeqC P ops S Q l a w → J a w) → wpList P ops (onward S J) [o] a w) : wpSeqC P ops S Q (o :: l) a w := h _ fun _ _ h => h
theorem onward_mk {w0 : World} {J : Act → World → Prop} {a : Act} {w : World} (hb : Below w0.heap.size w0 w) (h : J a w) : onward (fun w' => ∃ p : Later, w' = later w0 p) J .normal a w := ⟨rfl, later_of_below hb, h⟩

def sure (Q : Exit → Act → World → Prop) (e : Exit) (a : Act) (w : World) : Prop := e = .normal ∧ Q .normal a w

theorem wp_sure {o : Oper} {a : Act} {w : World} {K K' : Act → World → Prop} {Q' : Exit → Act → World → Prop} (hQ : ∀ e a w, Q e a w → e = .normal) (h : ∀ a w, K a w → K' a w) (hh : o.wp P a w K Q) : o.wp P a w K' Q' := by
  unfold Oper.wp at *
  generalize (execOp a.eval o).run P w = r at *
  cases r with
  | ok n w' =>
    cases n <;> simp only [Oper.upon] at hh ⊢ <;>
      first
        | exact h _ _ hh
        | exact Calls.mono hh (fun e w'' he => by
            cases e with
            | returned u => exact h _ _ he
            | panicked c => exact absurd (hQ _ _ _ he) (by simp)
            | outgrown => obtain ⟨a2, w2, h2⟩ := he; exact absurd (hQ _ _ _ h2) (by simp))
        | exact Rows.mono hh (fun _ _ he => h _ _ he)
  | halt x w' =>
    cases x <;> simp only [Oper.upon] at hh ⊢
    case panic u => exact absurd (hQ _ _ _ hh) (by simp)

theorem wpAnyH_of_seqC : ∀ (s : List Nat) (ls : List Oper) (listed : Array Bool) (a : Act) (w : World), s.map (fun k => ops[k]?) = ls.map some → restB md ops s listed = true →
    wpSeqC P ops S Q ls a w → wpAnyH P md ops (sure Q) S s.length listed a w
  | [], ls, listed, a, w, hl, hB, h => by
    cases ls with
    | nil => exact ⟨by simpa [restB] using hB, rfl, h⟩
    | cons _ _ => simp at hl
  | k :: s, ls, listed, a, w, hl, hB, h => by
    cases ls with
    | nil => simp at hl
    | cons o ls =>
      simp only [List.map_cons, List.cons.injEq] at hl
      simp only [restB, Bool.and_eq_true, decide_eq_true_eq] at hB
      refine wpAnyH_all hB.1.1 (by simp) fun i hi => ?_
      have hik : i = k := by simpa using hi
      subst hik
      have h1 : wpList P ops (onward S (wpSeqC P ops S Q ls)) [o] a w := h
      have go : ∀ a' w', onward S (wpSeqC P ops S Q ls) .normal a' w' → S w' ∧ wpAnyH P md ops (sure Q) S s.length (listed.setIfInBounds i true) a' w' := fun a' w' h' =>
        ⟨h'.2.1, wpAnyH_of_seqC s ls _ a' w' hl.2 hB.2 h'.2.2⟩
      unfold wpOp
      simp only [hl.1]
      simp only [wpList] at h1
      split
      · rename_i hw
        rw [if_pos hw] at h1
        rcases h1 with h1 | ⟨_, a2, w2, h2⟩
        · exact .inl (wp_sure (fun e a w he => he.1) go h1)
        · exact absurd h2.1 (by simp)
      · rename_i hw
        rw [if_neg hw] at h1
        exact go _ _ h1

theorem wpAnyH_of_pick (hsel : Region.noSelect ops = true) {s : List Nat} {ls : List Oper} (hls : s.map (fun k => ops[k]?) = ls.map some) : ∀ (p : List Nat) (lp : List Oper) (listed : Array Bool) (a : Act) (w : World), p.map (fun k => ops[k]?) = lp.map some →
    planB md ops p s listed = true → S w → wpPick P ops S (fun a' => ∀ w', S w' → wpSeqC P ops S Q ls a' w') lp a → wpAnyH P md ops (sure Q) S (p.length + s.length) listed a w
  | [], lp, listed, a, w, hl, hB, hS, h => by
    cases lp with
    | nil => rw [List.length_nil, Nat.zero_add]; exact wpAnyH_of_seqC s ls listed a w hls hB (h w hS)
    | cons _ _ => simp at hl
  | k :: p, lp, listed, a, w, hl, hB, hS, h => by
    cases lp with
    | nil => simp at hl
    | cons o lp =>
      simp only [List.map_cons, List.cons.injEq] at hl
      simp only [planB, Bool.and_eq_true, decide_eq_true_eq] at hB
      obtain ⟨⟨⟨hr, hf⟩, _⟩, hB'⟩ := hB
      rw [show (k :: p).length + s.length = (p.length + s.length) + 1 by simp; omega]
      simp only [wpPick] at h
      have hQ : ∀ c (a : Act) (w : World) (v : Value), sure Q (.panic c) (a.put o.dst v) w → sure Q (.panic c) a w := fun _ _ _ _ h => absurd h.1 (by simp)
      by_cases hw : Region.wanted o (yielded ops a.tmps) = true
      · rw [if_pos hw] at h
        obtain ⟨v, hv, h⟩ := h
        exact wpAnyH_take hl.1 hsel hf hr (fun c a w => hQ c a w v) (.inl ⟨hw, hv⟩) hS (wpAnyH_of_pick hsel hls p lp _ _ w hl.2 hB' hS h)
      · rw [if_neg hw] at h
        exact wpAnyH_take hl.1 hsel hf hr (fun c a w => hQ c a w undef) (.inr ⟨by simpa using hw, rfl⟩) hS (wpAnyH_of_pick hsel hls p lp _ _ w hl.2 hB' hS h)

theorem wp_region_pick0 {id : Nat} {a : Act} {w w0 : World} (hw0 : ∃ q : Later, w = later w0 q) {l : List Oper} (p s : List Nat) (hm : P.follows .mixedOrders = true)
    (hB : (Region.noSelect l.toArray && decide (p.length + s.length = l.length) && planB .any l.toArray p s (Array.replicate l.length false)) = true)
    (h : wpPick P l.toArray (fun w' => ∃ q : Later, w' = later w0 q) (fun a' => ∀ w', (∃ q : Later, w' = later w0 q) → wpSeqC P l.toArray (fun w' => ∃ q : Later, w' = later w0 q) Q (s.map fun k => l.getD k default) a' w') (p.map fun k => l.getD k default) a) : (Code.region id l.toArray true).wp P Q a w := by
  simp only [Bool.and_eq_true, decide_eq_true_eq] at hB
  obtain ⟨⟨hsel, hlen⟩, hB⟩ := hB
  have hlt : ∀ (p s : List Nat) (listed : Array Bool), planB .any l.toArray p s listed = true → (∀ k ∈ p, k < l.length) ∧ ∀ k ∈ s, k < l.length := by
    intro p
    induction p with
    | nil =>
      intro s
      induction s with
      | nil => intro _ _; simp
      | cons k s ih =>
        intro listed hB
        simp only [planB, restB, Bool.and_eq_true, decide_eq_true_eq] at hB
        have := (ih _ hB.2).2
        simp only [List.size_toArray] at hB
        exact ⟨by simp, fun j hj => (List.mem_cons.1 hj).elim (fun e => e ▸ hB.1.2) (this j)⟩
    | cons k p ih =>
      intro s listed hB
      simp only [planB, Bool.and_eq_true, decide_eq_true_eq] at hB
      have := ih s _ hB.2
      simp only [List.size_toArray] at hB
      exact ⟨fun j hj => (List.mem_cons.1 hj).elim (fun e => e ▸ hB.1.2) (this.1 j), this.2⟩
  have hmap : ∀ q : List Nat, (∀ k ∈ q, k < l.length) → q.map (fun k => l.toArray[k]?) = (q.map fun k => l.getD k default).map some := by
    intro q hq
    rw [List.map_map]
    apply List.map_congr_left
    intro k hk
    have := hq k hk
    simp [List.getD, this]
  have hl := hlt p s _ hB
  refine Code.wp_mono (Q := sure Q) (fun e a w he => by obtain ⟨rfl, he⟩ := he; exact he) ?_
  refine wp_region_held (S := fun w' => ∃ q : Later, w' = later w0 q) hm ?_
  have := wpAnyH_of_pick (md := .any) (Q := Q) hsel (hmap s hl.2) p _ _ a { w with drawn := w.drawn + 1 } (hmap p hl.1) hB (by obtain ⟨q, rfl⟩ := hw0; exact ⟨⟨q.n + 1, q.os⟩, rfl⟩) h
  rw [hlen] at this
  simpa using this

theorem wp_region_pick {id : Nat} {a : Act} {w : World} {l : List Oper} (p s : List Nat) (hm : P.follows .mixedOrders = true)
    (hB : (Region.noSelect l.toArray && decide (p.length + s.length = l.length) && planB .any l.toArray p s (Array.replicate l.length false)) = true)
    (h : wpPick P l.toArray (fun w' => ∃ q : Later, w' = later w q) (fun a' => ∀ w', (∃ q : Later, w' = later w q) → wpSeqC P l.toArray (fun w' => ∃ q : Later, w' = later w q) Q (s.map fun k => l.getD k default) a' w') (p.map fun k => l.getD k default) a) : (Code.region id l.toArray true).wp P Q a w :=
  wp_region_pick0 ⟨⟨w.drawn, #[]⟩, by simp [later]⟩ p s hm hB h
theorem wp_region_pick_later {id : Nat} {a : Act} {w : World} {q : Later} {l : List Oper} (p s : List Nat) (hm : P.follows .mixedOrders = true)
    (hB : (Region.noSelect l.toArray && decide (p.length + s.length = l.length) && planB .any l.toArray p s (Array.replicate l.length false)) = true)
    (h : wpPick P l.toArray (fun w' => ∃ q : Later, w' = later w q) (fun a' => ∀ w', (∃ q : Later, w' = later w q) → wpSeqC P l.toArray (fun w' => ∃ q : Later, w' = later w q) Q (s.map fun k => l.getD k default) a' w') (p.map fun k => l.getD k default) a) : (Code.region id l.toArray true).wp P Q a (later w q) :=
  wp_region_pick0 ⟨q, rfl⟩ p s hm hB h

/-! a plan: loads and moves (each yields one value in every world of the class) and operations that come up alone, in any mixture -/
def planC (md : Region.Mode) (ops : Array Oper) : List (Bool × Nat) → Array Bool → Bool
  | [], listed => (Region.ready md ops listed).isEmpty
  | (true, k) :: s, listed => (Region.ready md ops listed).contains k && Region.free md ops listed k && decide (k < ops.size) && planC md ops s (listed.setIfInBounds k true)
  | (false, k) :: s, listed => decide (Region.ready md ops listed = [k]) && decide (k < ops.size) && planC md ops s (listed.setIfInBounds k true)
def wpPlan (P : Program) (ops : Array Oper) (S : World → Prop) (Q : Exit → Act → World → Prop) : List (Bool × Oper) → Act → World → Prop
  | [], a, w => Q .normal a w
  | (true, o) :: l, a, w => if Region.wanted o (yielded ops a.tmps) then ∃ v, (∀ w', S w' → (execOp a.eval o).run P w' = .ok (.value v) w') ∧ wpPlan P ops S Q l (a.put o.dst v) w else wpPlan P ops S Q l (a.put o.dst undef) w
  | (false, o) :: l, a, w => wpList P ops (onward S (wpPlan P ops S Q l)) [o] a w
theorem wpPlan_nil {a : Act} {w : World} (h : Q .normal a w) : wpPlan P ops S Q [] a w := h
theorem wpPlan_pick {o : Oper} {l : List (Bool × Oper)} {a : Act} {w : World}
    (h : ∀ J : Act → Prop, (∀ a, wpPlan P ops S Q l a w → J a) → if Region.wanted o (yielded ops a.tmps) then ∃ v, (∀ w', S w' → (execOp a.eval o).run P w' = .ok (.value v) w') ∧ J (a.put o.dst v) else J (a.put o.dst undef)) : wpPlan P ops S Q ((true, o) :: l) a w :=
  h _ (fun _ h => h)
theorem wpPlan_seq {o : Oper} {l : List (Bool × Oper)} {a : Act} {w : World} (h : ∀ J : Act → World → Prop, (∀ a w, wpPlan P ops S Q l a w → J a w) → wpList P ops (onward S J) [o] a w) : wpPlan P ops S Q ((false, o) :: l) a w := h _ fun _ _ h => h

theorem wpAnyH_of_plan (hsel : Region.noSelect ops = true) : ∀ (p : List (Bool × Nat)) (lp : List (Bool × Oper)) (listed : Array Bool) (a : Act) (w : World), p.map (fun k => (k.1, ops[k.2]?)) = lp.map (fun o => (o.1, some o.2)) →
    planC md ops p listed = true → S w → wpPlan P ops S Q lp a w → wpAnyH P md ops (sure Q) S p.length listed a w
  | [], lp, listed, a, w, hl, hB, hS, h => by
    cases lp with
    | nil => exact ⟨by simpa [planC] using hB, rfl, h⟩
    | cons _ _ => simp at hl
  | (true, k) :: p, lp, listed, a, w, hl, hB, hS, h => by
    cases lp with
    | nil => simp at hl
    | cons o lp =>
      obtain ⟨b, o⟩ := o
      simp only [List.map_cons, List.cons.injEq, Prod.mk.injEq] at hl
      obtain ⟨⟨rfl, hk⟩, hl⟩ := hl
      simp only [planC, Bool.and_eq_true, decide_eq_true_eq] at hB
      obtain ⟨⟨⟨hr, hf⟩, _⟩, hB'⟩ := hB
      rw [List.length_cons]
      simp only [wpPlan] at h
      have hQ : ∀ c (a : Act) (w : World) (v : Value), sure Q (.panic c) (a.put o.dst v) w → sure Q (.panic c) a w := fun _ _ _ _ h => absurd h.1 (by simp)
      by_cases hw : Region.wanted o (yielded ops a.tmps) = true
      · rw [if_pos hw] at h
        obtain ⟨v, hv, h⟩ := h
        exact wpAnyH_take hk hsel hf hr (fun c a w => hQ c a w v) (.inl ⟨hw, hv⟩) hS (wpAnyH_of_plan hsel p lp _ _ w hl hB' hS h)
      · rw [if_neg hw] at h
        exact wpAnyH_take hk hsel hf hr (fun c a w => hQ c a w undef) (.inr ⟨by simpa using hw, rfl⟩) hS (wpAnyH_of_plan hsel p lp _ _ w hl hB' hS h)
  | (false, k) :: p, lp, listed, a, w, hl, hB, hS, h => by
    cases lp with
    | nil => simp at hl
    | cons o lp =>
      obtain ⟨b, o⟩ := o
      simp only [List.map_cons, List.cons.injEq, Prod.mk.injEq] at hl
      obtain ⟨⟨rfl, hk⟩, hl⟩ := hl
      simp only [planC, Bool.and_eq_true, decide_eq_true_eq] at hB
      refine wpAnyH_all hB.1.1 (by simp) fun i hi => ?_
      have hik : i = k := by simpa using hi
      subst hik
      have h1 : wpList P ops (onward S (wpPlan P ops S Q lp)) [o] a w := h
      have go : ∀ a' w', onward S (wpPlan P ops S Q lp) .normal a' w' → S w' ∧ wpAnyH P md ops (sure Q) S p.length (listed.setIfInBounds i true) a' w' := fun a' w' h' =>
        ⟨h'.2.1, wpAnyH_of_plan hsel p lp _ a' w' hl hB.2 h'.2.1 h'.2.2⟩
      unfold wpOp
      simp only [hk]
      simp only [wpList] at h1
      split
      · rename_i hw
        rw [if_pos hw] at h1
        rcases h1 with h1 | ⟨_, a2, w2, h2⟩
        · exact .inl (wp_sure (fun e a w he => he.1) go h1)
        · exact absurd h2.1 (by simp)
      · rename_i hw
        rw [if_neg hw] at h1
        exact go _ _ h1

theorem wp_region_plan0 {id : Nat} {a : Act} {w w0 : World} (hw0 : ∃ q : Later, w = later w0 q) {l : List Oper} (p : List (Bool × Nat)) (hm : P.follows .mixedOrders = true)
    (hB : (Region.noSelect l.toArray && decide (p.length = l.length) && planC .any l.toArray p (Array.replicate l.length false)) = true)
    (h : ∀ w', (∃ q : Later, w' = later w0 q) → wpPlan P l.toArray (fun w' => ∃ q : Later, w' = later w0 q) Q (p.map fun k => (k.1, l.getD k.2 default)) a w') : (Code.region id l.toArray true).wp P Q a w := by
  simp only [Bool.and_eq_true, decide_eq_true_eq] at hB
  obtain ⟨⟨hsel, hlen⟩, hB⟩ := hB
  have hlt : ∀ (p : List (Bool × Nat)) (listed : Array Bool), planC .any l.toArray p listed = true → ∀ k ∈ p, k.2 < l.length := by
    intro p
    induction p with
    | nil => intro _ _; simp
    | cons k p ih =>
      intro listed hB
      obtain ⟨b, k⟩ := k
      cases b with
      | true =>
        simp only [planC, Bool.and_eq_true, decide_eq_true_eq] at hB
        have h2 := ih _ hB.2
        have h1 := hB.1.2
        simp only [List.size_toArray] at h1
        intro j hj
        rcases List.mem_cons.1 hj with rfl | hj
        · exact h1
        · exact h2 j hj
      | false =>
        simp only [planC, Bool.and_eq_true, decide_eq_true_eq] at hB
        have h2 := ih _ hB.2
        have h1 := hB.1.2
        simp only [List.size_toArray] at h1
        intro j hj
        rcases List.mem_cons.1 hj with rfl | hj
        · exact h1
        · exact h2 j hj
  have hmap : ∀ q : List (Bool × Nat), (∀ k ∈ q, k.2 < l.length) → q.map (fun k => (k.1, l.toArray[k.2]?)) = (q.map fun k => (k.1, l.getD k.2 default)).map (fun o => (o.1, some o.2)) := by
    intro q hq
    rw [List.map_map]
    apply List.map_congr_left
    intro k hk
    have := hq k hk
    simp [List.getD, this]
  refine Code.wp_mono (Q := sure Q) (fun e a w he => by obtain ⟨rfl, he⟩ := he; exact he) ?_
  refine wp_region_held (S := fun w' => ∃ q : Later, w' = later w0 q) hm ?_
  have hs : ∃ q : Later, { w with drawn := w.drawn + 1 } = later w0 q := by obtain ⟨q, rfl⟩ := hw0; exact ⟨⟨q.n + 1, q.os⟩, rfl⟩
  have := wpAnyH_of_plan (md := .any) (Q := Q) hsel p _ _ a { w with drawn := w.drawn + 1 } (hmap p (hlt p _ hB)) hB hs (h _ hs)
  rw [hlen] at this
  simpa using this
theorem wp_region_plan {id : Nat} {a : Act} {w : World} {l : List Oper} (p : List (Bool × Nat)) (hm : P.follows .mixedOrders = true)
    (hB : (Region.noSelect l.toArray && decide (p.length = l.length) && planC .any l.toArray p (Array.replicate l.length false)) = true)
    (h : ∀ w', (∃ q : Later, w' = later w q) → wpPlan P l.toArray (fun w' => ∃ q : Later, w' = later w q) Q (p.map fun k => (k.1, l.getD k.2 default)) a w') : (Code.region id l.toArray true).wp P Q a w :=
  wp_region_plan0 ⟨⟨w.drawn, #[]⟩, by simp [later]⟩ p hm hB h
theorem wp_region_plan_later {id : Nat} {a : Act} {w : World} {q : Later} {l : List Oper} (p : List (Bool × Nat)) (hm : P.follows .mixedOrders = true)
    (hB : (Region.noSelect l.toArray && decide (p.length = l.length) && planC .any l.toArray p (Array.replicate l.length false)) = true)
    (h : ∀ w', (∃ q : Later, w' = later w q) → wpPlan P l.toArray (fun w' => ∃ q : Later, w' = later w q) Q (p.map fun k => (k.1, l.getD k.2 default)) a w') : (Code.region id l.toArray true).wp P Q a (later w q) :=
  wp_region_plan0 ⟨q, rfl⟩ p hm hB h
/-! a tree: where two operations come up side by side, both ways are walked -/
inductive Tree where
  | nil : Tree
  | one (k : Nat) (t : Tree) : Tree
  | two (k : Nat) (t : Tree) (j : Nat) (u : Tree) : Tree
def Tree.size : Tree → Nat
  | .nil => 0
  | .one _ t => t.size + 1
  | .two _ t _ _ => t.size + 1
def treeB (md : Region.Mode) (ops : Array Oper) : Tree → Array Bool → Bool
  | .nil, listed => (Region.ready md ops listed).isEmpty
  | .one k t, listed => decide (Region.ready md ops listed = [k]) && decide (k < ops.size) && treeB md ops t (listed.setIfInBounds k true)
  | .two k t j u, listed => decide (Region.ready md ops listed = [k, j]) && decide (k < ops.size) && decide (j < ops.size) && decide (t.size = u.size) && treeB md ops t (listed.setIfInBounds k true) && treeB md ops u (listed.setIfInBounds j true)
def wpTree (P : Program) (ops : Array Oper) (S : World → Prop) (Q : Exit → Act → World → Prop) : Tree → Act → World → Prop
  | .nil, a, w => Q .normal a w
  | .one k t, a, w => wpList P ops (onward S (wpTree P ops S Q t)) [ops.toList.getD k default] a w
  | .two k t j u, a, w => wpList P ops (onward S (wpTree P ops S Q t)) [ops.toList.getD k default] a w ∧ wpList P ops (onward S (wpTree P ops S Q u)) [ops.toList.getD j default] a w
theorem wpTree_nil {a : Act} {w : World} (h : Q .normal a w) : wpTree P ops S Q .nil a w := h
theorem wpTree_one {k : Nat} {t : Tree} {a : Act} {w : World} (h : ∀ J : Act → World → Prop, (∀ a w, wpTree P ops S Q t a w → J a w) → wpList P ops (onward S J) [ops.toList.getD k default] a w) : wpTree P ops S Q (.one k t) a w := h _ fun _ _ h => h
theorem wpTree_two {k j : Nat} {t u : Tree} {a : Act} {w : World} (h : ∀ J : Act → World → Prop, (∀ a w, wpTree P ops S Q t a w → J a w) → wpList P ops (onward S J) [ops.toList.getD k default] a w)
    (h2 : ∀ J : Act → World → Prop, (∀ a w, wpTree P ops S Q u a w → J a w) → wpList P ops (onward S J) [ops.toList.getD j default] a w) : wpTree P ops S Q (.two k t j u) a w := ⟨h _ fun _ _ h => h, h2 _ fun _ _ h => h⟩

theorem treeStep {i : Nat} {o : Oper} {a : Act} {w : World} {K : Act → World → Prop} {J : Act → World → Prop} (hi : ops[i]? = some o) (h1 : wpList P ops (onward S J) [o] a w) (go : ∀ a' w', onward S J .normal a' w' → K a' w') : wpOp P ops (sure Q) i K a w := by
  unfold wpOp
  simp only [hi]
  simp only [wpList] at h1
  split
  · rename_i hw
    rw [if_pos hw] at h1
    rcases h1 with h1 | ⟨_, a2, w2, h2⟩
    · exact .inl (wp_sure (fun e a w he => he.1) go h1)
    · exact absurd h2.1 (by simp)
  · rename_i hw
    rw [if_neg hw] at h1
    exact go _ _ h1
theorem wpAnyH_of_tree : ∀ (t : Tree) (listed : Array Bool) (a : Act) (w : World), treeB md ops t listed = true → wpTree P ops S Q t a w → wpAnyH P md ops (sure Q) S t.size listed a w
  | .nil, listed, a, w, hB, h => ⟨by simpa [treeB] using hB, rfl, h⟩
  | .one k t, listed, a, w, hB, h => by
    simp only [treeB, Bool.and_eq_true, decide_eq_true_eq] at hB
    have hk : ops[k]? = some (ops.toList.getD k default) := by simp [List.getD, hB.1.2]
    refine wpAnyH_all hB.1.1 (by simp) fun i hi => ?_
    have hik : i = k := by simpa using hi
    subst hik
    exact treeStep hk h fun a' w' h' => ⟨h'.2.1, wpAnyH_of_tree t _ a' w' hB.2 h'.2.2⟩
  | .two k t j u, listed, a, w, hB, h => by
    simp only [treeB, Bool.and_eq_true, decide_eq_true_eq] at hB
    obtain ⟨⟨⟨⟨⟨hr, hk⟩, hj⟩, hs⟩, ht⟩, hu⟩ := hB
    have hk' : ops[k]? = some (ops.toList.getD k default) := by simp [List.getD, hk]
    have hj' : ops[j]? = some (ops.toList.getD j default) := by simp [List.getD, hj]
    refine wpAnyH_all hr (by simp) fun i hi => ?_
    have hik : i = k ∨ i = j := by simpa using hi
    rcases hik with rfl | rfl
    · exact treeStep hk' h.1 fun a' w' h' => ⟨h'.2.1, wpAnyH_of_tree t _ a' w' ht h'.2.2⟩
    · exact treeStep hj' h.2 fun a' w' h' => ⟨h'.2.1, by rw [hs]; exact wpAnyH_of_tree u _ a' w' hu h'.2.2⟩
def pickTreeB (md : Region.Mode) (ops : Array Oper) : List Nat → Tree → Array Bool → Bool
  | [], t, listed => treeB md ops t listed
  | k :: p, t, listed => (Region.ready md ops listed).contains k && Region.free md ops listed k && decide (k < ops.size) && pickTreeB md ops p t (listed.setIfInBounds k true)
theorem wpAnyH_of_pickTree (hsel : Region.noSelect ops = true) {t : Tree} : ∀ (p : List Nat) (lp : List Oper) (listed : Array Bool) (a : Act) (w : World), p.map (fun k => ops[k]?) = lp.map some →
    pickTreeB md ops p t listed = true → S w → wpPick P ops S (fun a' => ∀ w', S w' → wpTree P ops S Q t a' w') lp a → wpAnyH P md ops (sure Q) S (p.length + t.size) listed a w
  | [], lp, listed, a, w, hl, hB, hS, h => by
    cases lp with
    | nil => rw [List.length_nil, Nat.zero_add]; exact wpAnyH_of_tree t listed a w hB (h w hS)
    | cons _ _ => simp at hl
  | k :: p, lp, listed, a, w, hl, hB, hS, h => by
    cases lp with
    | nil => simp at hl
    | cons o lp =>
      simp only [List.map_cons, List.cons.injEq] at hl
      simp only [pickTreeB, Bool.and_eq_true, decide_eq_true_eq] at hB
      obtain ⟨⟨⟨hr, hf⟩, _⟩, hB'⟩ := hB
      rw [show (k :: p).length + t.size = (p.length + t.size) + 1 by simp; omega]
      simp only [wpPick] at h
      have hQ : ∀ c (a : Act) (w : World) (v : Value), sure Q (.panic c) (a.put o.dst v) w → sure Q (.panic c) a w := fun _ _ _ _ h => absurd h.1 (by simp)
      by_cases hw : Region.wanted o (yielded ops a.tmps) = true
      · rw [if_pos hw] at h
        obtain ⟨v, hv, h⟩ := h
        exact wpAnyH_take hl.1 hsel hf hr (fun c a w => hQ c a w v) (.inl ⟨hw, hv⟩) hS (wpAnyH_of_pickTree hsel p lp _ _ w hl.2 hB' hS h)
      · rw [if_neg hw] at h
        exact wpAnyH_take hl.1 hsel hf hr (fun c a w => hQ c a w undef) (.inr ⟨by simpa using hw, rfl⟩) hS (wpAnyH_of_pickTree hsel p lp _ _ w hl.2 hB' hS h)
theorem wp_region_tree0 {id : Nat} {a : Act} {w w0 : World} (hw0 : ∃ q : Later, w = later w0 q) {l : List Oper} (p : List Nat) (t : Tree) (hm : P.follows .mixedOrders = true)
    (hB : (Region.noSelect l.toArray && decide (p.length + t.size = l.length) && pickTreeB .any l.toArray p t (Array.replicate l.length false)) = true)
    (h : wpPick P l.toArray (fun w' => ∃ q : Later, w' = later w0 q) (fun a' => ∀ w', (∃ q : Later, w' = later w0 q) → wpTree P l.toArray (fun w' => ∃ q : Later, w' = later w0 q) Q t a' w') (p.map fun k => l.getD k default) a) : (Code.region id l.toArray true).wp P Q a w := by
  simp only [Bool.and_eq_true, decide_eq_true_eq] at hB
  obtain ⟨⟨hsel, hlen⟩, hB⟩ := hB
  have hlt : ∀ (p : List Nat) (listed : Array Bool), pickTreeB .any l.toArray p t listed = true → ∀ k ∈ p, k < l.length := by
    intro p
    induction p with
    | nil => intro _ _; simp
    | cons k p ih =>
      intro listed hB
      simp only [pickTreeB, Bool.and_eq_true, decide_eq_true_eq] at hB
      have h2 := ih _ hB.2
      have h1 := hB.1.2
      simp only [List.size_toArray] at h1
      intro j hj
      rcases List.mem_cons.1 hj with rfl | hj
      · exact h1
      · exact h2 j hj
  have hmap : ∀ q : List Nat, (∀ k ∈ q, k < l.length) → q.map (fun k => l.toArray[k]?) = (q.map fun k => l.getD k default).map some := by
    intro q hq
    rw [List.map_map]
    apply List.map_congr_left
    intro k hk
    have := hq k hk
    simp [List.getD, this]
  refine Code.wp_mono (Q := sure Q) (fun e a w he => by obtain ⟨rfl, he⟩ := he; exact he) ?_
  refine wp_region_held (S := fun w' => ∃ q : Later, w' = later w0 q) hm ?_
  have := wpAnyH_of_pickTree (md := .any) (Q := Q) hsel p _ _ a { w with drawn := w.drawn + 1 } (hmap p (hlt p _ hB)) hB (by obtain ⟨q, rfl⟩ := hw0; exact ⟨⟨q.n + 1, q.os⟩, rfl⟩) h
  rw [hlen] at this
  simpa using this
theorem wp_region_tree {id : Nat} {a : Act} {w : World} {l : List Oper} (p : List Nat) (t : Tree) (hm : P.follows .mixedOrders = true)
    (hB : (Region.noSelect l.toArray && decide (p.length + t.size = l.length) && pickTreeB .any l.toArray p t (Array.replicate l.length false)) = true)
    (h : wpPick P l.toArray (fun w' => ∃ q : Later, w' = later w q) (fun a' => ∀ w', (∃ q : Later, w' = later w q) → wpTree P l.toArray (fun w' => ∃ q : Later, w' = later w q) Q t a' w') (p.map fun k => l.getD k default) a) : (Code.region id l.toArray true).wp P Q a w :=
  wp_region_tree0 ⟨⟨w.drawn, #[]⟩, by simp [later]⟩ p t hm hB h
theorem wp_region_tree_later {id : Nat} {a : Act} {w : World} {q : Later} {l : List Oper} (p : List Nat) (t : Tree) (hm : P.follows .mixedOrders = true)
    (hB : (Region.noSelect l.toArray && decide (p.length + t.size = l.length) && pickTreeB .any l.toArray p t (Array.replicate l.length false)) = true)
    (h : wpPick P l.toArray (fun w' => ∃ q : Later, w' = later w q) (fun a' => ∀ w', (∃ q : Later, w' = later w q) → wpTree P l.toArray (fun w' => ∃ q : Later, w' = later w q) Q t a' w') (p.map fun k => l.getD k default) a) : (Code.region id l.toArray true).wp P Q a (later w q) :=
  wp_region_tree0 ⟨q, rfl⟩ p t hm hB h
end
end Go.Proofs.YtopaapgbenpbaaaDoor
