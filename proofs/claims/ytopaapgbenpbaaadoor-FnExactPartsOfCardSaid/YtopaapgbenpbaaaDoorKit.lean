/-
  The frame that all the laws of this seat share: opening arguments made of ints, and closing a law's row from its walk. Conditions: none.
-/
import Derived.Test.YtopaapgbenpbaaaDoorRows
import Derived.WalkKit
import Derived.ProofKit
import Derived.OpenShut
import Derived.Lib.Hide
import Derived.Deep.Slices
import Derived.Deep.Draws
import Derived.Deep.AppendLies
import Derived.Lib.SmallJoins
import Derived.BigQuiet
import Derived.Deep.QuietTactic
namespace Go.Proofs.YtopaapgbenpbaaaDoor
open Go.ChangeShapes Go.WideShapes Go.ChangeAt Go.RowKit Go.Deep Go.Joins
set_option linter.unusedVariables false

theorem and_mk {a b : Bool} (ha : a = true) (hb : b = true) : (a && b) = true := by rw [ha, hb]; rfl
theorem own : ownKnob Tryd.prog.godebug = Option.none := by kernel_rfl
theorem laidOut : laidOutB Tryd.prog = true := by kernel_rfl

section
variable {H : Type} {enc : TypeId × Value → H} {P : Program}

theorem post_of_below {f : Func} {s : ChangeSpec} {apart fresh handsOn again : Bool} {W W' : World} {args : Array Value} {v : Value} {ds gs : List (DataW H)} {before pa pv : List MemPlace}
    (hW : DataW.Whole enc P f.params.toList s.vars apart W args.toList ds gs before)
    (hres : ∀ (b : Nat) (sp : Nat → Bool) (hd : Bool), DataW.TrodAll enc P W' b sp hd f.resultTypes.toList (v.resultList f.resultTypes.size) (s.fn H (ds ++ gs)).results [])
    (hargs : ∀ sp : Nat → Bool, (∀ p ∈ before, sp p.block = true) → DataW.TrodAll enc P W' 0 sp true f.params.toList args.toList (s.fn H (ds ++ gs)).args pa)
    (hvars : ∀ sp : Nat → Bool, (∀ p ∈ before, sp p.block = true) → DataW.TrodVars enc P W' sp s.vars (s.fn H (ds ++ gs)).vars pv)
    (hps : before = pa ++ pv) (hb : Below W.heap.size W W')
    (hok : ∀ (j : Nat) (t : TypeId) (r : Value), f.resultTypes[j]? = some t → (v.resultList f.resultTypes.size)[j]? = some r → Value.okWide P W' .any 0 t r) :
    s.post enc P f apart fresh handsOn again W args v W' := by
  have hlt : ∀ p ∈ before, p.block < W.heap.size := fun p hp => hW.lt p hp
  have hold : ∀ p ∈ before, (fun b => decide (b < W.heap.size)) p.block = true := fun p hp => by simpa using hlt p hp
  refine ⟨ds, gs, before, [], pa, pv, hW, hres _ _ _, hargs _ hold, hvars _ hold, World.keptBut_mono (fun p hp => ⟨hp, ?_⟩) (hb.frame (· ∈ before)), fun _ => ?_⟩
  · rw [hps, List.mem_append] at hp
    exact Or.inr hp
  · obtain ⟨_, _, _, _, _, hz, hn⟩ := hW
    refine ⟨hok, _, _, ([] ++ pa) ++ pv, ⟨[] ++ pa, pv, trodAll_append (hargs _ (fun _ _ => rfl)) (hres _ _ _), hvars _ (fun _ _ => rfl), rfl, ?_, ?_⟩, ?_⟩
    · intro b off hp
      have hin : MemPlace.cell b off ∈ before := by rw [hps]; simpa using hp
      rw [hb.frozen (hlt _ hin)]
      exact hz b off hin
    · intro ha
      have := hn ha
      rw [hps] at this
      simpa using this
    · intro p hp _
      rw [hps]
      simpa using hp

theorem trodAll_stays (hl : laidOutB P = true) {W W' : World} {sp : Nat → Bool} (hb : Below W.heap.size W W') :
    ∀ {ts : List TypeId} {vs : List Value} {ds : List (DataW H)} {ps : List MemPlace}, (ts.all fun u => P.readableRec u && decide (u < P.types.size)) = true →
      (∀ x ∈ ps, x.block < W.heap.size) → (∀ x ∈ ps, sp x.block = true) → DataW.TrodAll enc P W 0 (fun _ => true) true ts vs ds ps → DataW.TrodAll enc P W' 0 sp true ts vs ds ps
  | [], [], [], _, _, _, _, h => h
  | [], _ :: _, _, _, _, _, _, h => h.elim
  | [], [], _ :: _, _, _, _, _, h => h.elim
  | _ :: _, [], _, _, _, _, _, h => h.elim
  | _ :: _, _ :: _, [], _, _, _, _, h => h.elim
  | t :: ts, v :: vs, d :: ds, ps, hts, hlt, hsp, h => by
    obtain ⟨p, q, h1, h2, rfl⟩ := h
    simp only [List.all_cons, Bool.and_eq_true, decide_eq_true_eq] at hts
    exact ⟨p, q, WideElems.Trod_stays hl hts.1.1 hts.1.2 h1 (fun x hx => hb.same (hlt x (by simp [hx]))) (fun x hx => hsp x (by simp [hx])),
      trodAll_stays hl hb hts.2 (fun x hx => hlt x (by simp [hx])) (fun x hx => hsp x (by simp [hx])) h2, rfl⟩

/-- a law's row, from its walk: it returned true and below the old heap's end nothing has turned -/
theorem law_post {f : Func} {s : ChangeSpec} {W W' : World} {args : Array Value} {ds gs : List (DataW H)} {before : List MemPlace} {t : TypeId}
    (hl : laidOutB P = true) (hv : s.vars = []) (hr : f.resultTypes = #[t]) (ht : P.underlying t = some .bool)
    (hp : (f.params.toList.all fun u => P.readableRec u && decide (u < P.types.size)) = true)
    (hW : DataW.Whole enc P f.params.toList s.vars false W args.toList ds gs before)
    (hfn : s.fn H (ds ++ gs) = { results := [.lit (.bool true)], args := ds }) (hb : Below W.heap.size W W') :
    s.post enc P f false true false false W args (.bool true) W' := by
  obtain ⟨p, q, hA, hV, hpq, _⟩ := id hW
  rw [hv] at hV
  obtain ⟨hgs, hq⟩ := trodVars_none hV
  subst hq
  rw [List.append_nil] at hpq
  have hlt : ∀ x ∈ p, x.block < W.heap.size := fun x hx => hW.lt x (hpq ▸ hx)
  refine post_of_below (pa := p) (pv := []) hW ?_ ?_ ?_ (by rw [hpq, List.append_nil]) hb (ok_one hr rfl (okWide_bool_mk ht true))
  · intro b sp hd
    rw [hfn, hr]
    exact trodAll_mk1 (shut_bool ht true)
  · intro sp hsp
    rw [hfn]
    exact trodAll_stays hl hb hp hlt (fun x hx => hsp x (hpq ▸ hx)) hA
  · intro sp hsp
    rw [hfn, hv]
    rfl

/-- the bounds of an int -/
def I64 (x : Int) : Prop := -9223372036854775808 ≤ x ∧ x ≤ 9223372036854775807
theorem i64_of_wf {x : Int} (h : (Lit.int .i64 x).wf = true) : I64 x := by
  simp [Lit.wf, IntKind.min, IntKind.max, IntKind.signed, IntKind.bits] at h
  exact ⟨by omega, by omega⟩

variable {w : World} {base : Nat} {spare : Nat → Bool} {held : Bool}

/-- a struct of two ints: its two cells -/
theorem trod_two {t i : TypeId} {f0 f1 : Field} {fuel : Nat} {cs : List Value} {x : DataW H × List MemPlace} (hs : P.underlying t = some (.struct #[f0, f1])) (h0 : P.underlying f0.type = some (.int .i64)) (h1 : P.underlying f1.type = some (.int .i64))
    (o : f0.offset = 0 ∧ f1.offset = 1 ∧ P.cellsOf f0.type = 1 ∧ P.cellsOf f1.type = 1 ∧ P.cellsOf t = 2) (h : DataW.trod enc P w base spare held fuel t cs = some x) :
    ∃ a b : Int, cs = [.int .i64 a, .int .i64 b] ∧ I64 a ∧ I64 b := by
  obtain ⟨xs, n, _, _, hlen, hxl, hf⟩ := DataW.trod_struct hs h
  have hl : cs.length = 2 := hlen.trans o.2.2.2.2
  match cs, hl with
  | [c0, c1], _ =>
    have e0 := hf 0 f0 rfl
    have e1 := hf 1 f1 rfl
    rw [o.1, o.2.2.1] at e0
    rw [o.2.1, o.2.2.2.1] at e1
    have l0 : xs[0]? = some (xs[0]'(by simp at hxl; omega)) := List.getElem?_eq_getElem _
    have l1 : xs[1]? = some (xs[1]'(by simp at hxl; omega)) := List.getElem?_eq_getElem _
    rw [l0] at e0
    rw [l1] at e1
    obtain ⟨a, ea, _, wa⟩ := DataW.trod_int h0 e0
    obtain ⟨b, eb, _, wb⟩ := DataW.trod_int h1 e1
    simp at ea eb
    subst ea eb
    exact ⟨a, b, rfl, i64_of_wf wa, i64_of_wf wb⟩
end

/-! ### later worlds: the old blocks as they were, new ones behind them, some draws on -/
structure Later where
  n : Nat
  os : Array Obj
instance : Inhabited Later := ⟨⟨0, #[]⟩⟩
def later (w : World) (p : Later) : World := { w with heap := w.heap ++ p.os, drawn := p.n }

theorem later_of_below {w w' : World} (h : Below w.heap.size w w') : ∃ p : Later, w' = later w p := by
  refine ⟨⟨w'.drawn, w'.heap.extract w.heap.size w'.heap.size⟩, ?_⟩
  have hh : w'.heap = w.heap ++ w'.heap.extract w.heap.size w'.heap.size := by
    apply Array.ext_getElem?
    intro k
    rw [Array.getElem?_append]
    split
    · exact h.block k (by assumption)
    · rename_i hk
      rw [Array.getElem?_extract]
      have hs := h.size
      by_cases hk2 : k < w'.heap.size
      · rw [if_pos (by omega)]
        congr 1
        omega
      · rw [if_neg (by omega), Array.getElem?_eq_none (by omega)]
  obtain ⟨hos, htape, hout, _, _⟩ := h
  cases w' with
  | mk heap tape drawn os output =>
    simp only at hos htape hout hh
    unfold later
    simp only [World.mk.injEq]
    exact ⟨hh, htape, trivial, hos, hout⟩

theorem below_later (w : World) (p : Later) : Below w.heap.size w (later w p) :=
  ⟨rfl, rfl, rfl, by simp [later], fun k hk => by simp [later, Array.getElem?_append, hk]⟩

theorem lt_of_isSome {w : World} {a : Addr} (h : (w.cell? a).isSome = true) : a.block < w.heap.size := by
  obtain ⟨v, hv⟩ := Option.isSome_iff_exists.1 h
  exact World.block_lt_of_cell? w a hv
theorem later_cell {w : World} {a : Addr} {p : Later} (h : (w.cell? a).isSome = true) : (later w p).cell? a = w.cell? a := (below_later w p).cell (lt_of_isSome h)
theorem later_frozen {w : World} {a : Addr} {p : Later} (h : (w.cell? a).isSome = true) : (later w p).frozen? a = w.frozen? a := (below_later w p).frozen (lt_of_isSome h)
theorem later_cell_lt {w : World} {a : Addr} {p : Later} (h : a.block < w.heap.size) : (later w p).cell? a = w.cell? a := (below_later w p).cell h
theorem later_frozen_lt {w : World} {a : Addr} {p : Later} (h : a.block < w.heap.size) : (later w p).frozen? a = w.frozen? a := (below_later w p).frozen h
theorem lt_later {w : World} {n : Nat} {p : Later} (h : n < w.heap.size) : (n < (later w p).heap.size) = True := eq_true (Nat.lt_of_lt_of_le h (below_later w p).size)
theorem le_later {w : World} {n : Nat} {p : Later} (h : n ≤ w.heap.size) : (n ≤ (later w p).heap.size) = True := eq_true (Nat.le_trans h (below_later w p).size)
theorem later_setCell_lt {w : World} {a : Addr} {p : Later} {v : Value} (hb : a.block < w.heap.size) : (later w p).setCell a v = later (w.setCell a v) p := by
  unfold later World.setCell
  simp only [World.mk.injEq, and_true]
  apply Array.ext_getElem?
  intro k
  simp only [Array.getElem?_modify, Array.getElem?_append, Array.size_modify]
  by_cases hk : k < w.heap.size
  · simp [hk]
  · have : a.block ≠ k := by omega
    simp [hk, this]
theorem later_setCell {w : World} {a : Addr} {p : Later} {v : Value} (h : (w.cell? a).isSome = true) : (later w p).setCell a v = later (w.setCell a v) p := later_setCell_lt (lt_of_isSome h)
theorem cell_later_eq {w : World} {a : Addr} {v : Value} {p : Later} (h : w.cell? a = some v) : (later w p).cell? a = some v := by rw [later_cell (by rw [h]; rfl)]; exact h
theorem cell_alloc_eq {w : World} {a : Addr} {v : Value} {o : Obj} (h : w.cell? a = some v) : (w.alloc o).cell? a = some v := by
  rw [World.cell?_alloc_lt w o a (World.block_lt_of_cell? w a h)]; exact h
theorem cell_drew_eq {w : World} {a : Addr} {v : Value} (h : w.cell? a = some v) : w.drew.cell? a = some v := h
theorem later_size (w : World) (p : Later) : (later w p).heap.size = w.heap.size + p.os.size := by simp [later]
theorem later_later (w : World) (p q : Later) : later (later w p) q = later w ⟨q.n, p.os ++ q.os⟩ := by simp [later]

theorem later_drew {w : World} {p : Later} : (later w p).drew = later w ⟨p.n + 1, p.os⟩ := rfl
theorem later_drewN {w : World} {p : Later} {n : Nat} : (later w p).drewN n = later w ⟨p.n + n, p.os⟩ := rfl
attribute [go_sem] later_drew later_drewN later_cell later_frozen later_cell_lt later_frozen_lt lt_later le_later later_setCell_lt later_setCell later_later

/-- the call returns v; the old memory stands as it was -/
def Gives (v : Value) (w : World) (e : Ending) (w' : World) : Prop := e = .returned v ∧ ∃ p : Later, w' = later w p
theorem Gives.mk {v : Value} {w w' : World} {e : Ending} (h : e = .returned v) (hb : Below w.heap.size w w') : Gives v w e w' := ⟨h, later_of_below hb⟩
theorem Gives.below {v : Value} {w w' : World} {e : Ending} (h : Gives v w e w') : e = .returned v ∧ Below w.heap.size w w' := by
  obtain ⟨he, p, rfl⟩ := h
  exact ⟨he, below_later w p⟩
theorem below_then_later {B : Nat} {a w : World} (h : Below B a w) (hB : B ≤ w.heap.size) (p : Later) : Below B a (later w p) := h.trans ((below_later w p).mono hB)
theorem below_drewN {B : Nat} {a w : World} (h : Below B a w) (n : Nat) : Below B a (w.drewN n) := ⟨h.os, h.tape, h.output, h.size, h.block⟩

theorem below_ext {a B0 : World} {q : Later} (h : Below a.heap.size a (later B0 q)) (n : Nat) (os : Array Obj) : Below a.heap.size a (later B0 ⟨n, q.os ++ os⟩) := by
  have hb := below_later (later B0 q) ⟨n, os⟩
  rw [later_later] at hb
  exact h.trans (hb.mono h.size)

theorem calls_later {P : Program} {f : FuncId} {args : Array Value} {w : World} {p : Later} {v : Value}
    (h : Calls P f args (later w p) (Gives v (later w p))) : Calls P f args (later w p) fun e w'' => e = .returned v ∧ ∃ q : Later, w'' = later w q :=
  h.mono fun _ _ ⟨he, q, hq⟩ => ⟨he, ⟨q.n, p.os ++ q.os⟩, by rw [hq, later_later]⟩

theorem calls_later2 {P : Program} {f : FuncId} {args : Array Value} {w : World} {p : Later} {os : Array Obj} {v : Value}
    (h : Calls P f args (later w ⟨p.n, os ++ p.os⟩) (Gives v (later w ⟨p.n, os ++ p.os⟩))) : Calls P f args (later w ⟨p.n, os ++ p.os⟩) fun e w'' => e = .returned v ∧ ∃ q : Later, w'' = later w ⟨q.n, os ++ q.os⟩ :=
  h.mono fun _ _ ⟨he, q, hq⟩ => ⟨he, ⟨q.n, p.os ++ q.os⟩, by rw [hq, later_later]; simp⟩

theorem wp_region_later {P : Program} {id : Nat} {Q : Exit → Act → World → Prop} {a : Act} {w : World} {l : List Oper} (hm : P.follows .mixedOrders = true) (hB : Region.lexB .any l.toArray = true)
    (h : wpQuiet P l.toArray (fun w' => ∃ p : Later, w' = later w p) (fun a' => ∀ w', (∃ p : Later, w' = later w p) → Q .normal a' w') l a) : (Code.region id l.toArray true).wp P Q a w :=
  wp_region_quiet (C := fun w' => ∃ p : Later, w' = later w p) hm hB ⟨⟨w.drawn + 1, #[]⟩, by simp [later]⟩ (by simpa using h)

theorem bcell {W w1 : World} (hb : Below W.heap.size W w1) : (∀ b o, b < W.heap.size → w1.cell? ⟨b, o, Option.none⟩ = W.cell? ⟨b, o, Option.none⟩) ∧ (∀ b o, b < W.heap.size → w1.frozen? ⟨b, o, Option.none⟩ = W.frozen? ⟨b, o, Option.none⟩) :=
  ⟨fun b o h => hb.cell (p := ⟨b, o, Option.none⟩) h, fun b o h => hb.frozen (p := ⟨b, o, Option.none⟩) h⟩
end Go.Proofs.YtopaapgbenpbaaaDoor
