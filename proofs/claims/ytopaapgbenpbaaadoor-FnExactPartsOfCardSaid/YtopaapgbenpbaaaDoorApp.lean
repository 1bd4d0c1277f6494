/-
  append onto a slice of the call's own, the source a slice that reads as a list; what a call that makes a slice leaves. Conditions: the lengths fit the model's bounds.
-/
import Derived.Test.YtopaapgbenpbaaaDoorOwn
import Derived.OwnWalk
namespace Go.Proofs.YtopaapgbenpbaaaDoor
open Go.RowKit
set_option linter.unusedVariables false

section
variable {P : Program} (w : World)
theorem run_append_nil0 (base : Nat) (t ty e : TypeId) (i : TypeInfo) (size : Nat) (ht : P.underlying t = some (.slice e)) (hi : P.info? e = some i)
    (v : Value) (n : Nat) (xs : List Value) (hown : w.ownsRow base e size v n xs) (c : Nat) : (Builtin.append_ #[t, t] ty #[v, .slice none 0 c]).run P w = .ok v w := by
  rcases hown.2 with ⟨rfl, rfl⟩ | ⟨g, cap, cur, rfl, _, _, hnc, _⟩
  · simp [Builtin.append_, run_underlying ht, sizeOf, typeInfo, hi, Builtin.lenOf, Builtin.firstCells]
  · simp [Builtin.append_, run_underlying ht, sizeOf, typeInfo, hi, Builtin.lenOf, Builtin.firstCells, hnc, storeCells]

theorem row_cells {α : Type} {enc : α → List Value} {k : Nat} (hk : ∀ x, (enc x).length = k) (hk0 : 0 < k) {w : World} {ad : Addr} {ys : List α} (h : Row enc k w (some ad) ys) :
    ∀ j u, (ys.flatMap enc)[j]? = some u → w.cell? (ad.add j) = some u := by
  intro j u hu
  have hj : j < ys.length * k := by
    have := (List.getElem?_eq_some_iff.1 hu).1
    rwa [flatMap_len enc k hk] at this
  have hq : j / k < ys.length := Nat.div_lt_of_lt_mul (by rw [Nat.mul_comm]; exact hj)
  obtain ⟨b, off, e, hc⟩ := h (Nat.lt_of_le_of_lt (Nat.zero_le _) hq)
  simp at e
  subst e
  have hm : j % k < k := Nat.mod_lt _ hk0
  obtain ⟨x, hx⟩ : ∃ x, ys[j / k]? = some x := ⟨_, List.getElem?_eq_getElem hq⟩
  obtain ⟨v, hv⟩ : ∃ v, (enc x)[j % k]? = some v := ⟨_, List.getElem?_eq_getElem (by rw [hk]; exact hm)⟩
  have h1 := flatMap_get enc k hk ys (j / k) (j % k) x v hx hv
  have hd : j / k * k + j % k = j := by rw [Nat.mul_comm]; exact Nat.div_add_mod j k
  rw [hd] at h1
  have h2 := hc _ _ hx _ _ hv
  rw [show off + j / k * k + j % k = off + j by omega] at h2
  have ea : (⟨b, off, Option.none⟩ : Addr).add j = ⟨b, off + j, Option.none⟩ := by
    unfold Addr.add; split <;> simp_all
  rw [ea, h2, ← h1, hu]

theorem run_append_row {α : Type} (enc : α → List Value) (k : Nat) (hk : ∀ x, (enc x).length = k) (hk0 : 0 < k) (hone : ∀ x, ∀ u ∈ enc x, u.oneCell' = true)
    (base : Nat) (t ty e : TypeId) (i : TypeInfo) (z : Value) (bytes : Nat) (ht : P.underlying t = some (.slice e)) (hi : P.info? e = some i) (hz : i.zero = some z)
    (hsize : i.size = k) (hby : i.bytes = bytes) (hzs : z.cells.size = k)
    (v : Value) (n : Nat) (xs : List α) (hown : w.ownsRow base e k v n (xs.flatMap enc))
    (A : Option Addr) (m c : Nat) (ys : List α) (hm : ys.length = m) (hr : Row enc k w A ys)
    (h63 : n + m ≤ maxLen) (hbytes : (n + m) * bytes ≤ 140737488355328) (hbase : base ≤ w.heap.size) :
    ∃ v' w', (Builtin.append_ #[t, t] ty #[v, .slice A m c]).run P w = .ok v' w' ∧ w'.ownsRow base e k v' (n + m) ((xs ++ ys).flatMap enc) ∧ w.grownBy w' v.ownBlock := by
  rw [List.flatMap_append]
  rcases A with _ | ad
  · have hm0 : m = 0 := by
      rcases Nat.eq_zero_or_pos m with h0 | h0
      · exact h0
      · obtain ⟨b, off, h, _⟩ := hr (by omega)
        cases h
    subst hm0
    have hys : ys = [] := List.eq_nil_of_length_eq_zero hm
    subst hys
    exact ⟨v, w, run_append_nil0 w base t ty e i k ht hi v n _ hown c, by simpa using hown, World.grownBy.refl w _⟩
  · obtain ⟨v', w', hrun, h2, h3, _⟩ := run_append_own (P := P) w base t ty e i z k bytes ht hi hz hsize hby hzs hk0 v n _ hown ad m c (ys.flatMap enc) (by rw [flatMap_len enc k hk, hm]) (row_cells hk hk0 hr)
      (fun u hu => by
        obtain ⟨x, _, hx⟩ := List.mem_flatMap.1 hu
        exact hone x u hx) h63 hbytes hbase
    exact ⟨v', w', hrun, h2, h3⟩

theorem wpList_append_row {α : Type} (enc : α → List Value) (k : Nat) (hk : ∀ x, (enc x).length = k) (hk0 : 0 < k) (hone : ∀ x, ∀ u ∈ enc x, u.oneCell' = true)
    {ops : Array Oper} {rest : List Oper} {o : Oper} {a : Act} {Q : Exit → Act → World → Prop} (hgd : o.guard = none) (s x : Operand) (t : TypeId)
    (ho : o.op = .call { callee := .builtin .append, args := #[s, x], argTypes := #[t, t] })
    (base : Nat) (e : TypeId) (i : TypeInfo) (z : Value) (bytes : Nat) (ht : P.underlying t = some (.slice e)) (hi : P.info? e = some i) (hz : i.zero = some z)
    (hsize : i.size = k) (hby : i.bytes = bytes) (hzs : z.cells.size = k)
    (v : Value) (n : Nat) (xs : List α) (hs : a.eval s = v) (hown : w.ownsRow base e k v n (xs.flatMap enc))
    (A : Option Addr) (m c : Nat) (ys : List α) (hx : a.eval x = .slice A m c) (hm : ys.length = m) (hr : Row enc k w A ys)
    (h63 : n + m ≤ maxLen) (hbytes : (n + m) * bytes ≤ 140737488355328) (hbase : base ≤ w.heap.size)
    (h : ∀ v' w', w'.ownsRow base e k v' (n + m) ((xs ++ ys).flatMap enc) → w.grownBy w' v.ownBlock → (∀ (B : Nat) (a0 : World), Below B a0 w → B ≤ w.heap.size → B ≤ base → Below B a0 w') → wpList P ops Q rest (a.put o.dst v') w') : wpList P ops Q (o :: rest) a w :=
  wpList_plain hgd fun _ hK => by
    obtain ⟨v', w', hr', h2, h3⟩ := run_append_row (P := P) w enc k hk hk0 hone base t o.type e i z bytes ht hi hz hsize hby hzs v n xs hown A m c ys hm hr h63 hbytes hbase
    unfold Oper.wp execOp
    simp only [ho, resolve, invoke, builtin, Sem.run_bind, Sem.run_pure, Result.andThen_ok, List.map_toArray, List.map_cons, List.map_nil, hs, hx, hr']
    exact hK _ _ (h v' w' h2 h3 fun B a0 hb hB hbase => hb.grown h3 hB fun j hj => Nat.le_trans hbase (hown.lt j hj).1)
end

/-- the call made a slice that holds xs -/
def MadeOwn {α : Type} (enc : α → List Value) (k : Nat) (mk : Value → Value) (xs : List α) (w : World) (e : Ending) (w' : World) : Prop :=
  ∃ A n c, e = .returned (mk (.slice A n c)) ∧ xs.length = n ∧ n ≤ c ∧ c ≤ maxLen ∧ Own enc k w.heap.size w' A xs ∧ ∃ p : Later, w' = later w p

theorem MadeOwn.of_row {α : Type} {enc : α → List Value} {k : Nat} {mk : Value → Value} {xs : List α} {w w' : World} {E : TypeId} {v : Value} {n base : Nat} (hk : ∀ x, (enc x).length = k) (hown : w'.ownsRow base E k v n (xs.flatMap enc)) (hn : xs.length = n) (hb : w.heap.size ≤ base) (hbl : Below w.heap.size w w') :
    MadeOwn enc k mk xs w (.returned (mk v)) w' := by
  obtain ⟨A, c, rfl, h1, h2, h3⟩ := own_of_ownsRow hk hown hn
  exact ⟨A, n, c, rfl, hn, h2, h3, h1.mono hb, later_of_below hbl⟩
theorem MadeOwn.of_row' {α : Type} {enc : α → List Value} {k : Nat} {mk : Value → Value} {xs : List α} {w w' : World} {E : TypeId} {v : Value} {n base : Nat} {e : Ending} (he : e = .returned (mk v)) (hk : ∀ x, (enc x).length = k) (hown : w'.ownsRow base E k v n (xs.flatMap enc)) (hn : xs.length = n) (hb : w.heap.size ≤ base) (hbl : Below w.heap.size w w') :
    MadeOwn enc k mk xs w e w' := by
  subst he
  exact MadeOwn.of_row hk hown hn hb hbl

theorem oneI : ∀ x, ∀ u ∈ encI x, u.oneCell' = true := by intro x u hu; simp [encI] at hu; subst hu; rfl
theorem oneS : ∀ x, ∀ u ∈ encS x, u.oneCell' = true := by intro x u hu; simp [encS] at hu; rcases hu with rfl | rfl <;> rfl
theorem oneC : ∀ x, ∀ u ∈ encC x, u.oneCell' = true := by intro x u hu; simp [encC] at hu; rcases hu with rfl | rfl | rfl <;> rfl
theorem oneR : ∀ x, ∀ u ∈ encR x, u.oneCell' = true := by intro x u hu; simp [encR] at hu; rcases hu with rfl | rfl | rfl | rfl | rfl <;> rfl
theorem lenI : ∀ x, (encI x).length = 1 := fun _ => rfl
theorem lenS : ∀ x, (encS x).length = 2 := fun _ => rfl
theorem lenC : ∀ x, (encC x).length = 3 := fun _ => rfl
theorem lenR : ∀ x, (encR x).length = 5 := fun _ => rfl

/-- the world is later still, behind an append onto a row of the call's own -/
theorem below_own {B base : Nat} {a w w' : World} {E : TypeId} {k n : Nat} {v : Value} {xs : List Value} (h : Below B a w) (hown : w.ownsRow base E k v n xs) (hg : w.grownBy w' v.ownBlock) (hB : B ≤ w.heap.size) (hb : B ≤ base) : Below B a w' :=
  h.grown hg hB fun j hj => Nat.le_trans hb (hown.lt j hj).1
theorem own_later2 {α : Type} {enc : α → List Value} {k lo lo' : Nat} {w : World} {A : Option Addr} {xs : List α} {p : Later} (h : Own enc k lo (later w p) A xs) (hl : lo' ≤ lo) (n : Nat) (os : Array Obj) : Own enc k lo' (later w ⟨n, p.os ++ os⟩) A xs := by
  have := (h.later ⟨n, os⟩).mono hl
  rwa [later_later] at this
theorem row_later2 {α : Type} {enc : α → List Value} {k : Nat} {w : World} {A : Option Addr} {xs : List α} {p : Later} (h : Row enc k (later w p) A xs) (n : Nat) (os : Array Obj) : Row enc k (later w ⟨n, p.os ++ os⟩) A xs := by
  have := h.later ⟨n, os⟩
  rwa [later_later] at this
theorem ownsRow_later {w : World} {base : Nat} {e : TypeId} {size : Nat} {v : Value} {n : Nat} {xs : List Value} (h : w.ownsRow base e size v n xs) (p : Later) : (later w p).ownsRow base e size v n xs :=
  h.kept (grownBy_later w p Option.none) (by cases hv : v.ownBlock <;> simp)
theorem row_oneC (x : (Int × Int) × Int) (w : World) (g : Nat) (E : TypeId) (hg : g = w.heap.size) : Row encC 3 (w.alloc (.cells #[.int .i64 x.1.1, .int .i64 x.1.2, .int .i64 x.2] E)) (some ⟨g, 0, Option.none⟩) [x] := by
  subst hg; exact row_new encC 3 lenC w [x] E
theorem row_oneS (x : Int × Int) (w : World) (g : Nat) (E : TypeId) (hg : g = w.heap.size) : Row encS 2 (w.alloc (.cells #[.int .i64 x.1, .int .i64 x.2] E)) (some ⟨g, 0, Option.none⟩) [x] := by
  subst hg; exact row_new encS 2 lenS w [x] E
theorem row_oneR (x : Int × (Int × Int) × Int × Int) (w : World) (g : Nat) (E : TypeId) (hg : g = w.heap.size) : Row encR 5 (w.alloc (.cells #[.int .i64 x.1, .int .i64 x.2.1.1, .int .i64 x.2.1.2, .int .i64 x.2.2.1, .int .i64 x.2.2.2] E)) (some ⟨g, 0, Option.none⟩) [x] := by
  subst hg; exact row_new encR 5 lenR w [x] E
theorem row_oneI (x : Int) (w : World) (g : Nat) (E : TypeId) (hg : g = w.heap.size) : Row encI 1 (w.alloc (.cells #[.int .i64 x] E)) (some ⟨g, 0, Option.none⟩) [x] := by
  subst hg; exact row_new encI 1 lenI w [x] E
theorem below_box (w : World) (o : Obj) : Below w.heap.size w (w.alloc o) := (Below.refl _ _).alloc (Nat.le_refl _) o
theorem below_trans' {w : World} {o : Obj} {w' : World} (h : Below (w.alloc o).heap.size (w.alloc o) w') : Below w.heap.size w w' := (below_box w o).trans (h.mono (by simp))
theorem own_ne_size {Y : World} {base : Nat} {e : TypeId} {k n : Nat} {v : Value} {xs : List Value} (h : Y.ownsRow base e k v n xs) : v.ownBlock ≠ some Y.heap.size := fun he => by
  have := (h.lt _ he).2
  omega
theorem cell_mid {Y w1 : World} {cs : Array Value} {t : TypeId} {D : Obj} {p : Later} {row : Option Nat} (hg : ((later (Y.alloc (.cells cs t)) p).alloc D).grownBy w1 row) (hne : row ≠ some Y.heap.size) {i : Nat} {v : Value} (h : cs[i]? = some v) : w1.cell? ⟨Y.heap.size, i, Option.none⟩ = some v := by
  refine hg.cell (a := ⟨Y.heap.size, i, Option.none⟩) ?_ (fun e => hne e.symm)
  rw [World.cell?_alloc_lt _ _ _ (by simp [later_size]; omega), later_cell_lt (by simp), World.cell?_alloc_new]
  exact h
theorem own_empty (W : World) (g base : Nat) (E : TypeId) (k : Nat) (hg : g = W.heap.size) (hb : base ≤ W.heap.size) : (W.alloc (.cells #[] E)).ownsRow base E k (.slice (some ⟨g, 0, Option.none⟩) 0 0) 0 [] := by
  subst hg
  exact World.ownsRow_made W #[] 0 hb (by decide) (by simp)
end Go.Proofs.YtopaapgbenpbaaaDoor
