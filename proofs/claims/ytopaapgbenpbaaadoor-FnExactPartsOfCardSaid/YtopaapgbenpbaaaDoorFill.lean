/-
  Plain laws on rows of cells that are filled one element a round. Conditions: none.
-/
import Derived.Test.YtopaapgbenpbaaaDoorSl
namespace Go.Proofs.YtopaapgbenpbaaaDoor
open Go.RowKit
set_option linter.unusedVariables false

section
variable {P : Program}
theorem run_make_rowN (t e : TypeId) (i : TypeInfo) (z : Value) (ht : P.underlying t = some (.slice e)) (hi : P.info? e = some i) (hz : i.zero = some z)
    (kl kc : IntKind) (n c : Nat) (hnc : n ≤ c) (hbytes : i.bytes * c ≤ 281474976710656) (h63 : c ≤ 9223372036854775807) (w : World) :
    (Instr.makeSlice t (.int kl (n : Int)) (.int kc (c : Int))).run P w = .ok (.slice (some ⟨w.heap.size, 0, none⟩) n c) (w.alloc (.cells (madeCells z.cells (c * i.size)) e)) := by
  have hb : (i.bytes : Int) * (c : Int) ≤ 281474976710656 := by
    have h : ((i.bytes * c : Nat) : Int) ≤ 281474976710656 := by omega
    rwa [Int.natCast_mul] at h
  have hr := run_make (P := P) w t e i z ht hi hz kl kc n c (by omega) (by omega) hb (by omega)
  simp only [Int.toNat_natCast] at hr
  exact hr
end

section
variable {α : Type}
/-- k elements laid, the rest zero -/
def fill (enc : α → List Value) (sz : Nat) (xs : List α) (k : Nat) : Array Value :=
  ((xs.take k).flatMap enc ++ List.replicate ((xs.length - k) * sz) (Value.int .i64 0)).toArray
theorem fill_all (enc : α → List Value) (sz : Nat) (xs : List α) : fill enc sz xs xs.length = (xs.flatMap enc).toArray := by
  unfold fill; simp
theorem flatMap_len (enc : α → List Value) (sz : Nat) (h : ∀ x, (enc x).length = sz) (xs : List α) : (xs.flatMap enc).length = xs.length * sz := by
  induction xs with
  | nil => simp
  | cons x xs ih => simp [List.flatMap_cons, ih, h, Nat.add_mul, Nat.add_comm]
theorem fill_size (enc : α → List Value) (sz : Nat) (h : ∀ x, (enc x).length = sz) (xs : List α) (k : Nat) (hk : k ≤ xs.length) : (fill enc sz xs k).size = xs.length * sz := by
  unfold fill
  simp only [List.size_toArray, List.length_append, flatMap_len enc sz h, List.length_replicate, List.length_take]
  rw [Nat.min_eq_left hk, ← Nat.add_mul]
  congr 1; omega
theorem fill_get (enc : α → List Value) (sz : Nat) (h : ∀ x, (enc x).length = sz) (xs : List α) (k : Nat) (hk : k < xs.length) (j : Nat) (hj : j < sz) :
    (fill enc sz xs k)[k * sz + j]? = some (.int .i64 0) := by
  unfold fill
  rw [List.getElem?_toArray, List.getElem?_append_right (by rw [flatMap_len enc sz h, List.length_take, Nat.min_eq_left (by omega)]; omega)]
  rw [flatMap_len enc sz h, List.length_take, Nat.min_eq_left (by omega)]
  rw [List.getElem?_replicate, if_pos]
  have h1 : sz ≤ (xs.length - k) * sz := Nat.le_mul_of_pos_left sz (by omega)
  have h2 : k * sz + j - k * sz = j := by omega
  rw [h2]
  omega

/-- n cells stored one behind the other -/
def setMany (a : Array Value) (o : Nat) : List Value → Array Value
  | [] => a
  | v :: vs => setMany (a.setIfInBounds o v) (o + 1) vs
theorem setMany_toList (a : Array Value) : ∀ (vs : List Value) (o : Nat), o + vs.length ≤ a.size → (setMany a o vs).toList = a.toList.take o ++ vs ++ a.toList.drop (o + vs.length)
  | [], o, h => by simp [setMany]
  | v :: vs, o, h => by
    simp only [List.length_cons] at h
    have := setMany_toList (a.setIfInBounds o v) vs (o + 1) (by simp; omega)
    rw [setMany, this]
    have hl : o < a.toList.length := by simp; omega
    rw [Array.toList_setIfInBounds]
    have h1 : (a.toList.set o v).take (o + 1) = a.toList.take o ++ [v] := by
      rw [List.take_add_one, List.take_set_of_le (Nat.le_refl _), List.getElem?_set_self hl]
      rfl
    have h2 : (a.toList.set o v).drop (o + 1 + vs.length) = a.toList.drop (o + (v :: vs).length) := by
      rw [List.drop_set_of_lt (by omega)]
      simp only [List.length_cons]
      congr 1; omega
    rw [h1, h2]; simp
theorem fill_succ (enc : α → List Value) (sz : Nat) (h : ∀ x, (enc x).length = sz) (xs : List α) (k : Nat) (x : α) (hx : xs[k]? = some x) :
    setMany (fill enc sz xs k) (k * sz) (enc x) = fill enc sz xs (k + 1) := by
  have hk : k < xs.length := (List.getElem?_eq_some_iff.1 hx).1
  have hs := fill_size enc sz h xs k (by omega)
  have hb : k * sz + sz ≤ xs.length * sz := by rw [← Nat.succ_mul]; exact Nat.mul_le_mul_right sz hk
  apply Array.toList_inj.1
  rw [setMany_toList _ _ _ (by rw [hs, h]; exact hb)]
  unfold fill
  have e1 : ((xs.take k).flatMap enc).length = k * sz := by rw [flatMap_len enc sz h, List.length_take, Nat.min_eq_left (by omega)]
  rw [List.take_append_of_le_length (by omega), List.take_of_length_le (by omega)]
  rw [List.drop_append, List.drop_eq_nil_of_le (by omega), List.nil_append, List.drop_replicate, h]
  rw [List.take_add_one, hx, List.flatMap_append]
  simp only [Option.toList_some, List.flatMap_cons, List.flatMap_nil, List.append_nil]
  congr 2
  rw [e1]
  have : (xs.length - k) * sz = (xs.length - (k + 1)) * sz + sz := by
    rw [← Nat.succ_mul]; congr 1; omega
  omega

theorem Row.alloc {enc : α → List Value} {k : Nat} {w : World} {A : Option Addr} {xs : List α} (h : Row enc k w A xs) (o : Obj) : Row enc k (w.alloc o) A xs :=
  h.below ((Below.refl _ _).alloc (Nat.le_refl _) _)
theorem Row.drew {enc : α → List Value} {k : Nat} {w : World} {A : Option Addr} {xs : List α} (h : Row enc k w A xs) : Row enc k w.drew A xs := h
theorem Row.drewN {enc : α → List Value} {k : Nat} {w : World} {A : Option Addr} {xs : List α} (h : Row enc k w A xs) (n : Nat) : Row enc k (w.drewN n) A xs := h
theorem Row.setNew {enc : α → List Value} {k : Nat} {w w' : World} {A : Option Addr} {xs : List α} (h : Row enc k w A xs) (hb : Below w.heap.size w w') : Row enc k w' A xs := h.below hb

theorem flatMap_get (enc : α → List Value) (sz : Nat) (h : ∀ x, (enc x).length = sz) : ∀ (xs : List α) (j i : Nat) (x : α) (v : Value), xs[j]? = some x → (enc x)[i]? = some v → (xs.flatMap enc)[j * sz + i]? = some v
  | [], _, _, _, _, hx, _ => by simp at hx
  | y :: ys, 0, i, x, v, hx, hv => by
    simp at hx; subst hx
    have hi : i < (enc y).length := (List.getElem?_eq_some_iff.1 hv).1
    rw [List.flatMap_cons, List.getElem?_append_left (by omega)]
    simpa using hv
  | y :: ys, j + 1, i, x, v, hx, hv => by
    simp at hx
    rw [List.flatMap_cons, List.getElem?_append_right (by rw [h, Nat.succ_mul]; omega), h]
    have := flatMap_get enc sz h ys j i x v hx hv
    rw [show (j + 1) * sz + i - sz = j * sz + i by rw [Nat.succ_mul]; omega]
    exact this
theorem row_new (enc : α → List Value) (sz : Nat) (h : ∀ x, (enc x).length = sz) (w : World) (xs : List α) (E : TypeId) :
    Row enc sz (w.alloc (.cells (xs.flatMap enc).toArray E)) (some ⟨w.heap.size, 0, Option.none⟩) xs := fun _ =>
  ⟨_, _, rfl, fun j x hx i v hv => by
    rw [World.cell?_alloc_new]
    simp only [Nat.zero_add, List.getElem?_toArray]
    exact flatMap_get enc sz h xs j i x v hx hv⟩
end

/-- a slice that a copy has just laid -/
def Copied (E : TypeId) (cs : Array Value) (n : Nat) (w : World) (e : Ending) (w' : World) : Prop := e = .returned (.slice (some ⟨w.heap.size, 0, Option.none⟩) n n) ∧ ∃ p : Later, w' = later (w.alloc (.cells cs E)) p

theorem row_newS (w : World) (xs : List (Int × Int)) (E : TypeId) : Row encS 2 (w.alloc (.cells (xs.flatMap encS).toArray E)) (some ⟨w.heap.size, 0, Option.none⟩) xs := row_new encS 2 (fun _ => rfl) w xs E
theorem row_newC (w : World) (xs : List ((Int × Int) × Int)) (E : TypeId) : Row encC 3 (w.alloc (.cells (xs.flatMap encC).toArray E)) (some ⟨w.heap.size, 0, Option.none⟩) xs := row_new encC 3 (fun _ => rfl) w xs E
theorem row_newR (w : World) (xs : List (Int × (Int × Int) × Int × Int)) (E : TypeId) : Row encR 5 (w.alloc (.cells (xs.flatMap encR).toArray E)) (some ⟨w.heap.size, 0, Option.none⟩) xs := row_new encR 5 (fun _ => rfl) w xs E
theorem row_newI (w : World) (xs : List Int) (E : TypeId) : Row encI 1 (w.alloc (.cells (xs.flatMap encI).toArray E)) (some ⟨w.heap.size, 0, Option.none⟩) xs := row_new encI 1 (fun _ => rfl) w xs E
theorem madeCells_zero (k n : Nat) (hk : 0 < k) : madeCells (Array.replicate k (Value.int .i64 0)) (n * k) = (List.replicate (n * k) (Value.int .i64 0)).toArray := by
  apply Array.ext_getElem?
  intro j
  unfold madeCells
  by_cases hj : j < n * k
  · have hm : j % k < k := Nat.mod_lt _ hk
    simp [hj, hm]
  · simp [hj]
end Go.Proofs.YtopaapgbenpbaaaDoor
