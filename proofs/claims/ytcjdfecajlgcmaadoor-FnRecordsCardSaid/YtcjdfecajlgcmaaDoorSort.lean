/-
  slices.SortFunc of the library at the program's structs, in the words of owned slices; the sorted list as a plain function. Conditions: fewer than 2^62 elements.
-/
import Derived.Test.YtcjdfecajlgcmaaDoorSrt
import Derived.Test.YtcjdfecajlgcmaaDoorOrdN
import Derived.Test.YtcjdfecajlgcmaaDoorLaw
import Derived.Test.YtcjdfecajlgcmaaDoorShelf
import Derived.Shelf.SlSortCmp.NoneTotal
namespace Go.Proofs.YtcjdfecajlgcmaaDoor
open Go.RowKit Go.Shelf Go.Sort
set_option linter.unusedVariables false

section
variable {α : Type} [Inhabited α] {enc : α → List Value} {k lo : Nat} {w w' : World} {xs ys : List α} {b off : Nat}
theorem arr_at (d : Array α) {j : Nat} (hj : j < d.size) : d.toList[j]? = some d[j]! := by
  rw [List.getElem?_eq_getElem (by simpa using hj)]
  simp [hj]
theorem holds_own (hk : ∀ x, (enc x).length = k) (h : Own enc k lo w (some ⟨b, off, Option.none⟩) xs) : HoldsK enc k w b off xs.toArray := by
  intro t ht
  rw [size_flatK] at ht
  rw [get_flatK _ _ _ _ ht]
  have k0 : 0 < k := Nat.pos_of_ne_zero fun e => by subst e; simp at ht
  have hl : 0 < xs.length := Nat.pos_of_ne_zero fun e => by simp [e] at ht
  obtain ⟨b', off', e, hc⟩ := h.1 hl
  cases e
  have hd : t / k < xs.length := by
    rw [Nat.div_lt_iff_lt_mul k0]
    simpa using ht
  have hx := arr_at xs.toArray (j := t / k) (by simpa using hd)
  have hm : t % k < k := Nat.mod_lt _ k0
  have hv : (enc xs.toArray[t / k]!)[t % k]? = some (enc xs.toArray[t / k]!)[t % k]! := by
    rw [List.getElem?_eq_getElem (by rw [hk]; exact hm)]
    simp [hk, hm]
  have h1 := hc (t / k) _ hx (t % k) _ hv
  have e1 : off + t / k * k + t % k = off + t := by rw [Nat.add_assoc, Nat.div_add_mod']
  rw [e1] at h1
  exact ⟨h1, ((h.2 hl _ _ rfl).2 t (by simpa using ht)).2⟩
theorem own_holds (hk : ∀ x, (enc x).length = k) (k0 : 0 < k) (hlo : lo ≤ b) (h : HoldsK enc k w b off xs.toArray) : Own enc k lo w (some ⟨b, off, Option.none⟩) xs := by
  refine ⟨fun hl => ⟨b, off, rfl, fun j x hx i v hv => ?_⟩, fun hl b' off' e => ?_⟩
  · have hj : j < xs.length := (List.getElem?_eq_some_iff.1 hx).1
    have hi : i < k := by have := (List.getElem?_eq_some_iff.1 hv).1; rwa [hk] at this
    have hlt : j * k + i < xs.length * k := by
      have : (j + 1) * k ≤ xs.length * k := Nat.mul_le_mul_right k hj
      rw [Nat.add_mul, Nat.one_mul] at this
      omega
    obtain ⟨h1, _⟩ := h (j * k + i) (by rw [size_flatK]; simpa using hlt)
    rw [get_flatK _ _ _ _ (by simpa using hlt)] at h1
    have e1 : (j * k + i) / k = j := by rw [Nat.mul_comm, Nat.mul_add_div k0, Nat.div_eq_of_lt hi, Nat.add_zero]
    have e2 : (j * k + i) % k = i := by rw [Nat.mul_comm, Nat.mul_add_mod, Nat.mod_eq_of_lt hi]
    rw [e1, e2, ← Nat.add_assoc] at h1
    rw [h1]
    have e3 : xs.toArray[j]! = x := by
      have := arr_at xs.toArray (j := j) (by simpa using hj)
      rw [hx] at this
      exact (Option.some.inj this).symm
    rw [e3]
    have e4 : (enc x)[i]! = v := by rw [getElem!_pos _ i (by rw [hk]; exact hi)]; exact (List.getElem?_eq_some_iff.1 hv).2
    rw [e4]; rfl
  · cases e
    refine ⟨hlo, fun j hj => ?_⟩
    obtain ⟨h1, h2⟩ := h j (by rw [size_flatK]; simpa using hj)
    exact ⟨by rw [h1]; rfl, h2⟩
/-- a world of the sort's: the slice holds the new list, nothing else has turned -/
theorem own_sortWorld (hk : ∀ x, (enc x).length = k) (k0 : 0 < k) (h : Own enc k lo w (some ⟨b, off, Option.none⟩) xs) (hl : ys.length = xs.length) (h0 : 0 < xs.length) (n : Nat) (os : Array Obj) :
    Own enc k lo (sortWorldK enc k w b off n ys.toArray os) (some ⟨b, off, Option.none⟩) ys ∧ w.grownBy (sortWorldK enc k w b off n ys.toArray os) (some b) := by
  have hH := holds_own hk h
  have hb : b < w.heap.size := h.1.block_lt hk k0 rfl (by unfold ob; rw [if_neg (by omega)]; rfl)
  have hsz : ∀ W : World, (putRowK enc k W b off ys.toArray).heap.size = W.heap.size := fun W => by
    unfold putRowK putRow mapBlock
    simp
  refine ⟨own_holds hk k0 ((h.2 h0 _ _ rfl).1) ?_, ?_⟩
  · unfold sortWorldK
    exact holdsK_grow enc k _ _ _ _ _ (by rw [hsz]; exact hb) (holdsK_putRowK enc k (Go.Sort.ahead w n) b off xs.toArray ys.toArray hH (by simp [hl]))
  · unfold sortWorldK
    refine ⟨rfl, rfl, rfl, ?_, fun i hi hne => ?_⟩
    · show w.heap.size ≤ (_ ++ os).size
      rw [Array.size_append]
      have := hsz (Go.Sort.ahead w n)
      have e : (Go.Sort.ahead w n).heap.size = w.heap.size := rfl
      omega
    · show ((putRowK enc k (Go.Sort.ahead w n) b off ys.toArray).heap ++ os)[i]? = _
      rw [Array.getElem?_append_left (by rw [hsz]; exact hi)]
      unfold putRowK putRow mapBlock
      have hbi : b ≠ i := fun e => hne (by rw [e])
      rw [Array.getElem?_modify, if_neg hbi]
      rfl
end
/-- a slice is sorted in its place: nothing else has turned -/
def SortedIn' {α : Type} (enc : α → List Value) (k lo : Nat) (A : Option Addr) (n : Nat) (ys : List α) (w : World) (e : Ending) (w' : World) : Prop := e = .returned (.tuple #[]) ∧ w.grownBy w' (ob A n) ∧ Own enc k lo w' A ys
instance : Inhabited (Int × Int) := ⟨(0, 0)⟩
theorem cmpR (blk off size : Nat) (w : World) : CmpLays Tryd.prog 10 #[] encR 5 rcF blk off size w := fun m os dk _ x y =>
  (n_iRecordOrder _ _ _ _ _ _ _ _ _ _ _).mono fun e w' ⟨he, os2, hp⟩ => ⟨he, 0, os2, hp⟩
theorem c_sortR {lo : Nat} (A : Option Addr) (n c : Nat) (xs : List (Int × (Int × Int) × Int × Int)) (w : World) (hn : xs.length = n) (hn2 : n ≤ 1099511627776) (h : Own encR 5 lo w A xs) :
    Calls Tryd.prog 29 #[.slice A n c, .func (.func 10) #[] #[]] w (SortedIn' encR 5 lo A n (srt rcF xs) w) := by
  by_cases h0 : n = 0
  · subst h0
    obtain rfl : xs = [] := List.eq_nil_of_length_eq_zero hn
    exact (AnyF.slices_SortFunc_none Tryd.sortR A c (.func (.func 10) #[] #[]) w).mono fun e w' ⟨he, hw⟩ => ⟨he, by subst hw; exact World.grownBy.refl _ _, by
      have : srt rcF ([] : List (Int × (Int × Int) × Int × Int)) = [] := List.eq_nil_of_length_eq_zero (srt_len _ _)
      rw [this]; exact Own.nil⟩
  · obtain ⟨b, off, rfl, _⟩ := h.1 (by omega)
    have hb : b < w.heap.size := h.1.block_lt lenR (by decide) hn (by unfold ob; rw [if_neg h0]; rfl)
    have hc := AnyQ.slices_SortFunc_total Tryd.sortR 5 Tryd.isAgg32 Tryd.sizeOf32 encR lenR oneR rcF tot_rc.1 10 #[] b off c xs.toArray w (enters_of Tryd.func10 (by kernel_rfl) rfl) (cmpR _ _ _ _) (holds_own lenR h) hb (by simp; omega) tot_rc.2
    have e1 : xs.toArray.size = n := by simpa using hn
    rw [e1] at hc
    refine Calls.mono hc fun e w' ⟨he, m, os, hw⟩ => ⟨he, ?_⟩
    have e2 : (xs.toArray.toList.mergeSort fun x y => !(ltOf rcF) y x) = srt rcF xs := rfl
    rw [e2] at hw
    subst hw
    obtain ⟨h1, h2⟩ := own_sortWorld lenR (by decide) h (srt_len rcF xs) (by omega) m os
    exact ⟨by rw [show ob (some ⟨b, off, Option.none⟩) n = some b by unfold ob; rw [if_neg h0]; rfl]; exact h2, h1⟩
end Go.Proofs.YtcjdfecajlgcmaaDoor
