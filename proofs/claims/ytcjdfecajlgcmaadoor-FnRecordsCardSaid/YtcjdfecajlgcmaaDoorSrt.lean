/-
  Sorting as a plain function, under a comparison that parts whatever two that are not one; the insertion of one element. No program in sight. Conditions: as each says.
-/
import Derived.Test.YtcjdfecajlgcmaaDoorOrd
import Derived.Shelf.SlSortCmp.Insertion
import Derived.Sort.LotA
namespace Go.Proofs.YtcjdfecajlgcmaaDoor
open Go.Sort
set_option linter.unusedVariables false

section
variable {α : Type} {cf : α → α → Int} {xs ys S : List α} {x : α} {k i : Nat}
/-- a comparison that is a strict weak order and parts whatever two that are not one -/
def Tot (cf : α → α → Int) : Prop := SWO (ltOf cf) ∧ ∀ x y, ltOf cf x y = false → ltOf cf y x = false → x = y
def srt (cf : α → α → Int) (xs : List α) : List α := xs.mergeSort fun x y => !(ltOf cf) y x
theorem srt_perm (cf : α → α → Int) (xs : List α) : (srt cf xs).Perm xs := List.mergeSort_perm _ _
theorem srt_len (cf : α → α → Int) (xs : List α) : (srt cf xs).length = xs.length := (srt_perm cf xs).length_eq
theorem srt_mem {cf : α → α → Int} {xs : List α} {x : α} : x ∈ srt cf xs ↔ x ∈ xs := (srt_perm cf xs).mem_iff
def Sorted (cf : α → α → Int) (xs : List α) : Prop := xs.Pairwise fun x y => ltOf cf y x = false
theorem srt_sorted (h : Tot cf) (xs : List α) : Sorted cf (srt cf xs) := by
  have := List.pairwise_mergeSort (le := fun x y => !(ltOf cf) y x) (fun a b c h1 h2 => by
    simp only [Bool.not_eq_true'] at *
    exact h.1.ntrans c b a h2 h1) (fun a b => by
    by_cases h1 : ltOf cf b a = true
    · rw [h.1.asymmA h1]; simp
    · simp at h1; simp [h1]) xs
  unfold Sorted srt
  exact this.imp fun h => by simpa using h
theorem srt_unique (h : Tot cf) (hp : ys.Perm xs) (hs : Sorted cf ys) : ys = srt cf xs :=
  List.Perm.eq_of_pairwise (fun a b _ _ h1 h2 => h.2 a b h2 h1) hs (srt_sorted h xs) (hp.trans (srt_perm cf xs).symm)
theorem srt_of_perm (h : Tot cf) (hp : ys.Perm xs) : srt cf ys = srt cf xs := srt_unique h ((srt_perm cf ys).trans hp) (srt_sorted h ys)
theorem srt_self (h : Tot cf) (hs : Sorted cf xs) : srt cf xs = xs := (srt_unique h (List.Perm.refl xs) hs).symm
/-- one element put in its place -/
theorem srt_insert (h : Tot cf) (hS : S = srt cf (xs.take i)) (hx : xs[i]? = some x) (hk : k ≤ S.length) (hd : ∀ y ∈ S.drop k, ltOf cf x y = true) (ht : ∀ y, 0 < k → S[k - 1]? = some y → ltOf cf x y = false) :
    S.take k ++ x :: S.drop k = srt cf (xs.take (i + 1)) := by
  subst hS
  refine srt_unique h ?_ ?_
  · refine List.perm_middle.trans ?_
    rw [List.take_append_drop]
    refine (List.Perm.cons x (srt_perm cf _)).trans ?_
    rw [List.take_add_one, hx]
    exact (List.perm_append_singleton x _).symm
  · have hs := srt_sorted h (xs.take i)
    unfold Sorted at *
    have hs2 := hs
    rw [← List.take_append_drop k (srt cf (xs.take i)), List.pairwise_append] at hs2
    obtain ⟨h1, h2, h3⟩ := hs2
    rw [List.pairwise_append]
    refine ⟨h1, ?_, fun a ha b hb => ?_⟩
    · rw [List.pairwise_cons]
      exact ⟨fun y hy => h.1.asymmA (hd y hy), h2⟩
    · rcases List.mem_cons.1 hb with rfl | hb
      · have hk0 : 0 < k := Nat.pos_of_ne_zero fun e => by subst e; simp at ha
        obtain ⟨y, hy⟩ : ∃ y, (srt cf (xs.take i))[k - 1]? = some y := ⟨_, List.getElem?_eq_getElem (by omega)⟩
        have hy2 := ht y hk0 hy
        have hlast : ltOf cf y a = false := by
          obtain ⟨j, hj⟩ := List.mem_iff_getElem?.1 ha
          rw [List.getElem?_take] at hj
          split at hj
          · rename_i hjk
            by_cases e : j = k - 1
            · subst e
              rw [hy] at hj
              cases hj
              exact h.1.irrefl _
            · obtain ⟨hj1, hj2⟩ := List.getElem?_eq_some_iff.1 hj
              obtain ⟨hy1, hy3⟩ := List.getElem?_eq_some_iff.1 hy
              have := List.pairwise_iff_getElem.1 hs j (k - 1) hj1 hy1 (by omega)
              rw [hj2, hy3] at this
              exact this
          · cases hj
        exact h.1.ntrans _ _ _ hy2 hlast
      · exact h3 a ha b hb
end

def stF (x y : Int × Int) : Int := stOrd x.1 x.2 y.1 y.2
def rcF (x y : Int × (Int × Int) × Int × Int) : Int := rcOrd x.1 x.2.1.1 x.2.1.2 x.2.2.1 x.2.2.2 y.1 y.2.1.1 y.2.1.2 y.2.2.1 y.2.2.2
theorem ord_neg {a b : Int} : ord a b < 0 ↔ a < b := by unfold ord; repeat' split <;> omega
theorem ord_null {a b : Int} : ord a b = 0 ↔ a = b := by unfold ord; repeat' split <;> omega
theorem stF_neg {x y : Int × Int} : stF x y < 0 ↔ x.1 < y.1 ∨ (x.1 = y.1 ∧ x.2 < y.2) := by
  unfold stF
  rw [stOrd_def]
  split
  · rw [ord_neg]; omega
  · rw [ord_neg]; omega
theorem tot_st : Tot stF := by
  have e : ∀ x y, ltOf stF x y = decide (x.1 < y.1 ∨ (x.1 = y.1 ∧ x.2 < y.2)) := fun x y => by unfold ltOf; rw [decide_eq_decide]; exact stF_neg
  refine ⟨⟨fun x => ?_, fun x y z h1 h2 => ?_, fun x y z h1 h2 => ?_⟩, fun x y h1 h2 => ?_⟩ <;> simp only [e, decide_eq_true_eq, decide_eq_false_iff_not] at *
  · omega
  · omega
  · omega
  · obtain ⟨a, b⟩ := x
    obtain ⟨c, d⟩ := y
    simp only at *
    have : a = c := by omega
    have : b = d := by omega
    simp [*]
theorem fnz_neg (x : Int) (l : List Int) : firstNZ (x :: l) < 0 ↔ x < 0 ∨ (x = 0 ∧ firstNZ l < 0) := by
  show (if x = 0 then firstNZ l else x) < 0 ↔ _
  split
  · rename_i h; omega
  · omega
theorem fnz_one (x : Int) : firstNZ [x] < 0 ↔ x < 0 := by
  rw [fnz_neg]
  simp [firstNZ]
theorem rcF_neg {x y : Int × (Int × Int) × Int × Int} : rcF x y < 0 ↔ x.2.1.1 < y.2.1.1 ∨ (x.2.1.1 = y.2.1.1 ∧ (x.2.1.2 < y.2.1.2 ∨ (x.2.1.2 = y.2.1.2 ∧ (x.1 < y.1 ∨ (x.1 = y.1 ∧ (x.2.2.1 < y.2.2.1 ∨ (x.2.2.1 = y.2.2.1 ∧ x.2.2.2 < y.2.2.2))))))) := by
  unfold rcF
  rw [rcOrd_def, fnz_neg, fnz_neg, fnz_neg, fnz_one]
  have h1 := @stF_neg (x.2.1.1, x.2.1.2) (y.2.1.1, y.2.1.2)
  unfold stF at h1
  simp only at h1
  rw [h1, ord_neg, ord_null, ord_neg, ord_null, ord_neg, stOrd_zero]
  omega
theorem tot_rc : Tot rcF := by
  have e : ∀ x y, ltOf rcF x y = decide (x.2.1.1 < y.2.1.1 ∨ (x.2.1.1 = y.2.1.1 ∧ (x.2.1.2 < y.2.1.2 ∨ (x.2.1.2 = y.2.1.2 ∧ (x.1 < y.1 ∨ (x.1 = y.1 ∧ (x.2.2.1 < y.2.2.1 ∨ (x.2.2.1 = y.2.2.1 ∧ x.2.2.2 < y.2.2.2)))))))) := fun x y => by unfold ltOf; rw [decide_eq_decide]; exact rcF_neg
  refine ⟨⟨fun x => ?_, fun x y z h1 h2 => ?_, fun x y z h1 h2 => ?_⟩, fun x y h1 h2 => ?_⟩ <;> simp only [e, decide_eq_true_eq, decide_eq_false_iff_not] at *
  · omega
  · omega
  · omega
  · obtain ⟨o, ⟨a, b⟩, k, v⟩ := x
    obtain ⟨o', ⟨a', b'⟩, k', v'⟩ := y
    simp only at *
    have : a = a' := by omega
    have : b = b' := by omega
    have : o = o' := by omega
    have : k = k' := by omega
    have : v = v' := by omega
    simp [*]
end Go.Proofs.YtcjdfecajlgcmaaDoor
