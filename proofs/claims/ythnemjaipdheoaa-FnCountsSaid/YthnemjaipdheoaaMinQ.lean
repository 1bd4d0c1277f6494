/-
  The least stamps of a list as a plain function: what is in it, and when two such lists are the same. No program in sight. Conditions: none.
-/
import Derived.Test.YthnemjaipdheoaaMinP
import Derived.Test.YthnemjaipdheoaaRead
namespace Go.Proofs.Ythnemjaipdheoaa
open Go.Sort
set_option linter.unusedVariables false

/-- a stamp of L that no other stamp of L is below -/
def Lst (L : List (Int × Int)) (s : Int × Int) : Prop := s ∈ L ∧ ∀ x ∈ L, leqB x.1 x.2 s.1 s.2 = true → x = s
theorem leqB_iff {a b c d : Int} : leqB a b c d = true ↔ a ≤ c ∧ b ≤ d := by unfold leqB; rw [decide_eq_true_eq]
theorem leq_trans {x y z : Int × Int} (h : leqB x.1 x.2 y.1 y.2 = true) (k : leqB y.1 y.2 z.1 z.2 = true) : leqB x.1 x.2 z.1 z.2 = true := by
  rw [leqB_iff] at *; omega
theorem leq_anti {x y : Int × Int} (h : leqB x.1 x.2 y.1 y.2 = true) (k : leqB y.1 y.2 x.1 x.2 = true) : x = y := by
  rw [leqB_iff] at *
  obtain ⟨a, b⟩ := x
  obtain ⟨c, d⟩ := y
  simp only [Prod.mk.injEq] at *
  omega
theorem below_iff {L : List (Int × Int)} {s : Int × Int} : L.any (belowP s.1 s.2) = false ↔ ∀ x ∈ L, leqB x.1 x.2 s.1 s.2 = true → x = s := by
  rw [List.any_eq_false]
  constructor
  · intro h x hx hl
    have := h x hx
    unfold belowP at this
    rw [hl] at this
    simp only [Bool.and_true, Bool.not_eq_true', decide_eq_false_iff_not, Decidable.not_not] at this
    exact Prod.ext this.1 this.2
  · intro h x hx
    unfold belowP
    cases hl : leqB x.1 x.2 s.1 s.2
    · simp
    · have := h x hx hl
      subst this
      simp
theorem mem_step {L O : List (Int × Int)} {s x : Int × Int} : x ∈ mnStep L O s ↔ x ∈ O ∨ (x = s ∧ L.any (belowP s.1 s.2) = false) := by
  unfold mnStep
  split
  · rename_i h; simp [h]
  · rename_i h
    have h' : L.any (belowP s.1 s.2) = false := by simpa using h
    split
    · rename_i hm
      constructor
      · exact .inl
      · rintro (h2 | ⟨rfl, -⟩)
        · exact h2
        · exact hm
    · simp [h']
theorem nodup_step {L O : List (Int × Int)} {s : Int × Int} (h : O.Nodup) : (mnStep L O s).Nodup := by
  unfold mnStep
  split
  · exact h
  · split
    · exact h
    · rename_i hm
      rw [List.nodup_append]
      refine ⟨h, by simp, ?_⟩
      intro a ha b hb e
      simp at hb
      subst e hb
      exact hm ha
theorem fold_mem (L : List (Int × Int)) : ∀ (xs O : List (Int × Int)) (x : Int × Int), x ∈ xs.foldl (mnStep L) O ↔ x ∈ O ∨ (x ∈ xs ∧ L.any (belowP x.1 x.2) = false)
  | [], O, x => by simp
  | s :: xs, O, x => by
    rw [List.foldl_cons, fold_mem L xs, mem_step]
    constructor
    · rintro ((h | ⟨rfl, h⟩) | ⟨h1, h2⟩)
      · exact .inl h
      · exact .inr ⟨by simp, h⟩
      · exact .inr ⟨by simp [h1], h2⟩
    · rintro (h | ⟨h1, h2⟩)
      · exact .inl (.inl h)
      · rcases List.mem_cons.1 h1 with rfl | h1
        · exact .inl (.inr ⟨rfl, h2⟩)
        · exact .inr ⟨h1, h2⟩
theorem fold_nodup (L : List (Int × Int)) : ∀ (xs O : List (Int × Int)), O.Nodup → (xs.foldl (mnStep L) O).Nodup
  | [], O, h => h
  | s :: xs, O, h => by
    rw [List.foldl_cons]
    exact fold_nodup L xs _ (nodup_step h)
theorem mem_minimal {L : List (Int × Int)} {x : Int × Int} : x ∈ minimal L ↔ Lst L x := by
  unfold minimal mn Lst
  rw [srt_mem, fold_mem, below_iff]
  simp
/-- the same least stamps: the same list -/
theorem minimal_eq {L K : List (Int × Int)} (h : ∀ x, Lst L x ↔ Lst K x) : minimal L = minimal K := by
  unfold minimal
  refine srt_of_perm tot_st ?_
  unfold mn
  rw [List.perm_ext_iff_of_nodup (fold_nodup L L [] List.nodup_nil) (fold_nodup K K [] List.nodup_nil)]
  intro x
  have := h x
  unfold Lst at this
  rw [fold_mem, fold_mem, below_iff, below_iff]
  simpa using this
/-- a list of stamps none of which is below another, in order: its own least stamps -/
theorem minimal_of_same {L K : List (Int × Int)} (h : ∀ x, Lst L x ↔ x ∈ minimal K) : minimal L = minimal K :=
  minimal_eq fun x => (h x).trans mem_minimal
/-- below each stamp of a list there is a least one -/
theorem least_below (L : List (Int × Int)) : ∀ (n : Nat) (s : Int × Int), s ∈ L → (L.filter (belowP s.1 s.2)).length ≤ n → ∃ x, Lst L x ∧ leqB x.1 x.2 s.1 s.2 = true := by
  intro n
  induction n with
  | zero =>
    intro s hs hn
    refine ⟨s, ⟨hs, ?_⟩, by rw [leqB_iff]; omega⟩
    rw [← below_iff, List.any_eq_false]
    intro x hx hb
    have : x ∈ L.filter (belowP s.1 s.2) := List.mem_filter.2 ⟨hx, hb⟩
    have := List.length_pos_of_mem this
    omega
  | succ n ih =>
    intro s hs hn
    cases hb : L.any (belowP s.1 s.2)
    · exact ⟨s, ⟨hs, below_iff.1 hb⟩, by rw [leqB_iff]; omega⟩
    · obtain ⟨y, hy, hyb⟩ := List.any_eq_true.1 hb
      have hlt : (L.filter (belowP y.1 y.2)).length < (L.filter (belowP s.1 s.2)).length := by
        have hsub : L.filter (belowP y.1 y.2) = (L.filter (belowP s.1 s.2)).filter (belowP y.1 y.2) := by
          rw [List.filter_filter]
          refine List.filter_congr fun z hz => ?_
          cases hz2 : belowP y.1 y.2 z
          · rfl
          · unfold belowP at hz2 hyb ⊢
            simp only [Bool.and_eq_true, Bool.not_eq_true', decide_eq_false_iff_not, leqB_iff] at *
            simp
            rw [leqB_iff]
            omega
        rw [hsub]
        refine List.length_filter_lt_length_iff_exists.2 ⟨y, List.mem_filter.2 ⟨hy, hyb⟩, ?_⟩
        unfold belowP
        simp
      obtain ⟨x, hx, hl⟩ := ih y hy (by omega)
      refine ⟨x, hx, leq_trans hl ?_⟩
      unfold belowP at hyb
      simp only [Bool.and_eq_true] at hyb
      exact hyb.2
theorem ex_least {L : List (Int × Int)} {s : Int × Int} (h : s ∈ L) : ∃ x ∈ minimal L, leqB x.1 x.2 s.1 s.2 = true := by
  obtain ⟨x, hx, hl⟩ := least_below L _ s h (Nat.le_refl _)
  exact ⟨x, mem_minimal.2 hx, hl⟩
theorem lst_swap {a b : List (Int × Int)} {x : Int × Int} : Lst (a ++ b) x ↔ Lst (b ++ a) x := by
  unfold Lst
  simp only [List.mem_append]
  constructor
  · rintro ⟨h, k⟩
    exact ⟨h.symm, fun y hy => k y hy.symm⟩
  · rintro ⟨h, k⟩
    exact ⟨h.symm, fun y hy => k y hy.symm⟩
/-- merged in any order -/
theorem merge_comm (a b : List (Int × Int)) : minimal (b ++ a) = minimal (a ++ b) := minimal_eq fun _ => lst_swap
/-- with something of what it was made of it is itself -/
theorem merge_part {L a : List (Int × Int)} (h : ∀ s ∈ a, s ∈ L) : minimal (minimal L ++ a) = minimal L := by
  refine minimal_of_same fun x => ?_
  constructor
  · rintro ⟨h1, h2⟩
    rcases List.mem_append.1 h1 with h1 | h1
    · exact h1
    · obtain ⟨y, hy, hl⟩ := ex_least (h x h1)
      have := h2 y (List.mem_append.2 (.inl hy)) hl
      subst this
      exact hy
  · intro hx
    refine ⟨List.mem_append.2 (.inl hx), fun y hy hl => ?_⟩
    refine (mem_minimal.1 hx).2 y ?_ hl
    rcases List.mem_append.1 hy with hy | hy
    · exact (mem_minimal.1 hy).1
    · exact h y hy
theorem merge_self (L : List (Int × Int)) : minimal (minimal L ++ minimal L) = minimal L := merge_part fun s hs => (mem_minimal.1 hs).1
theorem minimal_idem (L : List (Int × Int)) : minimal (minimal L) = minimal L := by
  have := merge_part (L := L) (a := []) (fun s hs => by cases hs)
  rwa [List.append_nil] at this
/-- ahead of the least stamps: ahead of all -/
theorem ahead_minimal (L : List (Int × Int)) (s : Int × Int) : ahead (minimal L) s = ahead L s := by
  unfold ahead
  rw [Bool.eq_iff_iff, List.any_eq_true, List.any_eq_true]
  constructor
  · rintro ⟨x, hx, hl⟩
    exact ⟨x, (mem_minimal.1 hx).1, hl⟩
  · rintro ⟨x, hx, hl⟩
    obtain ⟨y, hy, hyl⟩ := ex_least hx
    exact ⟨y, hy, leq_trans hyl hl⟩
theorem all_ahead {L a : List (Int × Int)} (h : ∀ s ∈ a, s ∈ L) : a.any (notAhead (minimal L)) = false := by
  rw [List.any_eq_false]
  intro s hs
  unfold notAhead
  rw [ahead_minimal]
  have : ahead L s = true := by
    unfold ahead
    rw [List.any_eq_true]
    exact ⟨s, h s hs, by unfold aheadP; rw [leqB_iff]; omega⟩
  rw [this]
  simp
theorem merged_one : minimal ([(1, 0)] ++ [(0, 1)]) = [(0, 1), (1, 0)] := by
  unfold minimal
  have h : mn ([(1, 0)] ++ [(0, 1)]) ([(1, 0)] ++ [(0, 1)]) = [((1 : Int), (0 : Int)), (0, 1)] := by decide +kernel
  rw [h]
  refine (srt_unique tot_st (List.Perm.swap _ _ _) ?_).symm
  unfold Sorted
  rw [List.pairwise_cons, List.pairwise_cons]
  refine ⟨fun y hy => ?_, (fun y hy => by cases hy), List.Pairwise.nil⟩
  simp at hy
  subst hy
  decide +kernel
end Go.Proofs.Ythnemjaipdheoaa
