/-
  The least stamps of a list as a plain function: what is kept, and its insertion in order. No program in sight. Conditions: as each says.
-/
import Derived.Test.YthnemjaipdheoaaSrt
import Derived.Test.YthnemjaipdheoaaBelowP
namespace Go.Proofs.Ythnemjaipdheoaa
open Go.Sort
set_option linter.unusedVariables false

def mnStep (L O : List (Int × Int)) (s : Int × Int) : List (Int × Int) := if L.any (belowP s.1 s.2) then O else if s ∈ O then O else O ++ [s]
def mn (L xs : List (Int × Int)) : List (Int × Int) := xs.foldl (mnStep L) []
def minimal (L : List (Int × Int)) : List (Int × Int) := srt stF (mn L L)
theorem mn_succ {L xs O : List (Int × Int)} {k : Nat} {s : Int × Int} (h : mn L (xs.take k) = O) (hx : xs[k]? = some s) : mn L (xs.take (k + 1)) = mnStep L O s := by
  rw [List.take_add_one, hx]
  unfold mn at *
  simp only [Option.toList_some, List.foldl_append, List.foldl_cons, List.foldl_nil, h]
theorem mn_zero (L xs : List (Int × Int)) : mn L (xs.take 0) = [] := rfl
theorem mnStep_len (L O : List (Int × Int)) (s : Int × Int) : (mnStep L O s).length ≤ O.length + 1 := by
  unfold mnStep
  split
  · omega
  · split
    · omega
    · simp
theorem mn_len (L : List (Int × Int)) : ∀ (xs O : List (Int × Int)), (xs.foldl (mnStep L) O).length ≤ O.length + xs.length
  | [], O => by simp
  | s :: xs, O => by
    have h1 := mn_len L xs (mnStep L O s)
    have h2 := mnStep_len L O s
    simp only [List.foldl_cons, List.length_cons]
    omega
theorem minimal_len (L : List (Int × Int)) : (minimal L).length ≤ L.length := by
  unfold minimal mn
  rw [srt_len]
  simpa using mn_len L L []
theorem mn_take_len (L xs : List (Int × Int)) (k : Nat) : (mn L (xs.take k)).length ≤ k := by
  have h := mn_len L (xs.take k) []
  have h2 : (xs.take k).length ≤ k := by rw [List.length_take]; omega
  unfold mn
  simp only [List.length_nil] at h
  omega
section
variable {O S : List (Int × Int)} {s : Int × Int} {at_ : Nat}
/-- the place of a stamp in a sorted list -/
def Place (S : List (Int × Int)) (s : Int × Int) (at_ : Nat) : Prop := (∀ y ∈ S.take at_, ltOf stF y s = true) ∧ ∀ y, S[at_]? = some y → ltOf stF y s = false
theorem place_found (hS : S = srt stF O) (h : S[at_]? = some s) : s ∈ O := by
  rw [← srt_mem (cf := stF), ← hS]
  exact List.mem_of_getElem? h
theorem place_absent (hS : S = srt stF O) (hp : Place S s at_) (h : S[at_]? ≠ some s) : s ∉ O := by
  rw [← srt_mem (cf := stF), ← hS]
  intro hm
  obtain ⟨j, hj⟩ := List.mem_iff_getElem?.1 hm
  by_cases hlt : j < at_
  · have := hp.1 s (List.mem_iff_getElem?.2 ⟨j, by rw [List.getElem?_take, if_pos hlt]; exact hj⟩)
    rw [tot_st.1.irrefl] at this
    cases this
  · have hjl := (List.getElem?_eq_some_iff.1 hj).1
    obtain ⟨y, hy⟩ : ∃ y, S[at_]? = some y := ⟨_, List.getElem?_eq_getElem (by omega)⟩
    have h1 := hp.2 y hy
    by_cases e : j = at_
    · subst e
      exact h hj
    · have hs := srt_sorted tot_st O
      rw [← hS] at hs
      obtain ⟨ha, hb⟩ := List.getElem?_eq_some_iff.1 hy
      obtain ⟨hc, hd⟩ := List.getElem?_eq_some_iff.1 hj
      have := List.pairwise_iff_getElem.1 hs at_ j ha hc (by omega)
      rw [hb, hd] at this
      have e2 := tot_st.2 y s h1 this
      subst e2
      exact h hy
theorem place_insert (hS : S = srt stF O) (hp : Place S s at_) : S.take at_ ++ s :: S.drop at_ = srt stF (O ++ [s]) := by
  have hs := srt_sorted tot_st O
  rw [← hS] at hs
  refine srt_unique tot_st ?_ ?_
  · refine List.perm_middle.trans ?_
    rw [List.take_append_drop, hS]
    exact (List.Perm.cons s (srt_perm stF O)).trans (List.perm_append_singleton s O).symm
  · have hs2 := hs
    unfold Sorted at *
    rw [← List.take_append_drop at_ S, List.pairwise_append] at hs2
    obtain ⟨h1, h2, h3⟩ := hs2
    rw [List.pairwise_append, List.pairwise_cons]
    refine ⟨h1, ⟨fun y hy => ?_, h2⟩, fun a ha b hb => ?_⟩
    · obtain ⟨j, hj⟩ := List.mem_iff_getElem?.1 hy
      rw [List.getElem?_drop] at hj
      obtain ⟨hc, hd⟩ := List.getElem?_eq_some_iff.1 hj
      obtain ⟨z, hz⟩ : ∃ z, S[at_]? = some z := ⟨_, List.getElem?_eq_getElem (by omega)⟩
      have hz2 := hp.2 z hz
      by_cases e : j = 0
      · subst e
        rw [Nat.add_zero] at hj
        rw [hj] at hz
        cases hz
        exact hz2
      · obtain ⟨ha, hb⟩ := List.getElem?_eq_some_iff.1 hz
        have := List.pairwise_iff_getElem.1 hs at_ (at_ + j) ha hc (by omega)
        rw [hb, hd] at this
        exact tot_st.1.ntrans _ _ _ this hz2
    · rcases List.mem_cons.1 hb with rfl | hb
      · exact tot_st.1.asymmA (hp.1 a ha)
      · exact h3 a ha b hb
theorem step_below {L : List (Int × Int)} (h : L.any (belowP s.1 s.2) = true) : mnStep L O s = O := by unfold mnStep; rw [if_pos h]
theorem step_in {L : List (Int × Int)} (hm : s ∈ O) : mnStep L O s = O := by unfold mnStep; rw [if_pos hm]; split <;> rfl
theorem step_new {L : List (Int × Int)} (h : L.any (belowP s.1 s.2) = false) (hm : s ∉ O) : mnStep L O s = O ++ [s] := by unfold mnStep; rw [if_neg (by rw [h]; simp), if_neg hm]
end
end Go.Proofs.Ythnemjaipdheoaa
