/-
  Records counted by stamp, in plain lists: over the sorted records one behind the other, and one by one with Adjust. No program in sight. Conditions: as each says.
-/
import Derived.Test.YtcjdfecajlgcmaaDoorCntQ
namespace Go.Proofs.YtcjdfecajlgcmaaDoor
open Go.RowKit Go.Sort
set_option linter.unusedVariables false
abbrev Rc := Int × (Int × Int) × Int × Int
def stepS (t : List Ct) (r : Rc) : List Ct := (adjust t r.2.1.1 r.2.1.2 1).1
def cntS (xs : List Rc) : List Ct := xs.foldl stepS []
def stepI (t : List Ct) (r : Rc) : List Ct :=
  if stOk r.2.1.1 r.2.1.2 = true then (match t.getLast? with
    | some x => if x.1.1 = r.2.1.1 ∧ x.1.2 = r.2.1.2 then t.dropLast ++ [(r.2.1, x.2 + 1)] else t ++ [(r.2.1, 1)]
    | Option.none => t ++ [(r.2.1, 1)]) else t
def cntI (xs : List Rc) : List Ct := xs.foldl stepI []
def at2 (a b : Int) (r : Rc) : Bool := decide (r.2.1.1 = a ∧ r.2.1.2 = b)
theorem cntS_snoc (xs : List Rc) (r : Rc) : cntS (xs ++ [r]) = stepS (cntS xs) r := by unfold cntS; rw [List.foldl_append]; rfl
theorem cntI_snoc (xs : List Rc) (r : Rc) : cntI (xs ++ [r]) = stepI (cntI xs) r := by unfold cntI; rw [List.foldl_append]; rfl
theorem count_put_ne {P S : List Ct} {a b c d a' b' : Int} (h : ¬ (a = a' ∧ b = b')) : countAt (put P S a b c) a' b' = countAt (put P S a b d) a' b' := by
  have hm : ∀ tot : Int, (if tot = 0 then [] else [((a, b), tot)] : List Ct).find? (atP a' b') = Option.none := by
    intro tot
    split
    · rfl
    · rw [List.find?_eq_none]
      intro x hx
      simp at hx
      subst hx
      unfold atP
      simpa using h
  unfold countAt put
  simp only [List.find?_append, hm, Option.or_none]
theorem snoc_ind {p : List Rc → Prop} (h0 : p []) (h1 : ∀ xs r, p xs → p (xs ++ [r])) : ∀ (n : Nat) (xs : List Rc), xs.length = n → p xs
  | 0, xs, h => by rw [List.eq_nil_of_length_eq_zero h]; exact h0
  | n + 1, xs, h => by
    rcases List.eq_nil_or_concat xs with rfl | ⟨ys, r, rfl⟩
    · exact h0
    · rw [List.concat_eq_append] at *
      exact h1 ys r (snoc_ind h0 h1 n ys (by simpa using h))
/-- the count of a stamp -/
theorem cntS_inv (xs : List Rc) : xs.length ≤ 1000000 → ctsOk (cntS xs) = true ∧ ∀ a b, countAt (cntS xs) a b = if stOk a b = true then ((xs.countP (at2 a b) : Nat) : Int) else 0 := by
  refine snoc_ind (p := fun xs => xs.length ≤ 1000000 → ctsOk (cntS xs) = true ∧ ∀ a b, countAt (cntS xs) a b = if stOk a b = true then ((xs.countP (at2 a b) : Nat) : Int) else 0) ?_ ?_ xs.length xs rfl
  · intro _
    exact ⟨rfl, fun a b => by simp [cntS, countAt]⟩
  · intro xs r ih hl
    rw [List.length_append, List.length_singleton] at hl
    obtain ⟨h1, h2⟩ := ih (by omega)
    rw [cntS_snoc]
    unfold stepS
    obtain ⟨o, ⟨a, b⟩, k, e⟩ := r
    simp only
    have hc : List.countP (at2 a b) xs ≤ xs.length := List.countP_le_length
    cases hs : stOk a b
    · have hgo : adjGo (cntS xs) a b 1 = false := by
        cases hg : adjGo (cntS xs) a b 1
        · rfl
        · have := (go_iff.1 hg).2.1; rw [hs] at this; cases this
      unfold adjust
      rw [if_neg (by rw [hgo]; simp)]
      refine ⟨h1, fun a' b' => ?_⟩
      rw [h2, List.countP_append, List.countP_singleton]
      split
      · rename_i hs'
        have hne : at2 a' b' (o, (a, b), k, e) = false := by
          unfold at2
          simp only [decide_eq_false_iff_not]
          rintro ⟨rfl, rfl⟩
          rw [hs] at hs'
          cases hs'
        rw [hne]
        simp
      · rfl
    · have hct := h2 a b
      rw [if_pos hs] at hct
      obtain ⟨c1, c2⟩ := cts_iff.1 h1
      obtain ⟨P, S, c, e1, hP, hS⟩ := parts_of a b c1 c2
      rw [e1] at h1 h2 hct ⊢
      rw [find_put hP hS] at hct
      have hgo : adjGo (put P S a b c) a b 1 = true := by
        refine go_iff.2 ⟨h1, hs, by omega, ?_⟩
        rw [find_put hP hS, hct]
        omega
      unfold adjust
      rw [if_pos hgo]
      simp only
      rw [find_put hP hS, adjOut_put hP hS]
      refine ⟨put_cts hP hS hs (by rw [hct]; omega) h1, fun a' b' => ?_⟩
      rw [List.countP_append, List.countP_singleton]
      by_cases he : a = a' ∧ b = b'
      · obtain ⟨rfl, rfl⟩ := he
        rw [find_put hP hS, if_pos hs, hct]
        have : at2 a b (o, (a, b), k, e) = true := by unfold at2; simp
        rw [this]
        simp
      · rw [count_put_ne (d := c) he, h2]
        have : at2 a' b' (o, (a, b), k, e) = false := by
          unfold at2
          simpa using he
        rw [this]
        simp
/-- a table in order is told by its counts -/
theorem cts_uniq : ∀ (t u : List Ct), (∀ x ∈ t, ctOk1 x = true) → Ord t → (∀ x ∈ u, ctOk1 x = true) → Ord u → (∀ a b, countAt t a b = countAt u a b) → t = u
  | [], [], _, _, _, _, _ => rfl
  | [], y :: u, _, _, h3, _, h => by
    have hy := h3 y (by simp)
    have := h y.1.1 y.1.2
    unfold countAt at this
    have ha : atP y.1.1 y.1.2 y = true := by unfold atP; simp
    simp only [List.find?_nil, List.find?_cons, ha] at this
    unfold ctOk1 at hy
    simp only [Bool.and_eq_true, Bool.not_eq_true', decide_eq_false_iff_not] at hy
    exact absurd this.symm hy.2
  | x :: t, [], h1, _, _, _, h => by
    have hx := h1 x (by simp)
    have := h x.1.1 x.1.2
    unfold countAt at this
    have ha : atP x.1.1 x.1.2 x = true := by unfold atP; simp
    simp only [List.find?_nil, List.find?_cons, ha] at this
    unfold ctOk1 at hx
    simp only [Bool.and_eq_true, Bool.not_eq_true', decide_eq_false_iff_not] at hx
    exact absurd this hx.2
  | x :: t, y :: u, h1, h2, h3, h4, h => by
    have hx := h1 x (by simp)
    have hy := h3 y (by simp)
    unfold ctOk1 at hx hy
    simp only [Bool.and_eq_true, Bool.not_eq_true', decide_eq_false_iff_not] at hx hy
    unfold Ord at h2 h4
    rw [List.pairwise_cons] at h2 h4
    have hax : atP x.1.1 x.1.2 x = true := by unfold atP; simp
    have hay : atP y.1.1 y.1.2 y = true := by unfold atP; simp
    have key : ∀ (z : Int × Int) (l : List Ct), (∀ q ∈ l, Bf z q.1) → l.find? (atP z.1 z.2) = Option.none := by
      intro z l hl
      rw [List.find?_eq_none]
      intro q hq
      unfold atP
      simpa using (hl q hq).ne'
    rcases bf_cases x.1 y.1 with hb | hb | hb
    · exfalso
      have := h x.1.1 x.1.2
      unfold countAt at this
      rw [key x.1 (y :: u) (fun q hq => by rcases List.mem_cons.1 hq with rfl | hq; exact hb; exact hb.trans (h4.1 q hq))] at this
      simp only [List.find?_cons, hax] at this
      exact hx.2 this
    · have hxy : x = y := by
        have := h x.1.1 x.1.2
        unfold countAt at this
        rw [hb] at this hax
        simp only [List.find?_cons, hax, hay] at this
        exact Prod.ext hb this
      subst hxy
      congr 1
      refine cts_uniq t u (fun q hq => h1 q (by simp [hq])) h2.2 (fun q hq => h3 q (by simp [hq])) h4.2 (fun a b => ?_)
      by_cases e : x.1.1 = a ∧ x.1.2 = b
      · obtain ⟨rfl, rfl⟩ := e
        unfold countAt
        rw [key x.1 t h2.1, key x.1 u h4.1]
      · have := h a b
        have hn : atP a b x = false := by unfold atP; simpa using e
        unfold countAt at this ⊢
        simpa only [List.find?_cons, hn] using this
    · exfalso
      have := h y.1.1 y.1.2
      unfold countAt at this
      rw [key y.1 (x :: t) (fun q hq => by rcases List.mem_cons.1 hq with rfl | hq; exact hb; exact hb.trans (h2.1 q hq))] at this
      simp only [List.find?_cons, hay] at this
      exact hy.2 this.symm
theorem cntS_perm {xs ys : List Rc} (hp : ys.Perm xs) (hl : xs.length ≤ 1000000) : cntS ys = cntS xs := by
  obtain ⟨h1, h2⟩ := cntS_inv xs hl
  obtain ⟨k1, k2⟩ := cntS_inv ys (by rw [hp.length_eq]; exact hl)
  obtain ⟨q1, q2⟩ := cts_iff.1 h1
  obtain ⟨q3, q4⟩ := cts_iff.1 k1
  exact cts_uniq _ _ q3 q4 q1 q2 fun a b => by rw [h2, k2, hp.countP_eq]
theorem mem_put {P S : List Ct} {a b tot : Int} {x : Ct} (h : x ∈ put P S a b tot) : x ∈ P ∨ x.1 = (a, b) ∨ x ∈ S := by
  unfold put at h
  rcases List.mem_append.1 h with h | h
  · rcases List.mem_append.1 h with h | h
    · exact .inl h
    · split at h
      · cases h
      · simp at h; subst h; exact .inr (.inl rfl)
  · exact .inr (.inr h)
/-- each stamp of the table is a record's -/
theorem cntS_mem (xs : List Rc) : xs.length ≤ 1000000 → ∀ x ∈ cntS xs, ∃ r ∈ xs, r.2.1 = x.1 := by
  refine snoc_ind (p := fun xs => xs.length ≤ 1000000 → ∀ x ∈ cntS xs, ∃ r ∈ xs, r.2.1 = x.1) ?_ ?_ xs.length xs rfl
  · intro _ x hx; cases hx
  · intro xs r ih hl x hx
    rw [List.length_append, List.length_singleton] at hl
    have ih := ih (by omega)
    obtain ⟨h1, h2⟩ := cntS_inv xs (by omega)
    rw [cntS_snoc] at hx
    unfold stepS adjust at hx
    split at hx
    · obtain ⟨c1, c2⟩ := cts_iff.1 h1
      obtain ⟨P, S, c, e1, hP, hS⟩ := parts_of r.2.1.1 r.2.1.2 c1 c2
      rw [e1] at hx ih
      simp only at hx
      rw [find_put hP hS, adjOut_put hP hS] at hx
      rcases mem_put hx with hx | hx | hx
      · obtain ⟨r0, hr0, e⟩ := ih x (by unfold put; simp [hx])
        exact ⟨r0, by simp [hr0], e⟩
      · exact ⟨r, by simp, hx.symm⟩
      · obtain ⟨r0, hr0, e⟩ := ih x (by unfold put; simp [hx])
        exact ⟨r0, by simp [hr0], e⟩
    · obtain ⟨r0, hr0, e⟩ := ih x hx
      exact ⟨r0, by simp [hr0], e⟩
/-- one more record that is not before what is there: put at the end -/
theorem step_eq {t : List Ct} {r : Rc} (h1 : ctsOk t = true) (hc : stOk r.2.1.1 r.2.1.2 = true → 0 ≤ countAt t r.2.1.1 r.2.1.2 ∧ countAt t r.2.1.1 r.2.1.2 + 1 ≤ 1000000) (hle : ∀ x ∈ t, ¬ Bf r.2.1 x.1) : stepI t r = stepS t r := by
  obtain ⟨o, ⟨a, b⟩, k, e⟩ := r
  simp only at hc hle
  unfold stepI stepS
  simp only
  cases hs : stOk a b
  · have hgo : adjGo t a b 1 = false := by
      cases hg : adjGo t a b 1
      · rfl
      · have := (go_iff.1 hg).2.1; rw [hs] at this; cases this
    unfold adjust
    rw [if_neg (by simp), if_neg (by rw [hgo]; simp)]
  · obtain ⟨hc0, hc1⟩ := hc hs
    have hgo : adjGo t a b 1 = true := go_iff.2 ⟨h1, hs, by omega, by omega⟩
    unfold adjust
    rw [if_pos hgo, if_pos rfl]
    simp only
    obtain ⟨c1, c2⟩ := cts_iff.1 h1
    rcases List.eq_nil_or_concat t with rfl | ⟨t0, l, rfl⟩
    · rfl
    · rw [List.concat_eq_append] at *
      rw [List.getLast?_append]
      simp only [List.getLast?_singleton, Option.some_or, List.dropLast_concat]
      have hO := c2
      unfold Ord at hO
      rw [List.pairwise_append] at hO
      have hPre : ∀ x ∈ t0, Bf x.1 l.1 := fun x hx => hO.2.2 x hx l (by simp)
      have hl := c1 l (by simp)
      unfold ctOk1 at hl
      simp only [Bool.and_eq_true, Bool.not_eq_true', decide_eq_false_iff_not] at hl
      by_cases hla : l.1.1 = a ∧ l.1.2 = b
      · rw [if_pos hla]
        have hl1 : l.1 = (a, b) := Prod.ext hla.1 hla.2
        have hP : PreB t0 a b := fun x hx => hl1 ▸ hPre x hx
        have hS : PostB [] a b := fun _ h => by cases h
        have et : t0 ++ [l] = put t0 [] a b l.2 := by
          unfold put
          rw [if_neg hl.2, ← hl1]
          simp
        rw [et] at hc0 ⊢
        rw [find_put hP hS] at hc0 ⊢
        rw [adjOut_put hP hS]
        unfold put
        rw [if_neg (by omega)]
        simp
      · rw [if_neg hla]
        have hbl : Bf l.1 (a, b) := by
          rcases bf_cases l.1 (a, b) with h | h | h
          · exact h
          · exact absurd ⟨congrArg Prod.fst h, congrArg Prod.snd h⟩ hla
          · exact absurd h (hle l (by simp))
        have hP : PreB (t0 ++ [l]) a b := fun x hx => by
          rcases List.mem_append.1 hx with hx | hx
          · exact (hPre x hx).trans hbl
          · simp at hx; subst hx; exact hbl
        have hS : PostB [] a b := fun _ h => by cases h
        have et : t0 ++ [l] = put (t0 ++ [l]) [] a b 0 := by unfold put; simp
        have e0 : countAt (t0 ++ [l]) a b = 0 := by
          have := find_put (c := 0) hP hS
          rwa [← et] at this
        rw [e0]
        have := adjOut_put (c := 0) (tot := 0 + 1) hP hS
        rw [← et] at this
        rw [this]
        unfold put
        simp
theorem bf_rc {r r0 : Rc} (h : Bf r.2.1 r0.2.1) : rcF r r0 < 0 := by
  rw [rcF_neg]
  unfold Bf at h
  omega
theorem cnt_take {ys : List Rc} (hs : Sorted rcF ys) (hl : ys.length ≤ 1000000) : ∀ k, k ≤ ys.length → cntI (ys.take k) = cntS (ys.take k)
  | 0, _ => rfl
  | k + 1, hk => by
    have hkl : k < ys.length := by omega
    have ih := cnt_take hs hl k (by omega)
    rw [List.take_add_one, List.getElem?_eq_getElem hkl]
    simp only [Option.toList_some]
    rw [cntI_snoc, cntS_snoc, ih]
    have hlt : (ys.take k).length ≤ 1000000 := by rw [List.length_take]; omega
    obtain ⟨h1, h2⟩ := cntS_inv (ys.take k) hlt
    refine step_eq h1 (fun hok => ?_) (fun x hx hb => ?_)
    · rw [h2, if_pos hok]
      have hc : List.countP (at2 (ys[k]).2.1.1 (ys[k]).2.1.2) (ys.take k) ≤ (ys.take k).length := List.countP_le_length
      rw [List.length_take] at hc
      omega
    · obtain ⟨r0, hr0, e⟩ := cntS_mem _ hlt x hx
      rw [← e] at hb
      obtain ⟨j, hj, ej⟩ := List.mem_take_iff_getElem.1 hr0
      unfold Sorted at hs
      rw [List.pairwise_iff_getElem] at hs
      have := hs j k (by omega) hkl (by omega)
      rw [ej] at this
      unfold ltOf at this
      simp only [decide_eq_false_iff_not] at this
      exact this (bf_rc hb)
/-- the two ways of counting agree -/
theorem cor_eq {xs : List Rc} (hl : xs.length ≤ 1000000) : cntI (srt rcF xs) = cntS xs := by
  have h := cnt_take (srt_sorted tot_rc xs) (by rw [srt_len]; exact hl) (srt rcF xs).length (Nat.le_refl _)
  rw [List.take_length] at h
  rw [h]
  exact cntS_perm (srt_perm rcF xs) hl
end Go.Proofs.YtcjdfecajlgcmaaDoor
