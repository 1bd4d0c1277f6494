/-
  Tables of counts in plain lists: what is counted is taken away again, and sums. No program in sight. Conditions: as each says.
-/
import Derived.Test.YtcjdfecajlgcmaaDoorAddP
import Derived.Test.YtcjdfecajlgcmaaDoorRead
import Derived.Test.YtcjdfecajlgcmaaDoorSrt
namespace Go.Proofs.YtcjdfecajlgcmaaDoor
open Go.RowKit
set_option linter.unusedVariables false

/-- one stamp is before another -/
def Bf (x y : Int × Int) : Prop := x.1 < y.1 ∨ (x.1 = y.1 ∧ x.2 < y.2)
theorem so_neg {a b c d : Int} : stOrd a b c d < 0 ↔ Bf (a, b) (c, d) := stF_neg (x := (a, b)) (y := (c, d))
theorem so_le {a b c d : Int} : stOrd a b c d ≤ 0 ↔ Bf (a, b) (c, d) ∨ (a = c ∧ b = d) := by
  rw [stOrd_def]
  unfold ord Bf
  simp only
  repeat' split
  all_goals omega
theorem Bf.trans {x y z : Int × Int} (h : Bf x y) (k : Bf y z) : Bf x z := by unfold Bf at *; omega
theorem Bf.irrefl {x y : Int × Int} (h : Bf x y) : ¬ Bf y x := by unfold Bf at *; omega
theorem Bf.ne {x y : Int × Int} (h : Bf x y) : ¬ (x.1 = y.1 ∧ x.2 = y.2) := by unfold Bf at *; omega
theorem Bf.ne' {x y : Int × Int} (h : Bf x y) : ¬ (y.1 = x.1 ∧ y.2 = x.2) := by unfold Bf at *; omega
theorem bf_cases (x y : Int × Int) : Bf x y ∨ x = y ∨ Bf y x := by
  obtain ⟨a, b⟩ := x
  obtain ⟨c, d⟩ := y
  unfold Bf
  simp only [Prod.mk.injEq]
  omega

abbrev Ct := (Int × Int) × Int
/-- a table as its parts: before s, s itself with this count, behind s -/
def put (P S : List Ct) (a b tot : Int) : List Ct := P ++ (if tot = 0 then [] else [((a, b), tot)]) ++ S
def PreB (P : List Ct) (a b : Int) : Prop := ∀ x ∈ P, Bf x.1 (a, b)
def PostB (S : List Ct) (a b : Int) : Prop := ∀ x ∈ S, Bf (a, b) x.1

theorem fold_pre {a b tot : Int} : ∀ (P acc : List Ct) (f : Bool), PreB P a b → P.foldl (adjStep a b tot) (acc, f) = (acc ++ P, f)
  | [], acc, f, _ => by simp
  | x :: P, acc, f, h => by
    have hx := h x (by simp)
    rw [List.foldl_cons]
    have hn : ¬ stOrd a b x.1.1 x.1.2 ≤ 0 := by
      rw [so_le]
      rintro (h1 | h1)
      · exact hx.irrefl h1
      · exact hx.ne' h1
    have e : adjStep a b tot (acc, f) x = (acc ++ [x], f) := by
      unfold adjStep
      rw [if_neg hx.ne, if_neg (fun k => hn k.2)]
    rw [e, fold_pre P _ f (fun y hy => h y (by simp [hy]))]
    simp
theorem fold_post_t {a b tot : Int} : ∀ (S acc : List Ct), PostB S a b → S.foldl (adjStep a b tot) (acc, true) = (acc ++ S, true)
  | [], acc, _ => by simp
  | x :: S, acc, h => by
    have hx := h x (by simp)
    rw [List.foldl_cons]
    have e : adjStep a b tot (acc, true) x = (acc ++ [x], true) := by
      unfold adjStep
      rw [if_neg hx.ne', if_neg (fun k => by simp at k)]
    rw [e, fold_post_t S _ (fun y hy => h y (by simp [hy]))]
    simp
/-- the fold over what stands behind, then the last append -/
theorem fold_post_f {a b tot : Int} (S acc : List Ct) (h : PostB S a b) : (if (S.foldl (adjStep a b tot) (acc, false)).2 = true then (S.foldl (adjStep a b tot) (acc, false)).1 else (S.foldl (adjStep a b tot) (acc, false)).1 ++ [((a, b), tot)]) = acc ++ [((a, b), tot)] ++ S := by
  cases S with
  | nil => simp
  | cons x S =>
    have hx := h x (by simp)
    rw [List.foldl_cons]
    have e : adjStep a b tot (acc, false) x = (acc ++ [((a, b), tot)] ++ [x], true) := by
      unfold adjStep
      rw [if_neg hx.ne', if_pos ⟨rfl, so_le.2 (.inl hx)⟩]
    rw [e, fold_post_t S _ (fun y hy => h y (by simp [hy]))]
    simp
/-- Adjust puts the new count where the old one stood -/
theorem adjOut_put {P S : List Ct} {a b c tot : Int} (hP : PreB P a b) (hS : PostB S a b) : adjOut (put P S a b c) a b tot = put P S a b tot := by
  have hs0 : stOrd a b a b ≤ 0 := so_le.2 (.inr ⟨rfl, rfl⟩)
  unfold adjOut adjRun put
  simp only [List.foldl_append, fold_pre P [] _ hP, List.nil_append]
  by_cases hc : c = 0
  · rw [if_pos hc, List.foldl_nil]
    by_cases ht : tot = 0
    · rw [decide_eq_true ht, fold_post_t S _ hS, if_pos ht]
      simp
    · rw [decide_eq_false ht, fold_post_f S _ hS, if_neg ht]
  · rw [if_neg hc, List.foldl_cons, List.foldl_nil]
    by_cases ht : tot = 0
    · have e : adjStep a b tot (P, decide (tot = 0)) ((a, b), c) = (P, true) := by
        unfold adjStep
        rw [if_pos ⟨rfl, rfl⟩, decide_eq_true ht, if_neg (fun k => by simp at k)]
      rw [e, fold_post_t S _ hS, if_pos ht]
      simp
    · have e : adjStep a b tot (P, decide (tot = 0)) ((a, b), c) = (P ++ [((a, b), tot)], true) := by
        unfold adjStep
        rw [if_pos ⟨rfl, rfl⟩, decide_eq_false ht, if_pos ⟨rfl, hs0⟩]
      rw [e, fold_post_t S _ hS, if_neg ht]
      simp
theorem find_put {P S : List Ct} {a b c : Int} (hP : PreB P a b) (hS : PostB S a b) : countAt (put P S a b c) a b = c := by
  have h1 : P.find? (atP a b) = Option.none := by
    rw [List.find?_eq_none]
    intro x hx
    unfold atP
    simpa using (hP x hx).ne
  have h2 : S.find? (atP a b) = Option.none := by
    rw [List.find?_eq_none]
    intro x hx
    unfold atP
    simpa using (hS x hx).ne'
  unfold countAt put
  by_cases hc : c = 0
  · rw [if_pos hc]
    simp only [List.append_nil, List.find?_append, h1, h2, Option.none_or]
    exact hc.symm
  · rw [if_neg hc]
    have h3 : atP a b ((a, b), c) = true := by unfold atP; simp
    simp only [List.find?_append, h1, Option.none_or, List.find?_cons, h3, Option.some_or]
/-- in order: each stamp before the next ones -/
def Ord (t : List Ct) : Prop := t.Pairwise fun x y => Bf x.1 y.1
theorem cts_iff {t : List Ct} : ctsOk t = true ↔ (∀ x ∈ t, ctOk1 x = true) ∧ Ord t := by
  constructor
  · intro h
    refine ⟨fun x hx => ct_mem h hx, ?_⟩
    have hadj : ∀ k (hk : k + 1 < t.length), Bf (t[k]'(by omega)).1 (t[k + 1]).1 := by
      intro k hk
      unfold ctsOk at h
      rw [List.all_eq_true] at h
      have := h (k + 1) (by rw [List.mem_range]; exact hk)
      unfold ctAt at this
      rw [List.getElem?_eq_getElem hk] at this
      simp only [Bool.and_eq_true] at this
      have h2 := this.2
      rw [ct_aft (List.getElem?_eq_getElem (by omega : k < t.length)) rfl, decide_eq_true_eq] at h2
      exact so_neg.1 h2
    unfold Ord
    rw [List.pairwise_iff_getElem]
    intro i j hi hj hij
    induction j with
    | zero => omega
    | succ j ih =>
      by_cases e : i = j
      · subst e
        exact hadj i hj
      · exact (ih (by omega) (by omega)).trans (hadj j hj)
  · rintro ⟨h1, h2⟩
    unfold ctsOk
    rw [List.all_eq_true]
    intro k hk
    rw [List.mem_range] at hk
    unfold ctAt
    rw [List.getElem?_eq_getElem hk]
    simp only [Bool.and_eq_true]
    refine ⟨h1 _ (List.getElem_mem hk), ?_⟩
    cases k with
    | zero => rfl
    | succ k =>
      rw [ct_aft (List.getElem?_eq_getElem (by omega : k < t.length)) rfl, decide_eq_true_eq]
      unfold Ord at h2
      rw [List.pairwise_iff_getElem] at h2
      exact so_neg.2 (h2 k (k + 1) (by omega) hk (by omega))
/-- a table in order has its parts -/
theorem parts_of : ∀ {t : List Ct} (a b : Int), (∀ x ∈ t, ctOk1 x = true) → Ord t → ∃ P S c, t = put P S a b c ∧ PreB P a b ∧ PostB S a b
  | [], a, b, _, _ => ⟨[], [], 0, rfl, (fun _ h => by cases h), (fun _ h => by cases h)⟩
  | x :: t, a, b, h1, h2 => by
    unfold Ord at h2
    rw [List.pairwise_cons] at h2
    rcases bf_cases x.1 (a, b) with h | h | h
    · obtain ⟨P, S, c, e, hP, hS⟩ := parts_of a b (fun y hy => h1 y (by simp [hy])) h2.2
      refine ⟨x :: P, S, c, ?_, ?_, hS⟩
      · rw [e]; rfl
      · intro y hy
        rcases List.mem_cons.1 hy with rfl | hy
        · exact h
        · exact hP y hy
    · refine ⟨[], t, x.2, ?_, (fun _ h => by cases h), fun y hy => h ▸ h2.1 y hy⟩
      have hx := h1 x (by simp)
      unfold ctOk1 at hx
      simp only [Bool.and_eq_true, Bool.not_eq_true', decide_eq_false_iff_not] at hx
      unfold put
      rw [if_neg hx.2, ← h]
      rfl
    · refine ⟨[], x :: t, 0, rfl, (fun _ h => by cases h), ?_⟩
      intro y hy
      rcases List.mem_cons.1 hy with rfl | hy
      · exact h
      · exact h.trans (h2.1 y hy)
theorem put_cts {P S : List Ct} {a b c tot : Int} (hP : PreB P a b) (hS : PostB S a b) (hs : stOk a b = true) (ht : -1000000 ≤ tot ∧ tot ≤ 1000000) (h : ctsOk (put P S a b c) = true) : ctsOk (put P S a b tot) = true := by
  obtain ⟨h1, h2⟩ := cts_iff.1 h
  refine cts_iff.2 ⟨fun x hx => ?_, ?_⟩
  · unfold put at hx h1
    simp only [List.mem_append] at hx
    rcases hx with (hx | hx) | hx
    · exact h1 x (by simp [hx])
    · split at hx
      · cases hx
      · rename_i h0
        simp at hx
        subst hx
        unfold ctOk1
        simp [hs, ht, h0]
    · exact h1 x (by simp [hx])
  · unfold Ord put at *
    simp only [List.pairwise_append] at h2 ⊢
    obtain ⟨⟨q1, q2, q3⟩, q4, q5⟩ := h2
    refine ⟨⟨q1, ?_, ?_⟩, q4, ?_⟩
    · split <;> simp
    · intro x hx y hy
      split at hy
      · cases hy
      · simp at hy
        subst hy
        exact hP x hx
    · intro x hx y hy
      rcases List.mem_append.1 hx with hx | hx
      · exact (hP x hx).trans (hS y hy)
      · split at hx
        · cases hx
        · simp at hx
          subst hx
          exact hS y hy
theorem go_iff {t : List Ct} {a b n : Int} : adjGo t a b n = true ↔ ctsOk t = true ∧ stOk a b = true ∧ (-2000000 ≤ n ∧ n ≤ 2000000) ∧ (-1000000 ≤ countAt t a b + n ∧ countAt t a b + n ≤ 1000000) := by
  unfold adjGo
  simp only [Bool.and_eq_true, decide_eq_true_eq, and_assoc]
/-- what was counted is taken away again -/
theorem adjust_back {t R : List Ct} {a b n : Int} (h : adjust t a b n = (R, true)) : countAt R a b = countAt t a b + n ∧ adjust R a b (-n) = (t, true) ∧ (-2000000 ≤ n ∧ n ≤ 2000000) ∧ (-1000000 ≤ countAt t a b + n ∧ countAt t a b + n ≤ 1000000) := by
  unfold adjust at h
  split at h
  · rename_i hgo
    obtain ⟨g1, g2, g3, g4⟩ := go_iff.1 hgo
    have hr := countAt_rng g1 a b
    obtain ⟨c1, c2⟩ := cts_iff.1 g1
    obtain ⟨P, S, c, rfl, hP, hS⟩ := parts_of a b c1 c2
    rw [find_put hP hS] at *
    simp only [Prod.mk.injEq, and_true] at h
    rw [adjOut_put hP hS] at h
    subst h
    refine ⟨find_put hP hS, ?_, g3, g4⟩
    have hgo2 : adjGo (put P S a b (c + n)) a b (-n) = true := by
      refine go_iff.2 ⟨put_cts hP hS g2 g4 g1, g2, by omega, ?_⟩
      rw [find_put hP hS]
      omega
    unfold adjust
    rw [if_pos hgo2, find_put hP hS, adjOut_put hP hS, show c + n + -n = c by omega]
  · simp at h
theorem adjust_same {t R : List Ct} {a b n : Int} (h : adjust t a b n = (R, false)) : R = t := by
  unfold adjust at h
  split at h
  · simp at h
  · simp at h
    exact h.symm

/-! sums -/
def sumN (xs : List Ct) : Int := xs.foldr (fun x s => x.2 + s) 0
theorem sum_app (xs ys : List Ct) : sumN (xs ++ ys) = sumN xs + sumN ys := by
  unfold sumN
  induction xs with
  | nil => simp
  | cons x xs ih => simp only [List.cons_append, List.foldr_cons, ih]; omega
theorem wrap_add (a b : Int) : wrap64 (wrap64 a + b) = wrap64 (a + b) := by unfold wrap64; omega
theorem wrap_add2 (a b : Int) : wrap64 (wrap64 a + wrap64 b) = wrap64 (a + b) := by unfold wrap64; omega
theorem total_from : ∀ (xs : List Ct) (s : Int), xs.foldl (fun s x => wrap64 (s + x.2)) (wrap64 s) = wrap64 (s + sumN xs)
  | [], s => by simp [sumN]
  | x :: xs, s => by
    rw [List.foldl_cons, wrap_add, total_from xs (s + x.2)]
    simp only [sumN, List.foldr_cons]
    congr 1
    omega
theorem total_sum (xs : List Ct) : total xs = wrap64 (sumN xs) := by
  have h := total_from xs 0
  have e : wrap64 0 = 0 := by unfold wrap64; omega
  rw [e] at h
  unfold total
  rw [h]
  congr 1
  omega
theorem sum_put (P S : List Ct) (a b tot : Int) : sumN (put P S a b tot) = sumN P + tot + sumN S := by
  unfold put
  rw [sum_app, sum_app]
  split
  · rename_i h; simp [sumN, h]
  · simp [sumN]
theorem sum_adjust {t R : List Ct} {a b n : Int} (h : adjust t a b n = (R, true)) : sumN R = sumN t + n := by
  unfold adjust at h
  split at h
  · rename_i hgo
    obtain ⟨g1, g2, g3, g4⟩ := go_iff.1 hgo
    obtain ⟨c1, c2⟩ := cts_iff.1 g1
    obtain ⟨P, S, c, rfl, hP, hS⟩ := parts_of a b c1 c2
    rw [find_put hP hS] at *
    simp only [Prod.mk.injEq, and_true] at h
    rw [adjOut_put hP hS] at h
    subst h
    rw [sum_put, sum_put]
    omega
  · simp at h
theorem total_adjust {t R : List Ct} {a b n : Int} (h : adjust t a b n = (R, true)) : wrap64 (total t + n) = total R := by
  rw [total_sum, total_sum, sum_adjust h, wrap_add]
theorem sum_run : ∀ (ys xs r : List Ct), addRun xs ys = some r → sumN r = sumN xs + sumN ys
  | [], xs, r, h => by
    simp [addRun] at h
    subst h
    simp [sumN]
  | y :: ys, xs, r, h => by
    unfold addRun at h
    rw [List.foldl_cons] at h
    by_cases hK : (adjust xs y.1.1 y.1.2 y.2).2 = true
    · have e : addStep (some xs) y = some (adjust xs y.1.1 y.1.2 y.2).1 := by simp [addStep, hK]
      rw [e] at h
      have h1 := sum_run ys (adjust xs y.1.1 y.1.2 y.2).1 r h
      have h2 := sum_adjust (t := xs) (R := (adjust xs y.1.1 y.1.2 y.2).1) (a := y.1.1) (b := y.1.2) (n := y.2) (by rw [← hK])
      rw [h1, h2]
      simp only [sumN, List.foldr_cons]
      omega
    · have e : addStep (some xs) y = Option.none := by simp [addStep, hK]
      rw [e, addStep_none] at h
      cases h
theorem total_addCounts {xs ys R : List Ct} (h : addCounts xs ys = (R, true)) : wrap64 (total xs + total ys) = total R := by
  unfold addCounts at h
  split at h
  · rename_i hgo
    unfold addGo at hgo
    simp only [Bool.and_eq_true] at hgo
    obtain ⟨r, hr⟩ := Option.isSome_iff_exists.1 hgo.2
    rw [hr] at h
    simp at h
    subst h
    rw [total_sum, total_sum, total_sum, wrap_add2, sum_run ys xs r hr]
  · simp at h
theorem adjust_one : adjust [] 1 0 5 = ([((1, 0), 5)], true) := by decide +kernel
theorem count_one : countAt [((1, 0), 5)] 1 0 = 5 := by decide +kernel
end Go.Proofs.YtcjdfecajlgcmaaDoor
