/-
  SortRecords of the reference (an insertion sort in place) gives the sorted list. Conditions: the length is at most 2^40.
-/
import Derived.Test.YtcjdfecajlgcmaaDoorSrt
import Derived.Test.YtcjdfecajlgcmaaDoorLaw
import Derived.Test.YtcjdfecajlgcmaaDoorAnchor
import Derived.Test.YtcjdfecajlgcmaaDoorBlk
import Derived.IntWalk
namespace Go.Proofs.YtcjdfecajlgcmaaDoor
open Go.RowKit
set_option linter.unusedVariables false

section
variable {α : Type} {enc : α → List Value} {k lo j : Nat} {w w' : World} {ys : List α} {b off : Nat} {z : α}
/-- one element of a made slice is written -/
theorem own_write (hk : ∀ x, (enc x).length = k) (h : Own enc k lo w (some ⟨b, off, Option.none⟩) ys) (hj : j < ys.length)
    (h1 : ∀ i v, (enc z)[i]? = some v → w'.cell? ⟨b, off + j * k + i, Option.none⟩ = some v)
    (h2 : ∀ o, o < off + j * k ∨ off + j * k + k ≤ o → w'.cell? ⟨b, o, Option.none⟩ = w.cell? ⟨b, o, Option.none⟩)
    (h3 : ∀ o, w'.frozen? ⟨b, o, Option.none⟩ = w.frozen? ⟨b, o, Option.none⟩) : Own enc k lo w' (some ⟨b, off, Option.none⟩) (ys.set j z) := by
  have hl : 0 < ys.length := by omega
  obtain ⟨b', off', e, hc⟩ := h.1 hl
  cases e
  obtain ⟨hlo, hw⟩ := h.2 hl b off rfl
  refine ⟨fun _ => ⟨b, off, rfl, fun i x hx q v hv => ?_⟩, fun _ b' off' e => ?_⟩
  · rw [List.getElem?_set] at hx
    have hq : q < k := by have := (List.getElem?_eq_some_iff.1 hv).1; rwa [hk] at this
    by_cases e : j = i
    · subst e
      rw [if_pos rfl, if_pos hj] at hx
      cases hx
      exact h1 q v hv
    · rw [if_neg e] at hx
      rw [h2 _ ?_]
      · exact hc i x hx q v hv
      · rcases Nat.lt_or_gt_of_ne e with hlt | hlt
        · right
          have : (j + 1) * k ≤ i * k := Nat.mul_le_mul_right k hlt
          rw [Nat.add_mul, Nat.one_mul] at this
          omega
        · left
          have : (i + 1) * k ≤ j * k := Nat.mul_le_mul_right k hlt
          rw [Nat.add_mul, Nat.one_mul] at this
          omega
  · cases e
    refine ⟨hlo, fun q hq => ?_⟩
    rw [List.length_set] at hq
    obtain ⟨hs, hf⟩ := hw q hq
    rw [h3]
    refine ⟨?_, hf⟩
    by_cases e : off + q < off + j * k ∨ off + j * k + k ≤ off + q
    · rw [h2 _ e]; exact hs
    · obtain ⟨v, hv⟩ : ∃ v, (enc z)[q - j * k]? = some v := ⟨_, List.getElem?_eq_getElem (by rw [hk]; omega)⟩
      have := h1 _ v hv
      rw [show off + j * k + (q - j * k) = off + q by omega] at this
      rw [this]; rfl
end
theorem grown_one {w W : World} {r : Nat} (h : w.grownBy W (some r)) (i : Nat) (v : Value) : w.grownBy (W.setCell ⟨r, i, Option.none⟩ v) (some r) :=
  ⟨h.os, h.tape, h.output, by simpa [World.setCell] using h.size, fun j hj hne => (Below.heap_setCell _ _ _ _ (fun e => hne (by rw [e]))).trans (h.block j hj hne)⟩
theorem cell_set_ne {w : World} {b o p : Nat} {v : Value} (h : o ≠ p) : (w.setCell ⟨b, o, Option.none⟩ v).cell? ⟨b, p, Option.none⟩ = w.cell? ⟨b, p, Option.none⟩ :=
  World.cell?_setCell_other w _ _ _ fun e => h (by have := congrArg Addr.off e; exact this)
theorem cell_set_eq {w : World} {b o : Nat} {v : Value} (h : (w.cell? ⟨b, o, Option.none⟩).isSome = true) : (w.setCell ⟨b, o, Option.none⟩ v).cell? ⟨b, o, Option.none⟩ = some v := by
  obtain ⟨u, hu⟩ := Option.isSome_iff_exists.1 h
  exact World.cell?_setCell_same w _ _ hu
/-- a record written into a made slice -/
def put5 (w : World) (b o : Nat) (z : Int × (Int × Int) × Int × Int) : World := ((((w.setCell ⟨b, o, Option.none⟩ (.int .i64 z.1)).setCell ⟨b, o + 1, Option.none⟩ (.int .i64 z.2.1.1)).setCell ⟨b, o + 2, Option.none⟩ (.int .i64 z.2.1.2)).setCell ⟨b, o + 3, Option.none⟩ (.int .i64 z.2.2.1)).setCell ⟨b, o + 4, Option.none⟩ (.int .i64 z.2.2.2)
theorem own_put5 {lo j : Nat} {w : World} {ys : List (Int × (Int × Int) × Int × Int)} {b off : Nat} (z : Int × (Int × Int) × Int × Int) (h : Own encR 5 lo w (some ⟨b, off, Option.none⟩) ys) (hj : j < ys.length) : Own encR 5 lo (put5 w b (off + j * 5) z) (some ⟨b, off, Option.none⟩) (ys.set j z) := by
  have hs : ∀ q, q < 5 → (w.cell? ⟨b, off + j * 5 + q, Option.none⟩).isSome = true := fun q hq => by
    have := ((h.2 (by omega) b off rfl).2 (j * 5 + q) (by omega)).1
    rwa [← Nat.add_assoc] at this
  have s0 := hs 0 (by omega)
  have s1 := hs 1 (by omega)
  have s2 := hs 2 (by omega)
  have s3 := hs 3 (by omega)
  have s4 := hs 4 (by omega)
  refine own_write lenR h hj (fun i v hv => ?_) (fun o ho => ?_) (fun o => ?_)
  · unfold put5
    match i, hv with
    | 0, hv =>
      simp [encR] at hv; subst hv
      simp only [Nat.add_zero] at s0 ⊢
      rw [cell_set_ne (by omega), cell_set_ne (by omega), cell_set_ne (by omega), cell_set_ne (by omega), cell_set_eq s0]
    | 1, hv =>
      simp [encR] at hv; subst hv
      rw [cell_set_ne (by omega), cell_set_ne (by omega), cell_set_ne (by omega), cell_set_eq (by rw [cell_set_ne (by omega)]; exact s1)]
    | 2, hv =>
      simp [encR] at hv; subst hv
      rw [cell_set_ne (by omega), cell_set_ne (by omega), cell_set_eq (by rw [cell_set_ne (by omega), cell_set_ne (by omega)]; exact s2)]
    | 3, hv =>
      simp [encR] at hv; subst hv
      rw [cell_set_ne (by omega), cell_set_eq (by rw [cell_set_ne (by omega), cell_set_ne (by omega), cell_set_ne (by omega)]; exact s3)]
    | 4, hv =>
      simp [encR] at hv; subst hv
      rw [cell_set_eq (by rw [cell_set_ne (by omega), cell_set_ne (by omega), cell_set_ne (by omega), cell_set_ne (by omega)]; exact s4)]
    | i + 5, hv => simp [encR] at hv
  · unfold put5
    rw [cell_set_ne (by omega), cell_set_ne (by omega), cell_set_ne (by omega), cell_set_ne (by omega), cell_set_ne (by omega)]
  · unfold put5
    simp only [World.frozen?_setCell]
theorem grown_put5 (w : World) (b o : Nat) (z : Int × (Int × Int) × Int × Int) : w.grownBy (put5 w b o z) (some b) := by
  unfold put5
  exact grown_one (grown_one (grown_one (grown_one (grown_one (World.grownBy.refl _ _) _ _) _ _) _ _) _ _) _ _

/-- the list while one element is being put in its place: a hole at k -/
def insL {α : Type} (S R : List α) (k : Nat) (h : α) : List α := S.take k ++ h :: (S.drop k ++ R)
section
variable {α : Type} {S R : List α} {k : Nat} {h y : α}
theorem insL_len (hk : k ≤ S.length) : (insL S R k h).length = S.length + 1 + R.length := by simp [insL]; omega
theorem insL_set (hk : k ≤ S.length) (z : α) : (insL S R k h).set k z = insL S R k z := by
  unfold insL
  rw [List.set_append_right _ _ (by simp; omega)]
  simp [Nat.min_eq_left hk]
theorem insL_prev (hk : k + 1 ≤ S.length) (hy : S[k]? = some y) : (insL S R (k + 1) h)[k]? = some y := by
  unfold insL
  rw [List.getElem?_append_left (by simp; omega), List.getElem?_take, if_pos (by omega)]
  exact hy
theorem insL_down (hk : k + 1 ≤ S.length) (hy : S[k]? = some y) : insL S R (k + 1) y = insL S R k y := by
  unfold insL
  have h1 : S.take (k + 1) = S.take k ++ [y] := by rw [List.take_add_one, hy]; rfl
  have h2 : S.drop k = y :: S.drop (k + 1) := by
    obtain ⟨hlt, e⟩ := List.getElem?_eq_some_iff.1 hy
    rw [List.drop_eq_getElem_cons hlt, e]
  rw [h1, h2]
  simp
theorem insL_fin (x : α) : insL S R k x = (S.take k ++ x :: S.drop k) ++ R := by simp [insL]
theorem insL_top (x : α) : insL S R S.length x = S ++ x :: R := by simp [insL]
end
theorem srt_round {xs : List (Int × (Int × Int) × Int × Int)} {i : Nat} {x : Int × (Int × Int) × Int × Int} (hx : xs[i]? = some x) : srt rcF (xs.take i) ++ xs.drop i = insL (srt rcF (xs.take i)) (xs.drop (i + 1)) i x := by
  obtain ⟨hlt, e⟩ := List.getElem?_eq_some_iff.1 hx
  have h1 : (srt rcF (xs.take i)).length = i := by rw [srt_len, List.length_take]; omega
  rw [List.drop_eq_getElem_cons hlt, e]
  have := insL_top (S := srt rcF (xs.take i)) (R := xs.drop (i + 1)) x
  rw [h1] at this
  exact this.symm
theorem srt_one {xs : List (Int × (Int × Int) × Int × Int)} : xs = srt rcF (xs.take 1) ++ xs.drop 1 := by
  match xs with
  | [] => rw [show srt rcF (([] : List (Int × (Int × Int) × Int × Int)).take 1) = [] from List.eq_nil_of_length_eq_zero (srt_len _ _)]; rfl
  | x :: l =>
    have : srt rcF ((x :: l).take 1) = [x] := srt_self tot_rc (by simp [Sorted])
    rw [this]
    rfl
theorem own_ins {w : World} {lo b off o k i : Nat} {xs S R : List (Int × (Int × Int) × Int × Int)} {h : Int × (Int × Int) × Int × Int} {x0 x1 x2 x3 x4 : Int} (hO : Own encR 5 lo w (some ⟨b, off, Option.none⟩) (insL S R k h)) (hk : k ≤ S.length) (hF : S.take k ++ (x0, (x1, x2), x3, x4) :: S.drop k = srt rcF (xs.take (i + 1))) (hR : xs.drop (i + 1) = R) (ho : off + k * 5 = o) :
    Own encR 5 lo (((((w.setCell ⟨b, o, Option.none⟩ (.int .i64 x0)).setCell ⟨b, o + 1, Option.none⟩ (.int .i64 x1)).setCell ⟨b, o + 2, Option.none⟩ (.int .i64 x2)).setCell ⟨b, o + 3, Option.none⟩ (.int .i64 x3)).setCell ⟨b, o + 4, Option.none⟩ (.int .i64 x4)) (some ⟨b, off, Option.none⟩) (srt rcF (xs.take (i + 1)) ++ xs.drop (i + 1)) := by
  subst ho
  have h1 := own_put5 (x0, (x1, x2), x3, x4) hO (j := k) (by rw [insL_len hk]; omega)
  rw [insL_set hk, insL_fin, hF, ← hR] at h1
  exact h1
theorem own_down {w : World} {lo b off o k : Nat} {S R : List (Int × (Int × Int) × Int × Int)} {h : Int × (Int × Int) × Int × Int} {x0 x1 x2 x3 x4 : Int} (hO : Own encR 5 lo w (some ⟨b, off, Option.none⟩) (insL S R (k + 1) h)) (hk : k + 1 ≤ S.length) (hy : S[k]? = some (x0, (x1, x2), x3, x4)) (ho : off + (k + 1) * 5 = o) :
    Own encR 5 lo (((((w.setCell ⟨b, o, Option.none⟩ (.int .i64 x0)).setCell ⟨b, o + 1, Option.none⟩ (.int .i64 x1)).setCell ⟨b, o + 2, Option.none⟩ (.int .i64 x2)).setCell ⟨b, o + 3, Option.none⟩ (.int .i64 x3)).setCell ⟨b, o + 4, Option.none⟩ (.int .i64 x4)) (some ⟨b, off, Option.none⟩) (insL S R k (x0, (x1, x2), x3, x4)) := by
  subst ho
  have h1 := own_put5 (x0, (x1, x2), x3, x4) hO (j := k + 1) (by rw [insL_len hk]; omega)
  rw [insL_set hk, insL_down hk hy] at h1
  exact h1
theorem below_put5 {B : Nat} {a w : World} {b o : Nat} {x0 x1 x2 x3 x4 : Int} (h : Below B a w) (hb : B ≤ b) : Below B a (((((w.setCell ⟨b, o, Option.none⟩ (.int .i64 x0)).setCell ⟨b, o + 1, Option.none⟩ (.int .i64 x1)).setCell ⟨b, o + 2, Option.none⟩ (.int .i64 x2)).setCell ⟨b, o + 3, Option.none⟩ (.int .i64 x3)).setCell ⟨b, o + 4, Option.none⟩ (.int .i64 x4)) :=
  ((((h.setCell hb _).setCell hb _).setCell hb _).setCell hb _).setCell hb _
theorem below_lat3 {B : Nat} {a W : World} (h : Below B a W) (hB : B ≤ W.heap.size) (p : Later) : Below B a (later W p) := h.trans ((below_later W p).mono hB)
theorem blk_put5 {g : Nat} {vs : List Value} {t : TypeId} {w : World} {b o : Nat} {x0 x1 x2 x3 x4 : Int} (h : Blk g vs t w) (hb : g ≠ b) : Blk g vs t (((((w.setCell ⟨b, o, Option.none⟩ (.int .i64 x0)).setCell ⟨b, o + 1, Option.none⟩ (.int .i64 x1)).setCell ⟨b, o + 2, Option.none⟩ (.int .i64 x2)).setCell ⟨b, o + 3, Option.none⟩ (.int .i64 x3)).setCell ⟨b, o + 4, Option.none⟩ (.int .i64 x4)) :=
  ((((h.other hb _).other hb _).other hb _).other hb _).other hb _
theorem srt_all {xs : List (Int × (Int × Int) × Int × Int)} {i n : Nat} (hn : xs.length = n) (hi : n ≤ i) : srt rcF (xs.take i) ++ xs.drop i = srt rcF xs := by
  rw [List.take_of_length_le (by omega), List.drop_eq_nil_of_le (by omega), List.append_nil]

theorem s_recOrder (o a b k v o' a' b' k' v' z : Int) (w : World) (h : Hid (rcF (o, (a, b), k, v) (o', (a', b'), k', v') = z)) : Calls Tryd.prog 20 #[.agg #[.int .i64 o, .int .i64 a, .int .i64 b, .int .i64 k, .int .i64 v], .agg #[.int .i64 o', .int .i64 a', .int .i64 b', .int .i64 k', .int .i64 v']] w (Gives (.int .i64 z) w) := by
  rw [← h.out]; exact c_sRecordOrder o a b k v o' a' b' k' v' w
/-- the five places of an element of a made slice -/
theorem own_places {lo j : Nat} {w : World} {ys : List (Int × (Int × Int) × Int × Int)} {b off : Nat} (h : Own encR 5 lo w (some ⟨b, off, Option.none⟩) ys) (hj : j < ys.length) : ∀ q, q < 5 → (∃ v, w.cell? ⟨b, off + j * 5 + q, Option.none⟩ = some v) ∧ w.frozen? ⟨b, off + j * 5 + q, Option.none⟩ = false := fun q hq => by
  obtain ⟨h1, h2⟩ := (h.2 (by omega) b off rfl).2 (j * 5 + q) (by omega)
  rw [← Nat.add_assoc] at h1 h2
  exact ⟨Option.isSome_iff_exists.1 h1, h2⟩
set_option maxHeartbeats 6400000 in
theorem c_sSortRecords (A : Option Addr) (n c : Nat) (xs : List (Int × (Int × Int) × Int × Int)) (w : World) (hn : xs.length = n) (hn2 : n ≤ 1099511627776) (hr : Row encR 5 w A xs) : Calls Tryd.prog 8 #[.slice A n c] w (MadeOwn encR 5 id (srt rcF xs) w) := by
  have HR := Lib.hid hr
  have HN := Lib.hid hn
  clear hr hn
  obtain ⟨i0, hi, hz0, hz1, hz2⟩ := info_parts (show (Tryd.prog.info? 32).map (fun i => (i.zero, i.size, i.bytes)) = some (some (.agg #[.int .i64 0, .int .i64 0, .int .i64 0, .int .i64 0, .int .i64 0]), 5, 40) by kernel_rfl)
  have HI := Lib.hid hi
  have HZ := Lib.hid hz0
  have HS := Lib.hid hz1
  have HB := Lib.hid hz2
  clear hi hz0 hz1 hz2
  go_enter Tryd.func8, Tryd.ntmps8
  go_wp2_with (first | (at_builtin; refine wpList_append_row _ encR 5 lenR (by decide) oneR rfl (.tmp 7) (.tmp 8) 24 rfl w.heap.size 32 i0 _ 40 Tryd.underlying24 HI.out HZ.out HS.out HB.out rfl (.slice (some ⟨w.heap.size, 0, Option.none⟩) 0 0) 0 [] rfl (own_empty _ _ _ _ _ rfl (Nat.le_refl _)) _ _ _ xs rfl HN.out (HR.out.alloc _) (by unfold maxLen; omega) (by omega) (by simp) ?_; intro v w1 hown hg hbe; obtain ⟨A', c', rfl, hO, hle, hcm⟩ := own_of_ownsRow lenR hown (by have := HN.out; simp; omega); have HO1 := Lib.hid hO; have HB1 := Lib.hid (hbe w.heap.size w (by (repeat (first | with_reducible exact Below.refl _ _ | with_reducible assumption | with_reducible refine Below.drew ?_ | with_reducible refine below_drewN ?_ _ | with_reducible exact HQ.out | with_reducible exact HBW.out | with_reducible refine below_ext ?_ _ _ | with_reducible refine below_then_later ?_ (by first | with_reducible exact Nat.le_refl _ | with_reducible exact HBW.out.size | with_reducible exact HQ.out.size | omega | (simp; done) | (simp; omega) | (simp [later_size]; done) | (simp [later_size]; omega)) _ | with_reducible refine Below.setCell ?_ (by first | with_reducible exact Nat.le_refl _ | with_reducible exact HBW.out.size | with_reducible exact HQ.out.size | omega | (simp; done) | (simp; omega) | (simp [later_size]; done) | (simp [later_size]; omega)) _ | with_reducible refine Below.alloc ?_ (by first | with_reducible exact Nat.le_refl _ | with_reducible exact HBW.out.size | with_reducible exact HQ.out.size | omega | (simp; done) | (simp; omega) | (simp [later_size]; done) | (simp [later_size]; omega)) _))) (by simp) (Nat.le_refl _)); simp only [Nat.zero_add, List.nil_append] at *; have hle' := hle; clear hO hown hg hbe HR) | ((with_reducible refine wp_region_later (by kernel_rfl) (by kernel_rfl) ?_); (repeat (first | go_big_quiet_skip | quiet_step ((fail)))); refine wpQuiet_nil ?_; rintro _ ⟨p, rfl⟩))
  go_loopw [4] (fun ii wr => ∃ i : Nat, ii = .int .i64 i ∧ 1 ≤ i ∧ i ≤ n + 1 ∧ Hid (Own encR 5 w.heap.size wr A' (srt rcF (xs.take i) ++ xs.drop i)) ∧ Hid (Below w.heap.size w wr)) (fun ii _ => n - (intOf ii).toNat)
  case atStart => exact ⟨1, rfl, by omega, by omega, Lib.hid (by rw [← srt_one]; exact HO1.out), HB1⟩
  case round =>
    obtain ⟨i, rfl, hi1, hi2, HO, HBW⟩ := hrel
    clear HO1 HB1
    by_cases hlt : i < n
    · obtain ⟨x, hx⟩ : ∃ x, xs[i]? = some x := ⟨_, List.getElem?_eq_getElem (by rw [HN.out]; exact hlt)⟩
      have hSl : (srt rcF (xs.take i)).length = i := by rw [srt_len, List.length_take, HN.out]; omega
      have hRl : (xs.drop (i + 1)).length = n - (i + 1) := by rw [List.length_drop, HN.out]
      have HX := Lib.hid hx
      obtain ⟨S, hS⟩ : ∃ S, srt rcF (xs.take i) = S := ⟨_, rfl⟩
      obtain ⟨R, hR⟩ : ∃ R, xs.drop (i + 1) = R := ⟨_, rfl⟩
      have HOi := Lib.hid (show Own encR 5 w.heap.size wr A' (insL S R i x) by rw [← hS, ← hR, ← srt_round hx]; exact HO.out)
      have hxi : (insL S R i x)[i]? = some x := by
        rw [← hS, ← hR, ← srt_round hx, List.getElem?_append_right (by rw [hSl]; exact Nat.le_refl _), hSl, Nat.sub_self, List.getElem?_drop, Nat.add_zero]
        exact hx
      rw [hS] at hSl
      rw [hR] at hRl
      have HSE := Lib.hid hS
      have HRE := Lib.hid hR
      have HSL := Lib.hid hSl
      have HRL := Lib.hid hRl
      clear hx hS hR HO
      obtain ⟨b, off, rfl, hcx⟩ := HOi.out.row.at_ hxi
      have hc0 := hcx 0 _ rfl
      have hc1 := hcx 1 _ rfl
      have hc2 := hcx 2 _ rfl
      have hc3 := hcx 3 _ rfl
      have hc4 := hcx 4 _ rfl
      simp only [Nat.add_zero] at hc0
      have hblo : w.heap.size ≤ b := (HOi.out.2 (by rw [insL_len (by rw [HSL.out]; exact Nat.le_refl _)]; omega) _ _ rfl).1
      have hbl := World.block_lt_of_cell? _ _ hc0
      simp only at hbl
      have hble := Nat.le_of_lt hbl
      clear hcx hxi hSl hRl
      obtain ⟨x0, ⟨x1, x2⟩, x3, x4⟩ := x
      simp only at hc0 hc1 hc2 hc3 hc4
      go_wp2_with (first | ((with_reducible refine wp_region_later (by kernel_rfl) (by kernel_rfl) ?_); (repeat (first | go_big_quiet_skip | quiet_step ((fail)))); refine wpQuiet_nil ?_; rintro _ ⟨p, rfl⟩))
      obtain ⟨wo, hwo⟩ : ∃ wo : World, wo = wr := ⟨_, rfl⟩
      subst hwo
      clear hc0 hc1 hc2 hc3 hc4
      go_loopw [6] (fun kk w2 => ∃ (k : Nat) (h : Int × (Int × Int) × Int × Int), kk = .int .i64 k ∧ k ≤ i ∧ Hid (Own encR 5 w.heap.size w2 (some ⟨b, off, Option.none⟩) (insL S R k h)) ∧ Hid (∀ y ∈ S.drop k, ltOf rcF (x0, (x1, x2), x3, x4) y = true) ∧ Hid (Blk wo.heap.size [.int .i64 x0, .int .i64 x1, .int .i64 x2, .int .i64 x3, .int .i64 x4] 32 w2) ∧ Hid (Below w.heap.size w w2)) (fun kk _ => (intOf kk).toNat)
      case atStart => exact ⟨i, _, rfl, Nat.le_refl _, Lib.hid (HOi.out.alloc _), Lib.hid (by rw [List.drop_eq_nil_of_le (by rw [HSL.out]; exact Nat.le_refl _)]; simp), Lib.hid (Blk.new _ _ [.int .i64 x0, .int .i64 x1, .int .i64 x2, .int .i64 x3, .int .i64 x4] _ rfl), Lib.hid (by (repeat (first | with_reducible exact Below.refl _ _ | with_reducible assumption | with_reducible refine Below.drew ?_ | with_reducible refine below_drewN ?_ _ | with_reducible exact HQ.out | with_reducible exact HBW.out | with_reducible refine below_ext ?_ _ _ | with_reducible refine below_then_later ?_ (by first | with_reducible exact Nat.le_refl _ | with_reducible exact HBW.out.size | with_reducible exact HQ.out.size | omega | (simp; done) | (simp; omega) | (simp [later_size]; done) | (simp [later_size]; omega)) _ | with_reducible refine Below.setCell ?_ (by first | with_reducible exact Nat.le_refl _ | with_reducible exact HBW.out.size | with_reducible exact HQ.out.size | omega | (simp; done) | (simp; omega) | (simp [later_size]; done) | (simp [later_size]; omega)) _ | with_reducible refine Below.alloc ?_ (by first | with_reducible exact Nat.le_refl _ | with_reducible exact HBW.out.size | with_reducible exact HQ.out.size | omega | (simp; done) | (simp; omega) | (simp [later_size]; done) | (simp [later_size]; omega)) _)))⟩
      case round =>
        obtain ⟨k, h, rfl, hk, HO2, HD, HX2, HB2⟩ := hrel
        clear HOi HBW
        have hb2 := HX2.out.lt
        have hb3 := Nat.le_of_lt hb2
        have e0 := HX2.out.cell (i := 0) rfl
        have e1 := HX2.out.cell (i := 1) rfl
        have e2 := HX2.out.cell (i := 2) rfl
        have e3 := HX2.out.cell (i := 3) rfl
        have e4 := HX2.out.cell (i := 4) rfl
        rcases k with _ | k
        · have HF := Lib.hid (srt_insert (k := 0) tot_rc HSE.out.symm HX.out (Nat.zero_le _) HD.out (fun y h0 => absurd h0 (Nat.lt_irrefl 0)))
          obtain ⟨⟨p0, hp0⟩, fp0⟩ := own_places HO2.out (j := 0) (by have := HSL.out; rw [insL_len (by omega)]; omega) 0 (by decide)
          obtain ⟨⟨p1, hp1⟩, fp1⟩ := own_places HO2.out (j := 0) (by have := HSL.out; rw [insL_len (by omega)]; omega) 1 (by decide)
          obtain ⟨⟨p2, hp2⟩, fp2⟩ := own_places HO2.out (j := 0) (by have := HSL.out; rw [insL_len (by omega)]; omega) 2 (by decide)
          obtain ⟨⟨p3, hp3⟩, fp3⟩ := own_places HO2.out (j := 0) (by have := HSL.out; rw [insL_len (by omega)]; omega) 3 (by decide)
          obtain ⟨⟨p4, hp4⟩, fp4⟩ := own_places HO2.out (j := 0) (by have := HSL.out; rw [insL_len (by omega)]; omega) 4 (by decide)
          simp only [Nat.add_zero] at hp0 fp0
          have hpl := World.block_lt_of_cell? _ _ hp0
          simp only at hpl
          have hple := Nat.le_of_lt hpl
          go_wp2_with (first | ((with_reducible refine wp_region_later (by kernel_rfl) (by kernel_rfl) ?_); (repeat (first | go_big_quiet_skip | quiet_step ((fail)))); refine wpQuiet_nil ?_; rintro _ ⟨p, rfl⟩))
          all_goals
            refine ⟨⟨i + 1, by go_num, by omega, by omega, Lib.hid (by first | with_reducible exact own_ins HO2.out (by rw [HSL.out]; omega) HF.out HRE.out (by omega) | with_reducible exact (own_ins HO2.out (by rw [HSL.out]; omega) HF.out HRE.out (by omega)).later _), Lib.hid (by first | with_reducible exact below_put5 HB2.out hblo | with_reducible exact below_lat3 (below_put5 HB2.out hblo) (by simp only [World.setCell, Array.size_modify]; exact HB2.out.size) _)⟩, by simp [intOf]; omega⟩
        · obtain ⟨y, hy⟩ : ∃ y, S[k]? = some y := ⟨_, List.getElem?_eq_getElem (by rw [HSL.out]; omega)⟩
          have HY := Lib.hid hy
          have hyi := insL_prev (R := R) (h := h) (by rw [HSL.out]; omega) hy
          obtain ⟨b', off', eA, hcy⟩ := HO2.out.row.at_ hyi
          cases eA
          have hy0 := hcy 0 _ rfl
          have hy1 := hcy 1 _ rfl
          have hy2 := hcy 2 _ rfl
          have hy3 := hcy 3 _ rfl
          have hy4 := hcy 4 _ rfl
          simp only [Nat.add_zero] at hy0
          clear hcy hyi hy
          obtain ⟨y0, ⟨y1, y2⟩, y3, y4⟩ := y
          simp only at hy0 hy1 hy2 hy3 hy4
          obtain ⟨⟨p0, hp0⟩, fp0⟩ := own_places HO2.out (j := (k + 1)) (by have := HSL.out; rw [insL_len (by omega)]; omega) 0 (by decide)
          obtain ⟨⟨p1, hp1⟩, fp1⟩ := own_places HO2.out (j := (k + 1)) (by have := HSL.out; rw [insL_len (by omega)]; omega) 1 (by decide)
          obtain ⟨⟨p2, hp2⟩, fp2⟩ := own_places HO2.out (j := (k + 1)) (by have := HSL.out; rw [insL_len (by omega)]; omega) 2 (by decide)
          obtain ⟨⟨p3, hp3⟩, fp3⟩ := own_places HO2.out (j := (k + 1)) (by have := HSL.out; rw [insL_len (by omega)]; omega) 3 (by decide)
          obtain ⟨⟨p4, hp4⟩, fp4⟩ := own_places HO2.out (j := (k + 1)) (by have := HSL.out; rw [insL_len (by omega)]; omega) 4 (by decide)
          simp only [Nat.add_zero] at hp0 fp0
          have hpl := World.block_lt_of_cell? _ _ hp0
          simp only at hpl
          have hple := Nat.le_of_lt hpl
          have hk' : k < i := by omega
          obtain ⟨z, hz⟩ : ∃ z, rcF (x0, (x1, x2), x3, x4) (y0, (y1, y2), y3, y4) = z := ⟨_, rfl⟩
          have HZ' := Lib.hid hz
          have hg1 : decide ((0 : Int) < (k : Int) + 1) = true := decide_eq_true (by omega)
          have hg2 : ((k : Int) + 1 - 1) = (k : Int) := by omega
          have hkn : k < n := by omega
          have hg3 : IntKind.i64.wrap (k : Int) = (k : Int) := IntWalk.i64_in _ (by omega)
          by_cases hz0 : z < 0
          · have hzd : decide (z < 0) = true := decide_eq_true hz0
            have HD2 := Lib.hid (show ∀ y ∈ S.drop k, ltOf rcF (x0, (x1, x2), x3, x4) y = true from fun y hy => by
              obtain ⟨hlt2, e⟩ := List.getElem?_eq_some_iff.1 HY.out
              rw [List.drop_eq_getElem_cons hlt2, e] at hy
              rcases List.mem_cons.1 hy with rfl | hy
              · unfold ltOf; rw [HZ'.out]; exact hzd
              · exact HD.out y hy)
            clear hz
            go_wp2_with (first | (go_at_call 20; (refine (s_recOrder _ _ _ _ _ _ _ _ _ _ z _ HZ').mono ?_); rintro _ _ ⟨rfl, p, rfl⟩) | ((with_reducible refine wp_region_later (by kernel_rfl) (by kernel_rfl) ?_); (repeat (first | go_big_quiet_skip | quiet_step ((first | (go_at_call 20; first | exact calls_later (s_recOrder _ _ _ _ _ _ _ _ _ _ z _ HZ') | exact calls_later2 (s_recOrder _ _ _ _ _ _ _ _ _ _ z _ HZ')))))); refine wpQuiet_nil ?_; rintro _ ⟨p, rfl⟩))
            all_goals
              refine ⟨⟨k, _, rfl, by omega, Lib.hid (by first | with_reducible exact own_down HO2.out (by rw [HSL.out]; omega) HY.out (by omega) | with_reducible exact (own_down HO2.out (by rw [HSL.out]; omega) HY.out (by omega)).later _), HD2, Lib.hid (by first | with_reducible exact blk_put5 HX2.out (by omega) | with_reducible exact (blk_put5 HX2.out (by omega)).later _), Lib.hid (by first | with_reducible exact below_put5 HB2.out hblo | with_reducible exact below_lat3 (below_put5 HB2.out hblo) (by simp only [World.setCell, Array.size_modify]; exact HB2.out.size) _)⟩, by simp [intOf] <;> omega⟩
          · have hzd : decide (z < 0) = false := decide_eq_false hz0
            have HF := Lib.hid (srt_insert (k := k + 1) tot_rc HSE.out.symm HX.out (by rw [HSL.out]; omega) HD.out (fun y h0 hy => by
              simp only [Nat.add_sub_cancel] at hy
              rw [HY.out] at hy
              cases hy
              unfold ltOf; rw [HZ'.out]; exact hzd))
            clear hz
            go_wp2_with (first | (go_at_call 20; (refine (s_recOrder _ _ _ _ _ _ _ _ _ _ z _ HZ').mono ?_); rintro _ _ ⟨rfl, p, rfl⟩) | ((with_reducible refine wp_region_later (by kernel_rfl) (by kernel_rfl) ?_); (repeat (first | go_big_quiet_skip | quiet_step ((first | (go_at_call 20; first | exact calls_later (s_recOrder _ _ _ _ _ _ _ _ _ _ z _ HZ') | exact calls_later2 (s_recOrder _ _ _ _ _ _ _ _ _ _ z _ HZ')))))); refine wpQuiet_nil ?_; rintro _ ⟨p, rfl⟩))
            all_goals
              refine ⟨⟨i + 1, by go_num, by omega, by omega, Lib.hid (by first | with_reducible exact own_ins HO2.out (by rw [HSL.out]; omega) HF.out HRE.out (by omega) | with_reducible exact (own_ins HO2.out (by rw [HSL.out]; omega) HF.out HRE.out (by omega)).later _), Lib.hid (by first | with_reducible exact below_put5 HB2.out hblo | with_reducible exact below_lat3 (below_put5 HB2.out hblo) (by simp only [World.setCell, Array.size_modify]; exact HB2.out.size) _)⟩, by simp [intOf]; omega⟩
    · go_wp2_with (first | ((with_reducible refine wp_region_later (by kernel_rfl) (by kernel_rfl) ?_); (repeat (first | go_big_quiet_skip | quiet_step ((fail)))); refine wpQuiet_nil ?_; rintro _ ⟨p, rfl⟩))
      go_ret
      have e := srt_all (i := i) HN.out (by omega)
      have hO := HO.out
      rw [e] at hO
      exact ⟨_, n, _, rfl, by rw [srt_len]; exact HN.out, hle', hcm, hO, later_of_below HBW.out⟩
end Go.Proofs.YtcjdfecajlgcmaaDoor
