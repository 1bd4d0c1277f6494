/-
  CountsOfRecords of both sides. Conditions: the length is at most 2^32.
-/
import Derived.Test.YtcjdfecajlgcmaaDoorCorP
import Derived.Test.YtcjdfecajlgcmaaDoorAdjR
import Derived.Test.YtcjdfecajlgcmaaDoorSrtI
import Derived.Test.YtcjdfecajlgcmaaDoorDrawR2
import Derived.Laws.OwnMore
namespace Go.Proofs.YtcjdfecajlgcmaaDoor
open Go.RowKit Go.Sort
set_option linter.unusedVariables false
theorem cntS_take {xs : List Rc} {acc : List Ct} {j : Nat} {x : Rc} (h : cntS (xs.take j) = acc) (hx : xs[j]? = some x) : cntS (xs.take (j + 1)) = stepS acc x := by
  rw [List.take_add_one, hx, Option.toList_some, cntS_snoc, h]
theorem cntI_take {xs : List Rc} {acc : List Ct} {j : Nat} {x : Rc} (h : cntI (xs.take j) = acc) (hx : xs[j]? = some x) : cntI (xs.take (j + 1)) = stepI acc x := by
  rw [List.take_add_one, hx, Option.toList_some, cntI_snoc, h]
theorem si_no {t : List Ct} {o a b k e : Int} (h : stOk a b = false) : stepI t (o, (a, b), k, e) = t := by unfold stepI; rw [if_neg (by rw [h]; simp)]
theorem si_nil {o a b k e : Int} (h : stOk a b = true) : stepI [] (o, (a, b), k, e) = [((a, b), 1)] := by unfold stepI; rw [if_pos h]; rfl
theorem si_eq {T : List Ct} {o a b k e N : Int} (h : stOk a b = true) : stepI (T ++ [((a, b), N)]) (o, (a, b), k, e) = T ++ [((a, b), N + 1)] := by
  unfold stepI
  rw [if_pos h, List.getLast?_append]
  simp
theorem si_ne {T : List Ct} {o a b a' b' k e N : Int} (h : stOk a b = true) (hn : ¬ (a' = a ∧ b' = b)) : stepI (T ++ [((a', b'), N)]) (o, (a, b), k, e) = (T ++ [((a', b'), N)]) ++ [((a, b), 1)] := by
  unfold stepI
  rw [if_pos h, List.getLast?_append]
  simp only [List.getLast?_singleton, Option.some_or]
  rw [if_neg hn]
theorem flat_last {T : List Ct} {a b N M : Int} {m : Nat} (h : T.length = m) : ((T ++ [((a, b), N)]).flatMap encC).set (m * 3 + 2) (.int .i64 M) = (T ++ [((a, b), M)]).flatMap encC := by
  have hl : (T.flatMap encC).length = m * 3 := by rw [flatMap_len encC 3 lenC, h]
  rw [List.flatMap_append, List.flatMap_append, List.set_append_right _ _ (by rw [hl]; omega), hl, show m * 3 + 2 - m * 3 = 2 by omega]
  rfl
theorem flat_get {T : List Ct} {x : Ct} {m i : Nat} {v : Value} (h : T.length = m) (hv : (encC x)[i]? = some v) : ((T ++ [x]).flatMap encC)[m * 3 + i]? = some v := by
  have hl : (T.flatMap encC).length = m * 3 := by rw [flatMap_len encC 3 lenC, h]
  rw [List.flatMap_append, List.getElem?_append_right (by omega), hl, show m * 3 + i - m * 3 = i by omega]
  simpa using hv
set_option maxRecDepth 20000 in
set_option maxHeartbeats 3200000 in
theorem c_sCountsOf (A : Option Addr) (n c : Nat) (xs : List (Int × (Int × Int) × Int × Int)) (w : World) (hn : xs.length = n) (hn2 : n ≤ 4294967296) (hr : Row encR 5 w A xs) : Calls Tryd.prog 25 #[.slice A n c] w (MadeOwn encC 3 id (cntS xs) w) := by
  have HA := Lib.hid hr
  have HN := Lib.hid hn
  clear hr hn
  go_enter Tryd.func25, Tryd.ntmps25
  go_wp2_with fail
  go_loopw [3, 4] (fun v ii wr => ∃ (j k : Nat) (acc : List Ct), ii = .int .i64 j ∧ j ≤ n ∧ acc.length = k ∧ k ≤ j ∧ cntS (xs.take j) = acc ∧ wr.ownsRow w.heap.size 62 3 v k (acc.flatMap encC) ∧ Below w.heap.size w wr) (fun _ ii _ => n - (intOf ii).toNat)
  case atStart => exact ⟨0, 0, [], rfl, by omega, rfl, by omega, rfl, own_empty _ _ _ _ _ (by first | rfl | (simp; done)) (by simp), (by (repeat (first | with_reducible exact Below.refl _ _ | with_reducible assumption | with_reducible refine Below.drew ?_ | with_reducible refine below_drewN ?_ _ | with_reducible exact HQ.out | with_reducible exact HBW.out | with_reducible refine below_ext ?_ _ _ | with_reducible refine below_then_later ?_ (by first | with_reducible exact Nat.le_refl _ | with_reducible exact HBW.out.size | with_reducible exact HQ.out.size | omega | (simp; done) | (simp; omega) | (simp [later_size]; done) | (simp [later_size]; omega)) _ | with_reducible refine Below.setCell ?_ (by first | with_reducible exact Nat.le_refl _ | with_reducible exact HBW.out.size | with_reducible exact HQ.out.size | omega | (simp; done) | (simp; omega) | (simp [later_size]; done) | (simp [later_size]; omega)) _ | with_reducible refine Below.alloc ?_ (by first | with_reducible exact Nat.le_refl _ | with_reducible exact HBW.out.size | with_reducible exact HQ.out.size | omega | (simp; done) | (simp; omega) | (simp [later_size]; done) | (simp [later_size]; omega)) _)))⟩
  case round =>
    obtain ⟨j, k, acc, rfl, hj, hL, hkj, hT, hW, hB⟩ := hrel
    obtain ⟨A1, c1, hv, ho, -, -⟩ := own_of_ownsRow lenC hW hL
    subst hv
    have HO := Lib.hid ho.row
    have HL := Lib.hid hL
    have HT := Lib.hid hT
    have HW := Lib.hid hW
    have HBW := Lib.hid hB
    have hsz := hB.size
    clear ho hL hT hB hW
    by_cases hlt : j < n
    · obtain ⟨x, hx⟩ : ∃ x, xs[j]? = some x := ⟨_, List.getElem?_eq_getElem (by rw [HN.out]; exact hlt)⟩
      have HX := Lib.hid hx
      obtain ⟨b, off, rfl, cx⟩ := (HA.out.below HBW.out).at_ hx
      obtain ⟨o, ⟨a, b'⟩, kk, e⟩ := x
      have x1 := cx 1 _ rfl
      have x2 := cx 2 _ rfl
      have hbl := World.block_lt_of_cell? _ _ x1
      simp only at hbl
      have hbl' := Nat.le_of_lt hbl
      clear cx hx
      have hal := adjust_len acc a b' 1
      rw [HL.out] at hal
      go_wp2_with fail
      refine (r_sAdjust A1 k c1 acc a b' 1 _ HL.out (by omega) (by unfold I64; omega) HO.out).mono ?_
      rintro _ w6 ⟨A6, n6, c6, rfl, hl6, hc6, hm6, hO6, p6, hp6⟩
      have HO6 := Lib.hid hO6
      have HL6 := Lib.hid hl6
      have hn6 : n6 ≤ k + 1 := by rw [← hl6]; exact hal
      have HB6 := Lib.hid (below_to hp6 HBW.out)
      clear hO6 hl6 hp6 hal
      go_wp2_with fail
      go_roundw
      case rel => exact ⟨j + 1, n6, _, by go_num, by omega, HL6.out, by omega, cntS_take HT.out HX.out, ownsRow_low HO6.out hsz, HB6.out⟩
      case measure => simp [intOf]; omega
    · have HE := Lib.hid (show cntS xs = acc by have := HT.out; rwa [List.take_of_length_le (by rw [HN.out]; omega)] at this)
      go_wp2_with fail
      go_ret
      rw [HE.out]
      exact MadeOwn.of_row' rfl lenC HW.out HL.out (Nat.le_refl _) HBW.out
set_option maxRecDepth 20000 in
set_option maxHeartbeats 6400000 in
theorem c_iCountsOf (A : Option Addr) (n c : Nat) (xs : List (Int × (Int × Int) × Int × Int)) (w : World) (hn : xs.length = n) (hn2 : n ≤ 4294967296) (hr : Row encR 5 w A xs) : Calls Tryd.prog 24 #[.slice A n c] w (MadeOwn encC 3 id (cntI (srt rcF xs)) w) := by
  obtain ⟨i0, hi0, hz0, hs0, hb0⟩ := info_parts infoCount
  have HI := Lib.hid hi0
  have HZ := Lib.hid hz0
  have HS := Lib.hid hs0
  have HB := Lib.hid hb0
  clear hi0 hz0 hs0 hb0
  have HA := Lib.hid hr
  have HN := Lib.hid hn
  clear hr hn
  obtain ⟨ys, hys⟩ : ∃ ys, srt rcF xs = ys := ⟨_, rfl⟩
  have HYS := Lib.hid hys
  have hyl : ys.length = n := by rw [← hys, srt_len]; exact HN.out
  have HYL := Lib.hid hyl
  clear hys hyl
  go_enter Tryd.func24, Tryd.ntmps24
  go_wp2_with fail
  refine (m_iSortRecords A n c xs ys _ HN.out hn2 HA.out HYS.out).mono ?_
  rintro _ w0 ⟨A9, n9, c9, rfl, hl9, hc9, hm9, hO9, p9, hp9⟩
  obtain rfl : n = n9 := HYL.out.symm.trans hl9
  have HY0 := Lib.hid hO9.row
  have HB0 := Lib.hid (show Below w.heap.size w w0 by rw [hp9]; exact below_later _ _)
  have HLT := Lib.hid (Lt.of_row lenR (by decide) hO9.row HYL.out)
  have hs0 : w.heap.size ≤ w0.heap.size := HB0.out.size
  clear hO9 hp9 hl9
  go_wp2_with fail
  go_loopw [3, 10] (fun v ii wr => ∃ (j k : Nat) (acc : List Ct), ii = .int .i64 j ∧ j ≤ n ∧ acc.length = k ∧ k ≤ j ∧ cntI (ys.take j) = acc ∧ (∀ x ∈ acc, 0 ≤ x.2 ∧ x.2 ≤ j) ∧ wr.ownsRow w0.heap.size 62 3 v k (acc.flatMap encC) ∧ Row encR 5 wr A9 ys ∧ Below w.heap.size w wr ∧ w0.heap.size ≤ wr.heap.size) (fun _ ii _ => n - (intOf ii).toNat)
  case atStart => exact ⟨0, 0, [], rfl, by omega, rfl, by omega, rfl, by simp, World.ownsRow_nil _ _ _ _, HY0.out, HB0.out, Nat.le_refl _⟩
  case round =>
    obtain ⟨j, k, acc, rfl, hj, hL, hkj, hT, hF, hW, hY, hB, hs1⟩ := hrel
    obtain ⟨A1, c1, hv, -, -, -⟩ := own_of_ownsRow lenC hW hL
    subst hv
    have HL := Lib.hid hL
    have HT := Lib.hid hT
    have HF := Lib.hid hF
    have HW := Lib.hid hW
    have HY := Lib.hid hY
    have HBW := Lib.hid hB
    clear hL hT hF hW hY hB
    by_cases hlt : j < n
    · obtain ⟨x, hx⟩ : ∃ x, ys[j]? = some x := ⟨_, List.getElem?_eq_getElem (by rw [HYL.out]; exact hlt)⟩
      have HX := Lib.hid hx
      obtain ⟨b9, off, rfl, cx⟩ := HY.out.at_ hx
      obtain ⟨o, ⟨a, b⟩, kk, e⟩ := x
      have x0 := cx 0 _ rfl
      have x1 := cx 1 _ rfl
      have x2 := cx 2 _ rfl
      have x3 := cx 3 _ rfl
      have x4 := cx 4 _ rfl
      simp only [Nat.add_zero] at x0
      have hbl := World.block_lt_of_cell? _ _ x0
      simp only at hbl
      have hbl' := Nat.le_of_lt hbl
      clear cx hx
      obtain ⟨z, hz⟩ : ∃ z, stOk a b = z := ⟨_, rfl⟩
      have HZ9 := Lib.hid hz
      clear hz
      go_wp2_with fail
      refine (c_iStampOk_b a b _ z HZ9.out).mono ?_
      rintro _ w5 ⟨rfl, p5, hp5⟩
      have HW5 := Lib.hid (show w5.ownsRow w0.heap.size 62 3 (.slice A1 k c1) k (acc.flatMap encC) by rw [hp5]; exact ownsRow_later (HW.out.alloc _) _)
      have HY5 := Lib.hid (row_to hp5 (HY.out.alloc _))
      have HB5 := Lib.hid (below_to hp5 (HBW.out.alloc HBW.out.size _))
      have HK5 := Lib.hid (Blk.to hp5 (Blk.new wr wr.heap.size [.int .i64 o, .int .i64 a, .int .i64 b, .int .i64 kk, .int .i64 e] 32 rfl))
      have hs5 : wr.heap.size < w5.heap.size := HK5.out.lt
      have hs5' := Nat.le_of_lt hs5
      have k1 := HK5.out.cell (i := 1) rfl
      have k2 := HK5.out.cell (i := 2) rfl
      have hs6 : w0.heap.size ≤ w5.heap.size := by omega
      clear hp5 HY HBW x0 x1 x2 x3 x4 hbl hbl'
      cases z
      · go_wp2_with fail
        go_roundw
        case rel => exact ⟨j + 1, k, acc, by go_num, by omega, HL.out, by omega, (cntI_take HT.out HX.out).trans (si_no HZ9.out), fun x hx => by have := HF.out x hx; omega, HW5.out, HY5.out, HB5.out, hs6⟩
        case measure => simp [intOf]; omega
      · rcases List.eq_nil_or_concat acc with hacc | ⟨T, l, hacc⟩
        · subst hacc
          obtain rfl : 0 = k := HL.out
          have HBW := HB5
          go_wp2_with (first | (at_builtin; refine wpList_append_row _ encC 3 lenC (by decide) oneC rfl (.tmp 42) (.tmp 46) 44 rfl w0.heap.size 62 i0 _ 24 Tryd.underlying44 HI.out HZ.out HS.out HB.out rfl (.slice A1 0 c1) 0 [] rfl (by (repeat (first | with_reducible exact HW5.out | with_reducible exact ownsRow_draw HW5.out _ | with_reducible refine World.ownsRow.alloc ?_ _ | with_reducible refine World.ownsRow.drew ?_ | with_reducible refine ownsRow_later ?_ _)); done) _ _ _ [((a, b), 1)] rfl rfl (row_oneC ((a, b), 1) _ _ _ (by first | with_reducible rfl | (simp; done) | (simp [later_size]; done) | (simp [later_size]; omega))) (by unfold maxLen; omega) (by omega) (by first | (simp; done) | (simp; omega) | (simp [later_size]; done) | (simp [later_size]; omega)) ?_; intro v2 w9 hown hga hbe; have HWN := Lib.hid hown; have HGA := Lib.hid hga; have HBE := Lib.hid (hbe w.heap.size w (by (repeat (first | with_reducible exact Below.refl _ _ | with_reducible assumption | with_reducible refine Below.drew ?_ | with_reducible refine below_drewN ?_ _ | with_reducible exact HQ.out | with_reducible exact HBW.out | with_reducible refine below_ext ?_ _ _ | with_reducible refine below_then_later ?_ (by first | with_reducible exact Nat.le_refl _ | with_reducible exact HBW.out.size | with_reducible exact HQ.out.size | omega | (simp; done) | (simp; omega) | (simp [later_size]; done) | (simp [later_size]; omega)) _ | with_reducible refine Below.setCell ?_ (by first | with_reducible exact Nat.le_refl _ | with_reducible exact HBW.out.size | with_reducible exact HQ.out.size | omega | (simp; done) | (simp; omega) | (simp [later_size]; done) | (simp [later_size]; omega)) _ | with_reducible refine Below.alloc ?_ (by first | with_reducible exact Nat.le_refl _ | with_reducible exact HBW.out.size | with_reducible exact HQ.out.size | omega | (simp; done) | (simp; omega) | (simp [later_size]; done) | (simp [later_size]; omega)) _))) (by first | (simp; done) | (simp; omega) | (simp [later_size]; done) | (simp [later_size]; omega)) hs0); clear hown hbe hga) | ((with_reducible refine wp_region_later (by kernel_rfl) (by kernel_rfl) ?_); (try dsimp only [List.append]); (repeat (first | go_big_quiet_skip | go_big_quiet_step ((fail)) | quiet_step ((fail)))); refine wpQuiet_nil ?_; rintro _ ⟨p, rfl⟩))
          go_roundw
          case rel => exact ⟨j + 1, 0 + 1, [((a, b), 1)], by go_num, by omega, rfl, by omega, (cntI_take HT.out HX.out).trans (si_nil HZ9.out), (by intro x hx; simp at hx; subst hx; simp; omega), HWN.out, Row.grown (by (repeat (first | with_reducible exact HY5.out | with_reducible refine Row.alloc ?_ _ | with_reducible refine Row.later ?_ _ | with_reducible refine Row.drew ?_)); done) HGA.out (fun b' hb' e' => by have h1 := HLT.out b' (by rw [← HYL.out]; exact hb'); have h2 := (HW5.out.lt b' e'.symm).1; omega), HBE.out, Nat.le_trans hs6 (Nat.le_trans (by first | (simp; done) | (simp [later_size]; done) | (simp [later_size]; omega)) HGA.out.size)⟩
          case measure => simp [intOf]; omega
        · rw [List.concat_eq_append] at hacc
          subst hacc
          obtain ⟨m, hm⟩ : ∃ m, T.length = m := ⟨_, rfl⟩
          obtain rfl : k = m + 1 := by have := HL.out; rw [List.length_append, hm] at this; simpa using this.symm
          obtain ⟨⟨a', b'⟩, N⟩ := l
          obtain ⟨g, cap, hv, hbg, hg5⟩ := HW5.out.form (by omega)
          simp only [Value.slice.injEq, true_and] at hv
          obtain ⟨rfl, rfl⟩ := hv
          have hgw : g < wr.heap.size := (HW.out.lt g rfl).2
          have HM := Lib.hid hm
          have hNb := HF.out ((a', b'), N) (by simp)
          simp only at hNb
          obtain ⟨hN0, hN1⟩ := hNb
          have y0 := HW5.out.cellAt (m * 3 + 0) (by omega)
          have y1 := HW5.out.cellAt (m * 3 + 1) (by omega)
          have y2 := HW5.out.cellAt (m * 3 + 2) (by omega)
          rw [flat_get hm (v := .int .i64 a') rfl] at y0
          rw [flat_get hm (v := .int .i64 b') rfl] at y1
          rw [flat_get hm (v := .int .i64 N) rfl] at y2
          simp only [Nat.add_zero] at y0
          have f2 := HW5.out.frozenAt (m * 3 + 2)
          have hg5' := Nat.le_of_lt hg5
          have hgn : ¬ g = wr.heap.size := Nat.ne_of_lt hgw
          have hgn' : ¬ wr.heap.size = g := fun e => hgn e.symm
          have HBW := HB5
          clear hm HW
          by_cases ha : a' = a
          · have ha2 := ha.symm
            clear ha
            subst ha2
            by_cases hb : b' = b
            · have hb2 := hb.symm
              clear hb
              subst hb2
              go_wp2_with (first | ((with_reducible refine wp_region_later (by kernel_rfl) (by kernel_rfl) ?_); (try dsimp only [List.append]); (repeat (first | go_big_quiet_skip | go_big_quiet_step ((fail)) | quiet_step ((fail)))); refine wpQuiet_nil ?_; rintro _ ⟨p, rfl⟩))
              go_roundw
              case rel => exact ⟨j + 1, m + 1, T ++ [((a, b), N + 1)], by go_num, by omega, (by rw [List.length_append, HM.out]; rfl), by omega, (cntI_take HT.out HX.out).trans (si_eq HZ9.out), (by intro x hx; rcases List.mem_append.1 hx with h | h; (have := HF.out x (by simp [h]); omega); (simp at h; subst h; simp; omega)), (by have h := (HW5.out.stored (m * 3 + 2) (.int .i64 (N + 1))).1; rw [flat_last HM.out] at h; exact ownsRow_later h _), ((HY5.out.grown (HW5.out.stored (m * 3 + 2) (.int .i64 (N + 1))).2 (fun b' hb' e' => by have h1 := HLT.out b' (by rw [← HYL.out]; exact hb'); cases e'; omega)).later _), (Below.setCell HB5.out (by simp; omega) _).trans ((below_later _ _).mono (by have := HB5.out.size; simpa using this)), (by have := (below_later (w5.setCell ⟨g, m * 3 + 2, Option.none⟩ (.int .i64 (N + 1))) p).size; simp at this ⊢; omega)⟩
              case measure => simp [intOf]; omega
            · go_wp2_with (first | (at_builtin; refine wpList_append_row _ encC 3 lenC (by decide) oneC rfl (.tmp 42) (.tmp 46) 44 rfl w0.heap.size 62 i0 _ 24 Tryd.underlying44 HI.out HZ.out HS.out HB.out rfl (.slice (some ⟨g, 0, Option.none⟩) (m + 1) c1) (m + 1) (T ++ [((a, b'), N)]) rfl (by (repeat (first | with_reducible exact HW5.out | with_reducible exact ownsRow_draw HW5.out _ | with_reducible refine World.ownsRow.alloc ?_ _ | with_reducible refine World.ownsRow.drew ?_ | with_reducible refine ownsRow_later ?_ _)); done) _ _ _ [((a, b), 1)] rfl rfl (row_oneC ((a, b), 1) _ _ _ (by first | with_reducible rfl | (simp; done) | (simp [later_size]; done) | (simp [later_size]; omega))) (by unfold maxLen; omega) (by omega) (by first | (simp; done) | (simp; omega) | (simp [later_size]; done) | (simp [later_size]; omega)) ?_; intro v2 w9 hown hga hbe; have HWN := Lib.hid hown; have HGA := Lib.hid hga; have HBE := Lib.hid (hbe w.heap.size w (by (repeat (first | with_reducible exact Below.refl _ _ | with_reducible assumption | with_reducible refine Below.drew ?_ | with_reducible refine below_drewN ?_ _ | with_reducible exact HQ.out | with_reducible exact HBW.out | with_reducible refine below_ext ?_ _ _ | with_reducible refine below_then_later ?_ (by first | with_reducible exact Nat.le_refl _ | with_reducible exact HBW.out.size | with_reducible exact HQ.out.size | omega | (simp; done) | (simp; omega) | (simp [later_size]; done) | (simp [later_size]; omega)) _ | with_reducible refine Below.setCell ?_ (by first | with_reducible exact Nat.le_refl _ | with_reducible exact HBW.out.size | with_reducible exact HQ.out.size | omega | (simp; done) | (simp; omega) | (simp [later_size]; done) | (simp [later_size]; omega)) _ | with_reducible refine Below.alloc ?_ (by first | with_reducible exact Nat.le_refl _ | with_reducible exact HBW.out.size | with_reducible exact HQ.out.size | omega | (simp; done) | (simp; omega) | (simp [later_size]; done) | (simp [later_size]; omega)) _))) (by first | (simp; done) | (simp; omega) | (simp [later_size]; done) | (simp [later_size]; omega)) hs0); clear hown hbe hga) | ((with_reducible refine wp_region_later (by kernel_rfl) (by kernel_rfl) ?_); (try dsimp only [List.append]); (repeat (first | go_big_quiet_skip | go_big_quiet_step ((fail)) | quiet_step ((fail)))); refine wpQuiet_nil ?_; rintro _ ⟨p, rfl⟩))
              go_roundw
              case rel => exact ⟨j + 1, (m + 1) + 1, _, by go_num, by omega, (by rw [List.length_append]; simp [HM.out]), by omega, (cntI_take HT.out HX.out).trans (si_ne HZ9.out (fun h => hb h.2)), (by intro x hx; rcases List.mem_append.1 hx with h | h; (have := HF.out x h; omega); (simp at h; subst h; simp; omega)), HWN.out, Row.grown (by (repeat (first | with_reducible exact HY5.out | with_reducible refine Row.alloc ?_ _ | with_reducible refine Row.later ?_ _ | with_reducible refine Row.drew ?_)); done) HGA.out (fun b' hb' e' => by have h1 := HLT.out b' (by rw [← HYL.out]; exact hb'); first | (have h2 := (HW5.out.lt b' e'.symm).1; omega)), HBE.out, Nat.le_trans hs6 (Nat.le_trans (by first | (simp; done) | (simp [later_size]; done) | (simp [later_size]; omega)) HGA.out.size)⟩
              case measure => simp [intOf]; omega
          · go_wp2_with (first | (at_builtin; refine wpList_append_row _ encC 3 lenC (by decide) oneC rfl (.tmp 42) (.tmp 46) 44 rfl w0.heap.size 62 i0 _ 24 Tryd.underlying44 HI.out HZ.out HS.out HB.out rfl (.slice (some ⟨g, 0, Option.none⟩) (m + 1) c1) (m + 1) (T ++ [((a', b'), N)]) rfl (by (repeat (first | with_reducible exact HW5.out | with_reducible exact ownsRow_draw HW5.out _ | with_reducible refine World.ownsRow.alloc ?_ _ | with_reducible refine World.ownsRow.drew ?_ | with_reducible refine ownsRow_later ?_ _)); done) _ _ _ [((a, b), 1)] rfl rfl (row_oneC ((a, b), 1) _ _ _ (by first | with_reducible rfl | (simp; done) | (simp [later_size]; done) | (simp [later_size]; omega))) (by unfold maxLen; omega) (by omega) (by first | (simp; done) | (simp; omega) | (simp [later_size]; done) | (simp [later_size]; omega)) ?_; intro v2 w9 hown hga hbe; have HWN := Lib.hid hown; have HGA := Lib.hid hga; have HBE := Lib.hid (hbe w.heap.size w (by (repeat (first | with_reducible exact Below.refl _ _ | with_reducible assumption | with_reducible refine Below.drew ?_ | with_reducible refine below_drewN ?_ _ | with_reducible exact HQ.out | with_reducible exact HBW.out | with_reducible refine below_ext ?_ _ _ | with_reducible refine below_then_later ?_ (by first | with_reducible exact Nat.le_refl _ | with_reducible exact HBW.out.size | with_reducible exact HQ.out.size | omega | (simp; done) | (simp; omega) | (simp [later_size]; done) | (simp [later_size]; omega)) _ | with_reducible refine Below.setCell ?_ (by first | with_reducible exact Nat.le_refl _ | with_reducible exact HBW.out.size | with_reducible exact HQ.out.size | omega | (simp; done) | (simp; omega) | (simp [later_size]; done) | (simp [later_size]; omega)) _ | with_reducible refine Below.alloc ?_ (by first | with_reducible exact Nat.le_refl _ | with_reducible exact HBW.out.size | with_reducible exact HQ.out.size | omega | (simp; done) | (simp; omega) | (simp [later_size]; done) | (simp [later_size]; omega)) _))) (by first | (simp; done) | (simp; omega) | (simp [later_size]; done) | (simp [later_size]; omega)) hs0); clear hown hbe hga) | ((with_reducible refine wp_region_later (by kernel_rfl) (by kernel_rfl) ?_); (try dsimp only [List.append]); (repeat (first | go_big_quiet_skip | go_big_quiet_step ((fail)) | quiet_step ((fail)))); refine wpQuiet_nil ?_; rintro _ ⟨p, rfl⟩))
            go_roundw
            case rel => exact ⟨j + 1, (m + 1) + 1, _, by go_num, by omega, (by rw [List.length_append]; simp [HM.out]), by omega, (cntI_take HT.out HX.out).trans (si_ne HZ9.out (fun h => ha h.1)), (by intro x hx; rcases List.mem_append.1 hx with h | h; (have := HF.out x h; omega); (simp at h; subst h; simp; omega)), HWN.out, Row.grown (by (repeat (first | with_reducible exact HY5.out | with_reducible refine Row.alloc ?_ _ | with_reducible refine Row.later ?_ _ | with_reducible refine Row.drew ?_)); done) HGA.out (fun b' hb' e' => by have h1 := HLT.out b' (by rw [← HYL.out]; exact hb'); first | (have h2 := (HW5.out.lt b' e'.symm).1; omega)), HBE.out, Nat.le_trans hs6 (Nat.le_trans (by first | (simp; done) | (simp [later_size]; done) | (simp [later_size]; omega)) HGA.out.size)⟩
            case measure => simp [intOf]; omega
    · have HE := Lib.hid (show cntI ys = acc by have := HT.out; rwa [List.take_of_length_le (by rw [HYL.out]; omega)] at this)
      go_wp2_with fail
      go_ret
      rw [HYS.out, HE.out]
      exact MadeOwn.of_row' rfl lenC HW.out HL.out hs0 HBW.out
end Go.Proofs.YtcjdfecajlgcmaaDoor
