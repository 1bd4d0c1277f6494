/-
  What the reference draws: lists of records, and records by name. Conditions: the bytes' number is at most 2^32.
-/
import Derived.Test.YtcjdfecajlgcmaaDoorDrawR
import Derived.Test.YtcjdfecajlgcmaaDoorDrawL2
namespace Go.Proofs.YtcjdfecajlgcmaaDoor
open Go.RowKit
set_option linter.unusedVariables false
theorem own_rowD {α : Type} {enc : α → List Value} {k : Nat} {w : World} {E : TypeId} {base n c : Nat} {A : Option Addr} {xs : List α} (hk : ∀ x, (enc x).length = k) (h : w.ownsRow base E k (.slice A n c) n (xs.flatMap enc)) (hn : xs.length = n) : Row enc k w A xs := by
  obtain ⟨A', c', he, ho, _⟩ := own_of_ownsRow hk h hn
  simp only [Value.slice.injEq] at he
  obtain ⟨rfl, _, _⟩ := he
  exact ho.row
theorem infoRcL : (Tryd.prog.info? 32).map (fun i => (i.zero, i.size, i.bytes)) = some (some (.agg #[.int .i64 0, .int .i64 0, .int .i64 0, .int .i64 0, .int .i64 0]), 5, 40) := by kernel_rfl
set_option maxRecDepth 20000 in
set_option maxHeartbeats 6400000 in
theorem c_l05List (g : Nat) (w : World) (hc : Cur g w) : Calls Tryd.prog 26 #[.pointer (some ⟨g, 0, Option.none⟩)] w (DrawnL encR 5 6 okR g w) := by
  obtain ⟨i0, hi0, hz0, hs0, hb0⟩ := info_parts infoRcL
  have HI := Lib.hid hi0
  have HZ := Lib.hid hz0
  have HS := Lib.hid hs0
  have HB := Lib.hid hb0
  clear hi0 hz0 hs0 hb0
  have hgl := hc.lt
  have HC0 := Lib.hid hc
  clear hc
  go_enter Tryd.func26, Tryd.ntmps26
  go_wp2_with fail
  go_loopw [3, 4] (fun v ii wr => ∃ (j : Nat) (acc : List (Int × (Int × Int) × Int × Int)), ii = .int .i64 j ∧ j ≤ 6 ∧ acc.length = j ∧ (∀ p ∈ acc, okR p) ∧ wr.ownsRow w.heap.size 32 5 v j (acc.flatMap encR) ∧ Cur g wr ∧ w.heap.size ≤ wr.heap.size ∧ w.grownBy wr (some g)) (fun _ ii _ => 6 - (intOf ii).toNat)
  case atStart => exact ⟨0, [], rfl, by omega, rfl, by simp, own_empty _ _ _ _ _ (by first | rfl | (simp; done)) (by simp), HC0.out.alloc _, by simp, grown_alloc (grown_refl _ _) _⟩
  case round =>
    obtain ⟨j, acc, rfl, hj, hL, hF, hW, hc2, hs1, hG⟩ := hrel
    obtain ⟨A1, c1, hv, ho, hcap, hmax⟩ := own_of_ownsRow lenR hW hL
    have HV := Lib.hid hv
    have HF := Lib.hid hF
    have HW := Lib.hid hW
    have HL := Lib.hid hL
    have HC := Lib.hid hc2
    have HG := Lib.hid hG
    clear hF hW hL hc2 hG ho hv
    go_wp2_with fail
    refine (c_below _ 7 _ HC.out (by unfold I64; omega)).mono ?_
    rintro _ w2 ⟨_, rfl, ⟨x, rfl, hx, hx2, -⟩, hc2, hg2⟩
    have hx4 := hx2 (by omega)
    clear hx2
    have HW2 := Lib.hid (HW.out.kept hg2 (.inr (fun e => by have := (HW.out.lt _ e).1; omega))); have HG2 := Lib.hid (grownBy_trans HG.out hg2); have hs2 : w.heap.size ≤ w2.heap.size := Nat.le_trans hs1 hg2.size; clear HC HW HG hs1; have HC := Lib.hid hc2; have HW := HW2; have HG := HG2; have hs1 := hs2; clear hc2 HW2 HG2 hg2 hs2
    obtain rfl := HV.out
    by_cases hjx : (j : Int) < x
    · by_cases hj0 : j = 0
      · have hd0 : decide (0 < j) = false := decide_eq_false (by omega)
        have HJ0 := Lib.hid hj0
        clear hj0
        go_wp2_with fail
        refine (c_l05Any _ _ HC.out).mono ?_
        rintro _ w4 ⟨_, rfl, ⟨o, a, b, k, e, rfl, ho, ha, hb, hk, he⟩, hc2, hg2⟩
        have HW2 := Lib.hid (HW.out.kept hg2 (.inr (fun e => by have := (HW.out.lt _ e).1; omega))); have HG2 := Lib.hid (grownBy_trans HG.out hg2); have hs2 : w.heap.size ≤ w4.heap.size := Nat.le_trans hs1 hg2.size; clear HC HW HG hs1; have HC := Lib.hid hc2; have HW := HW2; have HG := HG2; have hs1 := hs2; clear hc2 HW2 HG2 hg2 hs2
        go_wp2_with (first | (at_builtin; refine wpList_append_row _ encR 5 lenR (by decide) oneR rfl (.tmp 29) (.tmp 32) 24 rfl w.heap.size 32 i0 _ 40 Tryd.underlying24 HI.out HZ.out HS.out HB.out rfl (.slice A1 j c1) j acc rfl (by (repeat (first | with_reducible exact HW.out | with_reducible exact ownsRow_draw HW.out _ | with_reducible refine World.ownsRow.alloc ?_ _ | with_reducible refine World.ownsRow.drew ?_ | with_reducible refine ownsRow_later ?_ _)); done) _ _ _ [(o, (a, b), k, e)] rfl rfl (row_oneR ((o, (a, b), k, e)) _ _ _ (by first | with_reducible rfl | (simp; done) | (simp; omega))) (by unfold maxLen; omega) (by omega) (by first | (simp; done) | (simp; omega)) ?_; intro v2 w9 hown hga hbe; have HWN := Lib.hid hown; have HGA := Lib.hid hga; clear hown hbe hga))
        go_roundw
        case rel => exact ⟨j + 1, acc ++ [(o, (a, b), k, e)], by go_num, by omega, by simp [HL.out], (by intro p hp; rcases List.mem_append.1 hp with h | h; exact HF.out p h; simp at h; subst h; exact ⟨ho, ha, hb, hk, he⟩), HWN.out, cur_over (HC.out.alloc _) HGA.out (HW.out.alloc _) hgl, Nat.le_trans hs1 (Nat.le_trans (by simp) HGA.out.size), grown_over (grown_alloc HG.out _) HGA.out (fun b hb => (HW.out.lt b hb).1)⟩
        case measure => simp [intOf]; omega
      · have hd0 : decide (0 < j) = true := decide_eq_true (by omega)
        go_wp2_with fail
        refine (c_once _ 5 _ HC.out (by unfold I64; omega)).mono ?_
        rintro _ w3 ⟨_, rfl, ⟨bb, rfl⟩, hc2, hg2⟩
        have HW2 := Lib.hid (HW.out.kept hg2 (.inr (fun e => by have := (HW.out.lt _ e).1; omega))); have HG2 := Lib.hid (grownBy_trans HG.out hg2); have hs2 : w.heap.size ≤ w3.heap.size := Nat.le_trans hs1 hg2.size; clear HC HW HG hs1; have HC := Lib.hid hc2; have HW := HW2; have HG := HG2; have hs1 := hs2; clear hc2 HW2 HG2 hg2 hs2
        cases bb
        ·
          go_wp2_with fail
          refine (c_l05Any _ _ HC.out).mono ?_
          rintro _ w4 ⟨_, rfl, ⟨o, a, b, k, e, rfl, ho, ha, hb, hk, he⟩, hc2, hg2⟩
          have HW2 := Lib.hid (HW.out.kept hg2 (.inr (fun e => by have := (HW.out.lt _ e).1; omega))); have HG2 := Lib.hid (grownBy_trans HG.out hg2); have hs2 : w.heap.size ≤ w4.heap.size := Nat.le_trans hs1 hg2.size; clear HC HW HG hs1; have HC := Lib.hid hc2; have HW := HW2; have HG := HG2; have hs1 := hs2; clear hc2 HW2 HG2 hg2 hs2
          go_wp2_with (first | (at_builtin; refine wpList_append_row _ encR 5 lenR (by decide) oneR rfl (.tmp 29) (.tmp 32) 24 rfl w.heap.size 32 i0 _ 40 Tryd.underlying24 HI.out HZ.out HS.out HB.out rfl (.slice A1 j c1) j acc rfl (by (repeat (first | with_reducible exact HW.out | with_reducible exact ownsRow_draw HW.out _ | with_reducible refine World.ownsRow.alloc ?_ _ | with_reducible refine World.ownsRow.drew ?_ | with_reducible refine ownsRow_later ?_ _)); done) _ _ _ [(o, (a, b), k, e)] rfl rfl (row_oneR ((o, (a, b), k, e)) _ _ _ (by first | with_reducible rfl | (simp; done) | (simp; omega))) (by unfold maxLen; omega) (by omega) (by first | (simp; done) | (simp; omega)) ?_; intro v2 w9 hown hga hbe; have HWN := Lib.hid hown; have HGA := Lib.hid hga; clear hown hbe hga))
          go_roundw
          case rel => exact ⟨j + 1, acc ++ [(o, (a, b), k, e)], by go_num, by omega, by simp [HL.out], (by intro p hp; rcases List.mem_append.1 hp with h | h; exact HF.out p h; simp at h; subst h; exact ⟨ho, ha, hb, hk, he⟩), HWN.out, cur_over (HC.out.alloc _) HGA.out (HW.out.alloc _) hgl, Nat.le_trans hs1 (Nat.le_trans (by simp) HGA.out.size), grown_over (grown_alloc HG.out _) HGA.out (fun b hb => (HW.out.lt b hb).1)⟩
          case measure => simp [intOf]; omega
        · go_wp2_with fail
          refine (c_below _ _ _ HC.out (by unfold I64; omega)).mono ?_
          rintro _ w4 ⟨_, rfl, ⟨kk, rfl, hk0, hk1, -⟩, hc2, hg2⟩
          have hk2 := hk1 (by omega)
          clear hk1
          obtain ⟨k, rfl⟩ : ∃ k : Nat, kk = k := ⟨kk.toNat, by omega⟩
          have HW2 := Lib.hid (HW.out.kept hg2 (.inr (fun e => by have := (HW.out.lt _ e).1; omega))); have HG2 := Lib.hid (grownBy_trans HG.out hg2); have hs2 : w.heap.size ≤ w4.heap.size := Nat.le_trans hs1 hg2.size; clear HC HW HG hs1; have HC := Lib.hid hc2; have HW := HW2; have HG := HG2; have hs1 := hs2; clear hc2 HW2 HG2 hg2 hs2
          have hkj : k < j := by omega
          obtain ⟨q, hq⟩ : ∃ q, acc[k]? = some q := ⟨_, List.getElem?_eq_getElem (by rw [HL.out]; exact hkj)⟩
          obtain ⟨o, ⟨a, b⟩, kk, e⟩ := q
          have HOKQ := Lib.hid (HF.out _ (List.mem_of_getElem? hq))
          obtain ⟨bk, off, hA, cx⟩ := (own_rowD lenR HW.out HL.out).at_ hq
          subst hA
          have x0 := cx 0 _ rfl
          have x1 := cx 1 _ rfl
          have x2 := cx 2 _ rfl
          have x3 := cx 3 _ rfl
          have x4 := cx 4 _ rfl
          have hbl := World.block_lt_of_cell? _ _ x0
          simp only at hbl
          have hbl' := Nat.le_of_lt hbl
          simp only [Nat.add_zero] at x0
          clear cx hq
          go_wp2_with (first | (at_builtin; refine wpList_append_row _ encR 5 lenR (by decide) oneR rfl (.tmp 19) (.tmp 27) 24 rfl w.heap.size 32 i0 _ 40 Tryd.underlying24 HI.out HZ.out HS.out HB.out rfl (.slice (some ⟨bk, off, Option.none⟩) j c1) j acc rfl (by (repeat (first | with_reducible exact HW.out | with_reducible exact ownsRow_draw HW.out _ | with_reducible refine World.ownsRow.alloc ?_ _ | with_reducible refine World.ownsRow.drew ?_ | with_reducible refine ownsRow_later ?_ _)); done) _ _ _ [(o, (a, b), kk, e)] rfl rfl (row_oneR ((o, (a, b), kk, e)) _ _ _ (by first | with_reducible rfl | (simp; done) | (simp; omega))) (by unfold maxLen; omega) (by omega) (by first | (simp; done) | (simp; omega)) ?_; intro v2 w9 hown hga hbe; have HWN := Lib.hid hown; have HGA := Lib.hid hga; clear hown hbe hga))
          go_roundw
          case rel => exact ⟨j + 1, acc ++ [(o, (a, b), kk, e)], by go_num, by omega, by simp [HL.out], (by intro p hp; rcases List.mem_append.1 hp with h | h; exact HF.out p h; simp at h; subst h; exact HOKQ.out), HWN.out, cur_over (HC.out.alloc _) HGA.out (HW.out.alloc _) hgl, Nat.le_trans hs1 (Nat.le_trans (by simp) HGA.out.size), grown_over (grown_alloc HG.out _) HGA.out (fun b hb => (HW.out.lt b hb).1)⟩
          case measure => simp [intOf]; omega
    · go_wp2_with fail
      obtain ⟨A2, c2, hv, ho, hcap, hmax⟩ := own_of_ownsRow lenR HW.out HL.out
      simp only [Value.slice.injEq] at hv
      obtain ⟨rfl, -, rfl⟩ := hv
      go_ret
      exact ⟨A1, j, c1, acc, rfl, HL.out, hj, hcap, hmax, HF.out, ho, HC.out, HG.out⟩
end Go.Proofs.YtcjdfecajlgcmaaDoor
