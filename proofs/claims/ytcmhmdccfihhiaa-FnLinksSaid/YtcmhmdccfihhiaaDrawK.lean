/-
  What the reference draws: links. Conditions: none.
-/
import Derived.Test.YtcmhmdccfihhiaaDrawR2
import Derived.Test.YtcmhmdccfihhiaaLnkR
namespace Go.Proofs.Ytcmhmdccfihhiaa
open Go.RowKit
set_option linter.unusedVariables false
set_option maxRecDepth 20000
theorem onward_K {S : World → Prop} {J : Act → World → Prop} {a : Act} {w : World} (hs : S w) (h : J a w) : onward S J .normal a w := ⟨rfl, hs, h⟩
theorem bp_anchor {P : Program} {f : Func} {G : Ending → World → Prop} {x : Exit} {a : Act} {w : World} {F : World → Prop} (hF : F w) (h : ∀ W, F W → bodyPost P f G x a W) : bodyPost P f G x a w := h w hF
def Bd (x : Int) : Prop := -10 ≤ x ∧ x ≤ 2000000000
theorem Bd.i64 {x : Int} (h : Bd x) : I64 x := by unfold Bd at h; unfold I64; omega
theorem take_b {cap cr bk st gt : Int} {xs ys : List (Int × (Int × Int) × Int × Int)} {bk' gt' : Int} {r : Int × (Int × Int) × Int × Int} {z : Bool} (h : takeFrom cap cr bk st gt xs = (bk', gt', ys, r, z)) (h1 : Bd bk) (h2 : Bd gt) : Bd bk' ∧ Bd gt' := by
  unfold takeFrom at h
  split at h
  · rename_i hk
    have hn := lkOk_num hk
    unfold Bd at *
    split at h <;> (simp at h; obtain ⟨rfl, rfl, _⟩ := h; omega)
  · simp at h; obtain ⟨rfl, rfl, _⟩ := h; exact ⟨h1, h2⟩
theorem back_b {cap cr bk st gt : Int} {xs : List (Int × (Int × Int) × Int × Int)} {cr' bk' : Int} {z : Bool} (h : creditBack cap cr bk st gt xs = (cr', bk', z)) (h1 : Bd cr) (h2 : Bd bk) : Bd cr' ∧ Bd bk' := by
  unfold creditBack at h
  split at h
  · rename_i hk
    unfold crBack at hk
    simp only [Bool.and_eq_true] at hk
    have hn := lkOk_num hk.1
    unfold Bd at *
    simp at h
    obtain ⟨rfl, rfl, _⟩ := h
    omega
  · simp at h; obtain ⟨rfl, rfl, _⟩ := h; exact ⟨h1, h2⟩
theorem send_b {cap cr bk st gt : Int} {xs ys : List (Int × (Int × Int) × Int × Int)} {r : Int × (Int × Int) × Int × Int} {cr' st' : Int} {z : Bool} (h : sendOn cap cr bk st gt xs r = (cr', st', ys, z)) (h1 : Bd cr) (h2 : Bd st) : Bd cr' ∧ Bd st' := by
  unfold sendOn at h
  split at h
  · rename_i hk
    simp only [Bool.and_eq_true] at hk
    have hn := lkOk_num hk.1
    unfold Bd at *
    simp at h
    obtain ⟨rfl, rfl, _⟩ := h
    omega
  · simp at h; obtain ⟨rfl, rfl, _⟩ := h; exact ⟨h1, h2⟩
theorem s_new (k : Int) (w : World) (h1 : 1 ≤ k) (h2 : k ≤ 4) : Calls Try.prog 51 #[.int .i64 k] w (Gives (.agg #[.int .i64 k, .slice Option.none 0 0, .int .i64 k, .int .i64 0, .int .i64 0, .int .i64 0]) w) := by
  have h := c_sLinkNew k w
  have e : brought k 1 4 = k := by unfold brought; rw [if_neg (by omega), if_neg (by omega)]
  rw [e] at h
  exact h
/-- a link is drawn: its queue a row of the call's own, the cursor moved on -/
def DrawnK (g m : Nat) (w : World) (e : Ending) (w' : World) : Prop :=
  ∃ (cap cr bk st gt : Int) (A : Option Addr) (n c : Nat) (xs : List (Int × (Int × Int) × Int × Int)), e = .returned (.agg #[.int .i64 cap, .slice A n c, .int .i64 cr, .int .i64 bk, .int .i64 st, .int .i64 gt]) ∧ xs.length = n ∧ n ≤ m ∧ Bd cr ∧ Bd bk ∧ Bd st ∧ Bd gt ∧ w'.ownsRow w.heap.size 33 5 (.slice A n c) n (xs.flatMap encR) ∧ Cur g w' ∧ w.grownBy w' (some g)
set_option maxHeartbeats 6400000 in
theorem c_l06Link (g : Nat) (w : World) (hc : Cur g w) : Calls Try.prog 47 #[.pointer (some ⟨g, 0, Option.none⟩)] w (DrawnK g 8 w) := by
  have HC := Lib.hid hc
  have HG := Lib.hid (grown_refl w (some g))
  have hgw := hc.lt
  clear hc
  go_enter Try.func47, Try.ntmps47
  go_wp2_with fail
  refine (c_below g 4 _ (by (repeat (first | with_reducible exact HC.out | with_reducible refine Cur.alloc ?_ _ | with_reducible refine Cur.later ?_ _ | with_reducible refine Cur.drew ?_ | with_reducible refine Cur.setOther ?_ (by omega) _ _)); done) (by unfold I64; omega)).mono ?_
  rintro _ W1 ⟨_, rfl, ⟨x, rfl, hx, hx2, -⟩, hc2, hg2⟩
  have hx4 := hx2 (by omega)
  clear hx2
  have a1 : w.grownBy W1 (some g) := grownBy_trans (by (repeat (first | with_reducible exact HG.out | with_reducible exact grown_refl _ _ | with_reducible refine grown_alloc ?_ _ | with_reducible refine grown_later ?_ _ | with_reducible refine grown_drew ?_ | with_reducible refine grown_set ?_ (by omega) _ _)); done) hg2
  have a2 : Blk (w.heap.size) [.int .i64 0, .slice Option.none 0 0, .int .i64 0, .int .i64 0, .int .i64 0, .int .i64 0] 28 W1 := Blk.grown (by (repeat (first | with_reducible exact HK2.out | (with_reducible refine Blk.new _ _ [.int .i64 0, .slice Option.none 0 0, .int .i64 0, .int .i64 0, .int .i64 0, .int .i64 0] _ ?_; first | with_reducible rfl | (simp; done)) | with_reducible refine Blk.alloc ?_ _ | with_reducible refine Blk.later ?_ _ | with_reducible refine Blk.drew ?_ | with_reducible refine Blk.other ?_ (by simp; omega) _)); done) hg2 (by simp; omega)
  clear HC HG 
  have HC := Lib.hid hc2
  have HG := Lib.hid a1
  have HK2 := Lib.hid a2
  clear hc2 hg2 a1 a2
  have hsW1 : w.heap.size ≤ W1.heap.size := HG.out.size
  have hgW1 : g < W1.heap.size := HC.out.lt
  have lHK2 : w.heap.size < W1.heap.size := HK2.out.lt
  have cHK2_0 := HK2.out.cell (i := 0) rfl
  have zHK2_0 := HK2.out.frozen 0
  have cHK2_1 := HK2.out.cell (i := 1) rfl
  have zHK2_1 := HK2.out.frozen 1
  have cHK2_2 := HK2.out.cell (i := 2) rfl
  have zHK2_2 := HK2.out.frozen 2
  have cHK2_3 := HK2.out.cell (i := 3) rfl
  have zHK2_3 := HK2.out.frozen 3
  have cHK2_4 := HK2.out.cell (i := 4) rfl
  have zHK2_4 := HK2.out.frozen 4
  have cHK2_5 := HK2.out.cell (i := 5) rfl
  have zHK2_5 := HK2.out.frozen 5
  obtain ⟨kk, hkk⟩ : ∃ kk, 1 + x = kk := ⟨_, rfl⟩
  have hk1 : 1 ≤ kk := by omega
  have hk4 : kk ≤ 4 := by omega
  go_wp2_with fail
  refine (s_new kk _ hk1 hk4).mono ?_
  rintro _ W2 ⟨rfl, p2, hp2⟩
  have b1 : Cur g W2 := by rw [hp2]; exact HC.out.later _
  have b2 : w.grownBy W2 (some g) := by rw [hp2]; exact grown_later HG.out _
  have b3 := Blk.to hp2 HK2.out
  clear HC HG HK2 hp2 lHK2 cHK2_0 zHK2_0 cHK2_1 zHK2_1 cHK2_2 zHK2_2 cHK2_3 zHK2_3 cHK2_4 zHK2_4 cHK2_5 zHK2_5
  have HC := Lib.hid b1
  have HG := Lib.hid b2
  have HK2 := Lib.hid b3
  clear b1 b2 b3
  have hgW2 : g < W2.heap.size := HC.out.lt
  have hsW2 : w.heap.size < W2.heap.size := HK2.out.lt
  obtain ⟨g3, hg3⟩ : ∃ g3, W2.heap.size = g3 := ⟨_, rfl⟩
  have hgg3 : g < g3 := by omega
  have hwg3 : w.heap.size < g3 := by omega
  have ne1 : ¬ w.heap.size = g3 := by omega
  have ne2 : ¬ g3 = w.heap.size := by omega
  clear hkk
  go_wp2_with fail
  refine wp_anchor (F := fun V => Cur g V ∧ w.grownBy V (some g) ∧ Blk w.heap.size [.int .i64 0, .slice Option.none 0 0, .int .i64 0, .int .i64 0, .int .i64 0, .int .i64 0] 28 V ∧ Blk g3 [.int .i64 kk, .slice Option.none 0 0, .int .i64 kk, .int .i64 0, .int .i64 0, .int .i64 0] 28 V) ⟨HC.out.alloc _, grown_alloc HG.out _, HK2.out.alloc _, Blk.new _ _ [.int .i64 kk, .slice Option.none 0 0, .int .i64 kk, .int .i64 0, .int .i64 0, .int .i64 0] _ hg3.symm⟩ (fun V hV => ?_)
  obtain ⟨b1, b2, b3, b4⟩ := hV
  clear HC HG HK2 hg3 hgW2 hsW2
  have HC := Lib.hid b1
  have HG := Lib.hid b2
  have HK2 := Lib.hid b3
  have HK3 := Lib.hid b4
  clear b1 b2 b3 b4
  go_loopw [4] (fun ii wr => ∃ (j n : Nat) (cr bk st gt : Int) (A1 : Option Addr) (c1 : Nat) (xs : List (Int × (Int × Int) × Int × Int)), ii = .int .i64 j ∧ j ≤ 8 ∧ xs.length = n ∧ n ≤ j ∧ Bd cr ∧ Bd bk ∧ Bd st ∧ Bd gt ∧ Cur g wr ∧ w.grownBy wr (some g) ∧ Blk w.heap.size [.int .i64 0, .slice Option.none 0 0, .int .i64 0, .int .i64 0, .int .i64 0, .int .i64 0] 28 wr ∧ Blk g3 [.int .i64 kk, .slice A1 n c1, .int .i64 cr, .int .i64 bk, .int .i64 st, .int .i64 gt] 28 wr ∧ wr.ownsRow (g3 + 1) 33 5 (.slice A1 n c1) n (xs.flatMap encR)) (fun ii _ => 8 - (intOf ii).toNat)
  case atStart => exact ⟨0, 0, kk, 0, 0, 0, Option.none, 0, [], rfl, by omega, rfl, by omega, (by unfold Bd; omega), (by unfold Bd; omega), (by unfold Bd; omega), (by unfold Bd; omega), HC.out, HG.out, HK2.out, HK3.out, World.ownsRow_nil _ _ _ _⟩
  case round =>
    obtain ⟨j, n, cr, bk, st, gt, A1, c1, xs, rfl, hj, hL, hnj, hcr, hbk, hst, hgt, hC, hG, hK2, hK3, hW⟩ := hrel
    have HL := Lib.hid hL
    have HC := Lib.hid hC
    have HG := Lib.hid hG
    have HK2 := Lib.hid hK2
    have HK3 := Lib.hid hK3
    have HW := Lib.hid hW
    clear hL hC hG hK2 hK3 hW
    have hsr : w.heap.size ≤ wr.heap.size := HG.out.size
    have hgr : g < wr.heap.size := HC.out.lt
    go_wp2_with fail
    refine (c_below _ 9 _ HC.out (by unfold I64; omega)).mono ?_
    rintro _ W5 ⟨_, rfl, ⟨x, rfl, hx, hx2, -⟩, hc2, hg2⟩
    have hx4 := hx2 (by omega)
    clear hx2
    have b1 := hc2
    have b2 := grownBy_trans HG.out hg2
    have b3 := HK2.out.grown hg2 (by simp; omega)
    have b4 := HK3.out.grown hg2 (by simp; omega)
    have b5 := HW.out.kept hg2 (.inr (fun e => by have := (HW.out.lt _ e).1; omega))
    clear HC HG HK2 HK3 HW hc2 hg2
    have HC := Lib.hid b1
    have HG := Lib.hid b2
    have HK2 := Lib.hid b3
    have HK3 := Lib.hid b4
    have HW := Lib.hid b5
    clear b1 b2 b3 b4 b5
    by_cases hjx : (j : Int) < x
    · go_wp2_with fail
      refine (c_below _ 4 _ HC.out (by unfold I64; omega)).mono ?_
      rintro _ W6 ⟨_, rfl, ⟨s, rfl, hs, hs2, -⟩, hc2, hg2⟩
      clear hs2
      have b1 := hc2
      have b2 := grownBy_trans HG.out hg2
      have b3 := HK2.out.grown hg2 (by simp; omega)
      have b4 := HK3.out.grown hg2 (by simp; omega)
      have b5 := HW.out.kept hg2 (.inr (fun e => by have := (HW.out.lt _ e).1; omega))
      clear HC HG HK2 HK3 HW hc2 hg2
      have HC := Lib.hid b1
      have HG := Lib.hid b2
      have HK2 := Lib.hid b3
      have HK3 := Lib.hid b4
      have HW := Lib.hid b5
      clear b1 b2 b3 b4 b5
      have hs6 : w.heap.size ≤ W6.heap.size := HG.out.size
      have hg6 : g < W6.heap.size := HC.out.lt
      have h36 : g3 < W6.heap.size := HK3.out.lt
      have lHK3 : g3 < W6.heap.size := HK3.out.lt
      have cHK3_0 := HK3.out.cell (i := 0) rfl
      have zHK3_0 := HK3.out.frozen 0
      have cHK3_1 := HK3.out.cell (i := 1) rfl
      have zHK3_1 := HK3.out.frozen 1
      have cHK3_2 := HK3.out.cell (i := 2) rfl
      have zHK3_2 := HK3.out.frozen 2
      have cHK3_3 := HK3.out.cell (i := 3) rfl
      have zHK3_3 := HK3.out.frozen 3
      have cHK3_4 := HK3.out.cell (i := 4) rfl
      have zHK3_4 := HK3.out.frozen 4
      have cHK3_5 := HK3.out.cell (i := 5) rfl
      have zHK3_5 := HK3.out.frozen 5
      by_cases hs0 : s = 0
      · subst hs0
        obtain ⟨⟨bk', gt', ys, rr, zz⟩, hz⟩ : ∃ q, takeFrom kk cr bk st gt xs = q := ⟨_, rfl⟩
        obtain ⟨hb1, hb2⟩ := take_b hz hbk hgt
        have hyl := takeFrom_len hz
        rw [HL.out] at hyl
        have HZ := Lib.hid hz
        clear hz
        go_wp2_with fail
        refine (r_sTakeFrom kk cr bk st gt A1 n c1 xs _ bk' gt' ys rr zz HL.out (by omega) hcr.i64 hbk.i64 hst.i64 hgt.i64 (own_rowD lenR HW.out HL.out) HZ.out).mono ?_
        rintro _ W9 ⟨Aq, nq, cq, rfl, hlq, hcq, hmq, hOq, pq, hpq⟩
        have HLQ := Lib.hid hlq
        have hnq : nq ≤ n + 1 := by rw [← hlq]; omega
        have b1 : Cur g W9 := by rw [hpq]; exact (HC.out).later _
        have b2 : w.grownBy W9 (some g) := by rw [hpq]; exact grown_later (HG.out) _
        have b3 := Blk.to hpq (HK2.out)
        have b4 := Blk.to hpq (HK3.out)
        have b5 := Lib.hid (ownsRow_lo hOq (base' := g3 + 1) (by omega))
        clear HC HG HK2 HK3 HW hlq hpq hOq lHK3 cHK3_0 zHK3_0 cHK3_1 zHK3_1 cHK3_2 zHK3_2 cHK3_3 zHK3_3 cHK3_4 zHK3_4 cHK3_5 zHK3_5
        have HC := Lib.hid b1
        have HG := Lib.hid b2
        have HK2 := Lib.hid b3
        have HK3 := Lib.hid b4
        have HO := b5
        clear b1 b2 b3 b4 b5
        have hs9 : w.heap.size ≤ W9.heap.size := HG.out.size
        have lHK3 : g3 < W9.heap.size := HK3.out.lt
        have cHK3_0 := HK3.out.cell (i := 0) rfl
        have zHK3_0 := HK3.out.frozen 0
        have cHK3_1 := HK3.out.cell (i := 1) rfl
        have zHK3_1 := HK3.out.frozen 1
        have cHK3_2 := HK3.out.cell (i := 2) rfl
        have zHK3_2 := HK3.out.frozen 2
        have cHK3_3 := HK3.out.cell (i := 3) rfl
        have zHK3_3 := HK3.out.frozen 3
        have cHK3_4 := HK3.out.cell (i := 4) rfl
        have zHK3_4 := HK3.out.frozen 4
        have cHK3_5 := HK3.out.cell (i := 5) rfl
        have zHK3_5 := HK3.out.frozen 5
        go_wp2_with fail
        go_roundw
        case rel => exact ⟨j + 1, nq, cr, bk', st, gt', Aq, cq, ys, by go_num, by omega, HLQ.out, by omega, hcr, hb1, hst, hb2, (by (repeat (first | with_reducible exact HC.out | with_reducible refine Cur.setOther ?_ (by omega) _ _)); done), (by (repeat (first | with_reducible exact HG.out | with_reducible refine grown_set ?_ (by omega) _ _)); done), (by (repeat (first | with_reducible exact HK2.out | with_reducible refine Blk.other ?_ (by simp; omega) _)); done), (((((((HK3.out.set 0 _).set 1 _).set 2 _).set 3 _).set 4 _).set 5 _).conv rfl), ((by (repeat (first | with_reducible exact HO.out | with_reducible refine ownsRow_set ?_ _ _ (ownsRow_ne_low HO.out (by dsimp only; omega)))); done) : World.ownsRow _ (g3 + 1) _ _ _ _ _)⟩
        case measure => simp [intOf]; omega
      · by_cases hs1 : s = 1
        · subst hs1
          obtain ⟨⟨cr', bk', zz⟩, hz⟩ : ∃ q, creditBack kk cr bk st gt xs = q := ⟨_, rfl⟩
          obtain ⟨hb1, hb2⟩ := back_b hz hcr hbk
          have hyl : xs.length ≤ n := by rw [HL.out]; exact Nat.le_refl _
          obtain ⟨ys, rfl⟩ : ∃ ys, ys = xs := ⟨_, rfl⟩
          have HZ := Lib.hid hz
          clear hz
          go_wp2_with fail
          refine (c_sCreditBack kk cr bk st gt A1 n c1 ys _ cr' bk' zz HL.out (by omega) hcr.i64 hbk.i64 hst.i64 hgt.i64 (own_rowD lenR HW.out HL.out) HZ.out).mono ?_
          rintro _ W9 ⟨Aq, nq, cq, rfl, hlq, hcq, hmq, hOq, pq, hpq⟩
          have HLQ := Lib.hid hlq
          have hnq : nq ≤ n + 1 := by rw [← hlq]; omega
          have b1 : Cur g W9 := by rw [hpq]; exact (HC.out).later _
          have b2 : w.grownBy W9 (some g) := by rw [hpq]; exact grown_later (HG.out) _
          have b3 := Blk.to hpq (HK2.out)
          have b4 := Blk.to hpq (HK3.out)
          have b5 := Lib.hid (ownsRow_lo hOq (base' := g3 + 1) (by omega))
          clear HC HG HK2 HK3 HW hlq hpq hOq lHK3 cHK3_0 zHK3_0 cHK3_1 zHK3_1 cHK3_2 zHK3_2 cHK3_3 zHK3_3 cHK3_4 zHK3_4 cHK3_5 zHK3_5
          have HC := Lib.hid b1
          have HG := Lib.hid b2
          have HK2 := Lib.hid b3
          have HK3 := Lib.hid b4
          have HO := b5
          clear b1 b2 b3 b4 b5
          have hs9 : w.heap.size ≤ W9.heap.size := HG.out.size
          have lHK3 : g3 < W9.heap.size := HK3.out.lt
          have cHK3_0 := HK3.out.cell (i := 0) rfl
          have zHK3_0 := HK3.out.frozen 0
          have cHK3_1 := HK3.out.cell (i := 1) rfl
          have zHK3_1 := HK3.out.frozen 1
          have cHK3_2 := HK3.out.cell (i := 2) rfl
          have zHK3_2 := HK3.out.frozen 2
          have cHK3_3 := HK3.out.cell (i := 3) rfl
          have zHK3_3 := HK3.out.frozen 3
          have cHK3_4 := HK3.out.cell (i := 4) rfl
          have zHK3_4 := HK3.out.frozen 4
          have cHK3_5 := HK3.out.cell (i := 5) rfl
          have zHK3_5 := HK3.out.frozen 5
          go_wp2_with fail
          go_roundw
          case rel => exact ⟨j + 1, nq, cr', bk', st, gt, Aq, cq, ys, by go_num, by omega, HLQ.out, by omega, hb1, hb2, hst, hgt, (by (repeat (first | with_reducible exact HC.out | with_reducible refine Cur.setOther ?_ (by omega) _ _)); done), (by (repeat (first | with_reducible exact HG.out | with_reducible refine grown_set ?_ (by omega) _ _)); done), (by (repeat (first | with_reducible exact HK2.out | with_reducible refine Blk.other ?_ (by simp; omega) _)); done), (((((((HK3.out.set 0 _).set 1 _).set 2 _).set 3 _).set 4 _).set 5 _).conv rfl), ((by (repeat (first | with_reducible exact HO.out | with_reducible refine ownsRow_set ?_ _ _ (ownsRow_ne_low HO.out (by dsimp only; omega)))); done) : World.ownsRow _ (g3 + 1) _ _ _ _ _)⟩
          case measure => simp [intOf]; omega
        ·
          have hb0 : (s == 0) = false := by simpa using hs0
          have hb1 : (s == 1) = false := by simpa using hs1
          go_wp2_with fail
          with_reducible refine wp_region_plt_any (Plt.pick 1 (Plt.two 0 (Plt.one 2 (Plt.one 3 (Plt.pick 4 (Plt.pick 5 (Plt.pick 6 (Plt.one 7 Plt.nil)))))) 2 (Plt.one 0 (Plt.one 3 (Plt.pick 4 (Plt.pick 5 (Plt.pick 6 (Plt.one 7 Plt.nil)))))))) (by kernel_rfl) (by kernel_rfl) ?_
          (repeat (refine wpPlt_pick (fun J hJ => ?_); simp only [List.getD_cons_zero, List.getD_cons_succ]; go_simp; refine hJ _ ?_; clear hJ J))
          refine wpPlt_two (fun J hJ => ?_) (fun J hJ => ?_)
          · simp only [List.getD_cons_zero]
            go_wp2_with fail
            refine onward_any (hJ _ _ ?_)
            clear hJ J
            refine wpPlt_one (fun J hJ => ?_)
            simp only [List.getD_cons_zero, List.getD_cons_succ]
            go_wp2_with fail
            refine (c_l05Record g _ (Cur.drew HC.out)).mono ?_
            rintro _ W7 ⟨_, rfl, ⟨o, a, b, k, e, rfl, -, -, -, -, -⟩, hc2, hg2⟩
            have b1 := hc2
            have b2 := grownBy_trans (grown_drew HG.out) hg2
            have b3 := (Blk.drew HK2.out).grown hg2 (by simp; omega)
            have b4 := (Blk.drew HK3.out).grown hg2 (by simp; omega)
            have b5 := (World.ownsRow.drew HW.out).kept hg2 (.inr (fun e => by have := (HW.out.lt _ e).1; omega))
            clear HC HG HK2 HK3 HW hc2 hg2 lHK3 cHK3_0 zHK3_0 cHK3_1 zHK3_1 cHK3_2 zHK3_2 cHK3_3 zHK3_3 cHK3_4 zHK3_4 cHK3_5 zHK3_5
            have HC := Lib.hid b1
            have HG := Lib.hid b2
            have HK2 := Lib.hid b3
            have HK3 := Lib.hid b4
            have HW := Lib.hid b5
            clear b1 b2 b3 b4 b5
            have lHK3 : g3 < W7.heap.size := HK3.out.lt
            have cHK3_0 := HK3.out.cell (i := 0) rfl
            have zHK3_0 := HK3.out.frozen 0
            have cHK3_1 := HK3.out.cell (i := 1) rfl
            have zHK3_1 := HK3.out.frozen 1
            have cHK3_2 := HK3.out.cell (i := 2) rfl
            have zHK3_2 := HK3.out.frozen 2
            have cHK3_3 := HK3.out.cell (i := 3) rfl
            have zHK3_3 := HK3.out.frozen 3
            have cHK3_4 := HK3.out.cell (i := 4) rfl
            have zHK3_4 := HK3.out.frozen 4
            have cHK3_5 := HK3.out.cell (i := 5) rfl
            have zHK3_5 := HK3.out.frozen 5
            have hs7 : w.heap.size ≤ W7.heap.size := HG.out.size
            have hg7 : g < W7.heap.size := HC.out.lt
            go_wp2_with fail
            refine onward_any (hJ _ _ ?_)
            clear hJ J
            refine wpPlt_one (fun J hJ => ?_)
            simp only [List.getD_cons_zero, List.getD_cons_succ]
            obtain ⟨⟨cr', st', ys, zz⟩, hz⟩ : ∃ q, sendOn kk cr bk st gt xs (o, (a, b), k, e) = q := ⟨_, rfl⟩
            obtain ⟨hq1, hq2⟩ := send_b hz hcr hst
            have hyl := sendOn_len hz
            rw [HL.out] at hyl
            have HZ := Lib.hid hz
            clear hz
            go_wp2_with fail
            refine (r_sSendOn kk cr bk st gt A1 n c1 xs o a b k e _ cr' st' ys zz HL.out (by omega) hcr.i64 hbk.i64 hst.i64 hgt.i64 (own_rowD lenR HW.out HL.out) HZ.out).mono ?_
            rintro _ W9 ⟨Aq, nq, cq, rfl, hlq, hcq, hmq, hOq, pq, hpq⟩
            have HLQ := Lib.hid hlq
            have hnq : nq ≤ n + 1 := by rw [← hlq]; omega
            have b1 : Cur g W9 := by rw [hpq]; exact (HC.out).later _
            have b2 : w.grownBy W9 (some g) := by rw [hpq]; exact grown_later (HG.out) _
            have b3 := Blk.to hpq (HK2.out)
            have b4 := Blk.to hpq (HK3.out)
            have b5 := Lib.hid (ownsRow_lo hOq (base' := g3 + 1) (by omega))
            clear HC HG HK2 HK3 HW hlq hpq hOq lHK3 cHK3_0 zHK3_0 cHK3_1 zHK3_1 cHK3_2 zHK3_2 cHK3_3 zHK3_3 cHK3_4 zHK3_4 cHK3_5 zHK3_5
            have HC := Lib.hid b1
            have HG := Lib.hid b2
            have HK2 := Lib.hid b3
            have HK3 := Lib.hid b4
            have HO := b5
            clear b1 b2 b3 b4 b5
            have hs9 : w.heap.size ≤ W9.heap.size := HG.out.size
            have lHK3 : g3 < W9.heap.size := HK3.out.lt
            have cHK3_0 := HK3.out.cell (i := 0) rfl
            have zHK3_0 := HK3.out.frozen 0
            have cHK3_1 := HK3.out.cell (i := 1) rfl
            have zHK3_1 := HK3.out.frozen 1
            have cHK3_2 := HK3.out.cell (i := 2) rfl
            have zHK3_2 := HK3.out.frozen 2
            have cHK3_3 := HK3.out.cell (i := 3) rfl
            have zHK3_3 := HK3.out.frozen 3
            have cHK3_4 := HK3.out.cell (i := 4) rfl
            have zHK3_4 := HK3.out.frozen 4
            have cHK3_5 := HK3.out.cell (i := 5) rfl
            have zHK3_5 := HK3.out.frozen 5
            go_wp2_with fail
            refine onward_any (hJ _ _ ?_)
            clear hJ J
            (repeat (refine wpPlt_pick (fun J hJ => ?_); simp only [List.getD_cons_zero, List.getD_cons_succ]; go_simp; refine hJ _ ?_; clear hJ J))
            refine wpPlt_one (fun J hJ => ?_)
            simp only [List.getD_cons_zero, List.getD_cons_succ]
            go_wp2_with fail
            refine onward_any (hJ _ _ ?_)
            clear hJ J
            (repeat (refine wpPlt_pick (fun J hJ => ?_); simp only [List.getD_cons_zero, List.getD_cons_succ]; go_simp; refine hJ _ ?_; clear hJ J))
            refine wpPlt_nil ?_
            go_wp2_with fail
            go_roundw
            case rel => exact ⟨j + 1, nq, cr', bk, st', gt, Aq, cq, ys, by go_num, by omega, HLQ.out, by omega, hq1, hbk, hq2, hgt, (by (repeat (first | with_reducible exact HC.out | with_reducible refine Cur.setOther ?_ (by omega) _ _)); done), (by (repeat (first | with_reducible exact HG.out | with_reducible refine grown_set ?_ (by omega) _ _)); done), (by (repeat (first | with_reducible exact HK2.out | with_reducible refine Blk.other ?_ (by simp; omega) _)); done), (((((((HK3.out.set 0 _).set 1 _).set 2 _).set 3 _).set 4 _).set 5 _).conv rfl), ((by (repeat (first | with_reducible exact HO.out | with_reducible refine ownsRow_set ?_ _ _ (ownsRow_ne_low HO.out (by dsimp only; omega)))); done) : World.ownsRow _ (g3 + 1) _ _ _ _ _)⟩
            case measure => simp [intOf]; omega
          · simp only [List.getD_cons_zero, List.getD_cons_succ]
            go_wp2_with fail
            refine (c_l05Record g _ (Cur.drew HC.out)).mono ?_
            rintro _ W7 ⟨_, rfl, ⟨o, a, b, k, e, rfl, -, -, -, -, -⟩, hc2, hg2⟩
            have b1 := hc2
            have b2 := grownBy_trans (grown_drew HG.out) hg2
            have b3 := (Blk.drew HK2.out).grown hg2 (by simp; omega)
            have b4 := (Blk.drew HK3.out).grown hg2 (by simp; omega)
            have b5 := (World.ownsRow.drew HW.out).kept hg2 (.inr (fun e => by have := (HW.out.lt _ e).1; omega))
            clear HC HG HK2 HK3 HW hc2 hg2 lHK3 cHK3_0 zHK3_0 cHK3_1 zHK3_1 cHK3_2 zHK3_2 cHK3_3 zHK3_3 cHK3_4 zHK3_4 cHK3_5 zHK3_5
            have HC := Lib.hid b1
            have HG := Lib.hid b2
            have HK2 := Lib.hid b3
            have HK3 := Lib.hid b4
            have HW := Lib.hid b5
            clear b1 b2 b3 b4 b5
            have lHK3 : g3 < W7.heap.size := HK3.out.lt
            have cHK3_0 := HK3.out.cell (i := 0) rfl
            have zHK3_0 := HK3.out.frozen 0
            have cHK3_1 := HK3.out.cell (i := 1) rfl
            have zHK3_1 := HK3.out.frozen 1
            have cHK3_2 := HK3.out.cell (i := 2) rfl
            have zHK3_2 := HK3.out.frozen 2
            have cHK3_3 := HK3.out.cell (i := 3) rfl
            have zHK3_3 := HK3.out.frozen 3
            have cHK3_4 := HK3.out.cell (i := 4) rfl
            have zHK3_4 := HK3.out.frozen 4
            have cHK3_5 := HK3.out.cell (i := 5) rfl
            have zHK3_5 := HK3.out.frozen 5
            have hs7 : w.heap.size ≤ W7.heap.size := HG.out.size
            have hg7 : g < W7.heap.size := HC.out.lt
            go_wp2_with fail
            refine onward_any (hJ _ _ ?_)
            clear hJ J
            refine wpPlt_one (fun J hJ => ?_)
            simp only [List.getD_cons_zero]
            go_wp2_with fail
            refine onward_any (hJ _ _ ?_)
            clear hJ J
            refine wpPlt_one (fun J hJ => ?_)
            simp only [List.getD_cons_zero, List.getD_cons_succ]
            obtain ⟨⟨cr', st', ys, zz⟩, hz⟩ : ∃ q, sendOn kk cr bk st gt xs (o, (a, b), k, e) = q := ⟨_, rfl⟩
            obtain ⟨hq1, hq2⟩ := send_b hz hcr hst
            have hyl := sendOn_len hz
            rw [HL.out] at hyl
            have HZ := Lib.hid hz
            clear hz
            go_wp2_with fail
            refine (r_sSendOn kk cr bk st gt A1 n c1 xs o a b k e _ cr' st' ys zz HL.out (by omega) hcr.i64 hbk.i64 hst.i64 hgt.i64 (own_rowD lenR HW.out HL.out) HZ.out).mono ?_
            rintro _ W9 ⟨Aq, nq, cq, rfl, hlq, hcq, hmq, hOq, pq, hpq⟩
            have HLQ := Lib.hid hlq
            have hnq : nq ≤ n + 1 := by rw [← hlq]; omega
            have b1 : Cur g W9 := by rw [hpq]; exact (HC.out).later _
            have b2 : w.grownBy W9 (some g) := by rw [hpq]; exact grown_later (HG.out) _
            have b3 := Blk.to hpq (HK2.out)
            have b4 := Blk.to hpq (HK3.out)
            have b5 := Lib.hid (ownsRow_lo hOq (base' := g3 + 1) (by omega))
            clear HC HG HK2 HK3 HW hlq hpq hOq lHK3 cHK3_0 zHK3_0 cHK3_1 zHK3_1 cHK3_2 zHK3_2 cHK3_3 zHK3_3 cHK3_4 zHK3_4 cHK3_5 zHK3_5
            have HC := Lib.hid b1
            have HG := Lib.hid b2
            have HK2 := Lib.hid b3
            have HK3 := Lib.hid b4
            have HO := b5
            clear b1 b2 b3 b4 b5
            have hs9 : w.heap.size ≤ W9.heap.size := HG.out.size
            have lHK3 : g3 < W9.heap.size := HK3.out.lt
            have cHK3_0 := HK3.out.cell (i := 0) rfl
            have zHK3_0 := HK3.out.frozen 0
            have cHK3_1 := HK3.out.cell (i := 1) rfl
            have zHK3_1 := HK3.out.frozen 1
            have cHK3_2 := HK3.out.cell (i := 2) rfl
            have zHK3_2 := HK3.out.frozen 2
            have cHK3_3 := HK3.out.cell (i := 3) rfl
            have zHK3_3 := HK3.out.frozen 3
            have cHK3_4 := HK3.out.cell (i := 4) rfl
            have zHK3_4 := HK3.out.frozen 4
            have cHK3_5 := HK3.out.cell (i := 5) rfl
            have zHK3_5 := HK3.out.frozen 5
            go_wp2_with fail
            refine onward_any (hJ _ _ ?_)
            clear hJ J
            (repeat (refine wpPlt_pick (fun J hJ => ?_); simp only [List.getD_cons_zero, List.getD_cons_succ]; go_simp; refine hJ _ ?_; clear hJ J))
            refine wpPlt_one (fun J hJ => ?_)
            simp only [List.getD_cons_zero, List.getD_cons_succ]
            go_wp2_with fail
            refine onward_any (hJ _ _ ?_)
            clear hJ J
            (repeat (refine wpPlt_pick (fun J hJ => ?_); simp only [List.getD_cons_zero, List.getD_cons_succ]; go_simp; refine hJ _ ?_; clear hJ J))
            refine wpPlt_nil ?_
            go_wp2_with fail
            go_roundw
            case rel => exact ⟨j + 1, nq, cr', bk, st', gt, Aq, cq, ys, by go_num, by omega, HLQ.out, by omega, hq1, hbk, hq2, hgt, (by (repeat (first | with_reducible exact HC.out | with_reducible refine Cur.setOther ?_ (by omega) _ _)); done), (by (repeat (first | with_reducible exact HG.out | with_reducible refine grown_set ?_ (by omega) _ _)); done), (by (repeat (first | with_reducible exact HK2.out | with_reducible refine Blk.other ?_ (by simp; omega) _)); done), (((((((HK3.out.set 0 _).set 1 _).set 2 _).set 3 _).set 4 _).set 5 _).conv rfl), ((by (repeat (first | with_reducible exact HO.out | with_reducible refine ownsRow_set ?_ _ _ (ownsRow_ne_low HO.out (by dsimp only; omega)))); done) : World.ownsRow _ (g3 + 1) _ _ _ _ _)⟩
            case measure => simp [intOf]; omega
    · have l3 := HK3.out.lt
      have hs5 : w.heap.size ≤ W5.heap.size := HG.out.size
      have lHK2 : w.heap.size < W5.heap.size := HK2.out.lt
      have cHK2_0 := HK2.out.cell (i := 0) rfl
      have zHK2_0 := HK2.out.frozen 0
      have cHK2_1 := HK2.out.cell (i := 1) rfl
      have zHK2_1 := HK2.out.frozen 1
      have cHK2_2 := HK2.out.cell (i := 2) rfl
      have zHK2_2 := HK2.out.frozen 2
      have cHK2_3 := HK2.out.cell (i := 3) rfl
      have zHK2_3 := HK2.out.frozen 3
      have cHK2_4 := HK2.out.cell (i := 4) rfl
      have zHK2_4 := HK2.out.frozen 4
      have cHK2_5 := HK2.out.cell (i := 5) rfl
      have zHK2_5 := HK2.out.frozen 5
      have lHK3 : g3 < W5.heap.size := HK3.out.lt
      have cHK3_0 := HK3.out.cell (i := 0) rfl
      have zHK3_0 := HK3.out.frozen 0
      have cHK3_1 := HK3.out.cell (i := 1) rfl
      have zHK3_1 := HK3.out.frozen 1
      have cHK3_2 := HK3.out.cell (i := 2) rfl
      have zHK3_2 := HK3.out.frozen 2
      have cHK3_3 := HK3.out.cell (i := 3) rfl
      have zHK3_3 := HK3.out.frozen 3
      have cHK3_4 := HK3.out.cell (i := 4) rfl
      have zHK3_4 := HK3.out.frozen 4
      have cHK3_5 := HK3.out.cell (i := 5) rfl
      have zHK3_5 := HK3.out.frozen 5
      go_wp2_with fail
      refine bp_anchor (F := fun V => Cur g V ∧ w.grownBy V (some g) ∧ Blk w.heap.size [.int .i64 kk, .slice A1 n c1, .int .i64 cr, .int .i64 bk, .int .i64 st, .int .i64 gt] 28 V ∧ V.ownsRow w.heap.size 33 5 (.slice A1 n c1) n (xs.flatMap encR)) ⟨(by (repeat (first | with_reducible exact HC.out | with_reducible refine Cur.setOther ?_ (by omega) _ _)); done), (by (repeat (first | with_reducible exact HG.out | with_reducible refine grown_set ?_ (by omega) _ _)); done), (((((((HK2.out.set 0 _).set 1 _).set 2 _).set 3 _).set 4 _).set 5 _).conv rfl), ownsRow_lo ((by (repeat (first | with_reducible exact HW.out | with_reducible refine ownsRow_set ?_ _ _ (ownsRow_ne_low HW.out (by dsimp only; omega)))); done) : World.ownsRow _ (g3 + 1) _ _ _ _ _) (by omega)⟩ (fun V hV => ?_)
      obtain ⟨r1, r2, r3, r4⟩ := hV
      have f0 := r3.cell (i := 0) rfl
      have f1 := r3.cell (i := 1) rfl
      have f2 := r3.cell (i := 2) rfl
      have f3 := r3.cell (i := 3) rfl
      have f4 := r3.cell (i := 4) rfl
      have f5 := r3.cell (i := 5) rfl
      refine bodyPost_ret (v := .agg #[.int .i64 kk, .slice A1 n c1, .int .i64 cr, .int .i64 bk, .int .i64 st, .int .i64 gt]) (by simp [results, Try.results47, go_sem, f0, f1, f2, f3, f4, f5]) rfl ?_
      exact ⟨kk, cr, bk, st, gt, A1, n, c1, xs, rfl, HL.out, by omega, hcr, hbk, hst, hgt, r4, r1, r2⟩

end Go.Proofs.Ytcmhmdccfihhiaa
