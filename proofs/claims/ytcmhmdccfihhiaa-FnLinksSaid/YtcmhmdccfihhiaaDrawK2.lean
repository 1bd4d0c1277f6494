/-
  What the reference draws: any link. Conditions: none.
-/
import Derived.Test.YtcmhmdccfihhiaaDrawK
namespace Go.Proofs.Ytcmhmdccfihhiaa
open Go.RowKit
set_option linter.unusedVariables false
set_option maxRecDepth 20000
theorem ownsRow_at {w : World} {base : Nat} {E : TypeId} {size n g : Nat} {v : Value} {xs : List Value} (h : w.ownsRow base E size v n xs) (hne : some g ≠ v.ownBlock) (i : Nat) (u : Value) : (w.setCell ⟨g, i, Option.none⟩ u).ownsRow base E size v n xs := ownsRow_set h _ u (fun e => hne e.symm)
set_option maxHeartbeats 6400000 in
theorem c_l06Any (g : Nat) (w : World) (hc : Cur g w) : Calls Try.prog 32 #[.pointer (some ⟨g, 0, Option.none⟩)] w (DrawnK g 9 w) := by
  have HC := Lib.hid hc
  have HG := Lib.hid (grown_refl w (some g))
  have hgw := hc.lt
  clear hc
  go_enter Try.func32, Try.ntmps32
  obtain ⟨i0, hi0, hz0, hs0, hb0⟩ := info_parts infoRcd
  have HI := Lib.hid hi0
  have HZ := Lib.hid hz0
  have HS := Lib.hid hs0
  have HB := Lib.hid hb0
  clear hi0 hz0 hs0 hb0
  go_wp2_with fail
  refine (c_l06Link g _ (HC.out.alloc _)).mono ?_
  rintro _ W1 ⟨kk, cr, bk, st, gt, A1, n, c1, xs, rfl, hL, hn8, hcr, hbk, hst, hgt, hW, hC, hG⟩
  have HL := Lib.hid hL
  have hs1 : w.heap.size < W1.heap.size := Nat.lt_of_lt_of_le (by simp) hG.size
  have b2 := grownBy_trans (grown_alloc HG.out _) hG
  have b3 : Blk w.heap.size [.int .i64 0, .slice Option.none 0 0, .int .i64 0, .int .i64 0, .int .i64 0, .int .i64 0] 28 W1 := (Blk.new _ _ [.int .i64 0, .slice Option.none 0 0, .int .i64 0, .int .i64 0, .int .i64 0, .int .i64 0] _ rfl).grown hG (by simp; omega)
  have b5 := ownsRow_lo hW (base' := w.heap.size + 1) (by simp)
  clear HC HG hW hG hL
  obtain ⟨g3, hg3⟩ : ∃ g3, W1.heap.size = g3 := ⟨_, rfl⟩
  have hgW := hC.lt
  have hgg3 : g < g3 := by omega
  have hwg3 : w.heap.size < g3 := by omega
  have ne1 : ¬ w.heap.size = g3 := by omega
  have ne2 : ¬ g3 = w.heap.size := by omega
  have HC := Lib.hid hC
  have HG := Lib.hid b2
  have HK2 := Lib.hid b3
  have HW := Lib.hid b5
  clear b2 b3 b5 hC
  go_wp2_with fail
  refine calls_anchor (F := fun V => Cur g V ∧ w.grownBy V (some g) ∧ Blk w.heap.size [.int .i64 0, .slice Option.none 0 0, .int .i64 0, .int .i64 0, .int .i64 0, .int .i64 0] 28 V ∧ Blk g3 [.int .i64 kk, .slice A1 n c1, .int .i64 cr, .int .i64 bk, .int .i64 st, .int .i64 gt] 28 V ∧ V.ownsRow (w.heap.size + 1) 33 5 (.slice A1 n c1) n (xs.flatMap encR) ∧ some g3 ≠ Value.ownBlock (.slice A1 n c1)) ⟨HC.out.alloc _, grown_alloc HG.out _, HK2.out.alloc _, Blk.new _ _ [.int .i64 kk, .slice A1 n c1, .int .i64 cr, .int .i64 bk, .int .i64 st, .int .i64 gt] _ hg3.symm, HW.out.alloc _, fun e => by have := (HW.out.lt _ e.symm).2; omega⟩ (fun V hV => ?_)
  obtain ⟨b1, b2, b3, b4, b5, hne3⟩ := hV
  clear HC HG HK2 HW hg3 hgW hs1
  have HC := Lib.hid b1
  have HG := Lib.hid b2
  have HK2 := Lib.hid b3
  have HK3 := Lib.hid b4
  have HW := Lib.hid b5
  clear b1 b2 b3 b4 b5
  have lHK2 : w.heap.size < V.heap.size := HK2.out.lt
  have cHK2_0 := HK2.out.cell (i := 0) rfl
  have zHK2_0 := HK2.out.frozen 0
  have cHK2_1 := HK2.out.cell (i := 1) rfl
  have zHK2_1 := HK2.out.frozen 1
  have cHK2_2 := HK2.out.cell (i := 2) rfl
  have zHK2_2 := HK2.out.frozen 2
  have cHK2_3 := HK2.out.cell (i := 3) rfl
  have zHK2_3 := HK2.out.frozen 3
  have cHK2_4 := HK2.out.cell (i := 4) rfl
  have zHK2_4 := HK2.out.frozen 4
  have cHK2_5 := HK2.out.cell (i := 5) rfl
  have zHK2_5 := HK2.out.frozen 5
  have lHK3 : g3 < V.heap.size := HK3.out.lt
  have cHK3_0 := HK3.out.cell (i := 0) rfl
  have zHK3_0 := HK3.out.frozen 0
  have cHK3_1 := HK3.out.cell (i := 1) rfl
  have zHK3_1 := HK3.out.frozen 1
  have cHK3_2 := HK3.out.cell (i := 2) rfl
  have zHK3_2 := HK3.out.frozen 2
  have cHK3_3 := HK3.out.cell (i := 3) rfl
  have zHK3_3 := HK3.out.frozen 3
  have cHK3_4 := HK3.out.cell (i := 4) rfl
  have zHK3_4 := HK3.out.frozen 4
  have cHK3_5 := HK3.out.cell (i := 5) rfl
  have zHK3_5 := HK3.out.frozen 5
  refine (c_below _ 14 _ HC.out (by unfold I64; omega)).mono ?_
  rintro _ W3 ⟨_, rfl, ⟨s, rfl, hs, hs2, -⟩, hc2, hg2⟩
  clear hs2
  have b1 := hc2
  have b2 := grownBy_trans HG.out hg2
  have b3 := HK2.out.grown hg2 (by simp; omega)
  have b4 := HK3.out.grown hg2 (by simp; omega)
  have b5 := HW.out.kept hg2 (.inr (fun e => by have := (HW.out.lt _ e).1; omega))
  clear HC HG HK2 HK3 HW hc2 hg2 lHK2 cHK2_0 zHK2_0 cHK2_1 zHK2_1 cHK2_2 zHK2_2 cHK2_3 zHK2_3 cHK2_4 zHK2_4 cHK2_5 zHK2_5 lHK3 cHK3_0 zHK3_0 cHK3_1 zHK3_1 cHK3_2 zHK3_2 cHK3_3 zHK3_3 cHK3_4 zHK3_4 cHK3_5 zHK3_5
  have HC := Lib.hid b1
  have HG := Lib.hid b2
  have HK2 := Lib.hid b3
  have HK3 := Lib.hid b4
  have HW := Lib.hid b5
  clear b1 b2 b3 b4 b5
  have lHK2 : w.heap.size < W3.heap.size := HK2.out.lt
  have cHK2_0 := HK2.out.cell (i := 0) rfl
  have zHK2_0 := HK2.out.frozen 0
  have cHK2_1 := HK2.out.cell (i := 1) rfl
  have zHK2_1 := HK2.out.frozen 1
  have cHK2_2 := HK2.out.cell (i := 2) rfl
  have zHK2_2 := HK2.out.frozen 2
  have cHK2_3 := HK2.out.cell (i := 3) rfl
  have zHK2_3 := HK2.out.frozen 3
  have cHK2_4 := HK2.out.cell (i := 4) rfl
  have zHK2_4 := HK2.out.frozen 4
  have cHK2_5 := HK2.out.cell (i := 5) rfl
  have zHK2_5 := HK2.out.frozen 5
  have lHK3 : g3 < W3.heap.size := HK3.out.lt
  have cHK3_0 := HK3.out.cell (i := 0) rfl
  have zHK3_0 := HK3.out.frozen 0
  have cHK3_1 := HK3.out.cell (i := 1) rfl
  have zHK3_1 := HK3.out.frozen 1
  have cHK3_2 := HK3.out.cell (i := 2) rfl
  have zHK3_2 := HK3.out.frozen 2
  have cHK3_3 := HK3.out.cell (i := 3) rfl
  have zHK3_3 := HK3.out.frozen 3
  have cHK3_4 := HK3.out.cell (i := 4) rfl
  have zHK3_4 := HK3.out.frozen 4
  have cHK3_5 := HK3.out.cell (i := 5) rfl
  have zHK3_5 := HK3.out.frozen 5
  have hg_W3 : g < W3.heap.size := HC.out.lt
  by_cases h0 : s = 0
  · subst h0
    go_wp2_with fail
    refine (c_below _ 6 _ HC.out (by unfold I64; omega)).mono ?_
    rintro _ W4 ⟨_, rfl, ⟨s2, rfl, hs0, hs2, -⟩, hc2, hg2⟩
    have hs3 := hs2 (by omega)
    clear hs2
    have b1 := hc2
    have b2 := grownBy_trans HG.out hg2
    have b3 := HK2.out.grown hg2 (by simp; omega)
    have b4 := HK3.out.grown hg2 (by simp; omega)
    have b5 := HW.out.kept hg2 (.inr (fun e => by have := (HW.out.lt _ e).1; omega))
    clear HC HG HK2 HK3 HW hc2 hg2 lHK2 cHK2_0 zHK2_0 cHK2_1 zHK2_1 cHK2_2 zHK2_2 cHK2_3 zHK2_3 cHK2_4 zHK2_4 cHK2_5 zHK2_5 lHK3 cHK3_0 zHK3_0 cHK3_1 zHK3_1 cHK3_2 zHK3_2 cHK3_3 zHK3_3 cHK3_4 zHK3_4 cHK3_5 zHK3_5
    have HC := Lib.hid b1
    have HG := Lib.hid b2
    have HK2 := Lib.hid b3
    have HK3 := Lib.hid b4
    have HW := Lib.hid b5
    clear b1 b2 b3 b4 b5
    have lHK2 : w.heap.size < W4.heap.size := HK2.out.lt
    have cHK2_0 := HK2.out.cell (i := 0) rfl
    have zHK2_0 := HK2.out.frozen 0
    have cHK2_1 := HK2.out.cell (i := 1) rfl
    have zHK2_1 := HK2.out.frozen 1
    have cHK2_2 := HK2.out.cell (i := 2) rfl
    have zHK2_2 := HK2.out.frozen 2
    have cHK2_3 := HK2.out.cell (i := 3) rfl
    have zHK2_3 := HK2.out.frozen 3
    have cHK2_4 := HK2.out.cell (i := 4) rfl
    have zHK2_4 := HK2.out.frozen 4
    have cHK2_5 := HK2.out.cell (i := 5) rfl
    have zHK2_5 := HK2.out.frozen 5
    have lHK3 : g3 < W4.heap.size := HK3.out.lt
    have cHK3_0 := HK3.out.cell (i := 0) rfl
    have zHK3_0 := HK3.out.frozen 0
    have cHK3_1 := HK3.out.cell (i := 1) rfl
    have zHK3_1 := HK3.out.frozen 1
    have cHK3_2 := HK3.out.cell (i := 2) rfl
    have zHK3_2 := HK3.out.frozen 2
    have cHK3_3 := HK3.out.cell (i := 3) rfl
    have zHK3_3 := HK3.out.frozen 3
    have cHK3_4 := HK3.out.cell (i := 4) rfl
    have zHK3_4 := HK3.out.frozen 4
    have cHK3_5 := HK3.out.cell (i := 5) rfl
    have zHK3_5 := HK3.out.frozen 5
    have hg_W4 : g < W4.heap.size := HC.out.lt
    go_wp2_with fail
    refine bp_anchor (F := fun V => Cur g V ∧ w.grownBy V (some g) ∧ Blk w.heap.size [.int .i64 kk, .slice A1 n c1, .int .i64 (s2 - 1), .int .i64 bk, .int .i64 st, .int .i64 gt] 28 V ∧ V.ownsRow w.heap.size 33 5 (.slice A1 n c1) n (xs.flatMap encR)) ⟨(by (repeat (first | with_reducible exact HC.out | with_reducible refine Cur.setOther ?_ (by omega) _ _)); done), (by (repeat (first | with_reducible exact HG.out | with_reducible refine grown_set ?_ (by omega) _ _)); done), ((((((((HK2.out.other (by dsimp only; omega) _).set 0 _).set 1 _).set 2 _).set 3 _).set 4 _).set 5 _).conv rfl), ownsRow_lo ((by (repeat (first | with_reducible exact HW.out | with_reducible refine ownsRow_set ?_ _ _ (ownsRow_ne_low HW.out (by dsimp only; omega)) | with_reducible refine ownsRow_at ?_ hne3 _ _)); done) : World.ownsRow _ (w.heap.size + 1) _ _ _ _ _) (by omega)⟩ (fun V hV => ?_)
    obtain ⟨r1, r2, r3, r4⟩ := hV
    have f0 := r3.cell (i := 0) rfl
    have f1 := r3.cell (i := 1) rfl
    have f2 := r3.cell (i := 2) rfl
    have f3 := r3.cell (i := 3) rfl
    have f4 := r3.cell (i := 4) rfl
    have f5 := r3.cell (i := 5) rfl
    refine bodyPost_ret (v := .agg #[.int .i64 kk, .slice A1 n c1, .int .i64 (s2 - 1), .int .i64 bk, .int .i64 st, .int .i64 gt]) (by simp [results, Try.results32, go_sem, f0, f1, f2, f3, f4, f5]) rfl ?_
    exact ⟨kk, (s2 - 1), bk, st, gt, A1, n, c1, xs, rfl, HL.out, by omega, (by unfold Bd; omega), hbk, hst, hgt, r4, r1, r2⟩
  have e0 : (s == 0) = false := by simpa using h0
  by_cases h1 : s = 1
  · subst h1
    go_wp2_with fail
    refine (c_below _ 6 _ HC.out (by unfold I64; omega)).mono ?_
    rintro _ W4 ⟨_, rfl, ⟨s2, rfl, hs0, hs2, -⟩, hc2, hg2⟩
    have hs3 := hs2 (by omega)
    clear hs2
    have b1 := hc2
    have b2 := grownBy_trans HG.out hg2
    have b3 := HK2.out.grown hg2 (by simp; omega)
    have b4 := HK3.out.grown hg2 (by simp; omega)
    have b5 := HW.out.kept hg2 (.inr (fun e => by have := (HW.out.lt _ e).1; omega))
    clear HC HG HK2 HK3 HW hc2 hg2 lHK2 cHK2_0 zHK2_0 cHK2_1 zHK2_1 cHK2_2 zHK2_2 cHK2_3 zHK2_3 cHK2_4 zHK2_4 cHK2_5 zHK2_5 lHK3 cHK3_0 zHK3_0 cHK3_1 zHK3_1 cHK3_2 zHK3_2 cHK3_3 zHK3_3 cHK3_4 zHK3_4 cHK3_5 zHK3_5
    have HC := Lib.hid b1
    have HG := Lib.hid b2
    have HK2 := Lib.hid b3
    have HK3 := Lib.hid b4
    have HW := Lib.hid b5
    clear b1 b2 b3 b4 b5
    have lHK2 : w.heap.size < W4.heap.size := HK2.out.lt
    have cHK2_0 := HK2.out.cell (i := 0) rfl
    have zHK2_0 := HK2.out.frozen 0
    have cHK2_1 := HK2.out.cell (i := 1) rfl
    have zHK2_1 := HK2.out.frozen 1
    have cHK2_2 := HK2.out.cell (i := 2) rfl
    have zHK2_2 := HK2.out.frozen 2
    have cHK2_3 := HK2.out.cell (i := 3) rfl
    have zHK2_3 := HK2.out.frozen 3
    have cHK2_4 := HK2.out.cell (i := 4) rfl
    have zHK2_4 := HK2.out.frozen 4
    have cHK2_5 := HK2.out.cell (i := 5) rfl
    have zHK2_5 := HK2.out.frozen 5
    have lHK3 : g3 < W4.heap.size := HK3.out.lt
    have cHK3_0 := HK3.out.cell (i := 0) rfl
    have zHK3_0 := HK3.out.frozen 0
    have cHK3_1 := HK3.out.cell (i := 1) rfl
    have zHK3_1 := HK3.out.frozen 1
    have cHK3_2 := HK3.out.cell (i := 2) rfl
    have zHK3_2 := HK3.out.frozen 2
    have cHK3_3 := HK3.out.cell (i := 3) rfl
    have zHK3_3 := HK3.out.frozen 3
    have cHK3_4 := HK3.out.cell (i := 4) rfl
    have zHK3_4 := HK3.out.frozen 4
    have cHK3_5 := HK3.out.cell (i := 5) rfl
    have zHK3_5 := HK3.out.frozen 5
    have hg_W4 : g < W4.heap.size := HC.out.lt
    go_wp2_with fail
    refine bp_anchor (F := fun V => Cur g V ∧ w.grownBy V (some g) ∧ Blk w.heap.size [.int .i64 kk, .slice A1 n c1, .int .i64 cr, .int .i64 (s2 - 1), .int .i64 st, .int .i64 gt] 28 V ∧ V.ownsRow w.heap.size 33 5 (.slice A1 n c1) n (xs.flatMap encR)) ⟨(by (repeat (first | with_reducible exact HC.out | with_reducible refine Cur.setOther ?_ (by omega) _ _)); done), (by (repeat (first | with_reducible exact HG.out | with_reducible refine grown_set ?_ (by omega) _ _)); done), ((((((((HK2.out.other (by dsimp only; omega) _).set 0 _).set 1 _).set 2 _).set 3 _).set 4 _).set 5 _).conv rfl), ownsRow_lo ((by (repeat (first | with_reducible exact HW.out | with_reducible refine ownsRow_set ?_ _ _ (ownsRow_ne_low HW.out (by dsimp only; omega)) | with_reducible refine ownsRow_at ?_ hne3 _ _)); done) : World.ownsRow _ (w.heap.size + 1) _ _ _ _ _) (by omega)⟩ (fun V hV => ?_)
    obtain ⟨r1, r2, r3, r4⟩ := hV
    have f0 := r3.cell (i := 0) rfl
    have f1 := r3.cell (i := 1) rfl
    have f2 := r3.cell (i := 2) rfl
    have f3 := r3.cell (i := 3) rfl
    have f4 := r3.cell (i := 4) rfl
    have f5 := r3.cell (i := 5) rfl
    refine bodyPost_ret (v := .agg #[.int .i64 kk, .slice A1 n c1, .int .i64 cr, .int .i64 (s2 - 1), .int .i64 st, .int .i64 gt]) (by simp [results, Try.results32, go_sem, f0, f1, f2, f3, f4, f5]) rfl ?_
    exact ⟨kk, cr, (s2 - 1), st, gt, A1, n, c1, xs, rfl, HL.out, by omega, hcr, (by unfold Bd; omega), hst, hgt, r4, r1, r2⟩
  have e1 : (s == 1) = false := by simpa using h1
  by_cases h2 : s = 2
  · subst h2
    go_wp2_with fail
    refine (c_pickInt g _ _ _ [-1, 0, 1000000000, 1000000001] _ (HC.out.alloc _) rfl (by decide) (by decide) (by exact row_new encI 1 lenI _ _ _) (ne_new HC.out.lt)).mono ?_
    rintro _ W4 ⟨_, rfl, ⟨v, hv, rfl⟩, hc2, hg2⟩
    have hvb : Bd v := by
      simp at hv
      unfold Bd
      omega
    clear hv
    have b1 := hc2
    have b2 := grownBy_trans (grown_alloc HG.out _) hg2
    have b3 := (HK2.out.alloc _).grown hg2 (by simp; omega)
    have b4 := (HK3.out.alloc _).grown hg2 (by simp; omega)
    have b5 := (HW.out.alloc _).kept hg2 (.inr (fun e => by have := (HW.out.lt _ e).1; omega))
    clear HC HG HK2 HK3 HW hc2 hg2 lHK2 cHK2_0 zHK2_0 cHK2_1 zHK2_1 cHK2_2 zHK2_2 cHK2_3 zHK2_3 cHK2_4 zHK2_4 cHK2_5 zHK2_5 lHK3 cHK3_0 zHK3_0 cHK3_1 zHK3_1 cHK3_2 zHK3_2 cHK3_3 zHK3_3 cHK3_4 zHK3_4 cHK3_5 zHK3_5
    have HC := Lib.hid b1
    have HG := Lib.hid b2
    have HK2 := Lib.hid b3
    have HK3 := Lib.hid b4
    have HW := Lib.hid b5
    clear b1 b2 b3 b4 b5
    have lHK2 : w.heap.size < W4.heap.size := HK2.out.lt
    have cHK2_0 := HK2.out.cell (i := 0) rfl
    have zHK2_0 := HK2.out.frozen 0
    have cHK2_1 := HK2.out.cell (i := 1) rfl
    have zHK2_1 := HK2.out.frozen 1
    have cHK2_2 := HK2.out.cell (i := 2) rfl
    have zHK2_2 := HK2.out.frozen 2
    have cHK2_3 := HK2.out.cell (i := 3) rfl
    have zHK2_3 := HK2.out.frozen 3
    have cHK2_4 := HK2.out.cell (i := 4) rfl
    have zHK2_4 := HK2.out.frozen 4
    have cHK2_5 := HK2.out.cell (i := 5) rfl
    have zHK2_5 := HK2.out.frozen 5
    have lHK3 : g3 < W4.heap.size := HK3.out.lt
    have cHK3_0 := HK3.out.cell (i := 0) rfl
    have zHK3_0 := HK3.out.frozen 0
    have cHK3_1 := HK3.out.cell (i := 1) rfl
    have zHK3_1 := HK3.out.frozen 1
    have cHK3_2 := HK3.out.cell (i := 2) rfl
    have zHK3_2 := HK3.out.frozen 2
    have cHK3_3 := HK3.out.cell (i := 3) rfl
    have zHK3_3 := HK3.out.frozen 3
    have cHK3_4 := HK3.out.cell (i := 4) rfl
    have zHK3_4 := HK3.out.frozen 4
    have cHK3_5 := HK3.out.cell (i := 5) rfl
    have zHK3_5 := HK3.out.frozen 5
    have hg_W4 : g < W4.heap.size := HC.out.lt
    go_wp2_with fail
    refine bp_anchor (F := fun V => Cur g V ∧ w.grownBy V (some g) ∧ Blk w.heap.size [.int .i64 kk, .slice A1 n c1, .int .i64 cr, .int .i64 bk, .int .i64 v, .int .i64 gt] 28 V ∧ V.ownsRow w.heap.size 33 5 (.slice A1 n c1) n (xs.flatMap encR)) ⟨(by (repeat (first | with_reducible exact HC.out | with_reducible refine Cur.setOther ?_ (by omega) _ _)); done), (by (repeat (first | with_reducible exact HG.out | with_reducible refine grown_set ?_ (by omega) _ _)); done), ((((((((HK2.out.other (by dsimp only; omega) _).set 0 _).set 1 _).set 2 _).set 3 _).set 4 _).set 5 _).conv rfl), ownsRow_lo ((by (repeat (first | with_reducible exact HW.out | with_reducible refine ownsRow_set ?_ _ _ (ownsRow_ne_low HW.out (by dsimp only; omega)) | with_reducible refine ownsRow_at ?_ hne3 _ _)); done) : World.ownsRow _ (w.heap.size + 1) _ _ _ _ _) (by omega)⟩ (fun V hV => ?_)
    obtain ⟨r1, r2, r3, r4⟩ := hV
    have f0 := r3.cell (i := 0) rfl
    have f1 := r3.cell (i := 1) rfl
    have f2 := r3.cell (i := 2) rfl
    have f3 := r3.cell (i := 3) rfl
    have f4 := r3.cell (i := 4) rfl
    have f5 := r3.cell (i := 5) rfl
    refine bodyPost_ret (v := .agg #[.int .i64 kk, .slice A1 n c1, .int .i64 cr, .int .i64 bk, .int .i64 v, .int .i64 gt]) (by simp [results, Try.results32, go_sem, f0, f1, f2, f3, f4, f5]) rfl ?_
    exact ⟨kk, cr, bk, v, gt, A1, n, c1, xs, rfl, HL.out, by omega, hcr, hbk, hvb, hgt, r4, r1, r2⟩
  have e2 : (s == 2) = false := by simpa using h2
  by_cases h3 : s = 3
  · subst h3
    go_wp2_with fail
    with_reducible refine wp_region_plt_any (Plt.pick 2 (Plt.two 0 (Plt.two 1 (Plt.one 3 (Plt.one 4 (Plt.one 5 (Plt.one 6 (Plt.one 7 Plt.nil))))) 3 (Plt.two 1 (Plt.one 4 (Plt.one 5 (Plt.one 6 (Plt.one 7 Plt.nil)))) 4 (Plt.one 1 (Plt.one 5 (Plt.one 6 (Plt.one 7 Plt.nil)))))) 3 (Plt.two 0 (Plt.two 1 (Plt.one 4 (Plt.one 5 (Plt.one 6 (Plt.one 7 Plt.nil)))) 4 (Plt.one 1 (Plt.one 5 (Plt.one 6 (Plt.one 7 Plt.nil))))) 4 (Plt.one 0 (Plt.one 1 (Plt.one 5 (Plt.one 6 (Plt.one 7 Plt.nil)))))))) (by kernel_rfl) (by kernel_rfl) ?_
    (repeat (refine wpPlt_pick (fun J hJ => ?_); simp only [List.getD_cons_zero, List.getD_cons_succ]; go_simp; refine hJ _ ?_; clear hJ J))
    refine wpPlt_two (fun J hJ => ?_) (fun J hJ => ?_)
    · simp only [List.getD_cons_zero]
      go_wp2_with fail
      refine onward_any (hJ _ _ ?_)
      clear hJ J
      refine wpPlt_two (fun J hJ => ?_) (fun J hJ => ?_)
      · simp only [List.getD_cons_zero, List.getD_cons_succ]
        go_wp2_with fail
        refine onward_any (hJ _ _ ?_)
        clear hJ J
        refine wpPlt_one (fun J hJ => ?_)
        simp only [List.getD_cons_zero, List.getD_cons_succ]
        go_wp2_with fail
        refine (c_l05Any g _ (Cur.drew HC.out)).mono ?_
        rintro _ W4 ⟨_, rfl, ⟨o, a, b, k, e, rfl, -, -, -, -, -⟩, hc2, hg2⟩
        have b1 := hc2
        have b2 := grownBy_trans (grown_drew HG.out) hg2
        have b3 := (Blk.drew HK2.out).grown hg2 (by simp; omega)
        have b4 := (Blk.drew HK3.out).grown hg2 (by simp; omega)
        have b5 := (World.ownsRow.drew HW.out).kept hg2 (.inr (fun e => by have := (HW.out.lt _ e).1; omega))
        clear HC HG HK2 HK3 HW hc2 hg2 lHK2 cHK2_0 zHK2_0 cHK2_1 zHK2_1 cHK2_2 zHK2_2 cHK2_3 zHK2_3 cHK2_4 zHK2_4 cHK2_5 zHK2_5 lHK3 cHK3_0 zHK3_0 cHK3_1 zHK3_1 cHK3_2 zHK3_2 cHK3_3 zHK3_3 cHK3_4 zHK3_4 cHK3_5 zHK3_5
        have HC := Lib.hid b1
        have HG := Lib.hid b2
        have HK2 := Lib.hid b3
        have HK3 := Lib.hid b4
        have HW := Lib.hid b5
        clear b1 b2 b3 b4 b5
        have lHK2 : w.heap.size < W4.heap.size := HK2.out.lt
        have cHK2_0 := HK2.out.cell (i := 0) rfl
        have zHK2_0 := HK2.out.frozen 0
        have cHK2_1 := HK2.out.cell (i := 1) rfl
        have zHK2_1 := HK2.out.frozen 1
        have cHK2_2 := HK2.out.cell (i := 2) rfl
        have zHK2_2 := HK2.out.frozen 2
        have cHK2_3 := HK2.out.cell (i := 3) rfl
        have zHK2_3 := HK2.out.frozen 3
        have cHK2_4 := HK2.out.cell (i := 4) rfl
        have zHK2_4 := HK2.out.frozen 4
        have cHK2_5 := HK2.out.cell (i := 5) rfl
        have zHK2_5 := HK2.out.frozen 5
        have lHK3 : g3 < W4.heap.size := HK3.out.lt
        have cHK3_0 := HK3.out.cell (i := 0) rfl
        have zHK3_0 := HK3.out.frozen 0
        have cHK3_1 := HK3.out.cell (i := 1) rfl
        have zHK3_1 := HK3.out.frozen 1
        have cHK3_2 := HK3.out.cell (i := 2) rfl
        have zHK3_2 := HK3.out.frozen 2
        have cHK3_3 := HK3.out.cell (i := 3) rfl
        have zHK3_3 := HK3.out.frozen 3
        have cHK3_4 := HK3.out.cell (i := 4) rfl
        have zHK3_4 := HK3.out.frozen 4
        have cHK3_5 := HK3.out.cell (i := 5) rfl
        have zHK3_5 := HK3.out.frozen 5
        have hg_W4 : g < W4.heap.size := HC.out.lt
        go_wp2_with fail
        refine onward_any (hJ _ _ ?_)
        clear hJ J
        refine wpPlt_one (fun J hJ => ?_)
        simp only [List.getD_cons_zero, List.getD_cons_succ]
        go_wp2_with fail
        refine onward_any (hJ _ _ ?_)
        clear hJ J
        refine wpPlt_one (fun J hJ => ?_)
        simp only [List.getD_cons_zero, List.getD_cons_succ]
        go_wp2_with (first | (at_builtin; refine wpList_append_row _ encR 5 lenR (by decide) oneR rfl (.tmp 29) (.tmp 32) 26 rfl (w.heap.size + 1) 33 i0 _ 40 Try.underlying26 HI.out HZ.out HS.out HB.out rfl (.slice A1 n c1) n xs rfl (by (repeat (first | with_reducible exact HW.out | with_reducible exact ownsRow_draw HW.out _ | with_reducible refine World.ownsRow.alloc ?_ _ | with_reducible refine World.ownsRow.drew ?_ | with_reducible refine ownsRow_later ?_ _)); done) _ _ _ [(o, (a, b), k, e)] rfl rfl (row_oneR ((o, (a, b), k, e)) _ _ _ (by first | with_reducible rfl | (simp; done) | (simp; omega))) (by unfold maxLen; omega) (by omega) (by first | (simp; done) | (simp; omega)) ?_; intro v2 W6 hown hga hbe))
        obtain ⟨A2, c2, rfl, hcc, hmm⟩ := ownsRow_slice hown
        have HWN := Lib.hid hown
        have HGA := Lib.hid hga
        have b1 := cur_over (HC.out.alloc _) HGA.out (HW.out.alloc _) (by omega)
        have b2 := grown_over (grown_alloc HG.out _) HGA.out (fun b hb => by have := (HW.out.lt b hb).1; omega)
        have b3 := (HK2.out.alloc _).grown HGA.out (fun e => by have := (HW.out.lt _ e.symm).1; omega)
        have b4 := (HK3.out.alloc _).grown HGA.out hne3
        have hn31 : some g3 ≠ Value.ownBlock (.slice A2 (n + 1) c2) := fun e => ownsRow_ne HWN.out b4 (by decide) e.symm
        clear hown hga hbe HC HG HK2 HK3 HW lHK2 cHK2_0 zHK2_0 cHK2_1 zHK2_1 cHK2_2 zHK2_2 cHK2_3 zHK2_3 cHK2_4 zHK2_4 cHK2_5 zHK2_5 lHK3 cHK3_0 zHK3_0 cHK3_1 zHK3_1 cHK3_2 zHK3_2 cHK3_3 zHK3_3 cHK3_4 zHK3_4 cHK3_5 zHK3_5
        have HC := Lib.hid b1
        have HG := Lib.hid b2
        have HK2 := Lib.hid b3
        have HK3 := Lib.hid b4
        clear b1 b2 b3 b4
        have lHK2 : w.heap.size < W6.heap.size := HK2.out.lt
        have cHK2_0 := HK2.out.cell (i := 0) rfl
        have zHK2_0 := HK2.out.frozen 0
        have cHK2_1 := HK2.out.cell (i := 1) rfl
        have zHK2_1 := HK2.out.frozen 1
        have cHK2_2 := HK2.out.cell (i := 2) rfl
        have zHK2_2 := HK2.out.frozen 2
        have cHK2_3 := HK2.out.cell (i := 3) rfl
        have zHK2_3 := HK2.out.frozen 3
        have cHK2_4 := HK2.out.cell (i := 4) rfl
        have zHK2_4 := HK2.out.frozen 4
        have cHK2_5 := HK2.out.cell (i := 5) rfl
        have zHK2_5 := HK2.out.frozen 5
        have lHK3 : g3 < W6.heap.size := HK3.out.lt
        have cHK3_0 := HK3.out.cell (i := 0) rfl
        have zHK3_0 := HK3.out.frozen 0
        have cHK3_1 := HK3.out.cell (i := 1) rfl
        have zHK3_1 := HK3.out.frozen 1
        have cHK3_2 := HK3.out.cell (i := 2) rfl
        have zHK3_2 := HK3.out.frozen 2
        have cHK3_3 := HK3.out.cell (i := 3) rfl
        have zHK3_3 := HK3.out.frozen 3
        have cHK3_4 := HK3.out.cell (i := 4) rfl
        have zHK3_4 := HK3.out.frozen 4
        have cHK3_5 := HK3.out.cell (i := 5) rfl
        have zHK3_5 := HK3.out.frozen 5
        refine onward_any (hJ _ _ ?_)
        clear hJ J
        refine wpPlt_one (fun J hJ => ?_)
        simp only [List.getD_cons_zero, List.getD_cons_succ]
        go_wp2_with fail
        refine onward_any (hJ _ _ ?_)
        clear hJ J
        refine wpPlt_one (fun J hJ => ?_)
        simp only [List.getD_cons_zero, List.getD_cons_succ]
        go_wp2_with fail
        refine onward_any (hJ _ _ ?_)
        clear hJ J
        refine wpPlt_nil ?_
        go_wp2_with fail
        refine bp_anchor (F := fun V => Cur g V ∧ w.grownBy V (some g) ∧ Blk w.heap.size [.int .i64 kk, .slice A2 (n + 1) c2, .int .i64 cr, .int .i64 bk, .int .i64 st, .int .i64 gt] 28 V ∧ V.ownsRow w.heap.size 33 5 (.slice A2 (n + 1) c2) (n + 1) ((xs ++ [(o, (a, b), k, e)]).flatMap encR)) ⟨(by (repeat (first | with_reducible exact HC.out | with_reducible refine Cur.setOther ?_ (by omega) _ _)); done), (by (repeat (first | with_reducible exact HG.out | with_reducible refine grown_set ?_ (by omega) _ _)); done), ((((((((HK2.out.other (by dsimp only; omega) _).set 0 _).set 1 _).set 2 _).set 3 _).set 4 _).set 5 _).conv rfl), ownsRow_lo ((by (repeat (first | with_reducible exact HWN.out | with_reducible refine ownsRow_set ?_ _ _ (ownsRow_ne_low HWN.out (by dsimp only; omega)) | with_reducible refine ownsRow_at ?_ hn31 _ _)); done) : World.ownsRow _ (w.heap.size + 1) _ _ _ _ _) (by omega)⟩ (fun V hV => ?_)
        obtain ⟨r1, r2, r3, r4⟩ := hV
        have f0 := r3.cell (i := 0) rfl
        have f1 := r3.cell (i := 1) rfl
        have f2 := r3.cell (i := 2) rfl
        have f3 := r3.cell (i := 3) rfl
        have f4 := r3.cell (i := 4) rfl
        have f5 := r3.cell (i := 5) rfl
        refine bodyPost_ret (v := .agg #[.int .i64 kk, .slice A2 (n + 1) c2, .int .i64 cr, .int .i64 bk, .int .i64 st, .int .i64 gt]) (by simp [results, Try.results32, go_sem, f0, f1, f2, f3, f4, f5]) rfl ?_
        exact ⟨kk, cr, bk, st, gt, A2, (n + 1), c2, (xs ++ [(o, (a, b), k, e)]), rfl, (by simp [HL.out]), by omega, hcr, hbk, hst, hgt, r4, r1, r2⟩
      · simp only [List.getD_cons_zero, List.getD_cons_succ]
        go_wp2_with fail
        refine (c_l05Any g _ (Cur.drew HC.out)).mono ?_
        rintro _ W4 ⟨_, rfl, ⟨o, a, b, k, e, rfl, -, -, -, -, -⟩, hc2, hg2⟩
        have b1 := hc2
        have b2 := grownBy_trans (grown_drew HG.out) hg2
        have b3 := (Blk.drew HK2.out).grown hg2 (by simp; omega)
        have b4 := (Blk.drew HK3.out).grown hg2 (by simp; omega)
        have b5 := (World.ownsRow.drew HW.out).kept hg2 (.inr (fun e => by have := (HW.out.lt _ e).1; omega))
        clear HC HG HK2 HK3 HW hc2 hg2 lHK2 cHK2_0 zHK2_0 cHK2_1 zHK2_1 cHK2_2 zHK2_2 cHK2_3 zHK2_3 cHK2_4 zHK2_4 cHK2_5 zHK2_5 lHK3 cHK3_0 zHK3_0 cHK3_1 zHK3_1 cHK3_2 zHK3_2 cHK3_3 zHK3_3 cHK3_4 zHK3_4 cHK3_5 zHK3_5
        have HC := Lib.hid b1
        have HG := Lib.hid b2
        have HK2 := Lib.hid b3
        have HK3 := Lib.hid b4
        have HW := Lib.hid b5
        clear b1 b2 b3 b4 b5
        have lHK2 : w.heap.size < W4.heap.size := HK2.out.lt
        have cHK2_0 := HK2.out.cell (i := 0) rfl
        have zHK2_0 := HK2.out.frozen 0
        have cHK2_1 := HK2.out.cell (i := 1) rfl
        have zHK2_1 := HK2.out.frozen 1
        have cHK2_2 := HK2.out.cell (i := 2) rfl
        have zHK2_2 := HK2.out.frozen 2
        have cHK2_3 := HK2.out.cell (i := 3) rfl
        have zHK2_3 := HK2.out.frozen 3
        have cHK2_4 := HK2.out.cell (i := 4) rfl
        have zHK2_4 := HK2.out.frozen 4
        have cHK2_5 := HK2.out.cell (i := 5) rfl
        have zHK2_5 := HK2.out.frozen 5
        have lHK3 : g3 < W4.heap.size := HK3.out.lt
        have cHK3_0 := HK3.out.cell (i := 0) rfl
        have zHK3_0 := HK3.out.frozen 0
        have cHK3_1 := HK3.out.cell (i := 1) rfl
        have zHK3_1 := HK3.out.frozen 1
        have cHK3_2 := HK3.out.cell (i := 2) rfl
        have zHK3_2 := HK3.out.frozen 2
        have cHK3_3 := HK3.out.cell (i := 3) rfl
        have zHK3_3 := HK3.out.frozen 3
        have cHK3_4 := HK3.out.cell (i := 4) rfl
        have zHK3_4 := HK3.out.frozen 4
        have cHK3_5 := HK3.out.cell (i := 5) rfl
        have zHK3_5 := HK3.out.frozen 5
        have hg_W4 : g < W4.heap.size := HC.out.lt
        go_wp2_with fail
        refine onward_any (hJ _ _ ?_)
        clear hJ J
        refine wpPlt_two (fun J hJ => ?_) (fun J hJ => ?_)
        · simp only [List.getD_cons_zero, List.getD_cons_succ]
          go_wp2_with fail
          refine onward_any (hJ _ _ ?_)
          clear hJ J
          refine wpPlt_one (fun J hJ => ?_)
          simp only [List.getD_cons_zero, List.getD_cons_succ]
          go_wp2_with fail
          refine onward_any (hJ _ _ ?_)
          clear hJ J
          refine wpPlt_one (fun J hJ => ?_)
          simp only [List.getD_cons_zero, List.getD_cons_succ]
          go_wp2_with (first | (at_builtin; refine wpList_append_row _ encR 5 lenR (by decide) oneR rfl (.tmp 29) (.tmp 32) 26 rfl (w.heap.size + 1) 33 i0 _ 40 Try.underlying26 HI.out HZ.out HS.out HB.out rfl (.slice A1 n c1) n xs rfl (by (repeat (first | with_reducible exact HW.out | with_reducible exact ownsRow_draw HW.out _ | with_reducible refine World.ownsRow.alloc ?_ _ | with_reducible refine World.ownsRow.drew ?_ | with_reducible refine ownsRow_later ?_ _)); done) _ _ _ [(o, (a, b), k, e)] rfl rfl (row_oneR ((o, (a, b), k, e)) _ _ _ (by first | with_reducible rfl | (simp; done) | (simp; omega))) (by unfold maxLen; omega) (by omega) (by first | (simp; done) | (simp; omega)) ?_; intro v2 W6 hown hga hbe))
          obtain ⟨A2, c2, rfl, hcc, hmm⟩ := ownsRow_slice hown
          have HWN := Lib.hid hown
          have HGA := Lib.hid hga
          have b1 := cur_over (HC.out.alloc _) HGA.out (HW.out.alloc _) (by omega)
          have b2 := grown_over (grown_alloc HG.out _) HGA.out (fun b hb => by have := (HW.out.lt b hb).1; omega)
          have b3 := (HK2.out.alloc _).grown HGA.out (fun e => by have := (HW.out.lt _ e.symm).1; omega)
          have b4 := (HK3.out.alloc _).grown HGA.out hne3
          have hn31 : some g3 ≠ Value.ownBlock (.slice A2 (n + 1) c2) := fun e => ownsRow_ne HWN.out b4 (by decide) e.symm
          clear hown hga hbe HC HG HK2 HK3 HW lHK2 cHK2_0 zHK2_0 cHK2_1 zHK2_1 cHK2_2 zHK2_2 cHK2_3 zHK2_3 cHK2_4 zHK2_4 cHK2_5 zHK2_5 lHK3 cHK3_0 zHK3_0 cHK3_1 zHK3_1 cHK3_2 zHK3_2 cHK3_3 zHK3_3 cHK3_4 zHK3_4 cHK3_5 zHK3_5
          have HC := Lib.hid b1
          have HG := Lib.hid b2
          have HK2 := Lib.hid b3
          have HK3 := Lib.hid b4
          clear b1 b2 b3 b4
          have lHK2 : w.heap.size < W6.heap.size := HK2.out.lt
          have cHK2_0 := HK2.out.cell (i := 0) rfl
          have zHK2_0 := HK2.out.frozen 0
          have cHK2_1 := HK2.out.cell (i := 1) rfl
          have zHK2_1 := HK2.out.frozen 1
          have cHK2_2 := HK2.out.cell (i := 2) rfl
          have zHK2_2 := HK2.out.frozen 2
          have cHK2_3 := HK2.out.cell (i := 3) rfl
          have zHK2_3 := HK2.out.frozen 3
          have cHK2_4 := HK2.out.cell (i := 4) rfl
          have zHK2_4 := HK2.out.frozen 4
          have cHK2_5 := HK2.out.cell (i := 5) rfl
          have zHK2_5 := HK2.out.frozen 5
          have lHK3 : g3 < W6.heap.size := HK3.out.lt
          have cHK3_0 := HK3.out.cell (i := 0) rfl
          have zHK3_0 := HK3.out.frozen 0
          have cHK3_1 := HK3.out.cell (i := 1) rfl
          have zHK3_1 := HK3.out.frozen 1
          have cHK3_2 := HK3.out.cell (i := 2) rfl
          have zHK3_2 := HK3.out.frozen 2
          have cHK3_3 := HK3.out.cell (i := 3) rfl
          have zHK3_3 := HK3.out.frozen 3
          have cHK3_4 := HK3.out.cell (i := 4) rfl
          have zHK3_4 := HK3.out.frozen 4
          have cHK3_5 := HK3.out.cell (i := 5) rfl
          have zHK3_5 := HK3.out.frozen 5
          refine onward_any (hJ _ _ ?_)
          clear hJ J
          refine wpPlt_one (fun J hJ => ?_)
          simp only [List.getD_cons_zero, List.getD_cons_succ]
          go_wp2_with fail
          refine onward_any (hJ _ _ ?_)
          clear hJ J
          refine wpPlt_one (fun J hJ => ?_)
          simp only [List.getD_cons_zero, List.getD_cons_succ]
          go_wp2_with fail
          refine onward_any (hJ _ _ ?_)
          clear hJ J
          refine wpPlt_nil ?_
          go_wp2_with fail
          refine bp_anchor (F := fun V => Cur g V ∧ w.grownBy V (some g) ∧ Blk w.heap.size [.int .i64 kk, .slice A2 (n + 1) c2, .int .i64 cr, .int .i64 bk, .int .i64 st, .int .i64 gt] 28 V ∧ V.ownsRow w.heap.size 33 5 (.slice A2 (n + 1) c2) (n + 1) ((xs ++ [(o, (a, b), k, e)]).flatMap encR)) ⟨(by (repeat (first | with_reducible exact HC.out | with_reducible refine Cur.setOther ?_ (by omega) _ _)); done), (by (repeat (first | with_reducible exact HG.out | with_reducible refine grown_set ?_ (by omega) _ _)); done), ((((((((HK2.out.other (by dsimp only; omega) _).set 0 _).set 1 _).set 2 _).set 3 _).set 4 _).set 5 _).conv rfl), ownsRow_lo ((by (repeat (first | with_reducible exact HWN.out | with_reducible refine ownsRow_set ?_ _ _ (ownsRow_ne_low HWN.out (by dsimp only; omega)) | with_reducible refine ownsRow_at ?_ hn31 _ _)); done) : World.ownsRow _ (w.heap.size + 1) _ _ _ _ _) (by omega)⟩ (fun V hV => ?_)
          obtain ⟨r1, r2, r3, r4⟩ := hV
          have f0 := r3.cell (i := 0) rfl
          have f1 := r3.cell (i := 1) rfl
          have f2 := r3.cell (i := 2) rfl
          have f3 := r3.cell (i := 3) rfl
          have f4 := r3.cell (i := 4) rfl
          have f5 := r3.cell (i := 5) rfl
          refine bodyPost_ret (v := .agg #[.int .i64 kk, .slice A2 (n + 1) c2, .int .i64 cr, .int .i64 bk, .int .i64 st, .int .i64 gt]) (by simp [results, Try.results32, go_sem, f0, f1, f2, f3, f4, f5]) rfl ?_
          exact ⟨kk, cr, bk, st, gt, A2, (n + 1), c2, (xs ++ [(o, (a, b), k, e)]), rfl, (by simp [HL.out]), by omega, hcr, hbk, hst, hgt, r4, r1, r2⟩
        · simp only [List.getD_cons_zero, List.getD_cons_succ]
          go_wp2_with fail
          refine onward_any (hJ _ _ ?_)
          clear hJ J
          refine wpPlt_one (fun J hJ => ?_)
          simp only [List.getD_cons_zero, List.getD_cons_succ]
          go_wp2_with fail
          refine onward_any (hJ _ _ ?_)
          clear hJ J
          refine wpPlt_one (fun J hJ => ?_)
          simp only [List.getD_cons_zero, List.getD_cons_succ]
          go_wp2_with (first | (at_builtin; refine wpList_append_row _ encR 5 lenR (by decide) oneR rfl (.tmp 29) (.tmp 32) 26 rfl (w.heap.size + 1) 33 i0 _ 40 Try.underlying26 HI.out HZ.out HS.out HB.out rfl (.slice A1 n c1) n xs rfl (by (repeat (first | with_reducible exact HW.out | with_reducible exact ownsRow_draw HW.out _ | with_reducible refine World.ownsRow.alloc ?_ _ | with_reducible refine World.ownsRow.drew ?_ | with_reducible refine ownsRow_later ?_ _)); done) _ _ _ [(o, (a, b), k, e)] rfl rfl (row_oneR ((o, (a, b), k, e)) _ _ _ (by first | with_reducible rfl | (simp; done) | (simp; omega))) (by unfold maxLen; omega) (by omega) (by first | (simp; done) | (simp; omega)) ?_; intro v2 W6 hown hga hbe))
          obtain ⟨A2, c2, rfl, hcc, hmm⟩ := ownsRow_slice hown
          have HWN := Lib.hid hown
          have HGA := Lib.hid hga
          have b1 := cur_over (HC.out.alloc _) HGA.out (HW.out.alloc _) (by omega)
          have b2 := grown_over (grown_alloc HG.out _) HGA.out (fun b hb => by have := (HW.out.lt b hb).1; omega)
          have b3 := (HK2.out.alloc _).grown HGA.out (fun e => by have := (HW.out.lt _ e.symm).1; omega)
          have b4 := (HK3.out.alloc _).grown HGA.out hne3
          have hn31 : some g3 ≠ Value.ownBlock (.slice A2 (n + 1) c2) := fun e => ownsRow_ne HWN.out b4 (by decide) e.symm
          clear hown hga hbe HC HG HK2 HK3 HW lHK2 cHK2_0 zHK2_0 cHK2_1 zHK2_1 cHK2_2 zHK2_2 cHK2_3 zHK2_3 cHK2_4 zHK2_4 cHK2_5 zHK2_5 lHK3 cHK3_0 zHK3_0 cHK3_1 zHK3_1 cHK3_2 zHK3_2 cHK3_3 zHK3_3 cHK3_4 zHK3_4 cHK3_5 zHK3_5
          have HC := Lib.hid b1
          have HG := Lib.hid b2
          have HK2 := Lib.hid b3
          have HK3 := Lib.hid b4
          clear b1 b2 b3 b4
          have lHK2 : w.heap.size < W6.heap.size := HK2.out.lt
          have cHK2_0 := HK2.out.cell (i := 0) rfl
          have zHK2_0 := HK2.out.frozen 0
          have cHK2_1 := HK2.out.cell (i := 1) rfl
          have zHK2_1 := HK2.out.frozen 1
          have cHK2_2 := HK2.out.cell (i := 2) rfl
          have zHK2_2 := HK2.out.frozen 2
          have cHK2_3 := HK2.out.cell (i := 3) rfl
          have zHK2_3 := HK2.out.frozen 3
          have cHK2_4 := HK2.out.cell (i := 4) rfl
          have zHK2_4 := HK2.out.frozen 4
          have cHK2_5 := HK2.out.cell (i := 5) rfl
          have zHK2_5 := HK2.out.frozen 5
          have lHK3 : g3 < W6.heap.size := HK3.out.lt
          have cHK3_0 := HK3.out.cell (i := 0) rfl
          have zHK3_0 := HK3.out.frozen 0
          have cHK3_1 := HK3.out.cell (i := 1) rfl
          have zHK3_1 := HK3.out.frozen 1
          have cHK3_2 := HK3.out.cell (i := 2) rfl
          have zHK3_2 := HK3.out.frozen 2
          have cHK3_3 := HK3.out.cell (i := 3) rfl
          have zHK3_3 := HK3.out.frozen 3
          have cHK3_4 := HK3.out.cell (i := 4) rfl
          have zHK3_4 := HK3.out.frozen 4
          have cHK3_5 := HK3.out.cell (i := 5) rfl
          have zHK3_5 := HK3.out.frozen 5
          refine onward_any (hJ _ _ ?_)
          clear hJ J
          refine wpPlt_one (fun J hJ => ?_)
          simp only [List.getD_cons_zero, List.getD_cons_succ]
          go_wp2_with fail
          refine onward_any (hJ _ _ ?_)
          clear hJ J
          refine wpPlt_one (fun J hJ => ?_)
          simp only [List.getD_cons_zero, List.getD_cons_succ]
          go_wp2_with fail
          refine onward_any (hJ _ _ ?_)
          clear hJ J
          refine wpPlt_nil ?_
          go_wp2_with fail
          refine bp_anchor (F := fun V => Cur g V ∧ w.grownBy V (some g) ∧ Blk w.heap.size [.int .i64 kk, .slice A2 (n + 1) c2, .int .i64 cr, .int .i64 bk, .int .i64 st, .int .i64 gt] 28 V ∧ V.ownsRow w.heap.size 33 5 (.slice A2 (n + 1) c2) (n + 1) ((xs ++ [(o, (a, b), k, e)]).flatMap encR)) ⟨(by (repeat (first | with_reducible exact HC.out | with_reducible refine Cur.setOther ?_ (by omega) _ _)); done), (by (repeat (first | with_reducible exact HG.out | with_reducible refine grown_set ?_ (by omega) _ _)); done), ((((((((HK2.out.other (by dsimp only; omega) _).set 0 _).set 1 _).set 2 _).set 3 _).set 4 _).set 5 _).conv rfl), ownsRow_lo ((by (repeat (first | with_reducible exact HWN.out | with_reducible refine ownsRow_set ?_ _ _ (ownsRow_ne_low HWN.out (by dsimp only; omega)) | with_reducible refine ownsRow_at ?_ hn31 _ _)); done) : World.ownsRow _ (w.heap.size + 1) _ _ _ _ _) (by omega)⟩ (fun V hV => ?_)
          obtain ⟨r1, r2, r3, r4⟩ := hV
          have f0 := r3.cell (i := 0) rfl
          have f1 := r3.cell (i := 1) rfl
          have f2 := r3.cell (i := 2) rfl
          have f3 := r3.cell (i := 3) rfl
          have f4 := r3.cell (i := 4) rfl
          have f5 := r3.cell (i := 5) rfl
          refine bodyPost_ret (v := .agg #[.int .i64 kk, .slice A2 (n + 1) c2, .int .i64 cr, .int .i64 bk, .int .i64 st, .int .i64 gt]) (by simp [results, Try.results32, go_sem, f0, f1, f2, f3, f4, f5]) rfl ?_
          exact ⟨kk, cr, bk, st, gt, A2, (n + 1), c2, (xs ++ [(o, (a, b), k, e)]), rfl, (by simp [HL.out]), by omega, hcr, hbk, hst, hgt, r4, r1, r2⟩
    · simp only [List.getD_cons_zero, List.getD_cons_succ]
      go_wp2_with fail
      refine (c_l05Any g _ (Cur.drew HC.out)).mono ?_
      rintro _ W4 ⟨_, rfl, ⟨o, a, b, k, e, rfl, -, -, -, -, -⟩, hc2, hg2⟩
      have b1 := hc2
      have b2 := grownBy_trans (grown_drew HG.out) hg2
      have b3 := (Blk.drew HK2.out).grown hg2 (by simp; omega)
      have b4 := (Blk.drew HK3.out).grown hg2 (by simp; omega)
      have b5 := (World.ownsRow.drew HW.out).kept hg2 (.inr (fun e => by have := (HW.out.lt _ e).1; omega))
      clear HC HG HK2 HK3 HW hc2 hg2 lHK2 cHK2_0 zHK2_0 cHK2_1 zHK2_1 cHK2_2 zHK2_2 cHK2_3 zHK2_3 cHK2_4 zHK2_4 cHK2_5 zHK2_5 lHK3 cHK3_0 zHK3_0 cHK3_1 zHK3_1 cHK3_2 zHK3_2 cHK3_3 zHK3_3 cHK3_4 zHK3_4 cHK3_5 zHK3_5
      have HC := Lib.hid b1
      have HG := Lib.hid b2
      have HK2 := Lib.hid b3
      have HK3 := Lib.hid b4
      have HW := Lib.hid b5
      clear b1 b2 b3 b4 b5
      have lHK2 : w.heap.size < W4.heap.size := HK2.out.lt
      have cHK2_0 := HK2.out.cell (i := 0) rfl
      have zHK2_0 := HK2.out.frozen 0
      have cHK2_1 := HK2.out.cell (i := 1) rfl
      have zHK2_1 := HK2.out.frozen 1
      have cHK2_2 := HK2.out.cell (i := 2) rfl
      have zHK2_2 := HK2.out.frozen 2
      have cHK2_3 := HK2.out.cell (i := 3) rfl
      have zHK2_3 := HK2.out.frozen 3
      have cHK2_4 := HK2.out.cell (i := 4) rfl
      have zHK2_4 := HK2.out.frozen 4
      have cHK2_5 := HK2.out.cell (i := 5) rfl
      have zHK2_5 := HK2.out.frozen 5
      have lHK3 : g3 < W4.heap.size := HK3.out.lt
      have cHK3_0 := HK3.out.cell (i := 0) rfl
      have zHK3_0 := HK3.out.frozen 0
      have cHK3_1 := HK3.out.cell (i := 1) rfl
      have zHK3_1 := HK3.out.frozen 1
      have cHK3_2 := HK3.out.cell (i := 2) rfl
      have zHK3_2 := HK3.out.frozen 2
      have cHK3_3 := HK3.out.cell (i := 3) rfl
      have zHK3_3 := HK3.out.frozen 3
      have cHK3_4 := HK3.out.cell (i := 4) rfl
      have zHK3_4 := HK3.out.frozen 4
      have cHK3_5 := HK3.out.cell (i := 5) rfl
      have zHK3_5 := HK3.out.frozen 5
      have hg_W4 : g < W4.heap.size := HC.out.lt
      go_wp2_with fail
      refine onward_any (hJ _ _ ?_)
      clear hJ J
      refine wpPlt_two (fun J hJ => ?_) (fun J hJ => ?_)
      · simp only [List.getD_cons_zero]
        go_wp2_with fail
        refine onward_any (hJ _ _ ?_)
        clear hJ J
        refine wpPlt_two (fun J hJ => ?_) (fun J hJ => ?_)
        · simp only [List.getD_cons_zero, List.getD_cons_succ]
          go_wp2_with fail
          refine onward_any (hJ _ _ ?_)
          clear hJ J
          refine wpPlt_one (fun J hJ => ?_)
          simp only [List.getD_cons_zero, List.getD_cons_succ]
          go_wp2_with fail
          refine onward_any (hJ _ _ ?_)
          clear hJ J
          refine wpPlt_one (fun J hJ => ?_)
          simp only [List.getD_cons_zero, List.getD_cons_succ]
          go_wp2_with (first | (at_builtin; refine wpList_append_row _ encR 5 lenR (by decide) oneR rfl (.tmp 29) (.tmp 32) 26 rfl (w.heap.size + 1) 33 i0 _ 40 Try.underlying26 HI.out HZ.out HS.out HB.out rfl (.slice A1 n c1) n xs rfl (by (repeat (first | with_reducible exact HW.out | with_reducible exact ownsRow_draw HW.out _ | with_reducible refine World.ownsRow.alloc ?_ _ | with_reducible refine World.ownsRow.drew ?_ | with_reducible refine ownsRow_later ?_ _)); done) _ _ _ [(o, (a, b), k, e)] rfl rfl (row_oneR ((o, (a, b), k, e)) _ _ _ (by first | with_reducible rfl | (simp; done) | (simp; omega))) (by unfold maxLen; omega) (by omega) (by first | (simp; done) | (simp; omega)) ?_; intro v2 W6 hown hga hbe))
          obtain ⟨A2, c2, rfl, hcc, hmm⟩ := ownsRow_slice hown
          have HWN := Lib.hid hown
          have HGA := Lib.hid hga
          have b1 := cur_over (HC.out.alloc _) HGA.out (HW.out.alloc _) (by omega)
          have b2 := grown_over (grown_alloc HG.out _) HGA.out (fun b hb => by have := (HW.out.lt b hb).1; omega)
          have b3 := (HK2.out.alloc _).grown HGA.out (fun e => by have := (HW.out.lt _ e.symm).1; omega)
          have b4 := (HK3.out.alloc _).grown HGA.out hne3
          have hn31 : some g3 ≠ Value.ownBlock (.slice A2 (n + 1) c2) := fun e => ownsRow_ne HWN.out b4 (by decide) e.symm
          clear hown hga hbe HC HG HK2 HK3 HW lHK2 cHK2_0 zHK2_0 cHK2_1 zHK2_1 cHK2_2 zHK2_2 cHK2_3 zHK2_3 cHK2_4 zHK2_4 cHK2_5 zHK2_5 lHK3 cHK3_0 zHK3_0 cHK3_1 zHK3_1 cHK3_2 zHK3_2 cHK3_3 zHK3_3 cHK3_4 zHK3_4 cHK3_5 zHK3_5
          have HC := Lib.hid b1
          have HG := Lib.hid b2
          have HK2 := Lib.hid b3
          have HK3 := Lib.hid b4
          clear b1 b2 b3 b4
          have lHK2 : w.heap.size < W6.heap.size := HK2.out.lt
          have cHK2_0 := HK2.out.cell (i := 0) rfl
          have zHK2_0 := HK2.out.frozen 0
          have cHK2_1 := HK2.out.cell (i := 1) rfl
          have zHK2_1 := HK2.out.frozen 1
          have cHK2_2 := HK2.out.cell (i := 2) rfl
          have zHK2_2 := HK2.out.frozen 2
          have cHK2_3 := HK2.out.cell (i := 3) rfl
          have zHK2_3 := HK2.out.frozen 3
          have cHK2_4 := HK2.out.cell (i := 4) rfl
          have zHK2_4 := HK2.out.frozen 4
          have cHK2_5 := HK2.out.cell (i := 5) rfl
          have zHK2_5 := HK2.out.frozen 5
          have lHK3 : g3 < W6.heap.size := HK3.out.lt
          have cHK3_0 := HK3.out.cell (i := 0) rfl
          have zHK3_0 := HK3.out.frozen 0
          have cHK3_1 := HK3.out.cell (i := 1) rfl
          have zHK3_1 := HK3.out.frozen 1
          have cHK3_2 := HK3.out.cell (i := 2) rfl
          have zHK3_2 := HK3.out.frozen 2
          have cHK3_3 := HK3.out.cell (i := 3) rfl
          have zHK3_3 := HK3.out.frozen 3
          have cHK3_4 := HK3.out.cell (i := 4) rfl
          have zHK3_4 := HK3.out.frozen 4
          have cHK3_5 := HK3.out.cell (i := 5) rfl
          have zHK3_5 := HK3.out.frozen 5
          refine onward_any (hJ _ _ ?_)
          clear hJ J
          refine wpPlt_one (fun J hJ => ?_)
          simp only [List.getD_cons_zero, List.getD_cons_succ]
          go_wp2_with fail
          refine onward_any (hJ _ _ ?_)
          clear hJ J
          refine wpPlt_one (fun J hJ => ?_)
          simp only [List.getD_cons_zero, List.getD_cons_succ]
          go_wp2_with fail
          refine onward_any (hJ _ _ ?_)
          clear hJ J
          refine wpPlt_nil ?_
          go_wp2_with fail
          refine bp_anchor (F := fun V => Cur g V ∧ w.grownBy V (some g) ∧ Blk w.heap.size [.int .i64 kk, .slice A2 (n + 1) c2, .int .i64 cr, .int .i64 bk, .int .i64 st, .int .i64 gt] 28 V ∧ V.ownsRow w.heap.size 33 5 (.slice A2 (n + 1) c2) (n + 1) ((xs ++ [(o, (a, b), k, e)]).flatMap encR)) ⟨(by (repeat (first | with_reducible exact HC.out | with_reducible refine Cur.setOther ?_ (by omega) _ _)); done), (by (repeat (first | with_reducible exact HG.out | with_reducible refine grown_set ?_ (by omega) _ _)); done), ((((((((HK2.out.other (by dsimp only; omega) _).set 0 _).set 1 _).set 2 _).set 3 _).set 4 _).set 5 _).conv rfl), ownsRow_lo ((by (repeat (first | with_reducible exact HWN.out | with_reducible refine ownsRow_set ?_ _ _ (ownsRow_ne_low HWN.out (by dsimp only; omega)) | with_reducible refine ownsRow_at ?_ hn31 _ _)); done) : World.ownsRow _ (w.heap.size + 1) _ _ _ _ _) (by omega)⟩ (fun V hV => ?_)
          obtain ⟨r1, r2, r3, r4⟩ := hV
          have f0 := r3.cell (i := 0) rfl
          have f1 := r3.cell (i := 1) rfl
          have f2 := r3.cell (i := 2) rfl
          have f3 := r3.cell (i := 3) rfl
          have f4 := r3.cell (i := 4) rfl
          have f5 := r3.cell (i := 5) rfl
          refine bodyPost_ret (v := .agg #[.int .i64 kk, .slice A2 (n + 1) c2, .int .i64 cr, .int .i64 bk, .int .i64 st, .int .i64 gt]) (by simp [results, Try.results32, go_sem, f0, f1, f2, f3, f4, f5]) rfl ?_
          exact ⟨kk, cr, bk, st, gt, A2, (n + 1), c2, (xs ++ [(o, (a, b), k, e)]), rfl, (by simp [HL.out]), by omega, hcr, hbk, hst, hgt, r4, r1, r2⟩
        · simp only [List.getD_cons_zero, List.getD_cons_succ]
          go_wp2_with fail
          refine onward_any (hJ _ _ ?_)
          clear hJ J
          refine wpPlt_one (fun J hJ => ?_)
          simp only [List.getD_cons_zero, List.getD_cons_succ]
          go_wp2_with fail
          refine onward_any (hJ _ _ ?_)
          clear hJ J
          refine wpPlt_one (fun J hJ => ?_)
          simp only [List.getD_cons_zero, List.getD_cons_succ]
          go_wp2_with (first | (at_builtin; refine wpList_append_row _ encR 5 lenR (by decide) oneR rfl (.tmp 29) (.tmp 32) 26 rfl (w.heap.size + 1) 33 i0 _ 40 Try.underlying26 HI.out HZ.out HS.out HB.out rfl (.slice A1 n c1) n xs rfl (by (repeat (first | with_reducible exact HW.out | with_reducible exact ownsRow_draw HW.out _ | with_reducible refine World.ownsRow.alloc ?_ _ | with_reducible refine World.ownsRow.drew ?_ | with_reducible refine ownsRow_later ?_ _)); done) _ _ _ [(o, (a, b), k, e)] rfl rfl (row_oneR ((o, (a, b), k, e)) _ _ _ (by first | with_reducible rfl | (simp; done) | (simp; omega))) (by unfold maxLen; omega) (by omega) (by first | (simp; done) | (simp; omega)) ?_; intro v2 W6 hown hga hbe))
          obtain ⟨A2, c2, rfl, hcc, hmm⟩ := ownsRow_slice hown
          have HWN := Lib.hid hown
          have HGA := Lib.hid hga
          have b1 := cur_over (HC.out.alloc _) HGA.out (HW.out.alloc _) (by omega)
          have b2 := grown_over (grown_alloc HG.out _) HGA.out (fun b hb => by have := (HW.out.lt b hb).1; omega)
          have b3 := (HK2.out.alloc _).grown HGA.out (fun e => by have := (HW.out.lt _ e.symm).1; omega)
          have b4 := (HK3.out.alloc _).grown HGA.out hne3
          have hn31 : some g3 ≠ Value.ownBlock (.slice A2 (n + 1) c2) := fun e => ownsRow_ne HWN.out b4 (by decide) e.symm
          clear hown hga hbe HC HG HK2 HK3 HW lHK2 cHK2_0 zHK2_0 cHK2_1 zHK2_1 cHK2_2 zHK2_2 cHK2_3 zHK2_3 cHK2_4 zHK2_4 cHK2_5 zHK2_5 lHK3 cHK3_0 zHK3_0 cHK3_1 zHK3_1 cHK3_2 zHK3_2 cHK3_3 zHK3_3 cHK3_4 zHK3_4 cHK3_5 zHK3_5
          have HC := Lib.hid b1
          have HG := Lib.hid b2
          have HK2 := Lib.hid b3
          have HK3 := Lib.hid b4
          clear b1 b2 b3 b4
          have lHK2 : w.heap.size < W6.heap.size := HK2.out.lt
          have cHK2_0 := HK2.out.cell (i := 0) rfl
          have zHK2_0 := HK2.out.frozen 0
          have cHK2_1 := HK2.out.cell (i := 1) rfl
          have zHK2_1 := HK2.out.frozen 1
          have cHK2_2 := HK2.out.cell (i := 2) rfl
          have zHK2_2 := HK2.out.frozen 2
          have cHK2_3 := HK2.out.cell (i := 3) rfl
          have zHK2_3 := HK2.out.frozen 3
          have cHK2_4 := HK2.out.cell (i := 4) rfl
          have zHK2_4 := HK2.out.frozen 4
          have cHK2_5 := HK2.out.cell (i := 5) rfl
          have zHK2_5 := HK2.out.frozen 5
          have lHK3 : g3 < W6.heap.size := HK3.out.lt
          have cHK3_0 := HK3.out.cell (i := 0) rfl
          have zHK3_0 := HK3.out.frozen 0
          have cHK3_1 := HK3.out.cell (i := 1) rfl
          have zHK3_1 := HK3.out.frozen 1
          have cHK3_2 := HK3.out.cell (i := 2) rfl
          have zHK3_2 := HK3.out.frozen 2
          have cHK3_3 := HK3.out.cell (i := 3) rfl
          have zHK3_3 := HK3.out.frozen 3
          have cHK3_4 := HK3.out.cell (i := 4) rfl
          have zHK3_4 := HK3.out.frozen 4
          have cHK3_5 := HK3.out.cell (i := 5) rfl
          have zHK3_5 := HK3.out.frozen 5
          refine onward_any (hJ _ _ ?_)
          clear hJ J
          refine wpPlt_one (fun J hJ => ?_)
          simp only [List.getD_cons_zero, List.getD_cons_succ]
          go_wp2_with fail
          refine onward_any (hJ _ _ ?_)
          clear hJ J
          refine wpPlt_one (fun J hJ => ?_)
          simp only [List.getD_cons_zero, List.getD_cons_succ]
          go_wp2_with fail
          refine onward_any (hJ _ _ ?_)
          clear hJ J
          refine wpPlt_nil ?_
          go_wp2_with fail
          refine bp_anchor (F := fun V => Cur g V ∧ w.grownBy V (some g) ∧ Blk w.heap.size [.int .i64 kk, .slice A2 (n + 1) c2, .int .i64 cr, .int .i64 bk, .int .i64 st, .int .i64 gt] 28 V ∧ V.ownsRow w.heap.size 33 5 (.slice A2 (n + 1) c2) (n + 1) ((xs ++ [(o, (a, b), k, e)]).flatMap encR)) ⟨(by (repeat (first | with_reducible exact HC.out | with_reducible refine Cur.setOther ?_ (by omega) _ _)); done), (by (repeat (first | with_reducible exact HG.out | with_reducible refine grown_set ?_ (by omega) _ _)); done), ((((((((HK2.out.other (by dsimp only; omega) _).set 0 _).set 1 _).set 2 _).set 3 _).set 4 _).set 5 _).conv rfl), ownsRow_lo ((by (repeat (first | with_reducible exact HWN.out | with_reducible refine ownsRow_set ?_ _ _ (ownsRow_ne_low HWN.out (by dsimp only; omega)) | with_reducible refine ownsRow_at ?_ hn31 _ _)); done) : World.ownsRow _ (w.heap.size + 1) _ _ _ _ _) (by omega)⟩ (fun V hV => ?_)
          obtain ⟨r1, r2, r3, r4⟩ := hV
          have f0 := r3.cell (i := 0) rfl
          have f1 := r3.cell (i := 1) rfl
          have f2 := r3.cell (i := 2) rfl
          have f3 := r3.cell (i := 3) rfl
          have f4 := r3.cell (i := 4) rfl
          have f5 := r3.cell (i := 5) rfl
          refine bodyPost_ret (v := .agg #[.int .i64 kk, .slice A2 (n + 1) c2, .int .i64 cr, .int .i64 bk, .int .i64 st, .int .i64 gt]) (by simp [results, Try.results32, go_sem, f0, f1, f2, f3, f4, f5]) rfl ?_
          exact ⟨kk, cr, bk, st, gt, A2, (n + 1), c2, (xs ++ [(o, (a, b), k, e)]), rfl, (by simp [HL.out]), by omega, hcr, hbk, hst, hgt, r4, r1, r2⟩
      · simp only [List.getD_cons_zero, List.getD_cons_succ]
        go_wp2_with fail
        refine onward_any (hJ _ _ ?_)
        clear hJ J
        refine wpPlt_one (fun J hJ => ?_)
        simp only [List.getD_cons_zero]
        go_wp2_with fail
        refine onward_any (hJ _ _ ?_)
        clear hJ J
        refine wpPlt_one (fun J hJ => ?_)
        simp only [List.getD_cons_zero, List.getD_cons_succ]
        go_wp2_with fail
        refine onward_any (hJ _ _ ?_)
        clear hJ J
        refine wpPlt_one (fun J hJ => ?_)
        simp only [List.getD_cons_zero, List.getD_cons_succ]
        go_wp2_with (first | (at_builtin; refine wpList_append_row _ encR 5 lenR (by decide) oneR rfl (.tmp 29) (.tmp 32) 26 rfl (w.heap.size + 1) 33 i0 _ 40 Try.underlying26 HI.out HZ.out HS.out HB.out rfl (.slice A1 n c1) n xs rfl (by (repeat (first | with_reducible exact HW.out | with_reducible exact ownsRow_draw HW.out _ | with_reducible refine World.ownsRow.alloc ?_ _ | with_reducible refine World.ownsRow.drew ?_ | with_reducible refine ownsRow_later ?_ _)); done) _ _ _ [(o, (a, b), k, e)] rfl rfl (row_oneR ((o, (a, b), k, e)) _ _ _ (by first | with_reducible rfl | (simp; done) | (simp; omega))) (by unfold maxLen; omega) (by omega) (by first | (simp; done) | (simp; omega)) ?_; intro v2 W6 hown hga hbe))
        obtain ⟨A2, c2, rfl, hcc, hmm⟩ := ownsRow_slice hown
        have HWN := Lib.hid hown
        have HGA := Lib.hid hga
        have b1 := cur_over (HC.out.alloc _) HGA.out (HW.out.alloc _) (by omega)
        have b2 := grown_over (grown_alloc HG.out _) HGA.out (fun b hb => by have := (HW.out.lt b hb).1; omega)
        have b3 := (HK2.out.alloc _).grown HGA.out (fun e => by have := (HW.out.lt _ e.symm).1; omega)
        have b4 := (HK3.out.alloc _).grown HGA.out hne3
        have hn31 : some g3 ≠ Value.ownBlock (.slice A2 (n + 1) c2) := fun e => ownsRow_ne HWN.out b4 (by decide) e.symm
        clear hown hga hbe HC HG HK2 HK3 HW lHK2 cHK2_0 zHK2_0 cHK2_1 zHK2_1 cHK2_2 zHK2_2 cHK2_3 zHK2_3 cHK2_4 zHK2_4 cHK2_5 zHK2_5 lHK3 cHK3_0 zHK3_0 cHK3_1 zHK3_1 cHK3_2 zHK3_2 cHK3_3 zHK3_3 cHK3_4 zHK3_4 cHK3_5 zHK3_5
        have HC := Lib.hid b1
        have HG := Lib.hid b2
        have HK2 := Lib.hid b3
        have HK3 := Lib.hid b4
        clear b1 b2 b3 b4
        have lHK2 : w.heap.size < W6.heap.size := HK2.out.lt
        have cHK2_0 := HK2.out.cell (i := 0) rfl
        have zHK2_0 := HK2.out.frozen 0
        have cHK2_1 := HK2.out.cell (i := 1) rfl
        have zHK2_1 := HK2.out.frozen 1
        have cHK2_2 := HK2.out.cell (i := 2) rfl
        have zHK2_2 := HK2.out.frozen 2
        have cHK2_3 := HK2.out.cell (i := 3) rfl
        have zHK2_3 := HK2.out.frozen 3
        have cHK2_4 := HK2.out.cell (i := 4) rfl
        have zHK2_4 := HK2.out.frozen 4
        have cHK2_5 := HK2.out.cell (i := 5) rfl
        have zHK2_5 := HK2.out.frozen 5
        have lHK3 : g3 < W6.heap.size := HK3.out.lt
        have cHK3_0 := HK3.out.cell (i := 0) rfl
        have zHK3_0 := HK3.out.frozen 0
        have cHK3_1 := HK3.out.cell (i := 1) rfl
        have zHK3_1 := HK3.out.frozen 1
        have cHK3_2 := HK3.out.cell (i := 2) rfl
        have zHK3_2 := HK3.out.frozen 2
        have cHK3_3 := HK3.out.cell (i := 3) rfl
        have zHK3_3 := HK3.out.frozen 3
        have cHK3_4 := HK3.out.cell (i := 4) rfl
        have zHK3_4 := HK3.out.frozen 4
        have cHK3_5 := HK3.out.cell (i := 5) rfl
        have zHK3_5 := HK3.out.frozen 5
        refine onward_any (hJ _ _ ?_)
        clear hJ J
        refine wpPlt_one (fun J hJ => ?_)
        simp only [List.getD_cons_zero, List.getD_cons_succ]
        go_wp2_with fail
        refine onward_any (hJ _ _ ?_)
        clear hJ J
        refine wpPlt_one (fun J hJ => ?_)
        simp only [List.getD_cons_zero, List.getD_cons_succ]
        go_wp2_with fail
        refine onward_any (hJ _ _ ?_)
        clear hJ J
        refine wpPlt_nil ?_
        go_wp2_with fail
        refine bp_anchor (F := fun V => Cur g V ∧ w.grownBy V (some g) ∧ Blk w.heap.size [.int .i64 kk, .slice A2 (n + 1) c2, .int .i64 cr, .int .i64 bk, .int .i64 st, .int .i64 gt] 28 V ∧ V.ownsRow w.heap.size 33 5 (.slice A2 (n + 1) c2) (n + 1) ((xs ++ [(o, (a, b), k, e)]).flatMap encR)) ⟨(by (repeat (first | with_reducible exact HC.out | with_reducible refine Cur.setOther ?_ (by omega) _ _)); done), (by (repeat (first | with_reducible exact HG.out | with_reducible refine grown_set ?_ (by omega) _ _)); done), ((((((((HK2.out.other (by dsimp only; omega) _).set 0 _).set 1 _).set 2 _).set 3 _).set 4 _).set 5 _).conv rfl), ownsRow_lo ((by (repeat (first | with_reducible exact HWN.out | with_reducible refine ownsRow_set ?_ _ _ (ownsRow_ne_low HWN.out (by dsimp only; omega)) | with_reducible refine ownsRow_at ?_ hn31 _ _)); done) : World.ownsRow _ (w.heap.size + 1) _ _ _ _ _) (by omega)⟩ (fun V hV => ?_)
        obtain ⟨r1, r2, r3, r4⟩ := hV
        have f0 := r3.cell (i := 0) rfl
        have f1 := r3.cell (i := 1) rfl
        have f2 := r3.cell (i := 2) rfl
        have f3 := r3.cell (i := 3) rfl
        have f4 := r3.cell (i := 4) rfl
        have f5 := r3.cell (i := 5) rfl
        refine bodyPost_ret (v := .agg #[.int .i64 kk, .slice A2 (n + 1) c2, .int .i64 cr, .int .i64 bk, .int .i64 st, .int .i64 gt]) (by simp [results, Try.results32, go_sem, f0, f1, f2, f3, f4, f5]) rfl ?_
        exact ⟨kk, cr, bk, st, gt, A2, (n + 1), c2, (xs ++ [(o, (a, b), k, e)]), rfl, (by simp [HL.out]), by omega, hcr, hbk, hst, hgt, r4, r1, r2⟩
  have e3 : (s == 3) = false := by simpa using h3
  by_cases h4 : s = 4
  · subst h4
    go_wp2_with fail
    refine bp_anchor (F := fun V => Cur g V ∧ w.grownBy V (some g) ∧ Blk w.heap.size [.int .i64 kk, .slice A1 n c1, .int .i64 cr, .int .i64 bk, .int .i64 1000000000, .int .i64 (1000000000 - n)] 28 V ∧ V.ownsRow w.heap.size 33 5 (.slice A1 n c1) n (xs.flatMap encR)) ⟨(by (repeat (first | with_reducible exact HC.out | with_reducible refine Cur.setOther ?_ (by omega) _ _)); done), (by (repeat (first | with_reducible exact HG.out | with_reducible refine grown_set ?_ (by omega) _ _)); done), (((((((((HK2.out.other (by dsimp only; omega) _).other (by dsimp only; omega) _).set 0 _).set 1 _).set 2 _).set 3 _).set 4 _).set 5 _).conv rfl), ownsRow_lo ((by (repeat (first | with_reducible exact HW.out | with_reducible refine ownsRow_set ?_ _ _ (ownsRow_ne_low HW.out (by dsimp only; omega)) | with_reducible refine ownsRow_at ?_ hne3 _ _)); done) : World.ownsRow _ (w.heap.size + 1) _ _ _ _ _) (by omega)⟩ (fun V hV => ?_)
    obtain ⟨r1, r2, r3, r4⟩ := hV
    have f0 := r3.cell (i := 0) rfl
    have f1 := r3.cell (i := 1) rfl
    have f2 := r3.cell (i := 2) rfl
    have f3 := r3.cell (i := 3) rfl
    have f4 := r3.cell (i := 4) rfl
    have f5 := r3.cell (i := 5) rfl
    refine bodyPost_ret (v := .agg #[.int .i64 kk, .slice A1 n c1, .int .i64 cr, .int .i64 bk, .int .i64 1000000000, .int .i64 (1000000000 - n)]) (by simp [results, Try.results32, go_sem, f0, f1, f2, f3, f4, f5]) rfl ?_
    exact ⟨kk, cr, bk, 1000000000, (1000000000 - n), A1, n, c1, xs, rfl, HL.out, by omega, hcr, hbk, (by unfold Bd; omega), (by unfold Bd; omega), r4, r1, r2⟩
  have e4 : (s == 4) = false := by simpa using h4
  go_wp2_with fail
  refine bp_anchor (F := fun V => Cur g V ∧ w.grownBy V (some g) ∧ Blk w.heap.size [.int .i64 kk, .slice A1 n c1, .int .i64 cr, .int .i64 bk, .int .i64 st, .int .i64 gt] 28 V ∧ V.ownsRow w.heap.size 33 5 (.slice A1 n c1) n (xs.flatMap encR)) ⟨(by (repeat (first | with_reducible exact HC.out | with_reducible refine Cur.setOther ?_ (by omega) _ _)); done), (by (repeat (first | with_reducible exact HG.out | with_reducible refine grown_set ?_ (by omega) _ _)); done), (((((((HK2.out.set 0 _).set 1 _).set 2 _).set 3 _).set 4 _).set 5 _).conv rfl), ownsRow_lo ((by (repeat (first | with_reducible exact HW.out | with_reducible refine ownsRow_set ?_ _ _ (ownsRow_ne_low HW.out (by dsimp only; omega)) | with_reducible refine ownsRow_at ?_ hne3 _ _)); done) : World.ownsRow _ (w.heap.size + 1) _ _ _ _ _) (by omega)⟩ (fun V hV => ?_)
  obtain ⟨r1, r2, r3, r4⟩ := hV
  have f0 := r3.cell (i := 0) rfl
  have f1 := r3.cell (i := 1) rfl
  have f2 := r3.cell (i := 2) rfl
  have f3 := r3.cell (i := 3) rfl
  have f4 := r3.cell (i := 4) rfl
  have f5 := r3.cell (i := 5) rfl
  refine bodyPost_ret (v := .agg #[.int .i64 kk, .slice A1 n c1, .int .i64 cr, .int .i64 bk, .int .i64 st, .int .i64 gt]) (by simp [results, Try.results32, go_sem, f0, f1, f2, f3, f4, f5]) rfl ?_
  exact ⟨kk, cr, bk, st, gt, A1, n, c1, xs, rfl, HL.out, by omega, hcr, hbk, hst, hgt, r4, r1, r2⟩
end Go.Proofs.Ytcmhmdccfihhiaa
