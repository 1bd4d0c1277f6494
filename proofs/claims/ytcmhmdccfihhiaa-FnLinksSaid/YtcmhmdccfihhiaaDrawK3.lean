/-
  What the reference draws for the law on links. Conditions: the bytes' number is at most 2^32.
-/
import Derived.Test.YtcmhmdccfihhiaaDrawK2
import Derived.Test.YtcmhmdccfihhiaaDrawO
namespace Go.Proofs.Ytcmhmdccfihhiaa
open Go.RowKit
set_option linter.unusedVariables false
set_option maxRecDepth 20000
theorem blk_done {g : Nat} {vs vs' : List Value} {t : TypeId} {W : World} (h : Blk g vs t W) (e : vs = vs') : Blk g vs' t W := e ▸ h
def GivenK (w : World) (e : Ending) (w' : World) : Prop := ∃ (cap cr bk st gt : Int) (A : Option Addr) (n c : Nat) (xs : List (Int × (Int × Int) × Int × Int)), e = .returned (.agg #[.int .i64 cap, .slice A n c, .int .i64 cr, .int .i64 bk, .int .i64 st, .int .i64 gt]) ∧ xs.length = n ∧ n ≤ 9 ∧ Bd cr ∧ Bd bk ∧ Bd st ∧ Bd gt ∧ Row encR 5 w' A xs ∧ ∃ p : Later, w' = later w p
def GivenKR (w : World) (e : Ending) (w' : World) : Prop := ∃ (cap cr bk st gt : Int) (A : Option Addr) (n c : Nat) (xs : List (Int × (Int × Int) × Int × Int)) (x1 x2 x3 x4 x5 : Int), e = .returned (.tuple #[.agg #[.int .i64 cap, .slice A n c, .int .i64 cr, .int .i64 bk, .int .i64 st, .int .i64 gt], .agg #[.int .i64 x1, .int .i64 x2, .int .i64 x3, .int .i64 x4, .int .i64 x5]]) ∧ xs.length = n ∧ n ≤ 9 ∧ Bd cr ∧ Bd bk ∧ Bd st ∧ Bd gt ∧ Row encR 5 w' A xs ∧ ∃ p : Later, w' = later w p
def GivenKI (w : World) (e : Ending) (w' : World) : Prop := ∃ (cap cr bk st gt : Int) (A : Option Addr) (n c : Nat) (xs : List (Int × (Int × Int) × Int × Int)) (x : Int), e = .returned (.tuple #[.agg #[.int .i64 cap, .slice A n c, .int .i64 cr, .int .i64 bk, .int .i64 st, .int .i64 gt], .int .i64 x]) ∧ (-1 ≤ x ∧ x ≤ 5) ∧ xs.length = n ∧ n ≤ 9 ∧ Bd cr ∧ Bd bk ∧ Bd st ∧ Bd gt ∧ Row encR 5 w' A xs ∧ ∃ p : Later, w' = later w p
set_option maxHeartbeats 6400000 in
theorem c_drawTakeFrom (A0 : Option Addr) (n0 c0 : Nat) (bs : List UInt8) (w : World) (hn : bs.length = n0) (hn2 : n0 ≤ 4294967296) (hr : Row encB 1 w A0 bs) : Calls Try.prog 16 #[.slice A0 n0 c0] w (GivenK w) := by
  have HR := Lib.hid hr
  have HN := Lib.hid hn
  clear hr hn
  go_enter Try.func16, Try.ntmps16
  go_wp2_with fail
  refine (c_new A0 n0 c0 bs _ HN.out hn2 ((HR.out.alloc _))).mono ?_
  rintro _ W1 ⟨g, rfl, hg, hC, p1, hp1⟩
  have HB := Lib.hid (show Below w.heap.size w W1 by rw [hp1]; exact Below.trans (Below.alloc (Below.refl w.heap.size w) (by simp) _) ((below_later _ p1).mono (by first | (simp; done) | (simp; omega))))
  have HKa := Lib.hid (Blk.to hp1 (show Blk (w.heap.size) [.int .i64 0, .slice Option.none 0 0, .int .i64 0, .int .i64 0, .int .i64 0, .int .i64 0] 28 _ from Blk.new _ _ [.int .i64 0, .slice Option.none 0 0, .int .i64 0, .int .i64 0, .int .i64 0, .int .i64 0] _ (by first | rfl | (simp; done))))
  have HC := Lib.hid hC
  have hgs : w.heap.size + 1 ≤ g := by simpa using hg
  clear hC hg hp1
  have lHKa : w.heap.size < W1.heap.size := HKa.out.lt
  have cHKa_0 := HKa.out.cell (i := 0) rfl
  have zHKa_0 := HKa.out.frozen 0
  have cHKa_1 := HKa.out.cell (i := 1) rfl
  have zHKa_1 := HKa.out.frozen 1
  have cHKa_2 := HKa.out.cell (i := 2) rfl
  have zHKa_2 := HKa.out.frozen 2
  have cHKa_3 := HKa.out.cell (i := 3) rfl
  have zHKa_3 := HKa.out.frozen 3
  have cHKa_4 := HKa.out.cell (i := 4) rfl
  have zHKa_4 := HKa.out.frozen 4
  have cHKa_5 := HKa.out.cell (i := 5) rfl
  have zHKa_5 := HKa.out.frozen 5
  have v_HKa := lHKa
  have hgW1 := HC.out.lt
  go_wp2_with fail
  refine (c_l06Any g _ HC.out).mono ?_
  rintro _ W2 ⟨cap, cr, bk, st, gt, A1, n, c1, xs, rfl, hL, hn9, hcr, hbk, hst, hgt, hW, hc2, hg2⟩
  have b0 := below_drawn HB.out hg2 (by omega) HB.out.size
  have k0 := HKa.out.grown hg2 (by simp; omega)
  have hLo_HW : W1.heap.size ≤ W1.heap.size := Nat.le_refl _
  clear HB HC HKa lHKa cHKa_0 zHKa_0 cHKa_1 zHKa_1 cHKa_2 zHKa_2 cHKa_3 zHKa_3 cHKa_4 zHKa_4 cHKa_5 zHKa_5 hg2
  have HB := Lib.hid b0
  have HC := Lib.hid hc2
  clear b0 hc2
  have HKa := Lib.hid k0
  clear k0
  have lHKa : w.heap.size < W2.heap.size := HKa.out.lt
  have cHKa_0 := HKa.out.cell (i := 0) rfl
  have zHKa_0 := HKa.out.frozen 0
  have cHKa_1 := HKa.out.cell (i := 1) rfl
  have zHKa_1 := HKa.out.frozen 1
  have cHKa_2 := HKa.out.cell (i := 2) rfl
  have zHKa_2 := HKa.out.frozen 2
  have cHKa_3 := HKa.out.cell (i := 3) rfl
  have zHKa_3 := HKa.out.frozen 3
  have cHKa_4 := HKa.out.cell (i := 4) rfl
  have zHKa_4 := HKa.out.frozen 4
  have cHKa_5 := HKa.out.cell (i := 5) rfl
  have zHKa_5 := HKa.out.frozen 5
  have HW := Lib.hid hW
  clear hW
  have hgW2 := HC.out.lt
  have HL := Lib.hid hL
  clear hL
  go_wp2_with fail
  refine bp_anchor (F := fun V => Below w.heap.size w V ∧ Blk (w.heap.size) [.int .i64 cap, .slice A1 n c1, .int .i64 cr, .int .i64 bk, .int .i64 st, .int .i64 gt] 28 V ∧ Row encR 5 V A1 xs) ⟨(by (repeat (first | with_reducible exact HB.out | with_reducible refine Below.setCell ?_ (by dsimp only; omega) _)); done), (((((((HKa.out.set 0 _).set 1 _).set 2 _).set 3 _).set 4 _).set 5 _).conv rfl), (own_rowD lenR ((by (repeat (first | with_reducible exact HW.out | with_reducible refine ownsRow_set ?_ _ _ (ownsRow_ne_low HW.out (by dsimp only; omega)))); done) : World.ownsRow _ W1.heap.size 33 5 (.slice A1 _ _) _ _) HL.out)⟩ (fun V hV => ?_)
  obtain ⟨q0, q1, qr0⟩ := hV
  have f0_0 := q1.cell (i := 0) rfl
  have f0_1 := q1.cell (i := 1) rfl
  have f0_2 := q1.cell (i := 2) rfl
  have f0_3 := q1.cell (i := 3) rfl
  have f0_4 := q1.cell (i := 4) rfl
  have f0_5 := q1.cell (i := 5) rfl
  refine bodyPost_ret (v := .agg #[.int .i64 cap, .slice A1 n c1, .int .i64 cr, .int .i64 bk, .int .i64 st, .int .i64 gt]) (by simp [results, Try.results16, go_sem, f0_0, f0_1, f0_2, f0_3, f0_4, f0_5]) rfl ?_
  exact ⟨cap, cr, bk, st, gt, A1, n, c1, xs, rfl, HL.out, hn9, hcr, hbk, hst, hgt, qr0, later_of_below q0⟩
set_option maxHeartbeats 6400000 in
theorem c_drawCreditBack (A0 : Option Addr) (n0 c0 : Nat) (bs : List UInt8) (w : World) (hn : bs.length = n0) (hn2 : n0 ≤ 4294967296) (hr : Row encB 1 w A0 bs) : Calls Try.prog 18 #[.slice A0 n0 c0] w (GivenK w) := by
  have HR := Lib.hid hr
  have HN := Lib.hid hn
  clear hr hn
  go_enter Try.func18, Try.ntmps18
  go_wp2_with fail
  refine (c_new A0 n0 c0 bs _ HN.out hn2 ((HR.out.alloc _))).mono ?_
  rintro _ W1 ⟨g, rfl, hg, hC, p1, hp1⟩
  have HB := Lib.hid (show Below w.heap.size w W1 by rw [hp1]; exact Below.trans (Below.alloc (Below.refl w.heap.size w) (by simp) _) ((below_later _ p1).mono (by first | (simp; done) | (simp; omega))))
  have HKa := Lib.hid (Blk.to hp1 (show Blk (w.heap.size) [.int .i64 0, .slice Option.none 0 0, .int .i64 0, .int .i64 0, .int .i64 0, .int .i64 0] 28 _ from Blk.new _ _ [.int .i64 0, .slice Option.none 0 0, .int .i64 0, .int .i64 0, .int .i64 0, .int .i64 0] _ (by first | rfl | (simp; done))))
  have HC := Lib.hid hC
  have hgs : w.heap.size + 1 ≤ g := by simpa using hg
  clear hC hg hp1
  have lHKa : w.heap.size < W1.heap.size := HKa.out.lt
  have cHKa_0 := HKa.out.cell (i := 0) rfl
  have zHKa_0 := HKa.out.frozen 0
  have cHKa_1 := HKa.out.cell (i := 1) rfl
  have zHKa_1 := HKa.out.frozen 1
  have cHKa_2 := HKa.out.cell (i := 2) rfl
  have zHKa_2 := HKa.out.frozen 2
  have cHKa_3 := HKa.out.cell (i := 3) rfl
  have zHKa_3 := HKa.out.frozen 3
  have cHKa_4 := HKa.out.cell (i := 4) rfl
  have zHKa_4 := HKa.out.frozen 4
  have cHKa_5 := HKa.out.cell (i := 5) rfl
  have zHKa_5 := HKa.out.frozen 5
  have v_HKa := lHKa
  have hgW1 := HC.out.lt
  go_wp2_with fail
  refine (c_l06Any g _ HC.out).mono ?_
  rintro _ W2 ⟨cap, cr, bk, st, gt, A1, n, c1, xs, rfl, hL, hn9, hcr, hbk, hst, hgt, hW, hc2, hg2⟩
  have b0 := below_drawn HB.out hg2 (by omega) HB.out.size
  have k0 := HKa.out.grown hg2 (by simp; omega)
  have hLo_HW : W1.heap.size ≤ W1.heap.size := Nat.le_refl _
  clear HB HC HKa lHKa cHKa_0 zHKa_0 cHKa_1 zHKa_1 cHKa_2 zHKa_2 cHKa_3 zHKa_3 cHKa_4 zHKa_4 cHKa_5 zHKa_5 hg2
  have HB := Lib.hid b0
  have HC := Lib.hid hc2
  clear b0 hc2
  have HKa := Lib.hid k0
  clear k0
  have lHKa : w.heap.size < W2.heap.size := HKa.out.lt
  have cHKa_0 := HKa.out.cell (i := 0) rfl
  have zHKa_0 := HKa.out.frozen 0
  have cHKa_1 := HKa.out.cell (i := 1) rfl
  have zHKa_1 := HKa.out.frozen 1
  have cHKa_2 := HKa.out.cell (i := 2) rfl
  have zHKa_2 := HKa.out.frozen 2
  have cHKa_3 := HKa.out.cell (i := 3) rfl
  have zHKa_3 := HKa.out.frozen 3
  have cHKa_4 := HKa.out.cell (i := 4) rfl
  have zHKa_4 := HKa.out.frozen 4
  have cHKa_5 := HKa.out.cell (i := 5) rfl
  have zHKa_5 := HKa.out.frozen 5
  have HW := Lib.hid hW
  clear hW
  have hgW2 := HC.out.lt
  have HL := Lib.hid hL
  clear hL
  go_wp2_with fail
  refine bp_anchor (F := fun V => Below w.heap.size w V ∧ Blk (w.heap.size) [.int .i64 cap, .slice A1 n c1, .int .i64 cr, .int .i64 bk, .int .i64 st, .int .i64 gt] 28 V ∧ Row encR 5 V A1 xs) ⟨(by (repeat (first | with_reducible exact HB.out | with_reducible refine Below.setCell ?_ (by dsimp only; omega) _)); done), (((((((HKa.out.set 0 _).set 1 _).set 2 _).set 3 _).set 4 _).set 5 _).conv rfl), (own_rowD lenR ((by (repeat (first | with_reducible exact HW.out | with_reducible refine ownsRow_set ?_ _ _ (ownsRow_ne_low HW.out (by dsimp only; omega)))); done) : World.ownsRow _ W1.heap.size 33 5 (.slice A1 _ _) _ _) HL.out)⟩ (fun V hV => ?_)
  obtain ⟨q0, q1, qr0⟩ := hV
  have f0_0 := q1.cell (i := 0) rfl
  have f0_1 := q1.cell (i := 1) rfl
  have f0_2 := q1.cell (i := 2) rfl
  have f0_3 := q1.cell (i := 3) rfl
  have f0_4 := q1.cell (i := 4) rfl
  have f0_5 := q1.cell (i := 5) rfl
  refine bodyPost_ret (v := .agg #[.int .i64 cap, .slice A1 n c1, .int .i64 cr, .int .i64 bk, .int .i64 st, .int .i64 gt]) (by simp [results, Try.results18, go_sem, f0_0, f0_1, f0_2, f0_3, f0_4, f0_5]) rfl ?_
  exact ⟨cap, cr, bk, st, gt, A1, n, c1, xs, rfl, HL.out, hn9, hcr, hbk, hst, hgt, qr0, later_of_below q0⟩
set_option maxHeartbeats 6400000 in
theorem c_drawSendOn (A0 : Option Addr) (n0 c0 : Nat) (bs : List UInt8) (w : World) (hn : bs.length = n0) (hn2 : n0 ≤ 4294967296) (hr : Row encB 1 w A0 bs) : Calls Try.prog 12 #[.slice A0 n0 c0] w (GivenKR w) := by
  have HR := Lib.hid hr
  have HN := Lib.hid hn
  clear hr hn
  go_enter Try.func12, Try.ntmps12
  go_wp2_with fail
  refine (c_new A0 n0 c0 bs _ HN.out hn2 (((HR.out.alloc _).alloc _))).mono ?_
  rintro _ W1 ⟨g, rfl, hg, hC, p1, hp1⟩
  have HB := Lib.hid (show Below w.heap.size w W1 by rw [hp1]; exact Below.trans (Below.alloc (Below.alloc (Below.refl w.heap.size w) (by simp) _) (by simp) _) ((below_later _ p1).mono (by first | (simp; done) | (simp; omega))))
  have HKa := Lib.hid (Blk.to hp1 (show Blk (w.heap.size) [.int .i64 0, .slice Option.none 0 0, .int .i64 0, .int .i64 0, .int .i64 0, .int .i64 0] 28 _ from (Blk.new _ _ [.int .i64 0, .slice Option.none 0 0, .int .i64 0, .int .i64 0, .int .i64 0, .int .i64 0] _ (by first | rfl | (simp; done))).alloc _))
  have HKr := Lib.hid (Blk.to hp1 (show Blk (w.heap.size + 1) [.int .i64 0, .int .i64 0, .int .i64 0, .int .i64 0, .int .i64 0] 33 _ from Blk.new _ _ [.int .i64 0, .int .i64 0, .int .i64 0, .int .i64 0, .int .i64 0] _ (by first | rfl | (simp; done))))
  have HC := Lib.hid hC
  have hgs : w.heap.size + 2 ≤ g := by simpa using hg
  clear hC hg hp1
  have lHKa : w.heap.size < W1.heap.size := HKa.out.lt
  have cHKa_0 := HKa.out.cell (i := 0) rfl
  have zHKa_0 := HKa.out.frozen 0
  have cHKa_1 := HKa.out.cell (i := 1) rfl
  have zHKa_1 := HKa.out.frozen 1
  have cHKa_2 := HKa.out.cell (i := 2) rfl
  have zHKa_2 := HKa.out.frozen 2
  have cHKa_3 := HKa.out.cell (i := 3) rfl
  have zHKa_3 := HKa.out.frozen 3
  have cHKa_4 := HKa.out.cell (i := 4) rfl
  have zHKa_4 := HKa.out.frozen 4
  have cHKa_5 := HKa.out.cell (i := 5) rfl
  have zHKa_5 := HKa.out.frozen 5
  have lHKr : w.heap.size + 1 < W1.heap.size := HKr.out.lt
  have cHKr_0 := HKr.out.cell (i := 0) rfl
  have zHKr_0 := HKr.out.frozen 0
  have cHKr_1 := HKr.out.cell (i := 1) rfl
  have zHKr_1 := HKr.out.frozen 1
  have cHKr_2 := HKr.out.cell (i := 2) rfl
  have zHKr_2 := HKr.out.frozen 2
  have cHKr_3 := HKr.out.cell (i := 3) rfl
  have zHKr_3 := HKr.out.frozen 3
  have cHKr_4 := HKr.out.cell (i := 4) rfl
  have zHKr_4 := HKr.out.frozen 4
  have v_HKa := lHKa
  have v_HKr := lHKr
  have hgW1 := HC.out.lt
  go_wp2_with fail
  refine (c_l06Any g _ HC.out).mono ?_
  rintro _ W2 ⟨cap, cr, bk, st, gt, A1, n, c1, xs, rfl, hL, hn9, hcr, hbk, hst, hgt, hW, hc2, hg2⟩
  have b0 := below_drawn HB.out hg2 (by omega) HB.out.size
  have k0 := HKa.out.grown hg2 (by simp; omega)
  have k1 := HKr.out.grown hg2 (by simp; omega)
  have hLo_HW : W1.heap.size ≤ W1.heap.size := Nat.le_refl _
  clear HB HC HKa lHKa cHKa_0 zHKa_0 cHKa_1 zHKa_1 cHKa_2 zHKa_2 cHKa_3 zHKa_3 cHKa_4 zHKa_4 cHKa_5 zHKa_5 HKr lHKr cHKr_0 zHKr_0 cHKr_1 zHKr_1 cHKr_2 zHKr_2 cHKr_3 zHKr_3 cHKr_4 zHKr_4 hg2
  have HB := Lib.hid b0
  have HC := Lib.hid hc2
  clear b0 hc2
  have HKa := Lib.hid k0
  clear k0
  have lHKa : w.heap.size < W2.heap.size := HKa.out.lt
  have cHKa_0 := HKa.out.cell (i := 0) rfl
  have zHKa_0 := HKa.out.frozen 0
  have cHKa_1 := HKa.out.cell (i := 1) rfl
  have zHKa_1 := HKa.out.frozen 1
  have cHKa_2 := HKa.out.cell (i := 2) rfl
  have zHKa_2 := HKa.out.frozen 2
  have cHKa_3 := HKa.out.cell (i := 3) rfl
  have zHKa_3 := HKa.out.frozen 3
  have cHKa_4 := HKa.out.cell (i := 4) rfl
  have zHKa_4 := HKa.out.frozen 4
  have cHKa_5 := HKa.out.cell (i := 5) rfl
  have zHKa_5 := HKa.out.frozen 5
  have HKr := Lib.hid k1
  clear k1
  have lHKr : w.heap.size + 1 < W2.heap.size := HKr.out.lt
  have cHKr_0 := HKr.out.cell (i := 0) rfl
  have zHKr_0 := HKr.out.frozen 0
  have cHKr_1 := HKr.out.cell (i := 1) rfl
  have zHKr_1 := HKr.out.frozen 1
  have cHKr_2 := HKr.out.cell (i := 2) rfl
  have zHKr_2 := HKr.out.frozen 2
  have cHKr_3 := HKr.out.cell (i := 3) rfl
  have zHKr_3 := HKr.out.frozen 3
  have cHKr_4 := HKr.out.cell (i := 4) rfl
  have zHKr_4 := HKr.out.frozen 4
  have HW := Lib.hid hW
  clear hW
  have hgW2 := HC.out.lt
  have HL := Lib.hid hL
  clear hL
  go_wp2_with fail
  refine (c_l05Any g _ HC.out).mono ?_
  rintro _ W3 ⟨_, rfl, ⟨o, a, b, k, e, rfl, ho, ha, hb, hk, he⟩, hc2, hg2⟩
  have b0 := below_drawn HB.out hg2 (by omega) HB.out.size
  have k0 := HKa.out.grown hg2 (by simp; omega)
  have k1 := HKr.out.grown hg2 (by simp; omega)
  have r0 := HW.out.kept hg2 (.inr (fun e => by have := (HW.out.lt _ e).1; omega))
  clear HB HC HKa lHKa cHKa_0 zHKa_0 cHKa_1 zHKa_1 cHKa_2 zHKa_2 cHKa_3 zHKa_3 cHKa_4 zHKa_4 cHKa_5 zHKa_5 HKr lHKr cHKr_0 zHKr_0 cHKr_1 zHKr_1 cHKr_2 zHKr_2 cHKr_3 zHKr_3 cHKr_4 zHKr_4 HW hg2
  have HB := Lib.hid b0
  have HC := Lib.hid hc2
  clear b0 hc2
  have HKa := Lib.hid k0
  clear k0
  have lHKa : w.heap.size < W3.heap.size := HKa.out.lt
  have cHKa_0 := HKa.out.cell (i := 0) rfl
  have zHKa_0 := HKa.out.frozen 0
  have cHKa_1 := HKa.out.cell (i := 1) rfl
  have zHKa_1 := HKa.out.frozen 1
  have cHKa_2 := HKa.out.cell (i := 2) rfl
  have zHKa_2 := HKa.out.frozen 2
  have cHKa_3 := HKa.out.cell (i := 3) rfl
  have zHKa_3 := HKa.out.frozen 3
  have cHKa_4 := HKa.out.cell (i := 4) rfl
  have zHKa_4 := HKa.out.frozen 4
  have cHKa_5 := HKa.out.cell (i := 5) rfl
  have zHKa_5 := HKa.out.frozen 5
  have HKr := Lib.hid k1
  clear k1
  have lHKr : w.heap.size + 1 < W3.heap.size := HKr.out.lt
  have cHKr_0 := HKr.out.cell (i := 0) rfl
  have zHKr_0 := HKr.out.frozen 0
  have cHKr_1 := HKr.out.cell (i := 1) rfl
  have zHKr_1 := HKr.out.frozen 1
  have cHKr_2 := HKr.out.cell (i := 2) rfl
  have zHKr_2 := HKr.out.frozen 2
  have cHKr_3 := HKr.out.cell (i := 3) rfl
  have zHKr_3 := HKr.out.frozen 3
  have cHKr_4 := HKr.out.cell (i := 4) rfl
  have zHKr_4 := HKr.out.frozen 4
  have HW := Lib.hid r0
  clear r0
  have hgW3 := HC.out.lt
  go_wp2_with fail
  refine bp_anchor (F := fun V => Below w.heap.size w V ∧ Blk (w.heap.size) [.int .i64 cap, .slice A1 n c1, .int .i64 cr, .int .i64 bk, .int .i64 st, .int .i64 gt] 28 V ∧ Blk (w.heap.size + 1) [.int .i64 o, .int .i64 a, .int .i64 b, .int .i64 k, .int .i64 e] 33 V ∧ Row encR 5 V A1 xs) ⟨(by (repeat (first | with_reducible exact HB.out | with_reducible refine Below.setCell ?_ (by dsimp only; omega) _)); done), ((((((((((((HKa.out.set 0 _).set 1 _).set 2 _).set 3 _).set 4 _).set 5 _).other (by dsimp only; omega) _).other (by dsimp only; omega) _).other (by dsimp only; omega) _).other (by dsimp only; omega) _).other (by dsimp only; omega) _).conv rfl), ((((((((((((HKr.out.other (by dsimp only; omega) _).other (by dsimp only; omega) _).other (by dsimp only; omega) _).other (by dsimp only; omega) _).other (by dsimp only; omega) _).other (by dsimp only; omega) _).set 0 _).set 1 _).set 2 _).set 3 _).set 4 _).conv rfl), (own_rowD lenR ((by (repeat (first | with_reducible exact HW.out | with_reducible refine ownsRow_set ?_ _ _ (ownsRow_ne_low HW.out (by dsimp only; omega)))); done) : World.ownsRow _ W1.heap.size 33 5 (.slice A1 _ _) _ _) HL.out)⟩ (fun V hV => ?_)
  obtain ⟨q0, q1, q2, qr0⟩ := hV
  have f0_0 := q1.cell (i := 0) rfl
  have f0_1 := q1.cell (i := 1) rfl
  have f0_2 := q1.cell (i := 2) rfl
  have f0_3 := q1.cell (i := 3) rfl
  have f0_4 := q1.cell (i := 4) rfl
  have f0_5 := q1.cell (i := 5) rfl
  have f1_0 := q2.cell (i := 0) rfl
  have f1_1 := q2.cell (i := 1) rfl
  have f1_2 := q2.cell (i := 2) rfl
  have f1_3 := q2.cell (i := 3) rfl
  have f1_4 := q2.cell (i := 4) rfl
  refine bodyPost_ret (v := .tuple #[.agg #[.int .i64 cap, .slice A1 n c1, .int .i64 cr, .int .i64 bk, .int .i64 st, .int .i64 gt], .agg #[.int .i64 o, .int .i64 a, .int .i64 b, .int .i64 k, .int .i64 e]]) (by simp [results, Try.results12, go_sem, f0_0, f0_1, f0_2, f0_3, f0_4, f0_5, f1_0, f1_1, f1_2, f1_3, f1_4]) rfl ?_
  exact ⟨cap, cr, bk, st, gt, A1, n, c1, xs, o, a, b, k, e, rfl, HL.out, hn9, hcr, hbk, hst, hgt, qr0, later_of_below q0⟩
set_option maxHeartbeats 6400000 in
theorem c_drawInFlight (A0 : Option Addr) (n0 c0 : Nat) (bs : List UInt8) (w : World) (hn : bs.length = n0) (hn2 : n0 ≤ 4294967296) (hr : Row encB 1 w A0 bs) : Calls Try.prog 20 #[.slice A0 n0 c0] w (GivenKI w) := by
  have HR := Lib.hid hr
  have HN := Lib.hid hn
  clear hr hn
  go_enter Try.func20, Try.ntmps20
  go_wp2_with fail
  refine (c_new A0 n0 c0 bs _ HN.out hn2 ((HR.out.alloc _))).mono ?_
  rintro _ W1 ⟨g, rfl, hg, hC, p1, hp1⟩
  have HB := Lib.hid (show Below w.heap.size w W1 by rw [hp1]; exact Below.trans (Below.alloc (Below.refl w.heap.size w) (by simp) _) ((below_later _ p1).mono (by first | (simp; done) | (simp; omega))))
  have HKa := Lib.hid (Blk.to hp1 (show Blk (w.heap.size) [.int .i64 0, .slice Option.none 0 0, .int .i64 0, .int .i64 0, .int .i64 0, .int .i64 0] 28 _ from Blk.new _ _ [.int .i64 0, .slice Option.none 0 0, .int .i64 0, .int .i64 0, .int .i64 0, .int .i64 0] _ (by first | rfl | (simp; done))))
  have HC := Lib.hid hC
  have hgs : w.heap.size + 1 ≤ g := by simpa using hg
  clear hC hg hp1
  have lHKa : w.heap.size < W1.heap.size := HKa.out.lt
  have cHKa_0 := HKa.out.cell (i := 0) rfl
  have zHKa_0 := HKa.out.frozen 0
  have cHKa_1 := HKa.out.cell (i := 1) rfl
  have zHKa_1 := HKa.out.frozen 1
  have cHKa_2 := HKa.out.cell (i := 2) rfl
  have zHKa_2 := HKa.out.frozen 2
  have cHKa_3 := HKa.out.cell (i := 3) rfl
  have zHKa_3 := HKa.out.frozen 3
  have cHKa_4 := HKa.out.cell (i := 4) rfl
  have zHKa_4 := HKa.out.frozen 4
  have cHKa_5 := HKa.out.cell (i := 5) rfl
  have zHKa_5 := HKa.out.frozen 5
  have v_HKa := lHKa
  have hgW1 := HC.out.lt
  go_wp2_with fail
  refine (c_l06Any g _ HC.out).mono ?_
  rintro _ W2 ⟨cap, cr, bk, st, gt, A1, n, c1, xs, rfl, hL, hn9, hcr, hbk, hst, hgt, hW, hc2, hg2⟩
  have b0 := below_drawn HB.out hg2 (by omega) HB.out.size
  have k0 := HKa.out.grown hg2 (by simp; omega)
  have hLo_HW : W1.heap.size ≤ W1.heap.size := Nat.le_refl _
  clear HB HC HKa lHKa cHKa_0 zHKa_0 cHKa_1 zHKa_1 cHKa_2 zHKa_2 cHKa_3 zHKa_3 cHKa_4 zHKa_4 cHKa_5 zHKa_5 hg2
  have HB := Lib.hid b0
  have HC := Lib.hid hc2
  clear b0 hc2
  have HKa := Lib.hid k0
  clear k0
  have lHKa : w.heap.size < W2.heap.size := HKa.out.lt
  have cHKa_0 := HKa.out.cell (i := 0) rfl
  have zHKa_0 := HKa.out.frozen 0
  have cHKa_1 := HKa.out.cell (i := 1) rfl
  have zHKa_1 := HKa.out.frozen 1
  have cHKa_2 := HKa.out.cell (i := 2) rfl
  have zHKa_2 := HKa.out.frozen 2
  have cHKa_3 := HKa.out.cell (i := 3) rfl
  have zHKa_3 := HKa.out.frozen 3
  have cHKa_4 := HKa.out.cell (i := 4) rfl
  have zHKa_4 := HKa.out.frozen 4
  have cHKa_5 := HKa.out.cell (i := 5) rfl
  have zHKa_5 := HKa.out.frozen 5
  have HW := Lib.hid hW
  clear hW
  have hgW2 := HC.out.lt
  have HL := Lib.hid hL
  clear hL
  go_wp2_with fail
  refine (c_below g 6 _ HC.out (by unfold I64; omega)).mono ?_
  rintro _ W3 ⟨_, rfl, ⟨x, rfl, hx, hx2, -⟩, hc2, hg2⟩
  have b0 := below_drawn HB.out hg2 (by omega) HB.out.size
  have k0 := HKa.out.grown hg2 (by simp; omega)
  have r0 := HW.out.kept hg2 (.inr (fun e => by have := (HW.out.lt _ e).1; omega))
  clear HB HC HKa lHKa cHKa_0 zHKa_0 cHKa_1 zHKa_1 cHKa_2 zHKa_2 cHKa_3 zHKa_3 cHKa_4 zHKa_4 cHKa_5 zHKa_5 HW hg2
  have HB := Lib.hid b0
  have HC := Lib.hid hc2
  clear b0 hc2
  have HKa := Lib.hid k0
  clear k0
  have lHKa : w.heap.size < W3.heap.size := HKa.out.lt
  have cHKa_0 := HKa.out.cell (i := 0) rfl
  have zHKa_0 := HKa.out.frozen 0
  have cHKa_1 := HKa.out.cell (i := 1) rfl
  have zHKa_1 := HKa.out.frozen 1
  have cHKa_2 := HKa.out.cell (i := 2) rfl
  have zHKa_2 := HKa.out.frozen 2
  have cHKa_3 := HKa.out.cell (i := 3) rfl
  have zHKa_3 := HKa.out.frozen 3
  have cHKa_4 := HKa.out.cell (i := 4) rfl
  have zHKa_4 := HKa.out.frozen 4
  have cHKa_5 := HKa.out.cell (i := 5) rfl
  have zHKa_5 := HKa.out.frozen 5
  have HW := Lib.hid r0
  clear r0
  have hgW3 := HC.out.lt
  have hx3 := hx2 (by omega)
  clear hx2
  go_wp2_with fail
  refine bp_anchor (F := fun V => Below w.heap.size w V ∧ Blk (w.heap.size) [.int .i64 cap, .slice A1 n c1, .int .i64 cr, .int .i64 bk, .int .i64 st, .int .i64 gt] 28 V ∧ Row encR 5 V A1 xs) ⟨(by (repeat (first | with_reducible exact HB.out | with_reducible refine Below.setCell ?_ (by dsimp only; omega) _)); done), (((((((HKa.out.set 0 _).set 1 _).set 2 _).set 3 _).set 4 _).set 5 _).conv rfl), (own_rowD lenR ((by (repeat (first | with_reducible exact HW.out | with_reducible refine ownsRow_set ?_ _ _ (ownsRow_ne_low HW.out (by dsimp only; omega)))); done) : World.ownsRow _ W1.heap.size 33 5 (.slice A1 _ _) _ _) HL.out)⟩ (fun V hV => ?_)
  obtain ⟨q0, q1, qr0⟩ := hV
  have f0_0 := q1.cell (i := 0) rfl
  have f0_1 := q1.cell (i := 1) rfl
  have f0_2 := q1.cell (i := 2) rfl
  have f0_3 := q1.cell (i := 3) rfl
  have f0_4 := q1.cell (i := 4) rfl
  have f0_5 := q1.cell (i := 5) rfl
  refine bodyPost_ret (v := .tuple #[.agg #[.int .i64 cap, .slice A1 n c1, .int .i64 cr, .int .i64 bk, .int .i64 st, .int .i64 gt], .int .i64 (x - 1)]) (by simp [results, Try.results20, go_sem, f0_0, f0_1, f0_2, f0_3, f0_4, f0_5]) rfl ?_
  exact ⟨cap, cr, bk, st, gt, A1, n, c1, xs, x - 1, rfl, by omega, HL.out, hn9, hcr, hbk, hst, hgt, qr0, later_of_below q0⟩
end Go.Proofs.Ytcmhmdccfihhiaa
