/-
  The law FnInOrder returns true for every input, and its argument reads afterwards as before. Conditions: none.
-/
import Derived.Test.YtcmhmdccfihhiaaDrawO
import Derived.Test.YtcmhmdccfihhiaaOpenB
import Derived.Test.YtcmhmdccfihhiaaScal
import Derived.Test.YtcmhmdccfihhiaaLnkS
import Derived.Test.YtcmhmdccfihhiaaLnkT
namespace Go.Proofs.Ytcmhmdccfihhiaa
open Go.ChangeShapes Go.WideShapes Go.ChangeAt Go.RowKit Go.Deep Go.Joins
set_option linter.unusedVariables false

/-- n records with one key behind the other, from C on -/
def keyed : Int → Nat → List (Int × (Int × Int) × Int × Int)
  | _, 0 => []
  | C, n + 1 => (0, (0, 0), C, 0) :: keyed (C + 1) n
theorem keyed_len : ∀ (n : Nat) (C : Int), (keyed C n).length = n
  | 0, _ => rfl
  | n + 1, C => by simp [keyed, keyed_len n]
theorem keyed_snoc : ∀ (n : Nat) (C : Int), keyed C n ++ [(0, (0, 0), C + n, 0)] = keyed C (n + 1)
  | 0, C => by simp [keyed]
  | n + 1, C => by
    have := keyed_snoc n (C + 1)
    rw [show C + 1 + (n : Int) = C + ((n + 1 : Nat) : Int) by omega] at this
    simp only [keyed, List.cons_append, this]
theorem keyed_ok : ∀ (n : Nat) (C : Int), 0 ≤ C → C + n ≤ 100 → (keyed C n).any rcBad = false
  | 0, _, _, _ => rfl
  | n + 1, C, h0, h1 => by
    simp only [keyed, List.any_cons, Bool.or_eq_false_iff]
    refine ⟨?_, keyed_ok n (C + 1) (by omega) (by omega)⟩
    unfold rcBad rcOkT
    have : rcOk 0 0 0 C 0 = true := by
      unfold rcOk stOk itOk
      simp
      omega
    simp [this]
theorem ok_keyed {cap cr bk C : Int} {n : Nat} (h1 : 1 ≤ cap) (h2 : cap ≤ 4) (h3 : 0 ≤ cr) (h4 : 0 ≤ bk) (h5 : cr + bk + n = cap) (h6 : 0 ≤ C) (h7 : C + n ≤ 100) : lkOk cap cr bk (C + n) C (keyed C n) = true := by
  unfold lkOk lkNum
  rw [keyed_ok n C h6 h7, keyed_len]
  simp
  omega
theorem take_keyed0 {cap cr bk C : Int} (h : lkOk cap cr bk (C + (0 : Nat)) C (keyed C 0) = true) : takeFrom cap cr bk (C + (0 : Nat)) C (keyed C 0) = (bk, C, [], (0, (0, 0), 0, 0), false) := by
  unfold takeFrom; rw [if_pos h]; rfl
theorem take_keyedS {cap cr bk C : Int} {n : Nat} (h : lkOk cap cr bk (C + (n + 1 : Nat)) C (keyed C (n + 1)) = true) : takeFrom cap cr bk (C + (n + 1 : Nat)) C (keyed C (n + 1)) = (bk + 1, C + 1, keyed (C + 1) n, (0, (0, 0), C, 0), true) := by
  unfold takeFrom; rw [if_pos h]; rfl
theorem back_keyed0 {cap cr C : Int} {n : Nat} (h : lkOk cap cr 0 (C + n) C (keyed C n) = true) : creditBack cap cr 0 (C + n) C (keyed C n) = (cr, 0, false) := by
  unfold creditBack crBack; rw [h]; rfl
theorem back_keyedS {cap cr bk C : Int} {n : Nat} (hb : bk ≠ 0) (h : lkOk cap cr bk (C + n) C (keyed C n) = true) : creditBack cap cr bk (C + n) C (keyed C n) = (cr + 1, bk - 1, true) := by
  unfold creditBack crBack; rw [h]; simp [hb]
theorem send_keyed0 {cap bk C : Int} {n : Nat} (r : Int × (Int × Int) × Int × Int) : sendOn cap 0 bk (C + n) C (keyed C n) r = (0, C + n, keyed C n, false) := by
  unfold sendOn; simp
theorem send_keyedS {cap cr bk C : Int} {n : Nat} (hc : cr ≠ 0) (h0 : 0 ≤ C) (h1 : C + n ≤ 50) (h : lkOk cap cr bk (C + n) C (keyed C n) = true) : sendOn cap cr bk (C + n) C (keyed C n) (0, (0, 0), C + n, 0) = (cr - 1, C + n + 1, keyed C (n + 1), true) := by
  unfold sendOn
  have hr : rcOkT (0, (0, 0), C + (n : Int), 0) = true := by
    unfold rcOkT rcOk stOk itOk; simp; omega
  have hs : ¬ (C + (n : Int) = 1000000000) := by omega
  rw [h, hr, decide_eq_false hc, decide_eq_false hs, keyed_snoc]
  rfl
theorem row_set {α : Type} {enc : α → List Value} {k n : Nat} {w : World} {A : Option Addr} {xs : List α} {a : Addr} (h : Row enc k w A xs) (hn : xs.length = n) (hne : some a.block ≠ ob A n) (v : Value) : Row enc k (w.setCell a v) A xs :=
  h.grown (w' := w.setCell a v) (row := some a.block) ⟨rfl, rfl, rfl, by simp [World.setCell], fun j hj hne => Below.heap_setCell _ _ _ _ (fun e => hne (by rw [e]))⟩ (fun b hb e => hne (by rw [← e, hb, hn]))
theorem cell_set {w : World} {a d : Addr} {u : Value} (h : w.cell? a = some u) (hne : ¬ a.block = d.block) (v : Value) : (w.setCell d v).cell? a = some u :=
  (show w.grownBy (w.setCell d v) (some d.block) from ⟨rfl, rfl, rfl, by simp [World.setCell], fun j hj hne => Below.heap_setCell _ _ _ _ (fun e => hne (by rw [e]))⟩).cell h (fun e => hne (by simpa using e))
theorem o_new (k : Int) (w : World) (h1 : 1 ≤ k) (h2 : k ≤ 4) : Calls Try.prog 7 #[.int .i64 k] w (Gives (.agg #[.int .i64 k, .slice Option.none 0 0, .int .i64 k, .int .i64 0, .int .i64 0, .int .i64 0]) w) := by
  have h := c_iLinkNew k w
  have e : brought k 1 4 = k := by unfold brought; rw [if_neg (by omega), if_neg (by omega)]
  rw [e] at h
  exact h

set_option maxRecDepth 100000 in
set_option maxHeartbeats 6400000 in
theorem w_InOrder (A : Option Addr) (n c : Nat) (xs : List UInt8) (hn : xs.length = n) (w : World) (hr : Row encB 1 w A xs) : Calls Try.prog 3 #[.slice A n c] w (Gives (.bool true) w) := by
  have HR := Lib.hid hr
  have HN := Lib.hid hn
  clear hr hn
  by_cases hbig : 1048576 < n
  · have hz : decide (1048576 < n) = true := by simpa using hbig
    go_enter Try.func3, Try.ntmps3
    go_wp2_with (first | (go_at_call 5; (refine (c_big _ _ _ _ _ hz).mono ?_); rintro _ _ ⟨rfl, p, rfl⟩) | ((with_reducible refine wp_region_later (by kernel_rfl) (by kernel_rfl) ?_); (try dsimp only [List.append]); (repeat (first | go_big_quiet_skip | go_big_quiet_step ((first | (go_at_call 5; first | exact calls_later (c_big _ _ _ _ _ hz) | exact calls_later2 (c_big _ _ _ _ _ hz)))) | quiet_step ((first | (go_at_call 5; first | exact calls_later (c_big _ _ _ _ _ hz) | exact calls_later2 (c_big _ _ _ _ _ hz)))))); refine wpQuiet_nil ?_; rintro _ ⟨p, rfl⟩))
    go_ret
    exact Gives.mk rfl (by (repeat (first | with_reducible exact Below.refl _ _ | with_reducible assumption | with_reducible refine Below.drew ?_ | with_reducible refine below_drewN ?_ _ | with_reducible exact HQ.out | with_reducible exact HBW.out | with_reducible refine below_ext ?_ _ _ | with_reducible refine below_then_later ?_ (by first | with_reducible exact Nat.le_refl _ | with_reducible exact HBW.out.size | with_reducible exact HQ.out.size | omega | (simp; done) | (simp; omega) | (simp [later_size]; done) | (simp [later_size]; omega)) _ | with_reducible refine Below.setCell ?_ (by first | with_reducible exact Nat.le_refl _ | with_reducible exact HBW.out.size | with_reducible exact HQ.out.size | omega | (simp; done) | (simp; omega) | (simp [later_size]; done) | (simp [later_size]; omega)) _ | with_reducible refine Below.alloc ?_ (by first | with_reducible exact Nat.le_refl _ | with_reducible exact HBW.out.size | with_reducible exact HQ.out.size | omega | (simp; done) | (simp; omega) | (simp [later_size]; done) | (simp [later_size]; omega)) _)))
  · have hz : decide (1048576 < n) = false := by simpa using hbig
    go_enter Try.func3, Try.ntmps3
    go_wp2_with (first | (go_at_call 5; (with_reducible refine (c_big _ _ _ _ _ hz).mono ?_); rintro _ w1 ⟨rfl, p, hp⟩; have HP := Lib.hid hp; have HR1 := Lib.hid (show Row encB 1 w1 A xs by rw [hp]; exact HR.out.later _); clear hp) | (go_at_call 6; (refine (c_drawPlaces _ _ _ xs _ HN.out (by omega) HR1.out).mono ?_); rintro _ w3 ⟨A2, c2, ps, rfl, hpl, hpb, hpr, p3, hp3⟩; have HB3 := Lib.hid (show Below w.heap.size w w3 by rw [hp3, HP.out]; exact (below_later _ _).trans ((below_later _ _).mono (below_later _ _).size)); clear hp3 HP HR1; obtain ⟨b, off, rfl, hcells⟩ : ∃ b off, A2 = some ⟨b, off, Option.none⟩ ∧ ∀ (j : Nat) (q : Int), ps[j]? = some q → w3.cell? ⟨b, off + j, Option.none⟩ = some (.int .i64 q) := (by obtain ⟨b, off, e, h⟩ := hpr (by rw [hpl]; omega); exact ⟨b, off, e, fun j q hq => by have := h j q hq 0 _ rfl; simpa using this⟩); have HC := Lib.hid hcells; have HPL := Lib.hid hpl; have HPB := Lib.hid hpb; clear hcells hpl hpb hpr; obtain ⟨q0, hq0⟩ : ∃ z, ps[0]? = some z := ⟨_, List.getElem?_eq_getElem (by rw [HPL.out]; omega)⟩; have hc0 := HC.out 0 q0 hq0; simp only [Nat.add_zero] at hc0; obtain ⟨hb0, hb0'⟩ := HPB.out q0 (List.mem_of_getElem? hq0); have HQ00 := Lib.hid (show ∀ q, ps[0]? = some q → q0 = q from fun q h => by rw [hq0] at h; exact Option.some.inj h); clear hq0; obtain ⟨kk, hkk⟩ : ∃ kk, 1 + q0 % 4 = kk := ⟨_, rfl⟩; have hkk1 : 1 ≤ kk := (by omega); have hkk4 : kk ≤ 4 := (by omega)) | (go_at_call 7; (with_reducible refine (o_new kk _ hkk1 hkk4).mono ?_); rintro _ _ ⟨rfl, p, rfl⟩) | ((with_reducible refine wp_region_later (by kernel_rfl) (by kernel_rfl) ?_); (try dsimp only [List.append]); (repeat (first | go_big_quiet_skip | go_big_quiet_step ((first | (go_at_call 7; first | with_reducible exact calls_later (o_new kk _ hkk1 hkk4) | with_reducible exact calls_later2 (o_new kk _ hkk1 hkk4)))) | quiet_step ((first | (go_at_call 7; first | with_reducible exact calls_later (o_new kk _ hkk1 hkk4) | with_reducible exact calls_later2 (o_new kk _ hkk1 hkk4)))))); refine wpQuiet_nil ?_; rintro _ ⟨p, rfl⟩))
    have hbs : b < w3.heap.size := World.block_lt_of_cell? _ _ hc0
    refine wp_anchor (F := fun W => Below w.heap.size w W ∧ Blk (later w3 p).heap.size [.int .i64 kk, .slice Option.none 0 0, .int .i64 kk, .int .i64 0, .int .i64 0, .int .i64 0] 28 W ∧ (∀ (j : Nat) (q : Int), ps[j]? = some q → W.cell? ⟨b, off + j, Option.none⟩ = some (.int .i64 q))) ⟨((HB3.out.trans ((below_later _ _).mono HB3.out.size)).alloc (Nat.le_trans HB3.out.size (below_later _ _).size) _), Blk.new _ _ [.int .i64 kk, .slice Option.none 0 0, .int .i64 kk, .int .i64 0, .int .i64 0, .int .i64 0] _ rfl, (fun j q hq => cell_alloc_eq (cell_later_eq (HC.out j q hq)))⟩ (fun W4 hW4 => ?_)
    have hgs : w3.heap.size ≤ (later w3 p).heap.size := (below_later w3 p).size
    have hgw : w.heap.size ≤ (later w3 p).heap.size := Nat.le_trans HB3.out.size hgs
    clear hc0 HC
    generalize (later w3 p).heap.size = g at hW4 hgs hgw ⊢
    obtain ⟨hB4, hK4, hC4⟩ := hW4
    have hgb : b < g := Nat.lt_of_lt_of_le hbs hgs
    have hbg1 : ¬ b = g := Nat.ne_of_lt hgb
    have hbg2 : ¬ g = b := fun e => hbg1 e.symm
    have HB4 := Lib.hid hB4
    have HK4 := Lib.hid hK4
    have HC4 := Lib.hid hC4
    clear hB4 hK4 hC4 HB3 hbs hgs HR
    go_loopw [5, 6, 7] (fun s t v wr => ∃ (i m : Nat) (C cr bk : Int) (Q : Option Addr) (qc : Nat), v = .int .i64 i ∧ i ≤ 30 ∧ t = .int .i64 C ∧ s = .int .i64 (C + m) ∧ 0 ≤ C ∧ C + m ≤ i ∧ 0 ≤ cr ∧ 0 ≤ bk ∧ cr + bk + m = kk ∧ Blk g [.int .i64 kk, .slice Q m qc, .int .i64 cr, .int .i64 bk, .int .i64 (C + m), .int .i64 C] 28 wr ∧ Row encR 5 wr Q (keyed C m) ∧ some g ≠ ob Q m ∧ Below w.heap.size w wr ∧ (∀ (j : Nat) (q : Int), ps[j]? = some q → wr.cell? ⟨b, off + j, Option.none⟩ = some (.int .i64 q))) (fun _ _ v _ => 30 - (intOf v).toNat)
    case atStart => exact ⟨0, 0, 0, kk, 0, Option.none, 0, rfl, by omega, rfl, rfl, by omega, by omega, by omega, by omega, by omega, HK4.out, Row.nil, by simp [ob], HB4.out, HC4.out⟩
    case round =>
      obtain ⟨i, m, C, cr, bk, Q, qc, rfl, hi, rfl, rfl, h0, hs1, hcr, hbk, hsum, hK, hQ, hne, hB, hCl⟩ := hrel
      clear HB4 HK4 HC4
      have HQ := Lib.hid hQ
      have HNE := Lib.hid hne
      have HBW := Lib.hid hB
      have HCL := Lib.hid hCl
      have HOK := Lib.hid (ok_keyed hkk1 hkk4 hcr hbk hsum h0 (by omega))
      clear hQ hne hB hCl
      by_cases hlt : i < 30
      · have hsz := HBW.out.size
        have k0 := hK.cell (i := 0) rfl
        have k1 := hK.cell (i := 1) rfl
        have k2 := hK.cell (i := 2) rfl
        have k3 := hK.cell (i := 3) rfl
        have k4 := hK.cell (i := 4) rfl
        have k5 := hK.cell (i := 5) rfl
        have z0 := hK.frozen 0
        have z1 := hK.frozen 1
        have z2 := hK.frozen 2
        have z3 := hK.frozen 3
        have z4 := hK.frozen 4
        have z5 := hK.frozen 5
        have lK := hK.lt
        have lK' := Nat.le_of_lt lK
        have HK := Lib.hid hK
        clear hK
        obtain ⟨q, hq⟩ : ∃ q, ps[1 + i % 7]? = some q := ⟨_, List.getElem?_eq_getElem (by rw [HPL.out]; omega)⟩
        have hcq := HCL.out (1 + i % 7) q hq
        obtain ⟨hqb, hqb'⟩ := HPB.out q (List.mem_of_getElem? hq)
        clear hq
        go_wp2_with fail
        · cases m with
          | zero =>
            refine (m_iTakeFrom kk cr bk _ C Q 0 qc (keyed C 0) _ bk C [] 0 0 0 0 0 false (keyed_len _ _) (by omega) (by unfold I64; omega) (by unfold I64; omega) (by unfold I64; omega) (by unfold I64; omega) (HQ.out.alloc _) (take_keyed0 HOK.out)).mono ?_
            rintro _ w5 ⟨Q', m', qc', rfl, hl, hc', hm', hO, p5, hp5⟩
            obtain rfl : 0 = m' := (keyed_len (0) (C)).symm.trans hl
            have K5 := Blk.to hp5 (HK.out.alloc _)
            have R5 := Lib.hid (Blk.to hp5 (Blk.new wr wr.heap.size [.int .i64 0, .int .i64 0, .int .i64 0, .int .i64 0, .int .i64 0] 33 rfl))
            have ngr : ¬ wr.heap.size = g := Nat.ne_of_gt lK
            have nrg : ¬ g = wr.heap.size := Nat.ne_of_lt lK
            have nbr : ¬ b = wr.heap.size := fun e => by omega
            have HBW0 := Lib.hid HBW.out.size
            have hs5 : wr.heap.size ≤ w5.heap.size := by rw [hp5]; exact Nat.le_trans (by simp) (below_later _ p5).size
            have HB5 := Lib.hid (show Below w.heap.size w w5 by rw [hp5]; exact (HBW.out.alloc HBW.out.size _).trans ((below_later _ _).mono (Nat.le_trans HBW.out.size (by simp))))
            have HC5 := Lib.hid (show ∀ (j : Nat) (q : Int), ps[j]? = some q → w5.cell? ⟨b, off + j, Option.none⟩ = some (.int .i64 q) from fun j q hq => by rw [hp5]; exact cell_later_eq (cell_alloc_eq (HCL.out j q hq)))
            have HQ5 := Lib.hid (show Row encR 5 w5 Q' (keyed (C) (0)) from hO.row)
            have HN5 := Lib.hid (hO.ne_low (n := 0) (by first | exact keyed_len _ _ | rfl) (Nat.lt_of_lt_of_le lK (by simp)))
            have HNR5 := Lib.hid (hO.ne_low (g := wr.heap.size) (n := 0) (by first | exact keyed_len _ _ | rfl) (by simp))
            have HO5 := Lib.hid (ok_keyed (n := 0) (C := C) (cr := cr) (bk := bk) hkk1 hkk4 (by omega) (by omega) (by omega) (by omega) (by omega))
            clear hl hO hp5 HQ HNE HBW HCL HK HOK hcq k0 k1 k2 k3 k4 k5 z0 z1 z2 z3 z4 z5
            have lK5 := K5.lt
            have lK5' := Nat.le_of_lt lK5
            have lR5 := R5.out.lt
            have lR5' := Nat.le_of_lt lR5
            have r0 := R5.out.cell (i := 0) rfl
            have y0 := R5.out.frozen 0
            have r1 := R5.out.cell (i := 1) rfl
            have y1 := R5.out.frozen 1
            have r2 := R5.out.cell (i := 2) rfl
            have y2 := R5.out.frozen 2
            have r3 := R5.out.cell (i := 3) rfl
            have y3 := R5.out.frozen 3
            have r4 := R5.out.cell (i := 4) rfl
            have y4 := R5.out.frozen 4
            have k0 := K5.cell (i := 0) rfl
            have k1 := K5.cell (i := 1) rfl
            have k2 := K5.cell (i := 2) rfl
            have k3 := K5.cell (i := 3) rfl
            have k4 := K5.cell (i := 4) rfl
            have k5 := K5.cell (i := 5) rfl
            have z0 := K5.frozen 0
            have z1 := K5.frozen 1
            have z2 := K5.frozen 2
            have z3 := K5.frozen 3
            have z4 := K5.frozen 4
            have z5 := K5.frozen 5
            have HK5 := Lib.hid K5
            clear K5
            go_wp2_with fail
            refine calls_anchor (F := fun W => Below w.heap.size w W ∧ Blk g [.int .i64 kk, .slice Q' 0 qc', .int .i64 (cr), .int .i64 (bk), .int .i64 (C), .int .i64 (C)] 28 W ∧ Row encR 5 W Q' (keyed (C) (0)) ∧ (∀ (j : Nat) (q : Int), ps[j]? = some q → W.cell? ⟨b, off + j, Option.none⟩ = some (.int .i64 q))) ⟨?_, ?_, ?_, ?_⟩ (fun W6 hW6 => ?_)
            · (repeat (first | with_reducible exact HB5.out | with_reducible refine Below.setCell ?_ (by first | exact hgw | exact HBW0.out) _))
            · (repeat (refine Blk.other ?_ (by simp only; exact nrg) _)); exact ((((((HK5.out.set 0 _).set 1 _).set 2 _).set 3 _).set 4 _).set 5 _).conv rfl
            · (repeat (first | with_reducible exact HQ5.out | with_reducible refine row_set ?_ (keyed_len _ _) HN5.out _ | with_reducible refine row_set ?_ (keyed_len _ _) HNR5.out _))
            · intro j q hq; (repeat (first | with_reducible exact HC5.out j q hq | with_reducible refine cell_set ?_ (by first | exact hbg1 | exact nbr) _))
            obtain ⟨hB6, hK6, hQ6, hC6⟩ := hW6
            clear HB5 HK5 HQ5 HC5 lK5 lK5' k0 k1 k2 k3 k4 k5 z0 z1 z2 z3 z4 z5
            clear R5 lR5 lR5' r0 y0 r1 y1 r2 y2 r3 y3 r4 y4
            have k0 := hK6.cell (i := 0) rfl
            have k1 := hK6.cell (i := 1) rfl
            have k2 := hK6.cell (i := 2) rfl
            have k3 := hK6.cell (i := 3) rfl
            have k4 := hK6.cell (i := 4) rfl
            have k5 := hK6.cell (i := 5) rfl
            have z0 := hK6.frozen 0
            have z1 := hK6.frozen 1
            have z2 := hK6.frozen 2
            have z3 := hK6.frozen 3
            have z4 := hK6.frozen 4
            have z5 := hK6.frozen 5
            have lK6 := hK6.lt
            have lK6' := Nat.le_of_lt lK6
            have HK6 := Lib.hid hK6
            have HB6 := Lib.hid hB6
            have HQ6 := Lib.hid hQ6
            have HC6 := Lib.hid hC6
            clear hB6 hK6 hQ6 hC6
            have hs6 : w.heap.size ≤ W6.heap.size := HB6.out.size
            refine (c_sLinkOk kk (cr) (bk) _ (C) Q' _ qc' (keyed (C) (0)) _ true (keyed_len _ _) (by omega) (by unfold I64; omega) (by unfold I64; omega) (by unfold I64; omega) (by unfold I64; omega) HQ6.out (by have h := HO5.out; rwa [show (C) + ((0 : Nat) : Int) = (C) by omega] at h)).mono ?_
            rintro _ _ ⟨rfl, p, rfl⟩
            go_wp2_with fail
            go_roundw
            case rel => exact ⟨i + 1, 0, C, cr, bk, Q', qc', by go_num, by omega, rfl, (by first | rfl | (congr 1; omega)), by omega, by omega, by omega, by omega, by omega, (HK6.out.later _).conv (by first | rfl | (simp; done) | (rw [show (C : Int) = (C) + ((0 : Nat) : Int) by omega])), HQ6.out.later _, HN5.out, (HB6.out.trans ((below_later _ _).mono HB6.out.size)), fun j q hq => cell_later_eq (HC6.out j q hq)⟩
            case measure => simp [intOf]; omega
          | succ m =>
            refine (m_iTakeFrom kk cr bk _ C Q (m + 1) qc (keyed C (m + 1)) _ (bk + 1) (C + 1) (keyed (C + 1) m) 0 0 0 C 0 true (keyed_len _ _) (by omega) (by unfold I64; omega) (by unfold I64; omega) (by unfold I64; omega) (by unfold I64; omega) (HQ.out.alloc _) (take_keyedS HOK.out)).mono ?_
            rintro _ w5 ⟨Q', m', qc', rfl, hl, hc', hm', hO, p5, hp5⟩
            obtain rfl : m = m' := (keyed_len (m) (C + 1)).symm.trans hl
            have K5 := Blk.to hp5 (HK.out.alloc _)
            have R5 := Lib.hid (Blk.to hp5 (Blk.new wr wr.heap.size [.int .i64 0, .int .i64 0, .int .i64 0, .int .i64 0, .int .i64 0] 33 rfl))
            have ngr : ¬ wr.heap.size = g := Nat.ne_of_gt lK
            have nrg : ¬ g = wr.heap.size := Nat.ne_of_lt lK
            have nbr : ¬ b = wr.heap.size := fun e => by omega
            have HBW0 := Lib.hid HBW.out.size
            have hs5 : wr.heap.size ≤ w5.heap.size := by rw [hp5]; exact Nat.le_trans (by simp) (below_later _ p5).size
            have HB5 := Lib.hid (show Below w.heap.size w w5 by rw [hp5]; exact (HBW.out.alloc HBW.out.size _).trans ((below_later _ _).mono (Nat.le_trans HBW.out.size (by simp))))
            have HC5 := Lib.hid (show ∀ (j : Nat) (q : Int), ps[j]? = some q → w5.cell? ⟨b, off + j, Option.none⟩ = some (.int .i64 q) from fun j q hq => by rw [hp5]; exact cell_later_eq (cell_alloc_eq (HCL.out j q hq)))
            have HQ5 := Lib.hid (show Row encR 5 w5 Q' (keyed (C + 1) (m)) from hO.row)
            have HN5 := Lib.hid (hO.ne_low (n := m) (by first | exact keyed_len _ _ | rfl) (Nat.lt_of_lt_of_le lK (by simp)))
            have HNR5 := Lib.hid (hO.ne_low (g := wr.heap.size) (n := m) (by first | exact keyed_len _ _ | rfl) (by simp))
            have HO5 := Lib.hid (ok_keyed (n := m) (C := C + 1) (cr := cr) (bk := bk + 1) hkk1 hkk4 (by omega) (by omega) (by omega) (by omega) (by omega))
            clear hl hO hp5 HQ HNE HBW HCL HK HOK hcq k0 k1 k2 k3 k4 k5 z0 z1 z2 z3 z4 z5
            have lK5 := K5.lt
            have lK5' := Nat.le_of_lt lK5
            have lR5 := R5.out.lt
            have lR5' := Nat.le_of_lt lR5
            have r0 := R5.out.cell (i := 0) rfl
            have y0 := R5.out.frozen 0
            have r1 := R5.out.cell (i := 1) rfl
            have y1 := R5.out.frozen 1
            have r2 := R5.out.cell (i := 2) rfl
            have y2 := R5.out.frozen 2
            have r3 := R5.out.cell (i := 3) rfl
            have y3 := R5.out.frozen 3
            have r4 := R5.out.cell (i := 4) rfl
            have y4 := R5.out.frozen 4
            have k0 := K5.cell (i := 0) rfl
            have k1 := K5.cell (i := 1) rfl
            have k2 := K5.cell (i := 2) rfl
            have k3 := K5.cell (i := 3) rfl
            have k4 := K5.cell (i := 4) rfl
            have k5 := K5.cell (i := 5) rfl
            have z0 := K5.frozen 0
            have z1 := K5.frozen 1
            have z2 := K5.frozen 2
            have z3 := K5.frozen 3
            have z4 := K5.frozen 4
            have z5 := K5.frozen 5
            have HK5 := Lib.hid K5
            clear K5
            go_wp2_with fail
            refine calls_anchor (F := fun W => Below w.heap.size w W ∧ Blk g [.int .i64 kk, .slice Q' m qc', .int .i64 (cr), .int .i64 (bk + 1), .int .i64 (C + (m + 1)), .int .i64 (C + 1)] 28 W ∧ Row encR 5 W Q' (keyed (C + 1) (m)) ∧ (∀ (j : Nat) (q : Int), ps[j]? = some q → W.cell? ⟨b, off + j, Option.none⟩ = some (.int .i64 q))) ⟨?_, ?_, ?_, ?_⟩ (fun W6 hW6 => ?_)
            · (repeat (first | with_reducible exact HB5.out | with_reducible refine Below.setCell ?_ (by first | exact hgw | exact HBW0.out) _))
            · (repeat (refine Blk.other ?_ (by simp only; exact nrg) _)); exact ((((((HK5.out.set 0 _).set 1 _).set 2 _).set 3 _).set 4 _).set 5 _).conv rfl
            · (repeat (first | with_reducible exact HQ5.out | with_reducible refine row_set ?_ (keyed_len _ _) HN5.out _ | with_reducible refine row_set ?_ (keyed_len _ _) HNR5.out _))
            · intro j q hq; (repeat (first | with_reducible exact HC5.out j q hq | with_reducible refine cell_set ?_ (by first | exact hbg1 | exact nbr) _))
            obtain ⟨hB6, hK6, hQ6, hC6⟩ := hW6
            clear HB5 HK5 HQ5 HC5 lK5 lK5' k0 k1 k2 k3 k4 k5 z0 z1 z2 z3 z4 z5
            clear R5 lR5 lR5' r0 y0 r1 y1 r2 y2 r3 y3 r4 y4
            have k0 := hK6.cell (i := 0) rfl
            have k1 := hK6.cell (i := 1) rfl
            have k2 := hK6.cell (i := 2) rfl
            have k3 := hK6.cell (i := 3) rfl
            have k4 := hK6.cell (i := 4) rfl
            have k5 := hK6.cell (i := 5) rfl
            have z0 := hK6.frozen 0
            have z1 := hK6.frozen 1
            have z2 := hK6.frozen 2
            have z3 := hK6.frozen 3
            have z4 := hK6.frozen 4
            have z5 := hK6.frozen 5
            have lK6 := hK6.lt
            have lK6' := Nat.le_of_lt lK6
            have HK6 := Lib.hid hK6
            have HB6 := Lib.hid hB6
            have HQ6 := Lib.hid hQ6
            have HC6 := Lib.hid hC6
            clear hB6 hK6 hQ6 hC6
            have hs6 : w.heap.size ≤ W6.heap.size := HB6.out.size
            refine (c_sLinkOk kk (cr) (bk + 1) _ (C + 1) Q' _ qc' (keyed (C + 1) (m)) _ true (keyed_len _ _) (by omega) (by unfold I64; omega) (by unfold I64; omega) (by unfold I64; omega) (by unfold I64; omega) HQ6.out (by have h := HO5.out; rwa [show (C + 1) + ((m : Nat) : Int) = (C + (m + 1)) by omega] at h)).mono ?_
            rintro _ _ ⟨rfl, p, rfl⟩
            go_wp2_with fail
            go_roundw
            case rel => exact ⟨i + 1, m, C + 1, cr, bk + 1, Q', qc', by go_num, by omega, rfl, (by first | rfl | (congr 1; omega)), by omega, by omega, by omega, by omega, by omega, (HK6.out.later _).conv (by first | rfl | (simp; done) | (rw [show (C + (m + 1) : Int) = (C + 1) + ((m : Nat) : Int) by omega])), HQ6.out.later _, HN5.out, (HB6.out.trans ((below_later _ _).mono HB6.out.size)), fun j q hq => cell_later_eq (HC6.out j q hq)⟩
            case measure => simp [intOf]; omega
        · by_cases hb0 : bk = 0
          · subst hb0
            refine (m_iCreditBack kk cr 0 _ C Q m qc (keyed C m) _ cr 0 false (keyed_len _ _) (by omega) (by unfold I64; omega) (by unfold I64; omega) (by unfold I64; omega) (by unfold I64; omega) HQ.out (back_keyed0 HOK.out)).mono ?_
            rintro _ w5 ⟨Q', m', qc', rfl, hl, hc', hm', hO, p5, hp5⟩
            obtain rfl : m = m' := (keyed_len (m) (C)).symm.trans hl
            have K5 := Blk.to hp5 (HK.out)
            have hs5 : wr.heap.size ≤ w5.heap.size := by rw [hp5]; exact Nat.le_trans (by simp) (below_later _ p5).size
            have HB5 := Lib.hid (show Below w.heap.size w w5 by rw [hp5]; exact (HBW.out).trans ((below_later _ _).mono (Nat.le_trans HBW.out.size (by simp))))
            have HC5 := Lib.hid (show ∀ (j : Nat) (q : Int), ps[j]? = some q → w5.cell? ⟨b, off + j, Option.none⟩ = some (.int .i64 q) from fun j q hq => by rw [hp5]; exact cell_later_eq (HCL.out j q hq))
            have HQ5 := Lib.hid (show Row encR 5 w5 Q' (keyed (C) (m)) from hO.row)
            have HN5 := Lib.hid (hO.ne_low (n := m) (by first | exact keyed_len _ _ | rfl) (Nat.lt_of_lt_of_le lK (by simp)))
            have HO5 := Lib.hid (ok_keyed (n := m) (C := C) (cr := cr) (bk := 0) hkk1 hkk4 (by omega) (by omega) (by omega) (by omega) (by omega))
            clear hl hO hp5 HQ HNE HBW HCL HK HOK hcq k0 k1 k2 k3 k4 k5 z0 z1 z2 z3 z4 z5
            have lK5 := K5.lt
            have lK5' := Nat.le_of_lt lK5
            have k0 := K5.cell (i := 0) rfl
            have k1 := K5.cell (i := 1) rfl
            have k2 := K5.cell (i := 2) rfl
            have k3 := K5.cell (i := 3) rfl
            have k4 := K5.cell (i := 4) rfl
            have k5 := K5.cell (i := 5) rfl
            have z0 := K5.frozen 0
            have z1 := K5.frozen 1
            have z2 := K5.frozen 2
            have z3 := K5.frozen 3
            have z4 := K5.frozen 4
            have z5 := K5.frozen 5
            have HK5 := Lib.hid K5
            clear K5
            go_wp2_with fail
            refine calls_anchor (F := fun W => Below w.heap.size w W ∧ Blk g [.int .i64 kk, .slice Q' m qc', .int .i64 (cr), .int .i64 (0), .int .i64 (C + m), .int .i64 (C)] 28 W ∧ Row encR 5 W Q' (keyed (C) (m)) ∧ (∀ (j : Nat) (q : Int), ps[j]? = some q → W.cell? ⟨b, off + j, Option.none⟩ = some (.int .i64 q))) ⟨?_, ?_, ?_, ?_⟩ (fun W6 hW6 => ?_)
            · (repeat (first | with_reducible exact HB5.out | with_reducible refine Below.setCell ?_ (by first | exact hgw | exact HBW0.out) _))
            · exact ((((((HK5.out.set 0 _).set 1 _).set 2 _).set 3 _).set 4 _).set 5 _).conv rfl
            · (repeat (first | with_reducible exact HQ5.out | with_reducible refine row_set ?_ (keyed_len _ _) HN5.out _))
            · intro j q hq; (repeat (first | with_reducible exact HC5.out j q hq | with_reducible refine cell_set ?_ (by first | exact hbg1 | exact nbr) _))
            obtain ⟨hB6, hK6, hQ6, hC6⟩ := hW6
            clear HB5 HK5 HQ5 HC5 lK5 lK5' k0 k1 k2 k3 k4 k5 z0 z1 z2 z3 z4 z5
            have k0 := hK6.cell (i := 0) rfl
            have k1 := hK6.cell (i := 1) rfl
            have k2 := hK6.cell (i := 2) rfl
            have k3 := hK6.cell (i := 3) rfl
            have k4 := hK6.cell (i := 4) rfl
            have k5 := hK6.cell (i := 5) rfl
            have z0 := hK6.frozen 0
            have z1 := hK6.frozen 1
            have z2 := hK6.frozen 2
            have z3 := hK6.frozen 3
            have z4 := hK6.frozen 4
            have z5 := hK6.frozen 5
            have lK6 := hK6.lt
            have lK6' := Nat.le_of_lt lK6
            have HK6 := Lib.hid hK6
            have HB6 := Lib.hid hB6
            have HQ6 := Lib.hid hQ6
            have HC6 := Lib.hid hC6
            clear hB6 hK6 hQ6 hC6
            have hs6 : w.heap.size ≤ W6.heap.size := HB6.out.size
            refine (c_sLinkOk kk (cr) (0) _ (C) Q' _ qc' (keyed (C) (m)) _ true (keyed_len _ _) (by omega) (by unfold I64; omega) (by unfold I64; omega) (by unfold I64; omega) (by unfold I64; omega) HQ6.out (by have h := HO5.out; rwa [show (C) + ((m : Nat) : Int) = (C + m) by omega] at h)).mono ?_
            rintro _ _ ⟨rfl, p, rfl⟩
            go_wp2_with fail
            go_roundw
            case rel => exact ⟨i + 1, m, C, cr, 0, Q', qc', by go_num, by omega, rfl, (by first | rfl | (congr 1; omega)), by omega, by omega, by omega, by omega, by omega, (HK6.out.later _).conv (by first | rfl | (simp; done) | (rw [show (C + m : Int) = (C) + ((m : Nat) : Int) by omega])), HQ6.out.later _, HN5.out, (HB6.out.trans ((below_later _ _).mono HB6.out.size)), fun j q hq => cell_later_eq (HC6.out j q hq)⟩
            case measure => simp [intOf]; omega
          ·
            refine (m_iCreditBack kk cr bk _ C Q m qc (keyed C m) _ (cr + 1) (bk - 1) true (keyed_len _ _) (by omega) (by unfold I64; omega) (by unfold I64; omega) (by unfold I64; omega) (by unfold I64; omega) HQ.out (back_keyedS hb0 HOK.out)).mono ?_
            rintro _ w5 ⟨Q', m', qc', rfl, hl, hc', hm', hO, p5, hp5⟩
            obtain rfl : m = m' := (keyed_len (m) (C)).symm.trans hl
            have K5 := Blk.to hp5 (HK.out)
            have hs5 : wr.heap.size ≤ w5.heap.size := by rw [hp5]; exact Nat.le_trans (by simp) (below_later _ p5).size
            have HB5 := Lib.hid (show Below w.heap.size w w5 by rw [hp5]; exact (HBW.out).trans ((below_later _ _).mono (Nat.le_trans HBW.out.size (by simp))))
            have HC5 := Lib.hid (show ∀ (j : Nat) (q : Int), ps[j]? = some q → w5.cell? ⟨b, off + j, Option.none⟩ = some (.int .i64 q) from fun j q hq => by rw [hp5]; exact cell_later_eq (HCL.out j q hq))
            have HQ5 := Lib.hid (show Row encR 5 w5 Q' (keyed (C) (m)) from hO.row)
            have HN5 := Lib.hid (hO.ne_low (n := m) (by first | exact keyed_len _ _ | rfl) (Nat.lt_of_lt_of_le lK (by simp)))
            have HO5 := Lib.hid (ok_keyed (n := m) (C := C) (cr := cr + 1) (bk := bk - 1) hkk1 hkk4 (by omega) (by omega) (by omega) (by omega) (by omega))
            clear hl hO hp5 HQ HNE HBW HCL HK HOK hcq k0 k1 k2 k3 k4 k5 z0 z1 z2 z3 z4 z5
            have lK5 := K5.lt
            have lK5' := Nat.le_of_lt lK5
            have k0 := K5.cell (i := 0) rfl
            have k1 := K5.cell (i := 1) rfl
            have k2 := K5.cell (i := 2) rfl
            have k3 := K5.cell (i := 3) rfl
            have k4 := K5.cell (i := 4) rfl
            have k5 := K5.cell (i := 5) rfl
            have z0 := K5.frozen 0
            have z1 := K5.frozen 1
            have z2 := K5.frozen 2
            have z3 := K5.frozen 3
            have z4 := K5.frozen 4
            have z5 := K5.frozen 5
            have HK5 := Lib.hid K5
            clear K5
            go_wp2_with fail
            refine calls_anchor (F := fun W => Below w.heap.size w W ∧ Blk g [.int .i64 kk, .slice Q' m qc', .int .i64 (cr + 1), .int .i64 (bk - 1), .int .i64 (C + m), .int .i64 (C)] 28 W ∧ Row encR 5 W Q' (keyed (C) (m)) ∧ (∀ (j : Nat) (q : Int), ps[j]? = some q → W.cell? ⟨b, off + j, Option.none⟩ = some (.int .i64 q))) ⟨?_, ?_, ?_, ?_⟩ (fun W6 hW6 => ?_)
            · (repeat (first | with_reducible exact HB5.out | with_reducible refine Below.setCell ?_ (by first | exact hgw | exact HBW0.out) _))
            · exact ((((((HK5.out.set 0 _).set 1 _).set 2 _).set 3 _).set 4 _).set 5 _).conv rfl
            · (repeat (first | with_reducible exact HQ5.out | with_reducible refine row_set ?_ (keyed_len _ _) HN5.out _))
            · intro j q hq; (repeat (first | with_reducible exact HC5.out j q hq | with_reducible refine cell_set ?_ (by first | exact hbg1 | exact nbr) _))
            obtain ⟨hB6, hK6, hQ6, hC6⟩ := hW6
            clear HB5 HK5 HQ5 HC5 lK5 lK5' k0 k1 k2 k3 k4 k5 z0 z1 z2 z3 z4 z5
            have k0 := hK6.cell (i := 0) rfl
            have k1 := hK6.cell (i := 1) rfl
            have k2 := hK6.cell (i := 2) rfl
            have k3 := hK6.cell (i := 3) rfl
            have k4 := hK6.cell (i := 4) rfl
            have k5 := hK6.cell (i := 5) rfl
            have z0 := hK6.frozen 0
            have z1 := hK6.frozen 1
            have z2 := hK6.frozen 2
            have z3 := hK6.frozen 3
            have z4 := hK6.frozen 4
            have z5 := hK6.frozen 5
            have lK6 := hK6.lt
            have lK6' := Nat.le_of_lt lK6
            have HK6 := Lib.hid hK6
            have HB6 := Lib.hid hB6
            have HQ6 := Lib.hid hQ6
            have HC6 := Lib.hid hC6
            clear hB6 hK6 hQ6 hC6
            have hs6 : w.heap.size ≤ W6.heap.size := HB6.out.size
            refine (c_sLinkOk kk (cr + 1) (bk - 1) _ (C) Q' _ qc' (keyed (C) (m)) _ true (keyed_len _ _) (by omega) (by unfold I64; omega) (by unfold I64; omega) (by unfold I64; omega) (by unfold I64; omega) HQ6.out (by have h := HO5.out; rwa [show (C) + ((m : Nat) : Int) = (C + m) by omega] at h)).mono ?_
            rintro _ _ ⟨rfl, p, rfl⟩
            go_wp2_with fail
            go_roundw
            case rel => exact ⟨i + 1, m, C, cr + 1, bk - 1, Q', qc', by go_num, by omega, rfl, (by first | rfl | (congr 1; omega)), by omega, by omega, by omega, by omega, by omega, (HK6.out.later _).conv (by first | rfl | (simp; done) | (rw [show (C + m : Int) = (C) + ((m : Nat) : Int) by omega])), HQ6.out.later _, HN5.out, (HB6.out.trans ((below_later _ _).mono HB6.out.size)), fun j q hq => cell_later_eq (HC6.out j q hq)⟩
            case measure => simp [intOf]; omega
        · by_cases hc0 : cr = 0
          · subst hc0
            refine (c_iSendOn kk 0 bk _ C Q m qc (keyed C m) 0 0 0 (C + m) 0 _ 0 (C + m) (keyed C m) false (keyed_len _ _) (by omega) (by unfold I64; omega) (by unfold I64; omega) (by unfold I64; omega) (by unfold I64; omega) HQ.out (send_keyed0 _)).mono ?_
            rintro _ w5 ⟨Q', m', qc', rfl, hl, hc', hm', hO, p5, hp5⟩
            obtain rfl : m = m' := (keyed_len (m) (C)).symm.trans hl
            have K5 := Blk.to hp5 (HK.out)
            have hs5 : wr.heap.size ≤ w5.heap.size := by rw [hp5]; exact Nat.le_trans (by simp) (below_later _ p5).size
            have HB5 := Lib.hid (show Below w.heap.size w w5 by rw [hp5]; exact (HBW.out).trans ((below_later _ _).mono (Nat.le_trans HBW.out.size (by simp))))
            have HC5 := Lib.hid (show ∀ (j : Nat) (q : Int), ps[j]? = some q → w5.cell? ⟨b, off + j, Option.none⟩ = some (.int .i64 q) from fun j q hq => by rw [hp5]; exact cell_later_eq (HCL.out j q hq))
            have HQ5 := Lib.hid (show Row encR 5 w5 Q' (keyed (C) (m)) from hO.row)
            have HN5 := Lib.hid (hO.ne_low (n := m) (by first | exact keyed_len _ _ | rfl) (Nat.lt_of_lt_of_le lK (by simp)))
            have HO5 := Lib.hid (ok_keyed (n := m) (C := C) (cr := 0) (bk := bk) hkk1 hkk4 (by omega) (by omega) (by omega) (by omega) (by omega))
            clear hl hO hp5 HQ HNE HBW HCL HK HOK hcq k0 k1 k2 k3 k4 k5 z0 z1 z2 z3 z4 z5
            have lK5 := K5.lt
            have lK5' := Nat.le_of_lt lK5
            have k0 := K5.cell (i := 0) rfl
            have k1 := K5.cell (i := 1) rfl
            have k2 := K5.cell (i := 2) rfl
            have k3 := K5.cell (i := 3) rfl
            have k4 := K5.cell (i := 4) rfl
            have k5 := K5.cell (i := 5) rfl
            have z0 := K5.frozen 0
            have z1 := K5.frozen 1
            have z2 := K5.frozen 2
            have z3 := K5.frozen 3
            have z4 := K5.frozen 4
            have z5 := K5.frozen 5
            have HK5 := Lib.hid K5
            clear K5
            go_wp2_with fail
            refine calls_anchor (F := fun W => Below w.heap.size w W ∧ Blk g [.int .i64 kk, .slice Q' m qc', .int .i64 (0), .int .i64 (bk), .int .i64 (C + m), .int .i64 (C)] 28 W ∧ Row encR 5 W Q' (keyed (C) (m)) ∧ (∀ (j : Nat) (q : Int), ps[j]? = some q → W.cell? ⟨b, off + j, Option.none⟩ = some (.int .i64 q))) ⟨?_, ?_, ?_, ?_⟩ (fun W6 hW6 => ?_)
            · (repeat (first | with_reducible exact HB5.out | with_reducible refine Below.setCell ?_ (by first | exact hgw | exact HBW0.out) _))
            · exact ((((((HK5.out.set 0 _).set 1 _).set 2 _).set 3 _).set 4 _).set 5 _).conv rfl
            · (repeat (first | with_reducible exact HQ5.out | with_reducible refine row_set ?_ (keyed_len _ _) HN5.out _))
            · intro j q hq; (repeat (first | with_reducible exact HC5.out j q hq | with_reducible refine cell_set ?_ (by first | exact hbg1 | exact nbr) _))
            obtain ⟨hB6, hK6, hQ6, hC6⟩ := hW6
            clear HB5 HK5 HQ5 HC5 lK5 lK5' k0 k1 k2 k3 k4 k5 z0 z1 z2 z3 z4 z5
            have k0 := hK6.cell (i := 0) rfl
            have k1 := hK6.cell (i := 1) rfl
            have k2 := hK6.cell (i := 2) rfl
            have k3 := hK6.cell (i := 3) rfl
            have k4 := hK6.cell (i := 4) rfl
            have k5 := hK6.cell (i := 5) rfl
            have z0 := hK6.frozen 0
            have z1 := hK6.frozen 1
            have z2 := hK6.frozen 2
            have z3 := hK6.frozen 3
            have z4 := hK6.frozen 4
            have z5 := hK6.frozen 5
            have lK6 := hK6.lt
            have lK6' := Nat.le_of_lt lK6
            have HK6 := Lib.hid hK6
            have HB6 := Lib.hid hB6
            have HQ6 := Lib.hid hQ6
            have HC6 := Lib.hid hC6
            clear hB6 hK6 hQ6 hC6
            have hs6 : w.heap.size ≤ W6.heap.size := HB6.out.size
            refine (c_sLinkOk kk (0) (bk) _ (C) Q' _ qc' (keyed (C) (m)) _ true (keyed_len _ _) (by omega) (by unfold I64; omega) (by unfold I64; omega) (by unfold I64; omega) (by unfold I64; omega) HQ6.out (by have h := HO5.out; rwa [show (C) + ((m : Nat) : Int) = (C + m) by omega] at h)).mono ?_
            rintro _ _ ⟨rfl, p, rfl⟩
            go_wp2_with fail
            go_roundw
            case rel => exact ⟨i + 1, m, C, 0, bk, Q', qc', by go_num, by omega, rfl, (by first | rfl | (congr 1; omega)), by omega, by omega, by omega, by omega, by omega, (HK6.out.later _).conv (by first | rfl | (simp; done) | (rw [show (C + m : Int) = (C) + ((m : Nat) : Int) by omega])), HQ6.out.later _, HN5.out, (HB6.out.trans ((below_later _ _).mono HB6.out.size)), fun j q hq => cell_later_eq (HC6.out j q hq)⟩
            case measure => simp [intOf]; omega
          ·
            refine (c_iSendOn kk cr bk _ C Q m qc (keyed C m) 0 0 0 (C + m) 0 _ (cr - 1) (C + m + 1) (keyed C (m + 1)) true (keyed_len _ _) (by omega) (by unfold I64; omega) (by unfold I64; omega) (by unfold I64; omega) (by unfold I64; omega) HQ.out (send_keyedS hc0 h0 (by omega) HOK.out)).mono ?_
            rintro _ w5 ⟨Q', m', qc', rfl, hl, hc', hm', hO, p5, hp5⟩
            obtain rfl : m + 1 = m' := (keyed_len (m + 1) (C)).symm.trans hl
            have K5 := Blk.to hp5 (HK.out)
            have hs5 : wr.heap.size ≤ w5.heap.size := by rw [hp5]; exact Nat.le_trans (by simp) (below_later _ p5).size
            have HB5 := Lib.hid (show Below w.heap.size w w5 by rw [hp5]; exact (HBW.out).trans ((below_later _ _).mono (Nat.le_trans HBW.out.size (by simp))))
            have HC5 := Lib.hid (show ∀ (j : Nat) (q : Int), ps[j]? = some q → w5.cell? ⟨b, off + j, Option.none⟩ = some (.int .i64 q) from fun j q hq => by rw [hp5]; exact cell_later_eq (HCL.out j q hq))
            have HQ5 := Lib.hid (show Row encR 5 w5 Q' (keyed (C) (m + 1)) from hO.row)
            have HN5 := Lib.hid (hO.ne_low (n := m + 1) (by first | exact keyed_len _ _ | rfl) (Nat.lt_of_lt_of_le lK (by simp)))
            have HO5 := Lib.hid (ok_keyed (n := m + 1) (C := C) (cr := cr - 1) (bk := bk) hkk1 hkk4 (by omega) (by omega) (by omega) (by omega) (by omega))
            clear hl hO hp5 HQ HNE HBW HCL HK HOK hcq k0 k1 k2 k3 k4 k5 z0 z1 z2 z3 z4 z5
            have lK5 := K5.lt
            have lK5' := Nat.le_of_lt lK5
            have k0 := K5.cell (i := 0) rfl
            have k1 := K5.cell (i := 1) rfl
            have k2 := K5.cell (i := 2) rfl
            have k3 := K5.cell (i := 3) rfl
            have k4 := K5.cell (i := 4) rfl
            have k5 := K5.cell (i := 5) rfl
            have z0 := K5.frozen 0
            have z1 := K5.frozen 1
            have z2 := K5.frozen 2
            have z3 := K5.frozen 3
            have z4 := K5.frozen 4
            have z5 := K5.frozen 5
            have HK5 := Lib.hid K5
            clear K5
            go_wp2_with fail
            refine calls_anchor (F := fun W => Below w.heap.size w W ∧ Blk g [.int .i64 kk, .slice Q' (m + 1) qc', .int .i64 (cr - 1), .int .i64 (bk), .int .i64 (C + m + 1), .int .i64 (C)] 28 W ∧ Row encR 5 W Q' (keyed (C) (m + 1)) ∧ (∀ (j : Nat) (q : Int), ps[j]? = some q → W.cell? ⟨b, off + j, Option.none⟩ = some (.int .i64 q))) ⟨?_, ?_, ?_, ?_⟩ (fun W6 hW6 => ?_)
            · (repeat (first | with_reducible exact HB5.out | with_reducible refine Below.setCell ?_ (by first | exact hgw | exact HBW0.out) _))
            · exact ((((((HK5.out.set 0 _).set 1 _).set 2 _).set 3 _).set 4 _).set 5 _).conv rfl
            · (repeat (first | with_reducible exact HQ5.out | with_reducible refine row_set ?_ (keyed_len _ _) HN5.out _))
            · intro j q hq; (repeat (first | with_reducible exact HC5.out j q hq | with_reducible refine cell_set ?_ (by first | exact hbg1 | exact nbr) _))
            obtain ⟨hB6, hK6, hQ6, hC6⟩ := hW6
            clear HB5 HK5 HQ5 HC5 lK5 lK5' k0 k1 k2 k3 k4 k5 z0 z1 z2 z3 z4 z5
            have k0 := hK6.cell (i := 0) rfl
            have k1 := hK6.cell (i := 1) rfl
            have k2 := hK6.cell (i := 2) rfl
            have k3 := hK6.cell (i := 3) rfl
            have k4 := hK6.cell (i := 4) rfl
            have k5 := hK6.cell (i := 5) rfl
            have z0 := hK6.frozen 0
            have z1 := hK6.frozen 1
            have z2 := hK6.frozen 2
            have z3 := hK6.frozen 3
            have z4 := hK6.frozen 4
            have z5 := hK6.frozen 5
            have lK6 := hK6.lt
            have lK6' := Nat.le_of_lt lK6
            have HK6 := Lib.hid hK6
            have HB6 := Lib.hid hB6
            have HQ6 := Lib.hid hQ6
            have HC6 := Lib.hid hC6
            clear hB6 hK6 hQ6 hC6
            have hs6 : w.heap.size ≤ W6.heap.size := HB6.out.size
            refine (c_sLinkOk kk (cr - 1) (bk) _ (C) Q' _ qc' (keyed (C) (m + 1)) _ true (keyed_len _ _) (by omega) (by unfold I64; omega) (by unfold I64; omega) (by unfold I64; omega) (by unfold I64; omega) HQ6.out (by have h := HO5.out; rwa [show (C) + ((m + 1 : Nat) : Int) = (C + m + 1) by omega] at h)).mono ?_
            rintro _ _ ⟨rfl, p, rfl⟩
            go_wp2_with fail
            go_roundw
            case rel => exact ⟨i + 1, m + 1, C, cr - 1, bk, Q', qc', by go_num, by omega, rfl, (by first | rfl | (congr 1; omega)), by omega, by omega, by omega, by omega, by omega, (HK6.out.later _).conv (by first | rfl | (simp; done) | (rw [show (C + m + 1 : Int) = (C) + ((m + 1 : Nat) : Int) by omega])), HQ6.out.later _, HN5.out, (HB6.out.trans ((below_later _ _).mono HB6.out.size)), fun j q hq => cell_later_eq (HC6.out j q hq)⟩
            case measure => simp [intOf]; omega
      · obtain rfl : i = 30 := by omega
        have k0 := hK.cell (i := 0) rfl
        have k1 := hK.cell (i := 1) rfl
        have k2 := hK.cell (i := 2) rfl
        have k3 := hK.cell (i := 3) rfl
        have k4 := hK.cell (i := 4) rfl
        have k5 := hK.cell (i := 5) rfl
        have lK := hK.lt
        have lK' := Nat.le_of_lt lK
        have hsz := HBW.out.size
        clear hK
        obtain ⟨q, hq⟩ : ∃ q, ps[0]? = some q := ⟨_, List.getElem?_eq_getElem (by rw [HPL.out]; omega)⟩
        have hcq := HCL.out 0 q hq
        simp only [Nat.add_zero] at hcq
        obtain rfl : q0 = q := HQ00.out q hq
        clear hq
        have hbl : b < wr.heap.size := World.block_lt_of_cell? _ _ hcq
        have hbl' := Nat.le_of_lt hbl
        have he : ((m : Int) == C + (m : Int) - C) = true := by simp; omega
        go_wp2_with (first | ((with_reducible refine wp_region_later (by kernel_rfl) (by kernel_rfl) ?_); (try dsimp only [List.append]); (repeat (first | go_big_quiet_skip | go_big_quiet_step ((fail)) | quiet_step ((fail)))); refine wpQuiet_nil ?_; rintro _ ⟨p, rfl⟩))
        go_ret
        exact Gives.mk (ret_bool (by first | rfl | simp)) (by first | exact HBW.out.trans ((below_later _ _).mono HBW.out.size))


set_option maxRecDepth 100000 in
theorem liftedFnInOrder (os : Os) (started : os.Started) (H : Type) (enc : TypeId × Value → H) :
    ReturnsInHanded {} Try.checked os 3 .any (Rows.fnInOrderSpec.pre6 enc Try.prog Try.f3 Rows.fnInOrderRow.domain false) (Rows.fnInOrderSpec.post enc Try.prog Try.f3 false true false false) := by
  refine returnsInHanded_of_change (C := Try.checked) own started (by kernel_rfl) Try.func3
    (ChangeSpec.witness6 (enc := enc) (C := Try.checked) false ⟨#[], #[.slice Option.none 0 0], []⟩ 8 (by as_aux_lemma => kernel_rfl) (by as_aux_lemma => kernel_rfl) (by as_aux_lemma => kernel_rfl) (by as_aux_lemma => kernel_rfl)) ?_
  intro W base args ds gs before hval0 hW0 _ _
  have hval : ∀ (j : Nat) t v, Try.f3.params[j]? = some t → args[j]? = some v → Value.okWide Try.prog W .any base t v := hval0
  have hW : DataW.Whole enc Try.prog Try.f3.params.toList Rows.fnInOrderSpec.vars false W args.toList ds gs before := hW0
  obtain ⟨p, q, hA0, hV, hpq, hfz, hnd⟩ := id hW
  have hA : DataW.TrodAll enc Try.prog W 0 (fun _ => true) true Try.f3.params.toList args.toList ds p := hA0
  rw [Try.params3] at hA hval
  obtain ⟨v0, vs0, d0, ds0, p0, q0, hargs, rfl, rfl, h0, r0⟩ := trodAll_cons hA
  obtain ⟨rfl, rfl, rfl⟩ := trodAll_nil r0
  obtain rfl : args = #[v0] := by cases args; simp_all
  obtain ⟨rfl, rfl⟩ := trodVars_none hV
  obtain ⟨A0, n0, cap0, x0, rfl, hn0, hc0, hm0, hr0, -⟩ := open_bytes Try.underlying22 Try.underlying5 (by kernel_rfl) (hval 0 22 v0 rfl rfl) h0
  refine (w_InOrder A0 n0 cap0 x0 hn0 W hr0).mono fun e W' hg => ?_
  obtain ⟨he, hb⟩ := hg.below
  exact ⟨_, he, law_post laidOut rfl (by kernel_rfl) Try.underlying4 (by kernel_rfl) hW rfl hb⟩

set_option maxHeartbeats 3200000 in
theorem closedFnInOrder : joinedFacts Try.checked.prog 3 Try.f3 Rows.fnInOrderSpec Rows.fnInOrderRow = true := by
  unfold joinedFacts
  repeat' (with_reducible refine and_mk ?_ ?_)
  all_goals (as_aux_lemma => kernel_rfl)
theorem namedFnInOrder : Try.checked.prog.funcNamed Rows.fnInOrderRow.func = some 3 := by as_aux_lemma => kernel_rfl
theorem instFnInOrder : Try.f3.isInstance Try.checked.prog Rows.fnInOrderRow.origin Rows.fnInOrderRow.targs := of_decide_eq_true (by as_aux_lemma => kernel_rfl)
theorem wrapFnInOrder : Try.f3.isWrapper Try.checked.prog Rows.fnInOrderRow.wrapper Rows.fnInOrderRow.mainSum := by unfold Func.isWrapper; first | (rw [if_pos (by decide +kernel)]; kernel_rfl) | (rw [if_neg (by decide +kernel)]; exact ⟨rfl, rfl⟩)
theorem holdsFnInOrder : Rows.FnInOrderSaid :=
  OpenClaim.holds_of_wide 3 Try.f3 rfl rfl rfl rfl rfl rfl rfl ⟨rfl, rfl, rfl, rfl, rfl⟩ rfl rfl rfl rfl rfl namedFnInOrder Try.func3 closedFnInOrder instFnInOrder wrapFnInOrder
    (fun os started H enc _ => liftedFnInOrder os started H enc)
end Go.Proofs.Ytcmhmdccfihhiaa
