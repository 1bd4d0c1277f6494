/-
  The cursor that the reference draws with: what it holds, and what a draw leaves. Conditions: none.
-/
import Derived.Test.YtcmhmdccfihhiaaBytes
import Derived.Test.YtcmhmdccfihhiaaPlt
import Derived.Test.YtcmhmdccfihhiaaBlk
import Derived.Test.YtcmhmdccfihhiaaAnchor
namespace Go.Proofs.Ytcmhmdccfihhiaa
open Go.RowKit
set_option linter.unusedVariables false

/-- block g is a cursor -/
def Cur (g : Nat) (w : World) : Prop := ∃ (A : Option Addr) (n c : Nat) (xs : List UInt8) (i : Nat) (h : Int), Blk g [.slice A n c, .int .i64 (i : Int), .int .i64 h] 63 w ∧ xs.length = n ∧ n ≤ 4294967296 ∧ i ≤ n ∧ I64 h ∧ Row encB 1 w A xs ∧ ∀ b, some b = ob A n → b < g
/-- a draw: a value, the cursor moved on, nothing else written -/
def Drawn (g : Nat) (ok : Value → Prop) (w : World) (e : Ending) (w' : World) : Prop := ∃ v, e = .returned v ∧ ok v ∧ Cur g w' ∧ w.grownBy w' (some g)
theorem grownBy_trans {a b c : World} {r : Option Nat} (h : a.grownBy b r) (k : b.grownBy c r) : a.grownBy c r :=
  ⟨k.os.trans h.os, k.tape.trans h.tape, k.output.trans h.output, Nat.le_trans h.size k.size, fun i hi hne => (k.block i (Nat.lt_of_lt_of_le hi h.size) hne).trans (h.block i hi hne)⟩
theorem and_mask (z : Int) (M : Nat) (hM : M < 4611686018427387904) : ∃ x : Nat, bits .and .i64 z (M : Int) = (x : Int) ∧ x ≤ M := by
  have hle : (BitVec.ofInt 64 z &&& BitVec.ofInt 64 (M : Int)).toNat ≤ M := by
    rw [BitVec.toNat_and]
    refine Nat.le_trans Nat.and_le_right ?_
    rw [BitVec.ofInt_natCast, BitVec.toNat_ofNat]
    exact Nat.mod_le _ _
  refine ⟨(BitVec.ofInt 64 z &&& BitVec.ofInt 64 (M : Int)).toNat, ?_, hle⟩
  show IntKind.i64.wrap _ = _
  rw [IntKind.wrap_i64]
  change (((BitVec.ofInt 64 z &&& BitVec.ofInt 64 (M : Int)).toNat : Int) + 9223372036854775808) % 18446744073709551616 - 9223372036854775808 = ((BitVec.ofInt 64 z &&& BitVec.ofInt 64 (M : Int)).toNat : Int)
  generalize (BitVec.ofInt 64 z &&& BitVec.ofInt 64 (M : Int)).toNat = q at hle
  omega
theorem i64_wrap (z : Int) : I64 (wrap64 z) := by
  unfold I64 wrap64
  omega
theorem grownBy_set (w : World) (g i : Nat) (v : Value) : w.grownBy (w.setCell ⟨g, i, Option.none⟩ v) (some g) :=
  ⟨rfl, rfl, rfl, by simp [World.setCell], fun j hj hne => Below.heap_setCell _ _ _ _ (fun e => hne (by rw [e]))⟩
theorem Row.grown_ne {α : Type} {enc : α → List Value} {k n : Nat} {A : Option Addr} {xs : List α} {w w' : World} {g : Nat} (h : Row enc k w A xs) (hn : xs.length = n) (hg : w.grownBy w' (some g)) (hne : some g ≠ ob A n) : Row enc k w' A xs :=
  h.grown hg fun b hb e => hne (by rw [← e, hb, hn])
/-- the byte under the cursor -/
theorem Row.byte {w : World} {A : Option Addr} {xs : List UInt8} {i n g : Nat} (h : Row encB 1 w A xs) (hn : xs.length = n) (hi : i < n) (hne : some g ≠ ob A n) : ∃ (b off : Nat) (x : UInt8), A = some ⟨b, off, Option.none⟩ ∧ b ≠ g ∧ w.cell? ⟨b, off + i, Option.none⟩ = some (.int .u8 (x.toNat : Int)) ∧ x.toNat < 256 := by
  obtain ⟨x, hx⟩ : ∃ x, xs[i]? = some x := ⟨_, List.getElem?_eq_getElem (by rw [hn]; exact hi)⟩
  obtain ⟨b, off, rfl, hcx⟩ := h.at_ hx
  refine ⟨b, off, x, rfl, fun e => hne ?_, ?_, UInt8.toNat_lt x⟩
  · unfold ob
    rw [if_neg (by omega), e]
    rfl
  · have := hcx 0 _ rfl
    simpa using this
theorem Cur.grown {g : Nat} {w w' : World} {r : Option Nat} (h : Cur g w) (hg : w.grownBy w' r) (hr : ∀ b, r = some b → g < b) : Cur g w' := by
  obtain ⟨A, n, c, xs, i, h, hB, hn, hn2, hi, hh, hR, hne⟩ := h
  refine ⟨A, n, c, xs, i, h, hB.grown hg (fun e => Nat.lt_irrefl g (hr g e.symm)), hn, hn2, hi, hh, hR.grown hg (fun b hb e => ?_), hne⟩
  have h1 := hne b (by rw [← hn]; exact hb)
  have h2 := hr b e.symm
  omega
theorem Cur.later {g : Nat} {w : World} (h : Cur g w) (p : Later) : Cur g (later w p) := by
  obtain ⟨A, n, c, xs, i, h, hB, hn, hn2, hi, hh, hr, hne⟩ := h
  exact ⟨A, n, c, xs, i, h, hB.later p, hn, hn2, hi, hh, hr.later p, hne⟩
theorem Cur.alloc {g : Nat} {w : World} (h : Cur g w) (o : Obj) : Cur g (w.alloc o) := by
  obtain ⟨A, n, c, xs, i, h, hB, hn, hn2, hi, hh, hr, hne⟩ := h
  exact ⟨A, n, c, xs, i, h, hB.alloc o, hn, hn2, hi, hh, hr.alloc o, hne⟩
theorem Cur.drew {g : Nat} {w : World} (h : Cur g w) : Cur g w.drew := h
theorem Cur.lt {g : Nat} {w : World} (h : Cur g w) : g < w.heap.size := by
  obtain ⟨A, n, c, xs, i, h, hB, _⟩ := h
  exact hB.lt
theorem grown_set {w W : World} {r : Option Nat} (h : w.grownBy W r) {b : Nat} (hb : w.heap.size ≤ b) (i : Nat) (v : Value) : w.grownBy (W.setCell ⟨b, i, Option.none⟩ v) r :=
  ⟨h.os, h.tape, h.output, by simpa [World.setCell] using h.size, fun j hj hne => (Below.heap_setCell _ _ _ _ (by simp; omega)).trans (h.block j hj hne)⟩
theorem grown_alloc {w W : World} {r : Option Nat} (h : w.grownBy W r) (o : Obj) : w.grownBy (W.alloc o) r :=
  grownBy_trans h ⟨rfl, rfl, rfl, by simp, fun j hj _ => by
    show (W.heap.push o)[j]? = _
    rw [Array.getElem?_push_lt hj, Array.getElem?_eq_getElem hj]⟩
theorem grown_drew {w W : World} {r : Option Nat} (h : w.grownBy W r) : w.grownBy W.drew r := ⟨h.os, h.tape, h.output, h.size, h.block⟩
theorem grown_later {w W : World} {r : Option Nat} (h : w.grownBy W r) (p : Later) : w.grownBy (later W p) r := grownBy_trans h (grownBy_later _ _ _)
theorem grown_refl (w : World) (r : Option Nat) : w.grownBy w r := ⟨rfl, rfl, rfl, Nat.le_refl _, fun _ _ _ => rfl⟩
set_option maxHeartbeats 3200000 in
theorem c_byte (g : Nat) (w : World) (hc : Cur g w) : Calls Try.prog 42 #[.pointer (some ⟨g, 0, Option.none⟩)] w (Drawn g (fun v => ∃ x : Nat, v = .int .i64 (x : Int) ∧ x ≤ 255) w) := by
  obtain ⟨A, n, c, xs, i, h, hB, hn, hn2, hi, hh, hr, hlow⟩ := hc
  have HLOW := Lib.hid hlow
  have hne : some g ≠ ob A n := fun e => Nat.lt_irrefl g (hlow g e)
  clear hlow
  have hg := hB.lt
  have h0 := hB.cell (i := 0) rfl
  have h1 := hB.cell (i := 1) rfl
  have h2 := hB.cell (i := 2) rfl
  have f1 := hB.frozen 1
  have f2 := hB.frozen 2
  have HBl := Lib.hid hB
  have HR := Lib.hid hr
  have HNE := Lib.hid hne
  have HN := Lib.hid hn
  have HH := Lib.hid hh
  clear hB hr hne hn hh
  by_cases hlt : i < n
  · obtain ⟨b, off, x, rfl, hbg, hx, hx2⟩ := Row.byte HR.out HN.out hlt HNE.out
    go_enter Try.func42, Try.ntmps42
    go_wp2_with (first | ((with_reducible refine wp_region_later (by kernel_rfl) (by kernel_rfl) ?_); (repeat (first | go_big_quiet_skip | quiet_step ((fail)))); refine wpQuiet_nil ?_; rintro _ ⟨p, rfl⟩))
    obtain ⟨q, hq, hq2⟩ := and_mask (IntKind.i64.wrap (bits .and .i64 (bits .xor .i64 (wrap64 (wrap64 (h * 6364136223846793005) + 1442695040888963407) / 8589934592) (wrap64 (wrap64 (h * 6364136223846793005) + 1442695040888963407) / 35184372088832)) 255 + IntKind.i64.wrap (x.toNat : Int))) 255 (by decide)
    go_ret
    refine ⟨_, rfl, ⟨q, congrArg (Value.int .i64) hq, hq2⟩, ?_, ?_⟩
    · have hb2 : Blk g [.slice (some ⟨b, off, Option.none⟩) n c, .int .i64 ((i + 1 : Nat) : Int), .int .i64 (wrap64 (wrap64 (h * 6364136223846793005) + 1442695040888963407))] 63 _ := ((HBl.out.set 2 (.int .i64 (wrap64 (wrap64 (h * 6364136223846793005) + 1442695040888963407)))).set 1 (.int .i64 ((i : Int) + 1))).conv (by simp)
      have hg2 := grownBy_trans (grownBy_set w g 2 (.int .i64 (wrap64 (wrap64 (h * 6364136223846793005) + 1442695040888963407)))) (grownBy_set _ g 1 (.int .i64 ((i : Int) + 1)))
      exact ⟨_, n, c, xs, i + 1, wrap64 (wrap64 (h * 6364136223846793005) + 1442695040888963407), (by first | exact hb2.later _ | exact (hb2.later _).later _), HN.out, hn2, hlt, i64_wrap _, (by first | exact (HR.out.grown_ne HN.out hg2 HNE.out).later _ | exact ((HR.out.grown_ne HN.out hg2 HNE.out).later _).later _), HLOW.out⟩
    · first
        | exact grownBy_trans (grownBy_trans (grownBy_set w g 2 _) (grownBy_set _ g 1 _)) (grownBy_later _ _ _)
        | exact grownBy_trans (grownBy_trans (grownBy_trans (grownBy_set w g 2 _) (grownBy_set _ g 1 _)) (grownBy_later _ _ _)) (grownBy_later _ _ _)
  · obtain rfl : i = n := by omega
    go_enter Try.func42, Try.ntmps42
    go_wp2_with (first | ((with_reducible refine wp_region_later (by kernel_rfl) (by kernel_rfl) ?_); (repeat (first | go_big_quiet_skip | quiet_step ((fail)))); refine wpQuiet_nil ?_; rintro _ ⟨p, rfl⟩))
    obtain ⟨q, hq, hq2⟩ := and_mask (bits .xor .i64 (wrap64 (wrap64 (h * 6364136223846793005) + 1442695040888963407) / 8589934592) (wrap64 (wrap64 (h * 6364136223846793005) + 1442695040888963407) / 35184372088832)) 255 (by decide)
    go_ret
    refine ⟨_, rfl, ⟨q, congrArg (Value.int .i64) hq, hq2⟩, ?_, ?_⟩
    · have hb2 : Blk g [.slice A i c, .int .i64 (i : Int), .int .i64 (wrap64 (wrap64 (h * 6364136223846793005) + 1442695040888963407))] 63 _ := (HBl.out.set 2 (.int .i64 (wrap64 (wrap64 (h * 6364136223846793005) + 1442695040888963407)))).conv (by simp)
      have hg2 := (grownBy_set w g 2 (.int .i64 (wrap64 (wrap64 (h * 6364136223846793005) + 1442695040888963407))))
      exact ⟨A, i, c, xs, i, wrap64 (wrap64 (h * 6364136223846793005) + 1442695040888963407), (by first | exact hb2.later _ | exact (hb2.later _).later _), HN.out, hn2, Nat.le_refl _, i64_wrap _, (by first | exact (HR.out.grown_ne HN.out hg2 HNE.out).later _ | exact ((HR.out.grown_ne HN.out hg2 HNE.out).later _).later _), HLOW.out⟩
    · first
        | exact grownBy_trans (grownBy_set w g 2 _) (grownBy_later _ _ _)
        | exact grownBy_trans (grownBy_trans (grownBy_set w g 2 _) (grownBy_later _ _ _)) (grownBy_later _ _ _)
theorem i64_and (z : Int) : ∃ x : Nat, bits .and .i64 z 1073741823 = (x : Int) ∧ x ≤ 1073741823 := and_mask z 1073741823 (by decide)
theorem c_new_end {A : Option Addr} {n c : Nat} {xs : List UInt8} {w : World} {pw : Later} {h : Int} (hn : xs.length = n) (hn2 : n ≤ 4294967296) (hr : Row encB 1 w A xs) (hh : I64 h) :
    ∃ g, Ending.returned (Value.pointer (some ⟨(later w pw).heap.size, 0, Option.none⟩)) = .returned (.pointer (some ⟨g, 0, Option.none⟩)) ∧ w.heap.size ≤ g ∧ Cur g ((later w pw).alloc (.cells #[.slice A n c, .int .i64 0, .int .i64 h] 63)) ∧ ∃ p : Later, (later w pw).alloc (.cells #[.slice A n c, .int .i64 0, .int .i64 h] 63) = later w p := by
  refine ⟨_, rfl, (below_later w pw).size, ⟨A, n, c, xs, 0, h, Blk.new _ _ [.slice A n c, .int .i64 0, .int .i64 h] _ rfl, hn, hn2, by omega, hh, (hr.later _).alloc _, fun b e => ?_⟩, later_of_below ((below_later w pw).alloc (below_later w pw).size _)⟩
  have h1 := hr.block_lt lenB (by decide) hn e
  have h2 := (below_later w pw).size
  omega
set_option maxRecDepth 20000 in
set_option maxHeartbeats 1600000 in
theorem c_new (A : Option Addr) (n c : Nat) (xs : List UInt8) (w : World) (hn : xs.length = n) (hn2 : n ≤ 4294967296) (hr : Row encB 1 w A xs) : Calls Try.prog 25 #[.slice A n c] w fun e w' => ∃ g, e = .returned (.pointer (some ⟨g, 0, Option.none⟩)) ∧ w.heap.size ≤ g ∧ Cur g w' ∧ ∃ p : Later, w' = later w p := by
  have HR := Lib.hid hr
  have HN := Lib.hid hn
  clear hr hn
  go_enter Try.func25, Try.ntmps25
  go_wp2_with fail
  go_loopw [3, 4] (fun hv ii wr => ∃ (j : Nat) (h : Int), hv = .int .i64 h ∧ I64 h ∧ ii = .int .i64 j ∧ j ≤ n ∧ ∃ p : Later, wr = later w p) (fun _ ii _ => n - (intOf ii).toNat)
  case atStart => exact ⟨0, _, rfl, (by unfold I64; omega), rfl, by omega, later_of_below (by (repeat (first | with_reducible exact Below.refl _ _ | with_reducible assumption | with_reducible refine Below.drew ?_ | with_reducible refine below_drewN ?_ _ | with_reducible exact HQ.out | with_reducible exact HBW.out | with_reducible refine below_ext ?_ _ _ | with_reducible refine below_then_later ?_ (by first | with_reducible exact Nat.le_refl _ | with_reducible exact HBW.out.size | with_reducible exact HQ.out.size | omega | (simp; done) | (simp; omega) | (simp [later_size]; done) | (simp [later_size]; omega)) _ | with_reducible refine Below.setCell ?_ (by first | with_reducible exact Nat.le_refl _ | with_reducible exact HBW.out.size | with_reducible exact HQ.out.size | omega | (simp; done) | (simp; omega) | (simp [later_size]; done) | (simp [later_size]; omega)) _ | with_reducible refine Below.alloc ?_ (by first | with_reducible exact Nat.le_refl _ | with_reducible exact HBW.out.size | with_reducible exact HQ.out.size | omega | (simp; done) | (simp; omega) | (simp [later_size]; done) | (simp [later_size]; omega)) _)))⟩
  case round =>
    obtain ⟨j, h, rfl, hh, rfl, hj, pw, rfl⟩ := hrel
    have HH := Lib.hid hh
    clear hh
    by_cases hlt : j < n
    · obtain ⟨x, hx⟩ : ∃ x, xs[j]? = some x := ⟨_, List.getElem?_eq_getElem (by rw [HN.out]; exact hlt)⟩
      obtain ⟨b, off, rfl, hcx⟩ := HR.out.at_ hx
      have hcl := hcx 0 _ rfl
      have hx2 := UInt8.toNat_lt x
      clear hcx hx
      simp only [Nat.add_zero, Nat.mul_one] at hcl
      by_cases h4 : j < 4000
      · go_wp2_with (first | ((with_reducible refine wp_region_later (by kernel_rfl) (by kernel_rfl) ?_); (repeat (first | go_big_quiet_skip | quiet_step ((fail)))); refine wpQuiet_nil ?_; rintro _ ⟨p, rfl⟩))
        all_goals
          go_roundw
          case rel => exact ⟨j + 1, _, rfl, (by obtain ⟨q, hq, hq2⟩ := i64_and (wrap64 (wrap64 (wrap64 (h * 131) + x.toNat) + 7)); first | (rw [hq]; unfold I64; omega) | (refine (fun z => ?_) (i64_and _); obtain ⟨q, hq, hq2⟩ := z; rw [hq]; unfold I64; omega)), by go_num, by omega, later_of_below (by (repeat (first | with_reducible exact Below.refl _ _ | with_reducible assumption | with_reducible refine Below.drew ?_ | with_reducible refine below_drewN ?_ _ | with_reducible exact HQ.out | with_reducible exact HBW.out | with_reducible refine below_ext ?_ _ _ | with_reducible refine below_then_later ?_ (by first | with_reducible exact Nat.le_refl _ | with_reducible exact HBW.out.size | with_reducible exact HQ.out.size | omega | (simp; done) | (simp; omega) | (simp [later_size]; done) | (simp [later_size]; omega)) _ | with_reducible refine Below.setCell ?_ (by first | with_reducible exact Nat.le_refl _ | with_reducible exact HBW.out.size | with_reducible exact HQ.out.size | omega | (simp; done) | (simp; omega) | (simp [later_size]; done) | (simp [later_size]; omega)) _ | with_reducible refine Below.alloc ?_ (by first | with_reducible exact Nat.le_refl _ | with_reducible exact HBW.out.size | with_reducible exact HQ.out.size | omega | (simp; done) | (simp; omega) | (simp [later_size]; done) | (simp [later_size]; omega)) _)))⟩
          case measure => simp [intOf]; omega
      · go_wp2_with (first | ((with_reducible refine wp_region_later (by kernel_rfl) (by kernel_rfl) ?_); (repeat (first | go_big_quiet_skip | quiet_step ((fail)))); refine wpQuiet_nil ?_; rintro _ ⟨p, rfl⟩))
        go_ret
        exact c_new_end HN.out hn2 HR.out HH.out
    · go_wp2_with (first | ((with_reducible refine wp_region_later (by kernel_rfl) (by kernel_rfl) ?_); (repeat (first | go_big_quiet_skip | quiet_step ((fail)))); refine wpQuiet_nil ?_; rintro _ ⟨p, rfl⟩))
      go_ret
      exact c_new_end HN.out hn2 HR.out HH.out
def below (n : Int) (v : Value) : Prop := ∃ x : Int, v = .int .i64 x ∧ 0 ≤ x ∧ (0 < n → x < n) ∧ (n ≤ 0 → x = 0)
set_option maxHeartbeats 3200000 in
theorem c_below (g : Nat) (n : Int) (w : World) (hc : Cur g w) (hn : I64 n) : Calls Try.prog 26 #[.pointer (some ⟨g, 0, Option.none⟩), .int .i64 n] w (Drawn g (below n) w) := by
  unfold I64 at hn
  have HC := Lib.hid hc
  have HG := Lib.hid (grown_refl w (some g))
  clear hc
  by_cases h0 : n ≤ 0
  · go_enter Try.func26, Try.ntmps26
    go_wp2_with (first | ((with_reducible refine wp_region_later (by kernel_rfl) (by kernel_rfl) ?_); (repeat (first | go_big_quiet_skip | quiet_step ((fail)))); refine wpQuiet_nil ?_; rintro _ ⟨p, rfl⟩))
    go_ret
    exact ⟨_, rfl, ⟨0, rfl, by omega, by omega, by omega⟩, HC.out, HG.out⟩
  · by_cases h1 : n ≤ 256
    · go_enter Try.func26, Try.ntmps26
      go_wp2_with (first | (go_at_call 42; (with_reducible refine (c_byte _ _ HC.out).mono ?_); rintro _ w2 ⟨_, rfl, ⟨x, rfl, hx⟩, hc2, hg2⟩; have HG2 := Lib.hid (grownBy_trans HG.out hg2); clear HC HG; have HC := Lib.hid hc2; have HG := HG2; clear HG2 hc2 hg2) | ((with_reducible refine wp_region_later (by kernel_rfl) (by kernel_rfl) ?_); (repeat (first | go_big_quiet_skip | quiet_step ((fail)))); refine wpQuiet_nil ?_; rintro _ ⟨p, rfl⟩))
      go_ret
      exact ⟨_, rfl, ⟨_, rfl, Int.emod_nonneg _ (by omega), fun _ => Int.emod_lt_of_pos _ (by omega), fun h => absurd h (by omega)⟩, HC.out, HG.out⟩
    · go_enter Try.func26, Try.ntmps26
      go_wp2_with (first | (go_at_call 42; (with_reducible refine (c_byte _ _ HC.out).mono ?_); rintro _ w2 ⟨_, rfl, ⟨x, rfl, hx⟩, hc2, hg2⟩; have HG2 := Lib.hid (grownBy_trans HG.out hg2); clear HC HG; have HC := Lib.hid hc2; have HG := HG2; clear HG2 hc2 hg2) | ((with_reducible refine wp_region_later (by kernel_rfl) (by kernel_rfl) ?_); (repeat (first | go_big_quiet_skip | quiet_step ((fail)))); refine wpQuiet_nil ?_; rintro _ ⟨p, rfl⟩))
      go_ret
      exact ⟨_, rfl, ⟨_, rfl, Int.emod_nonneg _ (by omega), fun _ => Int.emod_lt_of_pos _ (by omega), fun h => absurd h (by omega)⟩, HC.out, HG.out⟩
set_option maxHeartbeats 800000 in
theorem c_once (g : Nat) (n : Int) (w : World) (hc : Cur g w) (hn : I64 n) : Calls Try.prog 38 #[.pointer (some ⟨g, 0, Option.none⟩), .int .i64 n] w (Drawn g (fun v => ∃ b : Bool, v = .bool b) w) := by
  go_enter Try.func38, Try.ntmps38
  go_wp2_with (first | (go_at_call 26; (with_reducible refine (c_below _ _ _ hc hn).mono ?_); rintro _ w2 ⟨_, rfl, ⟨x, rfl, hx, hx2, hx3⟩, hc2, hg2⟩) | ((with_reducible refine wp_region_later (by kernel_rfl) (by kernel_rfl) ?_); (repeat (first | go_big_quiet_skip | quiet_step ((fail)))); refine wpQuiet_nil ?_; rintro _ ⟨p, rfl⟩))
  go_ret
  exact ⟨_, rfl, ⟨_, rfl⟩, hc2, hg2⟩
set_option maxHeartbeats 800000 in
theorem c_pickInt (g : Nat) (A : Option Addr) (n c : Nat) (xs : List Int) (w : World) (hc : Cur g w) (hn : xs.length = n) (h0 : 0 < n) (hn2 : n ≤ 4294967296) (hr : Row encI 1 w A xs) (hne : some g ≠ ob A n) : Calls Try.prog 48 #[.pointer (some ⟨g, 0, Option.none⟩), .slice A n c] w (Drawn g (fun v => ∃ x ∈ xs, v = .int .i64 x) w) := by
  have HC := Lib.hid hc
  have HR := Lib.hid hr
  have HN := Lib.hid hn
  have HNE := Lib.hid hne
  clear hc hr hn hne
  go_enter Try.func48, Try.ntmps48
  go_wp2_with (first | (go_at_call 26; (with_reducible refine (c_below _ _ _ HC.out (by unfold I64; omega)).mono ?_); rintro _ w2 ⟨_, rfl, ⟨x, rfl, hx, hx2, hx3⟩, hc2, hg2⟩; have hx4 := hx2 (by omega); clear hx2 hx3; obtain ⟨k, rfl⟩ : ∃ k : Nat, x = k := ⟨x.toNat, by omega⟩; obtain ⟨z, hz⟩ : ∃ z, xs[k]? = some z := ⟨_, List.getElem?_eq_getElem (by rw [HN.out]; omega)⟩; obtain ⟨b, off, rfl, hcx⟩ := (HR.out.grown_ne HN.out hg2 HNE.out).at_ hz; have hcl := hcx 0 _ rfl; clear hcx; simp only [Nat.add_zero, Nat.mul_one] at hcl; have HZ := Lib.hid hz; have HG2 := Lib.hid hg2; have HC2 := Lib.hid hc2; clear hz hg2 hc2) | ((with_reducible refine wp_region_later (by kernel_rfl) (by kernel_rfl) ?_); (repeat (first | go_big_quiet_skip | quiet_step ((fail)))); refine wpQuiet_nil ?_; rintro _ ⟨p, rfl⟩))
  go_ret
  exact ⟨_, rfl, ⟨z, List.mem_of_getElem? HZ.out, rfl⟩, HC2.out, HG2.out⟩
end Go.Proofs.Ytcmhmdccfihhiaa
