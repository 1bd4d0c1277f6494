/-
  What the reference draws: lists of stamps. Conditions: the bytes' number is at most 2^32.
-/
import Derived.Test.YtkjgllcfgljkeaaDrawT
import Derived.Test.YtkjgllcfgljkeaaDrawO
namespace Go.Proofs.Ytkjgllcfgljkeaa
open Go.RowKit
set_option linter.unusedVariables false
theorem grown_over {w W W' : World} {r row : Option Nat} (h : w.grownBy W r) (hg : W.grownBy W' row) (hrow : ∀ b, row = some b → w.heap.size ≤ b) : w.grownBy W' r :=
  ⟨hg.os.trans h.os, hg.tape.trans h.tape, hg.output.trans h.output, Nat.le_trans h.size hg.size, fun i hi hne => (hg.block i (Nat.lt_of_lt_of_le hi h.size) (fun e => by have := hrow i e.symm; omega)).trans (h.block i hi hne)⟩
/-- a cursor stands where a slice above it is written -/
theorem cur_over {g : Nat} {w w' : World} {v : Value} {base n : Nat} {E : TypeId} {k : Nat} {xs : List Value} (h : Cur g w) (hg : w.grownBy w' v.ownBlock) (ho : w.ownsRow base E k v n xs) (hb : g < base) : Cur g w' :=
  h.grown hg fun b e => Nat.lt_of_lt_of_le hb (ho.lt b e).1
/-- a list is drawn: a made slice, the cursor moved on -/
def DrawnL {α : Type} (enc : α → List Value) (k m : Nat) (ok : α → Prop) (g : Nat) (w : World) (e : Ending) (w' : World) : Prop :=
  ∃ (A : Option Addr) (n c : Nat) (xs : List α), e = .returned (.slice A n c) ∧ xs.length = n ∧ n ≤ m ∧ n ≤ c ∧ c ≤ maxLen ∧ (∀ x ∈ xs, ok x) ∧ Own enc k w.heap.size w' A xs ∧ Cur g w' ∧ w.grownBy w' (some g)
theorem infoStL : (Try.prog.info? 32).map (fun i => (i.zero, i.size, i.bytes)) = some (some (.agg #[.int .i64 0, .int .i64 0]), 2, 16) := by kernel_rfl
set_option maxRecDepth 20000 in
set_option maxHeartbeats 3200000 in
theorem c_l03List (g : Nat) (w : World) (hc : Cur g w) : Calls Try.prog 38 #[.pointer (some ⟨g, 0, Option.none⟩)] w (DrawnL encS 2 5 (fun x => I64 x.1 ∧ I64 x.2) g w) := by
  obtain ⟨i0, hi0, hz0, hs0, hb0⟩ := info_parts infoStL
  have HI := Lib.hid hi0
  have HZ := Lib.hid hz0
  have HS := Lib.hid hs0
  have HB := Lib.hid hb0
  clear hi0 hz0 hs0 hb0
  have hgl := hc.lt
  have HC0 := Lib.hid hc
  clear hc
  go_enter Try.func38, Try.ntmps38
  go_wp2_with fail
  go_loopw [3, 4] (fun v ii wr => ∃ (j : Nat) (acc : List (Int × Int)), ii = .int .i64 j ∧ j ≤ 5 ∧ acc.length = j ∧ (∀ p ∈ acc, I64 p.1 ∧ I64 p.2) ∧ wr.ownsRow w.heap.size 32 2 v j (acc.flatMap encS) ∧ Cur g wr ∧ w.heap.size ≤ wr.heap.size ∧ w.grownBy wr (some g)) (fun _ ii _ => 5 - (intOf ii).toNat)
  case atStart => exact ⟨0, [], rfl, by omega, rfl, by simp, own_empty _ _ _ _ _ (by first | rfl | (simp; done)) (by simp), HC0.out.alloc _, by simp, grown_alloc (grown_refl _ _) _⟩
  case round =>
    obtain ⟨j, acc, rfl, hj, hL, hF, hW, hc2, hs1, hG⟩ := hrel
    have HF := Lib.hid hF
    have HW := Lib.hid hW
    have HL := Lib.hid hL
    have HC := Lib.hid hc2
    have HG := Lib.hid hG
    clear hF hW hL hc2 hG
    go_wp2_with fail
    refine (c_below _ 6 _ HC.out (by unfold I64; omega)).mono ?_
    rintro _ w2 ⟨_, rfl, ⟨x, rfl, hx, hx2, -⟩, hc2, hg2⟩
    have hx4 := hx2 (by omega)
    clear hx2
    have HW2 := Lib.hid (HW.out.kept hg2 (.inr (fun e => by have := (HW.out.lt _ e).1; omega))); have HG2 := Lib.hid (grownBy_trans HG.out hg2); have hs2 : w.heap.size ≤ w2.heap.size := Nat.le_trans hs1 hg2.size; clear HC HW HG hs1; have HC := Lib.hid hc2; have HW := HW2; have HG := HG2; have hs1 := hs2; clear hc2 HW2 HG2 hg2 hs2
    by_cases hjx : (j : Int) < x
    · go_wp2_with fail
      refine (c_once _ 6 _ HC.out (by unfold I64; omega)).mono ?_
      rintro _ w3 ⟨_, rfl, ⟨b, rfl⟩, hc2, hg2⟩
      have HW2 := Lib.hid (HW.out.kept hg2 (.inr (fun e => by have := (HW.out.lt _ e).1; omega))); have HG2 := Lib.hid (grownBy_trans HG.out hg2); have hs2 : w.heap.size ≤ w3.heap.size := Nat.le_trans hs1 hg2.size; clear HC HW HG hs1; have HC := Lib.hid hc2; have HW := HW2; have HG := HG2; have hs1 := hs2; clear hc2 HW2 HG2 hg2 hs2
      cases b
      · go_wp2_with fail
        refine (c_l02Stamp _ _ HC.out).mono ?_
        rintro _ w4 ⟨_, rfl, ⟨y, z, rfl, hy, hz⟩, hc2, hg2⟩
        have HW2 := Lib.hid (HW.out.kept hg2 (.inr (fun e => by have := (HW.out.lt _ e).1; omega))); have HG2 := Lib.hid (grownBy_trans HG.out hg2); have hs2 : w.heap.size ≤ w4.heap.size := Nat.le_trans hs1 hg2.size; clear HC HW HG hs1; have HC := Lib.hid hc2; have HW := HW2; have HG := HG2; have hs1 := hs2; clear hc2 HW2 HG2 hg2 hs2
        go_wp2_with (first | (at_builtin; refine wpList_append_row _ encS 2 lenS (by decide) oneS rfl (.tmp 19) (.tmp 22) 24 rfl w.heap.size 32 i0 _ 16 Try.underlying24 HI.out HZ.out HS.out HB.out rfl u3 j acc rfl (by (repeat (first | with_reducible exact HW.out | with_reducible exact ownsRow_draw HW.out _ | with_reducible refine World.ownsRow.alloc ?_ _ | with_reducible refine World.ownsRow.drew ?_ | with_reducible refine ownsRow_later ?_ _)); done) _ _ _ [(y, z)] rfl rfl (row_oneS ((y, z)) _ _ _ (by first | with_reducible rfl | (simp; done) | (simp [later_size]; done) | (simp [later_size]; omega))) (by unfold maxLen; omega) (by omega) (by first | (simp; done) | (simp; omega) | (simp [later_size]; done) | (simp [later_size]; omega)) ?_; intro v2 w9 hown hga hbe; have HWN := Lib.hid hown; have HGA := Lib.hid hga; clear hown hbe hga))
        go_roundw
        case rel => exact ⟨j + 1, acc ++ [(y, z)], by go_num, by omega, by simp [HL.out], (by intro p hp; rcases List.mem_append.1 hp with h | h; exact HF.out p h; simp at h; subst h; exact ⟨hy, hz⟩), HWN.out, cur_over (HC.out.alloc _) HGA.out (HW.out.alloc _) hgl, Nat.le_trans hs1 (Nat.le_trans (by simp) HGA.out.size), grown_over (grown_alloc HG.out _) HGA.out (fun b hb => (HW.out.lt b hb).1)⟩
        case measure => simp [intOf]; omega
      · go_wp2_with fail
        refine (c_l02Any _ _ HC.out).mono ?_
        rintro _ w4 ⟨_, rfl, ⟨y, z, rfl, hy, hz⟩, hc2, hg2⟩
        have HW2 := Lib.hid (HW.out.kept hg2 (.inr (fun e => by have := (HW.out.lt _ e).1; omega))); have HG2 := Lib.hid (grownBy_trans HG.out hg2); have hs2 : w.heap.size ≤ w4.heap.size := Nat.le_trans hs1 hg2.size; clear HC HW HG hs1; have HC := Lib.hid hc2; have HW := HW2; have HG := HG2; have hs1 := hs2; clear hc2 HW2 HG2 hg2 hs2
        go_wp2_with (first | (at_builtin; refine wpList_append_row _ encS 2 lenS (by decide) oneS rfl (.tmp 14) (.tmp 17) 24 rfl w.heap.size 32 i0 _ 16 Try.underlying24 HI.out HZ.out HS.out HB.out rfl u3 j acc rfl (by (repeat (first | with_reducible exact HW.out | with_reducible exact ownsRow_draw HW.out _ | with_reducible refine World.ownsRow.alloc ?_ _ | with_reducible refine World.ownsRow.drew ?_ | with_reducible refine ownsRow_later ?_ _)); done) _ _ _ [(y, z)] rfl rfl (row_oneS ((y, z)) _ _ _ (by first | with_reducible rfl | (simp; done) | (simp [later_size]; done) | (simp [later_size]; omega))) (by unfold maxLen; omega) (by omega) (by first | (simp; done) | (simp; omega) | (simp [later_size]; done) | (simp [later_size]; omega)) ?_; intro v2 w9 hown hga hbe; have HWN := Lib.hid hown; have HGA := Lib.hid hga; clear hown hbe hga))
        go_roundw
        case rel => exact ⟨j + 1, acc ++ [(y, z)], by go_num, by omega, by simp [HL.out], (by intro p hp; rcases List.mem_append.1 hp with h | h; exact HF.out p h; simp at h; subst h; exact ⟨hy, hz⟩), HWN.out, cur_over (HC.out.alloc _) HGA.out (HW.out.alloc _) hgl, Nat.le_trans hs1 (Nat.le_trans (by simp) HGA.out.size), grown_over (grown_alloc HG.out _) HGA.out (fun b hb => (HW.out.lt b hb).1)⟩
        case measure => simp [intOf]; omega
    · go_wp2_with fail
      obtain ⟨A2, c2, hv, ho, hcap, hmax⟩ := own_of_ownsRow lenS HW.out HL.out
      subst hv
      go_ret
      exact ⟨A2, j, c2, acc, rfl, HL.out, hj, hcap, hmax, HF.out, ho, HC.out, HG.out⟩
end Go.Proofs.Ytkjgllcfgljkeaa
