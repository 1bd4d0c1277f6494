/-
  What the reference draws: tables of counts. Conditions: the bytes' number is at most 2^32.
-/
import Derived.Test.YthnemjaipdheoaaDrawL
import Derived.Test.YthnemjaipdheoaaAdjR
namespace Go.Proofs.Ythnemjaipdheoaa
open Go.RowKit
set_option linter.unusedVariables false
/-- a table is drawn: a row of the call's own, the cursor moved on -/
def DrawnT (g : Nat) (w : World) (e : Ending) (w' : World) : Prop :=
  ∃ (A : Option Addr) (n c : Nat) (xs : List ((Int × Int) × Int)), e = .returned (.slice A n c) ∧ xs.length = n ∧ n ≤ 5 ∧ w'.ownsRow w.heap.size 51 3 (.slice A n c) n (xs.flatMap encC) ∧ Cur g w' ∧ w.grownBy w' (some g)
theorem own_row {α : Type} {enc : α → List Value} {k : Nat} {w : World} {E : TypeId} {base n c : Nat} {A : Option Addr} {xs : List α} (hk : ∀ x, (enc x).length = k) (h : w.ownsRow base E k (.slice A n c) n (xs.flatMap enc)) (hn : xs.length = n) : Row enc k w A xs := by
  obtain ⟨A', c', he, ho, _⟩ := own_of_ownsRow hk h hn
  simp only [Value.slice.injEq] at he
  obtain ⟨rfl, _, _⟩ := he
  exact ho.row
set_option maxRecDepth 20000 in
set_option maxHeartbeats 3200000 in
theorem c_l04Table (g : Nat) (w : World) (hc : Cur g w) : Calls Try.prog 39 #[.pointer (some ⟨g, 0, Option.none⟩)] w (DrawnT g w) := by
  have hgl := hc.lt
  have HC0 := Lib.hid hc
  clear hc
  go_enter Try.func39, Try.ntmps39
  go_wp2_with fail
  go_loopw [3, 4] (fun v ii wr => ∃ (j k : Nat) (acc : List ((Int × Int) × Int)), ii = .int .i64 j ∧ j ≤ 5 ∧ acc.length = k ∧ k ≤ j ∧ wr.ownsRow w.heap.size 51 3 v k (acc.flatMap encC) ∧ Cur g wr ∧ w.heap.size ≤ wr.heap.size ∧ w.grownBy wr (some g)) (fun _ ii _ => 5 - (intOf ii).toNat)
  case atStart => exact ⟨0, 0, [], rfl, by omega, rfl, by omega, own_empty _ _ _ _ _ (by first | rfl | (simp; done)) (by simp), HC0.out.alloc _, by simp, grown_alloc (grown_refl _ _) _⟩
  case round =>
    obtain ⟨j, k, acc, rfl, hj, hL, hkj, hW, hc2, hs1, hG⟩ := hrel
    obtain ⟨A1, c1, hv, ho, hcap, hmax⟩ := own_of_ownsRow lenC hW hL
    subst hv
    clear ho
    have HW := Lib.hid hW
    have HL := Lib.hid hL
    have HC := Lib.hid hc2
    have HG := Lib.hid hG
    clear hW hL hc2 hG
    go_wp2_with fail
    refine (c_below _ 6 _ HC.out (by unfold I64; omega)).mono ?_
    rintro _ w2 ⟨_, rfl, ⟨x, rfl, hx, hx2, -⟩, hc2, hg2⟩
    have hx4 := hx2 (by omega)
    clear hx2
    have HG2 := Lib.hid (grownBy_trans HG.out hg2); have hs2 : w.heap.size ≤ w2.heap.size := Nat.le_trans hs1 hg2.size; have HW2 := Lib.hid (HW.out.kept hg2 (.inr (fun e => by have := (HW.out.lt _ e).1; omega))); clear HC HW HG hs1; have HC := Lib.hid hc2; have HW := HW2; have HG := HG2; have hs1 := hs2; clear hc2 HW2 HG2 hg2 hs2
    by_cases hjx : (j : Int) < x
    · go_wp2_with fail
      refine (c_l02Stamp _ _ HC.out).mono ?_
      rintro _ w4 ⟨_, rfl, ⟨y, z, rfl, hy, hz⟩, hc2, hg2⟩
      have HG2 := Lib.hid (grownBy_trans HG.out hg2); have hs2 : w.heap.size ≤ w4.heap.size := Nat.le_trans hs1 hg2.size; have HW2 := Lib.hid (HW.out.kept hg2 (.inr (fun e => by have := (HW.out.lt _ e).1; omega))); clear HC HW HG hs1; have HC := Lib.hid hc2; have HW := HW2; have HG := HG2; have hs1 := hs2; clear hc2 HW2 HG2 hg2 hs2
      go_wp2_with fail
      refine (c_below _ 7 _ HC.out (by unfold I64; omega)).mono ?_
      rintro _ w5 ⟨_, rfl, ⟨u, rfl, hu, hu2, -⟩, hc2, hg2⟩
      have hu4 := hu2 (by omega)
      clear hu2
      have HG2 := Lib.hid (grownBy_trans HG.out hg2); have hs2 : w.heap.size ≤ w5.heap.size := Nat.le_trans hs1 hg2.size; have HW2 := Lib.hid (HW.out.kept hg2 (.inr (fun e => by have := (HW.out.lt _ e).1; omega))); clear HC HW HG hs1; have HC := Lib.hid hc2; have HW := HW2; have HG := HG2; have hs1 := hs2; clear hc2 HW2 HG2 hg2 hs2
      have hal := adjust_len acc y z (u - 3)
      rw [HL.out] at hal
      obtain ⟨R, hR⟩ : ∃ R, (adjust acc y z (u - 3)).1 = R := ⟨_, rfl⟩
      have HRR := Lib.hid hR
      rw [hR] at hal
      clear hR
      go_wp2_with fail
      refine (r_sAdjust A1 k c1 acc y z (u - 3) _ HL.out (by omega) (by unfold I64; omega) (own_row lenC HW.out HL.out)).mono ?_
      rintro _ w6 ⟨A6, n6, c6, rfl, hl6, hc6, hm6, hO6, p6, hp6⟩
      have HO6 := Lib.hid hO6
      have HL6 := Lib.hid hl6
      have hn6 : n6 ≤ k + 1 := by rw [← hl6, HRR.out]; exact hal
      have HC6 := Lib.hid (show Cur g w6 by rw [hp6]; exact HC.out.later _)
      have HG6 := Lib.hid (show w.grownBy w6 (some g) by rw [hp6]; exact grown_later HG.out _)
      have hs6 : w.heap.size ≤ w6.heap.size := HG6.out.size
      clear hO6 hl6 hp6
      go_wp2_with fail
      go_roundw
      case rel => exact ⟨j + 1, n6, _, by go_num, by omega, HL6.out, by omega, ownsRow_low HO6.out hs1, HC6.out, hs6, HG6.out⟩
      case measure => simp [intOf]; omega
    · go_wp2_with fail
      go_ret
      exact ⟨A1, k, c1, acc, rfl, HL.out, by omega, HW.out, HC.out, HG.out⟩
set_option maxRecDepth 20000 in
set_option maxHeartbeats 3200000 in
theorem c_l04Any (g : Nat) (w : World) (hc : Cur g w) : Calls Try.prog 25 #[.pointer (some ⟨g, 0, Option.none⟩)] w (DrawnL encC 3 6 (fun _ => True) g w) := by
  obtain ⟨i0, hi0, hz0, hs0, hb0⟩ := info_parts infoCount
  have HI := Lib.hid hi0
  have HZ := Lib.hid hz0
  have HS := Lib.hid hs0
  have HB := Lib.hid hb0
  clear hi0 hz0 hs0 hb0
  have hgl := hc.lt
  have HC0 := Lib.hid hc
  clear hc
  go_enter Try.func25, Try.ntmps25
  go_wp2_with fail
  refine (c_l04Table g _ HC0.out).mono ?_
  rintro _ w1 ⟨A1, n1, c1, xs1, rfl, hl1, hn1, hW, hc2, hg2⟩
  have hs1 : w.heap.size ≤ w1.heap.size := hg2.size
  have HW := Lib.hid hW
  have HL := Lib.hid hl1
  have HC := Lib.hid hc2
  have HG := Lib.hid hg2
  clear hW hl1 hc2 hg2 HC0
  go_wp2_with fail
  refine (c_below _ 10 _ HC.out (by unfold I64; omega)).mono ?_
  rintro _ w2 ⟨_, rfl, ⟨x, rfl, hx, hx2, -⟩, hc2, hg2⟩
  clear hx2
  have HG2 := Lib.hid (grownBy_trans HG.out hg2); have hs2 : w.heap.size ≤ w2.heap.size := Nat.le_trans hs1 hg2.size; have HW2 := Lib.hid (HW.out.kept hg2 (.inr (fun e => by have := (HW.out.lt _ e).1; omega))); clear HC HW HG hs1; have HC := Lib.hid hc2; have HW := HW2; have HG := HG2; have hs1 := hs2; clear hc2 HW2 HG2 hg2 hs2
  by_cases hx0 : x = 0
  · subst hx0
    go_wp2_with fail
    refine (c_l02Any _ _ HC.out).mono ?_
    rintro _ w3 ⟨_, rfl, ⟨y, z, rfl, hy, hz⟩, hc2, hg2⟩
    have HG2 := Lib.hid (grownBy_trans HG.out hg2); have hs2 : w.heap.size ≤ w3.heap.size := Nat.le_trans hs1 hg2.size; have HW2 := Lib.hid (HW.out.kept hg2 (.inr (fun e => by have := (HW.out.lt _ e).1; omega))); clear HC HW HG hs1; have HC := Lib.hid hc2; have HW := HW2; have HG := HG2; have hs1 := hs2; clear hc2 HW2 HG2 hg2 hs2
    go_wp2_with fail
    refine (c_below _ 3 _ HC.out (by unfold I64; omega)).mono ?_
    rintro _ w4 ⟨_, rfl, ⟨u, rfl, hu, hu2, -⟩, hc2, hg2⟩
    clear hu2
    have HG2 := Lib.hid (grownBy_trans HG.out hg2); have hs2 : w.heap.size ≤ w4.heap.size := Nat.le_trans hs1 hg2.size; have HW2 := Lib.hid (HW.out.kept hg2 (.inr (fun e => by have := (HW.out.lt _ e).1; omega))); clear HC HW HG hs1; have HC := Lib.hid hc2; have HW := HW2; have HG := HG2; have hs1 := hs2; clear hc2 HW2 HG2 hg2 hs2
    go_wp2_with (first | (at_builtin; refine wpList_append_row _ encC 3 lenC (by decide) oneC rfl (.tmp 10) (.tmp 16) 24 rfl w.heap.size 51 i0 _ 24 Try.underlying24 HI.out HZ.out HS.out HB.out rfl (.slice A1 n1 c1) n1 xs1 rfl (HW.out.alloc _) _ _ _ [((y, z), u)] rfl rfl (row_oneC (((y, z), u)) _ _ _ (by first | with_reducible rfl | (simp; done) | (simp; omega))) (by unfold maxLen; omega) (by omega) (by first | (simp; done) | (simp; omega)) ?_; intro v2 w9 hown hga hbe; have HWN := Lib.hid hown; have HGA := Lib.hid hga; clear hown hbe hga))
    obtain ⟨A2, c2, hv, ho, hcap, hmax⟩ := own_of_ownsRow lenC HWN.out (by rw [List.length_append, HL.out]; rfl)
    subst hv
    go_ret
    exact ⟨A2, n1 + 1, c2, _, rfl, (by rw [List.length_append, HL.out]; rfl), by omega, hcap, hmax, fun _ _ => trivial, ho, cur_over (HC.out.alloc _) HGA.out (HW.out.alloc _) hgl, grown_over (grown_alloc HG.out _) HGA.out (fun b hb => (HW.out.lt b hb).1)⟩
  · by_cases hx1 : x = 1
    · subst hx1
      go_wp2_with fail
      refine (c_pickInt g _ _ _ [1000000, 1000001, -1000000, 0] _ (HC.out.alloc _) rfl (by decide) (by decide) (by exact row_new encI 1 lenI _ _ _) (ne_new HC.out.lt)).mono ?_
      rintro _ w3 ⟨_, rfl, ⟨u, hu, rfl⟩, hc2, hg2⟩
      have HW3 := Lib.hid ((HW.out.alloc _).kept hg2 (.inr (fun e => by have := (HW.out.lt _ e).1; omega)))
      have HG3 := Lib.hid (grownBy_trans (grown_alloc HG.out _) hg2)
      have hs3 : w.heap.size ≤ w3.heap.size := HG3.out.size
      clear HC HW HG hs1 hu
      have HC := Lib.hid hc2
      have HW := HW3
      have HG := HG3
      have hs1 := hs3
      clear hc2 HW3 HG3 hg2 hs3
      go_wp2_with (first | (at_builtin; refine wpList_append_row _ encC 3 lenC (by decide) oneC rfl (.tmp 20) (.tmp 26) 24 rfl w.heap.size 51 i0 _ 24 Try.underlying24 HI.out HZ.out HS.out HB.out rfl (.slice A1 n1 c1) n1 xs1 rfl (HW.out.alloc _) _ _ _ [((3, 6), u)] rfl rfl (row_oneC (((3, 6), u)) _ _ _ (by first | with_reducible rfl | (simp; done) | (simp; omega))) (by unfold maxLen; omega) (by omega) (by first | (simp; done) | (simp; omega)) ?_; intro v2 w9 hown hga hbe; have HWN := Lib.hid hown; have HGA := Lib.hid hga; clear hown hbe hga))
      obtain ⟨A2, c2, hv, ho, hcap, hmax⟩ := own_of_ownsRow lenC HWN.out (by rw [List.length_append, HL.out]; rfl)
      subst hv
      go_ret
      exact ⟨A2, n1 + 1, c2, _, rfl, (by rw [List.length_append, HL.out]; rfl), by omega, hcap, hmax, fun _ _ => trivial, ho, cur_over (HC.out.alloc _) HGA.out (HW.out.alloc _) hgl, grown_over (grown_alloc HG.out _) HGA.out (fun b hb => (HW.out.lt b hb).1)⟩
    · have hb0 : (x == 0) = false := by simpa using hx0
      have hb1 : (x == 1) = false := by simpa using hx1
      go_wp2_with fail
      obtain ⟨A2, c2, hv, ho, hcap, hmax⟩ := own_of_ownsRow lenC HW.out HL.out
      simp only [Value.slice.injEq] at hv
      obtain ⟨rfl, -, rfl⟩ := hv
      go_ret
      exact ⟨A1, n1, c1, xs1, rfl, HL.out, by omega, hcap, hmax, fun _ _ => trivial, ho, HC.out, HG.out⟩
end Go.Proofs.Ythnemjaipdheoaa
