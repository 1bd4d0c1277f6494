/-
  Decimal of the reference walked (the numeral as the kit's own word 'Lib.itoa' says it). Conditions: the argument is an int.
-/
import Derived.Test.YtcjdfecajlgcmaaDoorHex
import Derived.Lib.ItoaNum
namespace Go.Proofs.YtcjdfecajlgcmaaDoor
open Go.RowKit
set_option linter.unusedVariables false

/-- what the loop holds: m is left of M, the digits behind it are laid -/
def DecR (M m : Nat) (l : List UInt8) : Prop := if m = 0 then l = Lib.decDigits M else Lib.decDigits m ++ l = Lib.decDigits M
theorem DecR.start {M : Nat} (h : M ≠ 0) : DecR M M [] := by unfold DecR; rw [if_neg h]; simp
theorem fig_dec {k : Nat} (h : k < 10) : fig k = UInt8.ofNat (48 + k) := by
  have : ∀ k : Fin 10, fig k.val = UInt8.ofNat (48 + k.val) := by decide
  exact this ⟨k, h⟩
theorem DecR.step {M m : Nat} {l : List UInt8} (h : DecR M m l) (hm : m ≠ 0) : DecR M (m / 10) (fig (m % 10) :: l) := by
  unfold DecR at h ⊢
  rw [if_neg hm] at h
  rw [fig_dec (Nat.mod_lt _ (by omega))]
  by_cases h1 : m < 10
  · rw [if_pos (by omega), ← h, Lib.decDigits, dif_pos h1, Nat.mod_eq_of_lt h1]
    rfl
  · rw [if_neg (by omega), ← h]
    conv => rhs; rw [Lib.decDigits, dif_neg h1]
    simp
theorem DecR.done {M : Nat} {l : List UInt8} (h : DecR M 0 l) : l = Lib.decDigits M := by unfold DecR at h; rwa [if_pos rfl] at h
theorem nDigits_le : ∀ k u : Nat, u < 10 ^ (k + 1) → Lib.nDigits u ≤ k + 1
  | 0, u, h => by rw [Lib.nDigits_small (by simpa using h)]; omega
  | k + 1, u, h => by
    by_cases h1 : u < 10
    · rw [Lib.nDigits_small h1]; omega
    · rw [Lib.nDigits_big h1]
      have := nDigits_le k (u / 10) (by rw [Nat.pow_succ] at h; omega)
      omega
theorem DecR.len {M m : Nat} {l : List UInt8} (h : DecR M m l) (hM : M ≤ 9223372036854775808) : l.length ≤ 20 := by
  have h1 : (Lib.decDigits M).length ≤ 20 := by rw [Lib.decDigits_length]; exact nDigits_le 19 M (by omega)
  unfold DecR at h
  split at h
  · rw [h]; exact h1
  · rw [← h, List.length_append] at h1; omega
theorem itoa_neg {n : Int} (h : n < 0) : Lib.itoa n = 45 :: Lib.decDigits n.natAbs := by unfold Lib.itoa; rw [if_pos h]
theorem itoa_pos {n : Int} (h : ¬ n < 0) : Lib.itoa n = Lib.decDigits n.natAbs := by unfold Lib.itoa; rw [if_neg h]; congr 1; omega
theorem itoa_zero : Lib.itoa 0 = [48] := by simp [Lib.itoa, Lib.decDigits]
theorem itoa_len {n : Int} (h : I64 n) : (Lib.itoa n).length ≤ 21 := by
  unfold I64 at h
  have h1 : (Lib.decDigits n.natAbs).length ≤ 20 := by rw [Lib.decDigits_length]; exact nDigits_le 19 _ (by omega)
  by_cases h0 : n < 0
  · rw [itoa_neg h0, List.length_cons]; omega
  · rw [itoa_pos h0]; omega
theorem tm_neg {x : Int} (h : x ≤ 0) : x.tmod 10 = -((x.natAbs % 10 : Nat) : Int) := by
  obtain ⟨m, rfl⟩ : ∃ m : Nat, x = -(m : Int) := ⟨x.natAbs, by omega⟩
  rw [Int.neg_tmod, Int.natAbs_neg]; rfl
theorem td_neg {x : Int} (h : x ≤ 0) : x.tdiv 10 = -((x.natAbs / 10 : Nat) : Int) := by
  obtain ⟨m, rfl⟩ : ∃ m : Nat, x = -(m : Int) := ⟨x.natAbs, by omega⟩
  rw [Int.neg_tdiv, Int.natAbs_neg]; rfl
theorem tm_pos {x : Int} (h : 0 ≤ x) : x.tmod 10 = ((x.natAbs % 10 : Nat) : Int) := by
  obtain ⟨m, rfl⟩ : ∃ m : Nat, x = (m : Int) := ⟨x.natAbs, by omega⟩
  rfl
theorem td_pos {x : Int} (h : 0 ≤ x) : x.tdiv 10 = ((x.natAbs / 10 : Nat) : Int) := by
  obtain ⟨m, rfl⟩ : ∃ m : Nat, x = (m : Int) := ⟨x.natAbs, by omega⟩
  rfl
theorem str_ret {a b : List UInt8} (h : a = b) : Ending.returned (.string ⟨a.toArray⟩) = .returned (.string ⟨b.toArray⟩) := by rw [h]
/-- two strings of lists, one behind the other -/
theorem str_app (a b : List UInt8) : (⟨a.toArray⟩ : ByteArray) ++ ⟨b.toArray⟩ = ⟨(a ++ b).toArray⟩ := by
  apply ByteArray.ext
  simp [ByteArray.data_append]

/-- string(v), v a slice that reads as bytes -/
theorem run_string_row {P : Program} (w : World) (src dst e : TypeId) (hs : P.underlying src = some (.slice e)) (he : P.underlying e = some (.int .u8)) (hd : P.underlying dst = some .string)
    {A : Option Addr} {n c : Nat} {xs : List UInt8} (hr : Row encB 1 w A xs) (hn : xs.length = n) :
    (convert src dst (.slice A n c)).run P w = .ok (.string ⟨xs.toArray⟩) w := by
  rcases A with _ | a
  · have hx : xs = [] := by
      rcases xs with _ | ⟨x, xs⟩
      · rfl
      · obtain ⟨b, off, h, _⟩ := hr (by simp)
        cases h
    subst hx
    subst hn
    rw [run_convert_bytes_string w src dst e Option.none _ c hs he hd]
    simp [Conv.bytesToString, Sem.run_pure]
    rfl
  · subst hn
    refine run_convert_bytes_back w src dst e a c xs hs he hd (fun j hj => ?_)
    obtain ⟨b, off, ha, hc⟩ := hr (Nat.lt_of_le_of_lt (Nat.zero_le _) hj)
    cases ha
    have := hc j xs[j] (List.getElem?_eq_getElem hj) 0 _ rfl
    have ea : (⟨b, off, Option.none⟩ : Addr).add j = ⟨b, off + j, Option.none⟩ := by
      unfold Addr.add; split <;> simp_all
    rw [ea]
    simpa using this
theorem wpList_string_row {P : Program} {ops : Array Oper} {rest : List Oper} {o : Oper} {a : Act} {w : World} {Q : Exit → Act → World → Prop} (hgd : o.guard = none) (x : Operand) (src dst : TypeId)
    (ho : o.op = .convert src dst x) (e : TypeId) (hs : P.underlying src = some (.slice e)) (he : P.underlying e = some (.int .u8)) (hd : P.underlying dst = some .string)
    (A : Option Addr) (n c : Nat) (xs : List UInt8) (hx : a.eval x = .slice A n c) (hr : Row encB 1 w A xs) (hn : xs.length = n)
    (h : wpList P ops Q rest (a.put o.dst (.string ⟨xs.toArray⟩)) w) : wpList P ops Q (o :: rest) a w :=
  wpList_plain hgd fun _ hK => by
    unfold Oper.wp execOp
    simp only [ho, hx, Sem.run_bind, Sem.run_pure, run_string_row w src dst e hs he hd hr hn, Result.andThen_ok]
    exact hK _ _ h

set_option maxRecDepth 20000 in
set_option maxHeartbeats 3200000 in
theorem c_sDecimal (n : Int) (w : World) (hn : I64 n) : Calls Tryd.prog 43 #[.int .i64 n] w (Gives (.string ⟨(Lib.itoa n).toArray⟩) w) := by
  unfold I64 at hn
  obtain ⟨hn1, hn2⟩ := hn
  by_cases h0 : n = 0
  · subst h0
    go_enter Tryd.func43, Tryd.ntmps43
    go_wp2_with (first | ((with_reducible refine wp_region_later (by kernel_rfl) (by kernel_rfl) ?_); (repeat (first | go_big_quiet_skip | quiet_step ((fail)))); refine wpQuiet_nil ?_; rintro _ ⟨p, rfl⟩))
    go_ret
    exact Gives.mk (by rw [itoa_zero]; rfl) (by (repeat (first | with_reducible exact Below.refl _ _ | with_reducible assumption | with_reducible refine Below.drew ?_ | with_reducible refine below_drewN ?_ _ | with_reducible exact HQ.out | with_reducible exact HBW.out | with_reducible refine below_ext ?_ _ _ | with_reducible refine below_then_later ?_ (by first | with_reducible exact Nat.le_refl _ | with_reducible exact HBW.out.size | with_reducible exact HQ.out.size | omega | (simp; done) | (simp; omega) | (simp [later_size]; done) | (simp [later_size]; omega)) _ | with_reducible refine Below.setCell ?_ (by first | with_reducible exact Nat.le_refl _ | with_reducible exact HBW.out.size | with_reducible exact HQ.out.size | omega | (simp; done) | (simp; omega) | (simp [later_size]; done) | (simp [later_size]; omega)) _ | with_reducible refine Below.alloc ?_ (by first | with_reducible exact Nat.le_refl _ | with_reducible exact HBW.out.size | with_reducible exact HQ.out.size | omega | (simp; done) | (simp; omega) | (simp [later_size]; done) | (simp [later_size]; omega)) _)))
  · by_cases hneg : n < 0
    · have hM := Lib.hid (DecR.start (M := n.natAbs) (by omega))
      have hnz : (n == 0) = false := by simpa using h0
      go_enter Tryd.func43, Tryd.ntmps43
      go_wp2_with (first | ((with_reducible refine wp_region_later (by kernel_rfl) (by kernel_rfl) ?_); (repeat (first | go_big_quiet_skip | quiet_step ((fail)))); refine wpQuiet_nil ?_; rintro _ ⟨p, rfl⟩))
      go_loopw [0, 4] (fun nn ss wr => ∃ (x : Int) (l : List UInt8), nn = .int .i64 x ∧ -9223372036854775808 ≤ x ∧ x ≤ 0 ∧ ss = .string ⟨l.toArray⟩ ∧ DecR n.natAbs x.natAbs l ∧ ∃ p : Later, wr = later w p) (fun nn _ _ => (intOf nn).natAbs)
      case atStart => exact ⟨n, [], rfl, by omega, by omega, rfl, hM.out, later_refl _⟩
      case round =>
        obtain ⟨x, l, rfl, hx1, hx2, rfl, hR, p, rfl⟩ := hrel
        have hlen := hR.len (by omega)
        have HR := Lib.hid hR
        clear hR hM
        have hl1 : 1 + l.length ≤ 9223372036854775807 := by omega
        by_cases hz : x = 0
        · subst hz
          have HL := Lib.hid (DecR.done HR.out)
          go_wp2_with (first | ((with_reducible refine wp_region_later (by kernel_rfl) (by kernel_rfl) ?_); (repeat (first | go_big_quiet_skip | quiet_step ((fail)))); refine wpQuiet_nil ?_; rintro _ ⟨p, rfl⟩))
          go_ret
          exact Gives.mk (by first | exact str_ret (by rw [itoa_pos (by omega)]; exact HL.out) | (rw [itoa_neg hneg, ← HL.out]; done) | (rw [itoa_neg hneg, ← HL.out]; exact congrArg (fun b => Ending.returned (.string b)) (str_app [45] l)) | rfl) (by (repeat (first | with_reducible exact Below.refl _ _ | with_reducible assumption | with_reducible refine Below.drew ?_ | with_reducible refine below_drewN ?_ _ | with_reducible exact HQ.out | with_reducible exact HBW.out | with_reducible refine below_ext ?_ _ _ | with_reducible refine below_then_later ?_ (by first | with_reducible exact Nat.le_refl _ | with_reducible exact HBW.out.size | with_reducible exact HQ.out.size | omega | (simp; done) | (simp; omega) | (simp [later_size]; done) | (simp [later_size]; omega)) _ | with_reducible refine Below.setCell ?_ (by first | with_reducible exact Nat.le_refl _ | with_reducible exact HBW.out.size | with_reducible exact HQ.out.size | omega | (simp; done) | (simp; omega) | (simp [later_size]; done) | (simp [later_size]; omega)) _ | with_reducible refine Below.alloc ?_ (by first | with_reducible exact Nat.le_refl _ | with_reducible exact HBW.out.size | with_reducible exact HQ.out.size | omega | (simp; done) | (simp; omega) | (simp [later_size]; done) | (simp [later_size]; omega)) _)))
        · have ht : x.tmod 10 = -((x.natAbs % 10 : Nat) : Int) := tm_neg hx2
          have hq1 := td_neg hx2
          have hq : (x.tdiv 10).natAbs = x.natAbs / 10 := by omega
          have hxz : (x == 0) = false := by simpa using hz
          obtain ⟨k, hk⟩ : ∃ k, x.natAbs % 10 = k := ⟨_, rfl⟩
          obtain ⟨y, hy⟩ : ∃ y, x.tdiv 10 = y := ⟨_, rfl⟩
          have hk10 : k < 10 := by omega
          have hy1 : -9223372036854775808 ≤ y := by omega
          have hy2 : y ≤ 0 := by omega
          have hlt : y.natAbs < x.natAbs := by omega
          have HS := Lib.hid (show DecR n.natAbs y.natAbs (fig k :: l) by rw [← hy, hq, ← hk]; exact HR.out.step (by omega))
          rw [hk] at ht
          clear hk hq hq1 HR
          have hl2 : 1 + l.length ≤ 9223372036854775807 := by omega
          go_wp2_with (first | (refine wpList_string_row rfl (.tmp 20) 22 9 rfl 5 Tryd.underlying22 Tryd.underlying5 Tryd.underlying9 _ 1 _ [fig k] rfl (row_oneB (fig k) _ _ _ rfl) rfl ?_) | (go_at_call 57; (refine (c_figure _ k (by first | rfl | omega) (by omega) _).mono ?_); rintro _ _ ⟨rfl, rfl⟩) | ((with_reducible refine wp_region_later (by kernel_rfl) (by kernel_rfl) ?_); (repeat (first | go_big_quiet_skip | quiet_step ((fail)))); refine wpQuiet_nil ?_; rintro _ ⟨p, rfl⟩))
          all_goals
            go_roundw
            case rel => exact ⟨y, fig k :: l, rfl, hy1, hy2, (by first | rfl | exact congrArg Value.string (str_app [fig k] l)), HS.out, later_of_below (by (repeat (first | with_reducible exact Below.refl _ _ | with_reducible assumption | with_reducible refine Below.drew ?_ | with_reducible refine below_drewN ?_ _ | with_reducible exact HQ.out | with_reducible exact HBW.out | with_reducible refine below_ext ?_ _ _ | with_reducible refine below_then_later ?_ (by first | with_reducible exact Nat.le_refl _ | with_reducible exact HBW.out.size | with_reducible exact HQ.out.size | omega | (simp; done) | (simp; omega) | (simp [later_size]; done) | (simp [later_size]; omega)) _ | with_reducible refine Below.setCell ?_ (by first | with_reducible exact Nat.le_refl _ | with_reducible exact HBW.out.size | with_reducible exact HQ.out.size | omega | (simp; done) | (simp; omega) | (simp [later_size]; done) | (simp [later_size]; omega)) _ | with_reducible refine Below.alloc ?_ (by first | with_reducible exact Nat.le_refl _ | with_reducible exact HBW.out.size | with_reducible exact HQ.out.size | omega | (simp; done) | (simp; omega) | (simp [later_size]; done) | (simp [later_size]; omega)) _)))⟩
            case measure => simp [intOf]; omega
    · have hM := Lib.hid (DecR.start (M := n.natAbs) (by omega))
      have hnz : (n == 0) = false := by simpa using h0
      go_enter Tryd.func43, Tryd.ntmps43
      go_wp2_with (first | ((with_reducible refine wp_region_later (by kernel_rfl) (by kernel_rfl) ?_); (repeat (first | go_big_quiet_skip | quiet_step ((fail)))); refine wpQuiet_nil ?_; rintro _ ⟨p, rfl⟩))
      go_loopw [0, 4] (fun nn ss wr => ∃ (x : Int) (l : List UInt8), nn = .int .i64 x ∧ 0 ≤ x ∧ x ≤ 9223372036854775807 ∧ ss = .string ⟨l.toArray⟩ ∧ DecR n.natAbs x.natAbs l ∧ ∃ p : Later, wr = later w p) (fun nn _ _ => (intOf nn).natAbs)
      case atStart => exact ⟨n, [], rfl, by omega, by omega, rfl, hM.out, later_refl _⟩
      case round =>
        obtain ⟨x, l, rfl, hx1, hx2, rfl, hR, p, rfl⟩ := hrel
        have hlen := hR.len (by omega)
        have HR := Lib.hid hR
        clear hR hM
        have hl1 : 1 + l.length ≤ 9223372036854775807 := by omega
        by_cases hz : x = 0
        · subst hz
          have HL := Lib.hid (DecR.done HR.out)
          go_wp2_with (first | ((with_reducible refine wp_region_later (by kernel_rfl) (by kernel_rfl) ?_); (repeat (first | go_big_quiet_skip | quiet_step ((fail)))); refine wpQuiet_nil ?_; rintro _ ⟨p, rfl⟩))
          go_ret
          exact Gives.mk (by first | exact str_ret (by rw [itoa_pos (by omega)]; exact HL.out) | (rw [itoa_pos hneg, ← HL.out]; done) | (rw [itoa_pos hneg, ← HL.out]; exact congrArg (fun b => Ending.returned (.string b)) (str_app [45] l)) | rfl) (by (repeat (first | with_reducible exact Below.refl _ _ | with_reducible assumption | with_reducible refine Below.drew ?_ | with_reducible refine below_drewN ?_ _ | with_reducible exact HQ.out | with_reducible exact HBW.out | with_reducible refine below_ext ?_ _ _ | with_reducible refine below_then_later ?_ (by first | with_reducible exact Nat.le_refl _ | with_reducible exact HBW.out.size | with_reducible exact HQ.out.size | omega | (simp; done) | (simp; omega) | (simp [later_size]; done) | (simp [later_size]; omega)) _ | with_reducible refine Below.setCell ?_ (by first | with_reducible exact Nat.le_refl _ | with_reducible exact HBW.out.size | with_reducible exact HQ.out.size | omega | (simp; done) | (simp; omega) | (simp [later_size]; done) | (simp [later_size]; omega)) _ | with_reducible refine Below.alloc ?_ (by first | with_reducible exact Nat.le_refl _ | with_reducible exact HBW.out.size | with_reducible exact HQ.out.size | omega | (simp; done) | (simp; omega) | (simp [later_size]; done) | (simp [later_size]; omega)) _)))
        · have ht : x.tmod 10 = ((x.natAbs % 10 : Nat) : Int) := tm_pos hx1
          have hq1 := td_pos hx1
          have hq : (x.tdiv 10).natAbs = x.natAbs / 10 := by omega
          have hxz : (x == 0) = false := by simpa using hz
          obtain ⟨k, hk⟩ : ∃ k, x.natAbs % 10 = k := ⟨_, rfl⟩
          obtain ⟨y, hy⟩ : ∃ y, x.tdiv 10 = y := ⟨_, rfl⟩
          have hk10 : k < 10 := by omega
          have hy1 : 0 ≤ y := by omega
          have hy2 : y ≤ 9223372036854775807 := by omega
          have hlt : y.natAbs < x.natAbs := by omega
          have HS := Lib.hid (show DecR n.natAbs y.natAbs (fig k :: l) by rw [← hy, hq, ← hk]; exact HR.out.step (by omega))
          rw [hk] at ht
          clear hk hq hq1 HR
          have hl2 : 1 + l.length ≤ 9223372036854775807 := by omega
          go_wp2_with (first | (refine wpList_string_row rfl (.tmp 20) 22 9 rfl 5 Tryd.underlying22 Tryd.underlying5 Tryd.underlying9 _ 1 _ [fig k] rfl (row_oneB (fig k) _ _ _ rfl) rfl ?_) | (go_at_call 57; (refine (c_figure _ k (by first | rfl | omega) (by omega) _).mono ?_); rintro _ _ ⟨rfl, rfl⟩) | ((with_reducible refine wp_region_later (by kernel_rfl) (by kernel_rfl) ?_); (repeat (first | go_big_quiet_skip | quiet_step ((fail)))); refine wpQuiet_nil ?_; rintro _ ⟨p, rfl⟩))
          all_goals
            go_roundw
            case rel => exact ⟨y, fig k :: l, rfl, hy1, hy2, (by first | rfl | exact congrArg Value.string (str_app [fig k] l)), HS.out, later_of_below (by (repeat (first | with_reducible exact Below.refl _ _ | with_reducible assumption | with_reducible refine Below.drew ?_ | with_reducible refine below_drewN ?_ _ | with_reducible exact HQ.out | with_reducible exact HBW.out | with_reducible refine below_ext ?_ _ _ | with_reducible refine below_then_later ?_ (by first | with_reducible exact Nat.le_refl _ | with_reducible exact HBW.out.size | with_reducible exact HQ.out.size | omega | (simp; done) | (simp; omega) | (simp [later_size]; done) | (simp [later_size]; omega)) _ | with_reducible refine Below.setCell ?_ (by first | with_reducible exact Nat.le_refl _ | with_reducible exact HBW.out.size | with_reducible exact HQ.out.size | omega | (simp; done) | (simp; omega) | (simp [later_size]; done) | (simp [later_size]; omega)) _ | with_reducible refine Below.alloc ?_ (by first | with_reducible exact Nat.le_refl _ | with_reducible exact HBW.out.size | with_reducible exact HQ.out.size | omega | (simp; done) | (simp; omega) | (simp [later_size]; done) | (simp [later_size]; omega)) _)))⟩
            case measure => simp [intOf]; omega
end Go.Proofs.YtcjdfecajlgcmaaDoor
