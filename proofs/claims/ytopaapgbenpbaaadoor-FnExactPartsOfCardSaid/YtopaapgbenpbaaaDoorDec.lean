/-
  Decimal of the reference walked (the numeral as the kit's own word 'Lib.itoa' says it). Conditions: the argument is an int.
-/
import Derived.Test.YtopaapgbenpbaaaDoorHex
import Derived.Lib.ItoaNum
namespace Go.Proofs.YtopaapgbenpbaaaDoor
open Go.RowKit
set_option linter.unusedVariables false

/-- what the loop holds: m is left of M, the digits behind it are laid -/
def DecR (M m : Nat) (l : List UInt8) : Prop := if m = 0 then l = Lib.decDigits M else Lib.decDigits m ++ l = Lib.decDigits M
theorem DecR.start {M : Nat} (h : M ≠ 0) : DecR M M [] := by unfold DecR; rw [if_neg h]; simp
theorem fig_dec {k : Nat} (h : k < 10) : fig k = UInt8.ofNat (48 + k) := by
  have : ∀ k : Fin 10, fig k.val = UInt8.ofNat (48 + k.val) := by decide
  exact this ⟨k, h⟩
theorem DecR.step {M m : Nat} {l : List UInt8} (h : DecR M m l) (hm : m ≠ 0) : DecR M (m / 10) (fig (m % 10) :: l) := by
  unfold DecR at h ⊢
  rw [if_neg hm] at h
  rw [fig_dec (Nat.mod_lt _ (by omega))]
  by_cases h1 : m < 10
  · rw [if_pos (by omega), ← h, Lib.decDigits, dif_pos h1, Nat.mod_eq_of_lt h1]
    rfl
  · rw [if_neg (by omega), ← h]
    conv => rhs; rw [Lib.decDigits, dif_neg h1]
    simp
theorem DecR.done {M : Nat} {l : List UInt8} (h : DecR M 0 l) : l = Lib.decDigits M := by unfold DecR at h; rwa [if_pos rfl] at h
theorem nDigits_le : ∀ k u : Nat, u < 10 ^ (k + 1) → Lib.nDigits u ≤ k + 1
  | 0, u, h => by rw [Lib.nDigits_small (by simpa using h)]; omega
  | k + 1, u, h => by
    by_cases h1 : u < 10
    · rw [Lib.nDigits_small h1]; omega
    · rw [Lib.nDigits_big h1]
      have := nDigits_le k (u / 10) (by rw [Nat.pow_succ] at h; omega)
      omega
theorem DecR.len {M m : Nat} {l : List UInt8} (h : DecR M m l) (hM : M ≤ 9223372036854775808) : l.length ≤ 20 := by
  have h1 : (Lib.decDigits M).length ≤ 20 := by rw [Lib.decDigits_length]; exact nDigits_le 19 M (by omega)
  unfold DecR at h
  split at h
  · rw [h]; exact h1
  · rw [← h, List.length_append] at h1; omega
theorem itoa_neg {n : Int} (h : n < 0) : Lib.itoa n = 45 :: Lib.decDigits n.natAbs := by unfold Lib.itoa; rw [if_pos h]
theorem itoa_pos {n : Int} (h : ¬ n < 0) : Lib.itoa n = Lib.decDigits n.natAbs := by unfold Lib.itoa; rw [if_neg h]; congr 1; omega
theorem itoa_zero : Lib.itoa 0 = [48] := by simp [Lib.itoa, Lib.decDigits]
theorem itoa_len {n : Int} (h : I64 n) : (Lib.itoa n).length ≤ 21 := by
  unfold I64 at h
  have h1 : (Lib.decDigits n.natAbs).length ≤ 20 := by rw [Lib.decDigits_length]; exact nDigits_le 19 _ (by omega)
  by_cases h0 : n < 0
  · rw [itoa_neg h0, List.length_cons]; omega
  · rw [itoa_pos h0]; omega
theorem tm_neg {x : Int} (h : x ≤ 0) : x.tmod 10 = -((x.natAbs % 10 : Nat) : Int) := by
  obtain ⟨m, rfl⟩ : ∃ m : Nat, x = -(m : Int) := ⟨x.natAbs, by omega⟩
  rw [Int.neg_tmod, Int.natAbs_neg]; rfl
theorem td_neg {x : Int} (h : x ≤ 0) : x.tdiv 10 = -((x.natAbs / 10 : Nat) : Int) := by
  obtain ⟨m, rfl⟩ : ∃ m : Nat, x = -(m : Int) := ⟨x.natAbs, by omega⟩
  rw [Int.neg_tdiv, Int.natAbs_neg]; rfl
theorem tm_pos {x : Int} (h : 0 ≤ x) : x.tmod 10 = ((x.natAbs % 10 : Nat) : Int) := by
  obtain ⟨m, rfl⟩ : ∃ m : Nat, x = (m : Int) := ⟨x.natAbs, by omega⟩
  rfl
theorem td_pos {x : Int} (h : 0 ≤ x) : x.tdiv 10 = ((x.natAbs / 10 : Nat) : Int) := by
  obtain ⟨m, rfl⟩ : ∃ m : Nat, x = (m : Int) := ⟨x.natAbs, by omega⟩
  rfl
theorem str_ret {a b : List UInt8} (h : a = b) : Ending.returned (.string ⟨a.toArray⟩) = .returned (.string ⟨b.toArray⟩) := by rw [h]
/-- two strings of lists, one behind the other -/
theorem str_app (a b : List UInt8) : (⟨a.toArray⟩ : ByteArray) ++ ⟨b.toArray⟩ = ⟨(a ++ b).toArray⟩ := by
  apply ByteArray.ext
  simp [ByteArray.data_append]

/-- string(v), v a slice that reads as bytes -/
theorem run_string_row {P : Program} (w : World) (src dst e : TypeId) (hs : P.underlying src = some (.slice e)) (he : P.underlying e = some (.int .u8)) (hd : P.underlying dst = some .string)
    {A : Option Addr} {n c : Nat} {xs : List UInt8} (hr : Row encB 1 w A xs) (hn : xs.length = n) :
    (convert src dst (.slice A n c)).run P w = .ok (.string ⟨xs.toArray⟩) w := by
  rcases A with _ | a
  · have hx : xs = [] := by
      rcases xs with _ | ⟨x, xs⟩
      · rfl
      · obtain ⟨b, off, h, _⟩ := hr (by simp)
        cases h
    subst hx
    subst hn
    rw [run_convert_bytes_string w src dst e Option.none _ c hs he hd]
    simp [Conv.bytesToString, Sem.run_pure]
    rfl
  · subst hn
    refine run_convert_bytes_back w src dst e a c xs hs he hd (fun j hj => ?_)
    obtain ⟨b, off, ha, hc⟩ := hr (Nat.lt_of_le_of_lt (Nat.zero_le _) hj)
    cases ha
    have := hc j xs[j] (List.getElem?_eq_getElem hj) 0 _ rfl
    have ea : (⟨b, off, Option.none⟩ : Addr).add j = ⟨b, off + j, Option.none⟩ := by
      unfold Addr.add; split <;> simp_all
    rw [ea]
    simpa using this
theorem wpList_string_row {P : Program} {ops : Array Oper} {rest : List Oper} {o : Oper} {a : Act} {w : World} {Q : Exit → Act → World → Prop} (hgd : o.guard = none) (x : Operand) (src dst : TypeId)
    (ho : o.op = .convert src dst x) (e : TypeId) (hs : P.underlying src = some (.slice e)) (he : P.underlying e = some (.int .u8)) (hd : P.underlying dst = some .string)
    (A : Option Addr) (n c : Nat) (xs : List UInt8) (hx : a.eval x = .slice A n c) (hr : Row encB 1 w A xs) (hn : xs.length = n)
    (h : wpList P ops Q rest (a.put o.dst (.string ⟨xs.toArray⟩)) w) : wpList P ops Q (o :: rest) a w :=
  wpList_plain hgd fun _ hK => by
    unfold Oper.wp execOp
    simp only [ho, hx, Sem.run_bind, Sem.run_pure, run_string_row w src dst e hs he hd hr hn, Result.andThen_ok]
    exact hK _ _ h

end Go.Proofs.YtopaapgbenpbaaaDoor
