/-
  Figures: Unhex behind Hex, ReadDecimal behind Decimal, as plain functions. Conditions: as each says.
-/
import Derived.Test.YtmpcdkjncpkfaaaDoorUnhex
import Derived.Test.YtmpcdkjncpkfaaaDoorHex
import Derived.Test.YtmpcdkjncpkfaaaDoorRd
namespace Go.Proofs.YtmpcdkjncpkfaaaDoor
open Go.RowKit
set_option linter.unusedVariables false
theorem hv_fig : ∀ k : Fin 16, hvI (fig k.val) = (k.val : Int) := by decide +kernel
theorem hv_fig' {k : Nat} (h : k < 16) : hvI (fig k) = (k : Int) := hv_fig ⟨k, h⟩
theorem hexL_cons (x : UInt8) (l : List UInt8) : hexL (x :: l) = fig (x.toNat / 16) :: fig (x.toNat % 16) :: hexL l := rfl
theorem hexL_get : ∀ (l : List UInt8) (i : Nat) (x : UInt8), l[i]? = some x → (hexL l)[2 * i]? = some (fig (x.toNat / 16)) ∧ (hexL l)[2 * i + 1]? = some (fig (x.toNat % 16))
  | [], _, _, h => by simp at h
  | y :: l, 0, x, h => by
    simp at h
    subst h
    rw [hexL_cons]
    exact ⟨rfl, rfl⟩
  | y :: l, i + 1, x, h => by
    simp at h
    obtain ⟨h1, h2⟩ := hexL_get l i x h
    rw [hexL_cons, show 2 * (i + 1) = 2 * i + 1 + 1 by omega]
    rw [List.getElem?_cons_succ, List.getElem?_cons_succ, List.getElem?_cons_succ]
    exact ⟨h1, h2⟩
theorem allHex_hexL (l : List UInt8) : AllHex (hexL l) (2 * l.length) := fun k hk => by
  obtain ⟨x, hx⟩ : ∃ x, l[k / 2]? = some x := ⟨_, List.getElem?_eq_getElem (by omega)⟩
  obtain ⟨h1, h2⟩ := hexL_get l (k / 2) x hx
  have hx2 := UInt8.toNat_lt x
  by_cases e : k % 2 = 0
  · rw [List.getD_eq_getElem?_getD, show k = 2 * (k / 2) by omega, h1]
    simp only [Option.getD_some]
    rw [hv_fig' (by omega)]
    omega
  · rw [List.getD_eq_getElem?_getD, show k = 2 * (k / 2) + 1 by omega, h2]
    simp only [Option.getD_some]
    rw [hv_fig' (by omega)]
    omega
theorem pairs_hexL (l : List UInt8) : pairs (hexL l) l.length = l := by
  apply List.ext_getElem?
  intro i
  unfold pairs
  rw [List.getElem?_map]
  by_cases hi : i < l.length
  · rw [List.getElem?_range hi]
    obtain ⟨x, hx⟩ : ∃ x, l[i]? = some x := ⟨_, List.getElem?_eq_getElem hi⟩
    obtain ⟨h1, h2⟩ := hexL_get l i x hx
    have hx2 := UInt8.toNat_lt x
    rw [hx]
    simp only [Option.map_some, List.getD_eq_getElem?_getD, h1, h2, Option.getD_some]
    rw [hv_fig' (by omega), hv_fig' (by omega)]
    simp only [Int.toNat_natCast, Option.some.injEq]
    rw [show 16 * (x.toNat / 16) + x.toNat % 16 = x.toNat by omega]
    simp
  · rw [List.getElem?_eq_none (by simp; omega), List.getElem?_eq_none (by omega)]
    rfl
/-- what Hex makes of a text comes back from Unhex -/
theorem unhex_hex {s : ByteArray} (h : s.size ≤ 20000) : unhexV ⟨(hexL s.data.toList).toArray⟩ = .tuple #[.string s, .bool true] := by
  have hl : s.data.toList.length = s.size := rfl
  have hs : (⟨(hexL s.data.toList).toArray⟩ : ByteArray).size = 2 * s.size := by
    show (hexL s.data.toList).length = _
    rw [hexL_len, hl]
  unfold unhexV
  rw [hs, if_neg (by omega)]
  have ha : AllHex (hexL s.data.toList) (2 * s.size) := allHex_hexL s.data.toList
  rw [if_pos ha, show 2 * s.size / 2 = s.data.toList.length by rw [hl]; omega]
  rw [show (⟨(hexL s.data.toList).toArray⟩ : ByteArray).data.toList = hexL s.data.toList from rfl, pairs_hexL]
/-- what Decimal makes of a number comes back from ReadDecimal -/
theorem rd_itoa {n : Int} (h0 : 0 ≤ n) (h1 : n ≤ 1000000000) : rdV (Lib.itoa n) = .tuple #[.int .i64 n, .bool true] := by
  have h := rd_yes (l := Lib.itoa n) (n := n.natAbs) (by omega) (itoa_pos (by omega))
  rw [h, show ((n.natAbs : Nat) : Int) = n by omega]
theorem wrap_u8 (q : Int) : ∃ x : UInt8, IntKind.u8.wrap q = (x.toNat : Int) := by
  refine ⟨UInt8.ofNat (q % 256).toNat, ?_⟩
  have h1 : IntKind.u8.wrap q = q % 256 := by
    unfold IntKind.wrap
    simp [IntKind.signed, IntKind.bits]
  rw [h1]
  have h2 : (q % 256).toNat < 256 := by omega
  simp
  omega
theorem pcell {W : World} {b off k : Nat} {q : Int} {ps : List Int} (h : Row encI 1 W (some ⟨b, off, Option.none⟩) ps) (hq : ps[k]? = some q) : W.cell? ⟨b, off + k, Option.none⟩ = some (.int .i64 q) := by
  obtain ⟨b', off', e, hc⟩ := h.at_ hq
  cases e
  have := hc 0 _ rfl
  simpa using this
end Go.Proofs.YtmpcdkjncpkfaaaDoor
