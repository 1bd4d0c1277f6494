/-
  Unhex of the program and of the reference. Conditions: none.
-/
import Derived.Test.YtmpcdkjncpkfaaaDoorHex
import Derived.Test.YtmpcdkjncpkfaaaDoorShelf
namespace Go.Proofs.YtmpcdkjncpkfaaaDoor
open Go.RowKit
set_option linter.unusedVariables false
set_option maxRecDepth 20000

def hvI (x : UInt8) : Int := if 48 ≤ x.toNat ∧ x.toNat ≤ 57 then (x.toNat : Int) - 48 else if 97 ≤ x.toNat ∧ x.toNat ≤ 102 then (x.toNat : Int) - 87 else -1
theorem hvI_cases (x : UInt8) : hvI x = -1 ∨ ∃ n : Nat, hvI x = n ∧ n < 16 := by
  unfold hvI
  split
  · exact .inr ⟨x.toNat - 48, by omega, by omega⟩
  · split
    · exact .inr ⟨x.toNat - 87, by omega, by omega⟩
    · exact .inl rfl
theorem indexByte_fin : ∀ n : Fin 256, Lib.indexByte figs.data.toList (UInt8.ofNat n.val) = hvI (UInt8.ofNat n.val) := by decide +kernel
theorem indexByte_figs (x : UInt8) : Lib.indexByte figs.data.toList x = hvI x := by
  have := indexByte_fin ⟨x.toNat, UInt8.toNat_lt x⟩
  simpa using this
def pairs (l : List UInt8) (m : Nat) : List UInt8 := (List.range m).map fun k => UInt8.ofNat (16 * (hvI (l.getD (2 * k) 0)).toNat + (hvI (l.getD (2 * k + 1) 0)).toNat)
theorem pairs_len (l : List UInt8) (m : Nat) : (pairs l m).length = m := by simp [pairs]
theorem pairs_succ {l acc : List UInt8} {m : Nat} {x y : UInt8} {a b : Nat} (h : pairs l m = acc) (hx : l[2 * m]? = some x) (hy : l[2 * m + 1]? = some y) (ha : hvI x = a) (hb : hvI y = b) : pairs l (m + 1) = acc ++ [UInt8.ofNat (16 * a + b)] := by
  unfold pairs at h ⊢
  rw [List.range_succ, List.map_append, h]
  simp [List.getD, hx, hy, ha, hb]
def AllHex (l : List UInt8) (j : Nat) : Prop := ∀ k, k < j → 0 ≤ hvI (l.getD k 0)
instance (l : List UInt8) (j : Nat) : Decidable (AllHex l j) := Nat.decidableBallLT j fun k _ => 0 ≤ hvI (l.getD k 0)
theorem AllHex.zero (l : List UInt8) : AllHex l 0 := fun k hk => absurd hk (by omega)
theorem AllHex.succ {l : List UInt8} {j n : Nat} {x : UInt8} (h : AllHex l j) (hx : l[j]? = some x) (hn : hvI x = n) : AllHex l (j + 1) := fun k hk => by
  by_cases e : k = j
  · subst e
    have : l.getD k 0 = x := by simp [List.getD, hx]
    rw [this, hn]
    omega
  · exact h k (by omega)
theorem AllHex.not {l : List UInt8} {j m : Nat} {x : UInt8} (hx : l[j]? = some x) (hn : hvI x = -1) (hj : j < m) : ¬ AllHex l m := fun h => by
  have h1 := h j hj
  have : l.getD j 0 = x := by simp [List.getD, hx]
  rw [this, hn] at h1
  omega
def unhexV (s : ByteArray) : Value :=
  if s.size % 2 = 1 ∨ 40000 < s.size then .tuple #[.string ⟨#[]⟩, .bool false]
  else if AllHex s.data.toList s.size then .tuple #[.string ⟨(pairs s.data.toList (s.size / 2)).toArray⟩, .bool true] else .tuple #[.string ⟨#[]⟩, .bool false]
theorem unhexV_form (s : ByteArray) : ∃ B z, unhexV s = .tuple #[.string B, .bool z] := by
  unfold unhexV
  split
  · exact ⟨_, _, rfl⟩
  · split
    · exact ⟨_, _, rfl⟩
    · exact ⟨_, _, rfl⟩
theorem byteNum {a b : Nat} (ha : a < 16) (hb : b < 16) : ((UInt8.ofNat (16 * a + b)).toNat : Int) = 16 * (a : Int) + b := by
  have h : (UInt8.ofNat (16 * a + b)).toNat = 16 * a + b := by simp; omega
  rw [h]; omega
theorem row_numB {a b : Nat} (ha : a < 16) (hb : b < 16) (w : World) (g : Nat) (E : TypeId) (hg : g = w.heap.size) : Row encB 1 (w.alloc (.cells #[.int .u8 (16 * (a : Int) + b)] E)) (some ⟨g, 0, Option.none⟩) [UInt8.ofNat (16 * a + b)] := by
  rw [← byteNum ha hb]
  exact row_oneB _ w g E hg
theorem tmod2 (j : Nat) : (j : Int).tmod 2 = ((j % 2 : Nat) : Int) := rfl
theorem c_ib (x : UInt8) (n : Int) (w : World) (h : hvI x = n) : Calls Tryd.prog 26 #[.string figs, .int .u8 (x.toNat : Int)] w fun e w' => e = .returned (.int .i64 n) ∧ w' = w := by
  have := Tryd.strings_IndexByte figs (x.toNat : Int) w
  rw [show ((x.toNat : Int).toNat.toUInt8) = x by simp, indexByte_figs, h] at this
  exact this
set_option maxHeartbeats 3200000 in
theorem c_iUnhex (s : ByteArray) (w : World) (hn2 : s.size ≤ 9223372036854775807) : Calls Tryd.prog 9 #[.string s] w (Gives (unhexV s) w) := by
  obtain ⟨i0, hi0, hz0, hs0, hb0⟩ := info_parts infoB
  have HI := Lib.hid hi0
  have HZ := Lib.hid hz0
  have HS := Lib.hid hs0
  have HB := Lib.hid hb0
  clear hi0 hz0 hs0 hb0
  obtain ⟨V, hV⟩ : ∃ V, unhexV s = V := ⟨_, rfl⟩
  rw [hV]
  have HV := Lib.hid hV
  clear hV
  have hm := tmod2 s.size
  have hc := @c_ib
  unfold figs at hc
  by_cases hodd : s.size % 2 = 1
  · rw [hodd] at hm
    go_enter Tryd.func9, Tryd.ntmps9
    go_wp2_with (first | ((with_reducible refine wp_region_later (by kernel_rfl) (by kernel_rfl) ?_); (repeat (first | go_big_quiet_skip | quiet_step ((fail)))); refine wpQuiet_nil ?_; rintro _ ⟨p, rfl⟩))
    all_goals
      go_ret2
      exact Gives.mk (by rw [← HV.out, unhexV, if_pos (.inl hodd)]; rfl) (by (repeat (first | with_reducible exact Below.refl _ _ | with_reducible assumption | with_reducible refine Below.drew ?_ | with_reducible refine below_drewN ?_ _ | with_reducible exact HQ.out | with_reducible exact HBW.out | with_reducible refine below_ext ?_ _ _ | with_reducible refine below_then_later ?_ (by first | with_reducible exact Nat.le_refl _ | with_reducible exact HBW.out.size | with_reducible exact HQ.out.size | omega | (simp; done) | (simp; omega) | (simp [later_size]; done) | (simp [later_size]; omega)) _ | with_reducible refine Below.setCell ?_ (by first | with_reducible exact Nat.le_refl _ | with_reducible exact HBW.out.size | with_reducible exact HQ.out.size | omega | (simp; done) | (simp; omega) | (simp [later_size]; done) | (simp [later_size]; omega)) _ | with_reducible refine Below.alloc ?_ (by first | with_reducible exact Nat.le_refl _ | with_reducible exact HBW.out.size | with_reducible exact HQ.out.size | omega | (simp; done) | (simp; omega) | (simp [later_size]; done) | (simp [later_size]; omega)) _)))
  rw [show s.size % 2 = 0 by omega] at hm
  by_cases hbig : 40000 < s.size
  · go_enter Tryd.func9, Tryd.ntmps9
    go_wp2_with (first | ((with_reducible refine wp_region_later (by kernel_rfl) (by kernel_rfl) ?_); (repeat (first | go_big_quiet_skip | quiet_step ((fail)))); refine wpQuiet_nil ?_; rintro _ ⟨p, rfl⟩))
    all_goals
      go_ret2
      exact Gives.mk (by rw [← HV.out, unhexV, if_pos (.inr hbig)]; rfl) (by (repeat (first | with_reducible exact Below.refl _ _ | with_reducible assumption | with_reducible refine Below.drew ?_ | with_reducible refine below_drewN ?_ _ | with_reducible exact HQ.out | with_reducible exact HBW.out | with_reducible refine below_ext ?_ _ _ | with_reducible refine below_then_later ?_ (by first | with_reducible exact Nat.le_refl _ | with_reducible exact HBW.out.size | with_reducible exact HQ.out.size | omega | (simp; done) | (simp; omega) | (simp [later_size]; done) | (simp [later_size]; omega)) _ | with_reducible refine Below.setCell ?_ (by first | with_reducible exact Nat.le_refl _ | with_reducible exact HBW.out.size | with_reducible exact HQ.out.size | omega | (simp; done) | (simp; omega) | (simp [later_size]; done) | (simp [later_size]; omega)) _ | with_reducible refine Below.alloc ?_ (by first | with_reducible exact Nat.le_refl _ | with_reducible exact HBW.out.size | with_reducible exact HQ.out.size | omega | (simp; done) | (simp; omega) | (simp [later_size]; done) | (simp [later_size]; omega)) _)))
  have hv2 : (if AllHex s.data.toList s.size then Value.tuple #[.string ⟨(pairs s.data.toList (s.size / 2)).toArray⟩, .bool true] else .tuple #[.string ⟨#[]⟩, .bool false]) = V := by
    have h1 : unhexV s = (if AllHex s.data.toList s.size then Value.tuple #[.string ⟨(pairs s.data.toList (s.size / 2)).toArray⟩, .bool true] else .tuple #[.string ⟨#[]⟩, .bool false]) := by
      unfold unhexV
      rw [if_neg (by omega)]
    rw [← h1]
    exact HV.out
  have HV2 := Lib.hid hv2
  clear hv2
  go_enter Tryd.func9, Tryd.ntmps9
  go_wp2_with fail
  go_loopw [4, 5, 6] (fun v hh ii wr => ∃ (j m : Nat) (acc : List UInt8) (half : Nat), ii = .int .i64 j ∧ hh = .int .i64 half ∧ half < 16 ∧ j ≤ s.size ∧ (j = 2 * m ∨ (j = 2 * m + 1 ∧ ∃ x, s.data.toList[2 * m]? = some x ∧ hvI x = half)) ∧ AllHex s.data.toList j ∧ pairs s.data.toList m = acc ∧ wr.ownsRow w.heap.size 5 1 v m (acc.flatMap encB) ∧ ∃ p : Later, wr = later w p) (fun _ _ ii _ => s.size - (intOf ii).toNat)
  case atStart => exact ⟨0, 0, [], 0, rfl, rfl, by omega, by omega, .inl rfl, AllHex.zero _, rfl, World.ownsRow_nil _ _ _ _, later_of_below (by (repeat (first | with_reducible exact Below.refl _ _ | with_reducible assumption | with_reducible refine Below.drew ?_ | with_reducible refine below_drewN ?_ _ | with_reducible exact HQ.out | with_reducible exact HBW.out | with_reducible refine below_ext ?_ _ _ | with_reducible refine below_then_later ?_ (by first | with_reducible exact Nat.le_refl _ | with_reducible exact HBW.out.size | with_reducible exact HQ.out.size | omega | (simp; done) | (simp; omega) | (simp [later_size]; done) | (simp [later_size]; omega)) _ | with_reducible refine Below.setCell ?_ (by first | with_reducible exact Nat.le_refl _ | with_reducible exact HBW.out.size | with_reducible exact HQ.out.size | omega | (simp; done) | (simp; omega) | (simp [later_size]; done) | (simp [later_size]; omega)) _ | with_reducible refine Below.alloc ?_ (by first | with_reducible exact Nat.le_refl _ | with_reducible exact HBW.out.size | with_reducible exact HQ.out.size | omega | (simp; done) | (simp; omega) | (simp [later_size]; done) | (simp [later_size]; omega)) _)))⟩
  case round =>
    obtain ⟨j, m, acc, half, rfl, rfl, hh, hj, hjm, hA, hF, hW, pw, rfl⟩ := hrel
    have HF := Lib.hid hF
    have HW := Lib.hid hW
    have HA := Lib.hid hA
    clear hF hW hA
    by_cases hlt : j < s.size
    · obtain ⟨x, hx⟩ : ∃ x, s.data.toList[j]? = some x := ⟨_, List.getElem?_eq_getElem (by rw [Array.length_toList]; exact hlt)⟩
      have HX := Lib.hid hx
      have hat := run_byte_at (P := Tryd.prog) 9 s j x Tryd.underlying9 hx
      clear hx
      rcases hvI_cases x with hn | ⟨n, hn, hn16⟩
      · have HN := Lib.hid hn
        clear hn
        go_wp2_with (first | (go_at_call 26; (refine (hc x _ _ HN.out).mono ?_); rintro _ _ ⟨rfl, rfl⟩) | ((with_reducible refine wp_region_later (by kernel_rfl) (by kernel_rfl) ?_); (repeat (first | go_big_quiet_skip | quiet_step ((fail)))); refine wpQuiet_nil ?_; rintro _ ⟨p, rfl⟩))
        all_goals
          go_ret2
          exact Gives.mk (by rw [← HV2.out, if_neg (AllHex.not HX.out HN.out hlt)]; rfl) (by (repeat (first | with_reducible exact Below.refl _ _ | with_reducible assumption | with_reducible refine Below.drew ?_ | with_reducible refine below_drewN ?_ _ | with_reducible exact HQ.out | with_reducible exact HBW.out | with_reducible refine below_ext ?_ _ _ | with_reducible refine below_then_later ?_ (by first | with_reducible exact Nat.le_refl _ | with_reducible exact HBW.out.size | with_reducible exact HQ.out.size | omega | (simp; done) | (simp; omega) | (simp [later_size]; done) | (simp [later_size]; omega)) _ | with_reducible refine Below.setCell ?_ (by first | with_reducible exact Nat.le_refl _ | with_reducible exact HBW.out.size | with_reducible exact HQ.out.size | omega | (simp; done) | (simp; omega) | (simp [later_size]; done) | (simp [later_size]; omega)) _ | with_reducible refine Below.alloc ?_ (by first | with_reducible exact Nat.le_refl _ | with_reducible exact HBW.out.size | with_reducible exact HQ.out.size | omega | (simp; done) | (simp; omega) | (simp [later_size]; done) | (simp [later_size]; omega)) _)))
      · have HN := Lib.hid hn
        clear hn
        rcases hjm with hjm | ⟨hjm, y, hy, hyv⟩
        · have hpar : (j : Int).tmod 2 = 0 := by rw [tmod2, show j % 2 = 0 by omega]; rfl
          have HJ := Lib.hid hjm
          clear hjm
          go_wp2_with (first | (go_at_call 26; (refine (hc x _ _ HN.out).mono ?_); rintro _ _ ⟨rfl, rfl⟩) | ((with_reducible refine wp_region_later (by kernel_rfl) (by kernel_rfl) ?_); (repeat (first | go_big_quiet_skip | quiet_step ((fail)))); refine wpQuiet_nil ?_; rintro _ ⟨p, rfl⟩))
          all_goals
            go_roundw
            case rel => exact ⟨j + 1, m, acc, n, by go_num, by go_num, hn16, by omega, .inr ⟨by rw [HJ.out], x, by rw [← HJ.out]; exact HX.out, HN.out⟩, HA.out.succ HX.out HN.out, HF.out, (by (repeat (first | with_reducible exact HW.out | with_reducible exact ownsRow_draw HW.out _ | with_reducible refine World.ownsRow.alloc ?_ _ | with_reducible refine World.ownsRow.drew ?_ | with_reducible refine ownsRow_later ?_ _)); done), later_of_below (by (repeat (first | with_reducible exact Below.refl _ _ | with_reducible assumption | with_reducible refine Below.drew ?_ | with_reducible refine below_drewN ?_ _ | with_reducible exact HQ.out | with_reducible exact HBW.out | with_reducible refine below_ext ?_ _ _ | with_reducible refine below_then_later ?_ (by first | with_reducible exact Nat.le_refl _ | with_reducible exact HBW.out.size | with_reducible exact HQ.out.size | omega | (simp; done) | (simp; omega) | (simp [later_size]; done) | (simp [later_size]; omega)) _ | with_reducible refine Below.setCell ?_ (by first | with_reducible exact Nat.le_refl _ | with_reducible exact HBW.out.size | with_reducible exact HQ.out.size | omega | (simp; done) | (simp; omega) | (simp [later_size]; done) | (simp [later_size]; omega)) _ | with_reducible refine Below.alloc ?_ (by first | with_reducible exact Nat.le_refl _ | with_reducible exact HBW.out.size | with_reducible exact HQ.out.size | omega | (simp; done) | (simp; omega) | (simp [later_size]; done) | (simp [later_size]; omega)) _)))⟩
            case measure => simp [intOf]; omega
        · have hpar : (j : Int).tmod 2 = 1 := by rw [tmod2, show j % 2 = 1 by omega]; rfl
          have HJ := Lib.hid hjm
          have HY := Lib.hid (And.intro hy hyv)
          have hml : m ≤ 40000 := by omega
          clear hjm hy hyv
          go_wp2_with (first | (at_builtin; refine wpList_append_row _ encB 1 lenB (by decide) oneB rfl (.tmp 32) (.tmp 38) 22 rfl w.heap.size 5 i0 _ 1 Tryd.underlying22 HI.out HZ.out HS.out HB.out rfl u4 m acc rfl (by (repeat (first | with_reducible exact HW.out | with_reducible exact ownsRow_draw HW.out _ | with_reducible refine World.ownsRow.alloc ?_ _ | with_reducible refine World.ownsRow.drew ?_ | with_reducible refine ownsRow_later ?_ _)); done) _ _ _ [UInt8.ofNat (16 * half + n)] rfl rfl (row_numB hh hn16 _ _ _ (by first | with_reducible rfl | (simp; done) | (simp; omega) | (simp [later_size]; done) | (simp [later_size]; omega))) (by unfold maxLen; omega) (by omega) (by first | with_reducible rfl | (simp; done) | (simp; omega) | (simp [later_size]; done) | (simp [later_size]; omega)) ?_; intro v1 w1 hown hg hbe; have HW1 := Lib.hid hown; have hG1 := hbe w.heap.size w (by (repeat (first | with_reducible exact Below.refl _ _ | with_reducible assumption | with_reducible refine Below.drew ?_ | with_reducible refine below_drewN ?_ _ | with_reducible exact HQ.out | with_reducible exact HBW.out | with_reducible refine below_ext ?_ _ _ | with_reducible refine below_then_later ?_ (by first | with_reducible exact Nat.le_refl _ | with_reducible exact HBW.out.size | with_reducible exact HQ.out.size | omega | (simp; done) | (simp; omega) | (simp [later_size]; done) | (simp [later_size]; omega)) _ | with_reducible refine Below.setCell ?_ (by first | with_reducible exact Nat.le_refl _ | with_reducible exact HBW.out.size | with_reducible exact HQ.out.size | omega | (simp; done) | (simp; omega) | (simp [later_size]; done) | (simp [later_size]; omega)) _ | with_reducible refine Below.alloc ?_ (by first | with_reducible exact Nat.le_refl _ | with_reducible exact HBW.out.size | with_reducible exact HQ.out.size | omega | (simp; done) | (simp; omega) | (simp [later_size]; done) | (simp [later_size]; omega)) _))) (by first | with_reducible rfl | (simp; done) | (simp; omega) | (simp [later_size]; done) | (simp [later_size]; omega)) (Nat.le_refl _); clear hown hbe) | (go_at_call 26; (refine (hc x _ _ HN.out).mono ?_); rintro _ _ ⟨rfl, rfl⟩) | ((with_reducible refine wp_region_later (by kernel_rfl) (by kernel_rfl) ?_); (repeat (first | go_big_quiet_skip | quiet_step ((fail)))); refine wpQuiet_nil ?_; rintro _ ⟨p, rfl⟩))
          all_goals
            go_roundw
            case rel => exact ⟨j + 1, m + 1, acc ++ [UInt8.ofNat (16 * half + n)], n, by go_num, by go_num, hn16, by omega, .inl (by rw [HJ.out]; omega), HA.out.succ HX.out HN.out, pairs_succ HF.out HY.out.1 (by rw [← HJ.out]; exact HX.out) HY.out.2 HN.out, HW1.out, later_of_below hG1⟩
            case measure => simp [intOf]; omega
    · have hm2 : m = s.size / 2 := by
        rcases hjm with hjm | ⟨hjm, _⟩
        · omega
        · omega
      have HJ := Lib.hid (show AllHex s.data.toList s.size by have := HA.out; rwa [show j = s.size by omega] at this)
      have HM := Lib.hid hm2
      clear hm2 hjm
      go_wp2_with (first | (refine wpList_string_own rfl (.tmp 41) 22 9 rfl 5 Tryd.underlying22 Tryd.underlying5 Tryd.underlying9 w.heap.size 5 u4 m acc rfl (by first | exact HW.out | exact ownsRow_later HW.out _) (by rw [← HF.out]; exact pairs_len _ _) ?_) | ((with_reducible refine wp_region_later (by kernel_rfl) (by kernel_rfl) ?_); (repeat (first | go_big_quiet_skip | quiet_step ((fail)))); refine wpQuiet_nil ?_; rintro _ ⟨p, rfl⟩))
      go_ret2
      exact Gives.mk (by rw [← HV2.out, if_pos HJ.out, ← HM.out, HF.out]; rfl) (by (repeat (first | with_reducible exact Below.refl _ _ | with_reducible assumption | with_reducible refine Below.drew ?_ | with_reducible refine below_drewN ?_ _ | with_reducible exact HQ.out | with_reducible exact HBW.out | with_reducible refine below_ext ?_ _ _ | with_reducible refine below_then_later ?_ (by first | with_reducible exact Nat.le_refl _ | with_reducible exact HBW.out.size | with_reducible exact HQ.out.size | omega | (simp; done) | (simp; omega) | (simp [later_size]; done) | (simp [later_size]; omega)) _ | with_reducible refine Below.setCell ?_ (by first | with_reducible exact Nat.le_refl _ | with_reducible exact HBW.out.size | with_reducible exact HQ.out.size | omega | (simp; done) | (simp; omega) | (simp [later_size]; done) | (simp [later_size]; omega)) _ | with_reducible refine Below.alloc ?_ (by first | with_reducible exact Nat.le_refl _ | with_reducible exact HBW.out.size | with_reducible exact HQ.out.size | omega | (simp; done) | (simp; omega) | (simp [later_size]; done) | (simp [later_size]; omega)) _)))
theorem m_iUnhex (s B : ByteArray) (z : Bool) (w : World) (hn2 : s.size ≤ 9223372036854775807) (h : unhexV s = .tuple #[.string B, .bool z]) : Calls Tryd.prog 9 #[.string s] w (Gives (.tuple #[.string B, .bool z]) w) := h ▸ c_iUnhex s w hn2
end Go.Proofs.YtmpcdkjncpkfaaaDoor
