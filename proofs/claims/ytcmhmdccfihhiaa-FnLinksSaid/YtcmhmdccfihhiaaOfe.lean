/-
  OfEpoch and InFlight of the program and of the reference. Conditions: the length is at most 2^40.
-/
import Derived.Test.YtcmhmdccfihhiaaApp
import Derived.Test.YtcmhmdccfihhiaaPick
import Derived.Test.YtcmhmdccfihhiaaRead
namespace Go.Proofs.Ytcmhmdccfihhiaa
open Go.RowKit
set_option linter.unusedVariables false

def ofEp (xs : List (Int × (Int × Int) × Int × Int)) (e : Int) : List (Int × (Int × Int) × Int × Int) := xs.filter fun x => decide (x.2.1.1 = e)
theorem ofEp_len (xs : List (Int × (Int × Int) × Int × Int)) (e : Int) : (ofEp xs e).length ≤ xs.length := List.length_filter_le _ _
theorem ofEp_yes {xs acc : List (Int × (Int × Int) × Int × Int)} {e : Int} {k : Nat} {x : Int × (Int × Int) × Int × Int} (h : ofEp (xs.take k) e = acc) (hx : xs[k]? = some x) (he : x.2.1.1 = e) : ofEp (xs.take (k + 1)) e = acc ++ [x] := by
  unfold ofEp at h ⊢
  rw [List.take_add_one, hx, List.filter_append, h]
  simp [he]
theorem ofEp_no {xs acc : List (Int × (Int × Int) × Int × Int)} {e : Int} {k : Nat} {x : Int × (Int × Int) × Int × Int} (h : ofEp (xs.take k) e = acc) (hx : xs[k]? = some x) (he : ¬ x.2.1.1 = e) : ofEp (xs.take (k + 1)) e = acc := by
  unfold ofEp at h ⊢
  rw [List.take_add_one, hx, List.filter_append, h]
  simp [he]
theorem infoRec : (Try.prog.info? 33).map (fun i => (i.zero, i.size, i.bytes)) = some (some (.agg #[.int .i64 0, .int .i64 0, .int .i64 0, .int .i64 0, .int .i64 0]), 5, 40) := by kernel_rfl
set_option maxHeartbeats 3200000 in
theorem c_iOfEpoch (A : Option Addr) (n c : Nat) (xs : List (Int × (Int × Int) × Int × Int)) (ep : Int) (w : World) (hn : xs.length = n) (hn2 : n ≤ 4294967296)
    (ha : Row encR 5 w A xs) : Calls Try.prog 39 #[.slice A n c, .int .i64 ep] w (MadeOwn encR 5 id (ofEp xs ep) w) := by
  obtain ⟨i0, hi0, hz0, hs0, hb0⟩ := info_parts infoRec
  have HI := Lib.hid hi0
  have HZ := Lib.hid hz0
  have HS := Lib.hid hs0
  have HB := Lib.hid hb0
  have HA := Lib.hid ha
  have HN := Lib.hid hn
  clear ha hn hi0 hz0 hs0 hb0
  go_enter Try.func39, Try.ntmps39
  go_wp2_with fail
  go_loopw [5, 10] (fun v ii wr => ∃ (j : Nat) (acc : List (Int × (Int × Int) × Int × Int)) (L : Nat), ii = .int .i64 j ∧ j ≤ n ∧ acc.length = L ∧ ofEp (xs.take j) ep = acc ∧ wr.ownsRow w.heap.size 33 5 v L (acc.flatMap encR) ∧ ∃ p : Later, wr = later w p) (fun _ ii _ => n - (intOf ii).toNat)
  case atStart => exact ⟨0, [], 0, rfl, by omega, rfl, rfl, World.ownsRow_nil _ _ _ _, later_of_below (by (repeat (first | with_reducible exact Below.refl _ _ | with_reducible assumption | with_reducible refine Below.drew ?_ | with_reducible refine below_drewN ?_ _ | with_reducible exact HQ.out | with_reducible exact HBW.out | with_reducible refine below_ext ?_ _ _ | with_reducible refine below_then_later ?_ (by first | with_reducible exact Nat.le_refl _ | with_reducible exact HBW.out.size | with_reducible exact HQ.out.size | omega | (simp; done) | (simp; omega) | (simp [later_size]; done) | (simp [later_size]; omega)) _ | with_reducible refine Below.setCell ?_ (by first | with_reducible exact Nat.le_refl _ | with_reducible exact HBW.out.size | with_reducible exact HQ.out.size | omega | (simp; done) | (simp; omega) | (simp [later_size]; done) | (simp [later_size]; omega)) _ | with_reducible refine Below.alloc ?_ (by first | with_reducible exact Nat.le_refl _ | with_reducible exact HBW.out.size | with_reducible exact HQ.out.size | omega | (simp; done) | (simp; omega) | (simp [later_size]; done) | (simp [later_size]; omega)) _)))⟩
  case round =>
    obtain ⟨j, acc, L, rfl, hj, hL, hF, hW, pw, rfl⟩ := hrel
    have hlen : L ≤ j := by
      rw [← hL, ← hF]
      exact Nat.le_trans (ofEp_len _ _) (List.length_take_le _ _)
    have HF := Lib.hid hF
    have HW := Lib.hid hW
    have HL := Lib.hid hL
    clear hF hW hL
    by_cases hlt : j < n
    · obtain ⟨x, hx⟩ : ∃ x, xs[j]? = some x := ⟨_, List.getElem?_eq_getElem (by rw [HN.out]; exact hlt)⟩
      obtain ⟨bk, off, rfl, hcx⟩ := HA.out.at_ hx
      have HX := Lib.hid hx
      have hbl := World.block_lt_of_cell? _ _ (hcx 0 _ rfl)
      simp only at hbl
      have hble := Nat.le_of_lt hbl
      obtain ⟨x1, ⟨x2, x3⟩, x4, x5⟩ := x
      have hx0 := hcx 0 _ rfl
      have hx1 := hcx 1 _ rfl
      have hx2 := hcx 2 _ rfl
      have hx3 := hcx 3 _ rfl
      have hx4 := hcx 4 _ rfl
      clear hcx hx
      simp only [Nat.add_zero] at *
      by_cases he : x2 = ep
      · subst he
        go_wp2_with (first | (at_builtin; refine wpList_append_row _ encR 5 lenR (by decide) oneR rfl (.tmp 19) (.tmp 21) 26 rfl w.heap.size 33 i0 _ 40 Try.underlying26 HI.out HZ.out HS.out HB.out rfl u5 L acc rfl (by (repeat (first | with_reducible exact HW.out | with_reducible refine World.ownsRow.alloc ?_ _ | with_reducible refine ownsRow_later ?_ _ | with_reducible refine World.ownsRow.drew ?_)); done) _ _ _ [(x1, (x2, x3), x4, x5)] rfl rfl (row_oneR (x1, (x2, x3), x4, x5) _ _ _ (by first | with_reducible rfl | (simp; done) | (simp [later_size]; done) | (simp [later_size]; omega))) (by unfold maxLen; omega) (by omega) (by first | (simp; done) | (simp; omega) | (simp [later_size]; done) | (simp [later_size]; omega)) ?_; intro v1 w1 hown hg hbe; have HW1 := Lib.hid hown; have hG1 := hbe w.heap.size w (by (repeat (first | with_reducible exact Below.refl _ _ | with_reducible assumption | with_reducible refine Below.drew ?_ | with_reducible refine below_drewN ?_ _ | with_reducible exact HQ.out | with_reducible exact HBW.out | with_reducible refine below_ext ?_ _ _ | with_reducible refine below_then_later ?_ (by first | with_reducible exact Nat.le_refl _ | with_reducible exact HBW.out.size | with_reducible exact HQ.out.size | omega | (simp; done) | (simp; omega) | (simp [later_size]; done) | (simp [later_size]; omega)) _ | with_reducible refine Below.setCell ?_ (by first | with_reducible exact Nat.le_refl _ | with_reducible exact HBW.out.size | with_reducible exact HQ.out.size | omega | (simp; done) | (simp; omega) | (simp [later_size]; done) | (simp [later_size]; omega)) _ | with_reducible refine Below.alloc ?_ (by first | with_reducible exact Nat.le_refl _ | with_reducible exact HBW.out.size | with_reducible exact HQ.out.size | omega | (simp; done) | (simp; omega) | (simp [later_size]; done) | (simp [later_size]; omega)) _))) (by first | (simp; done) | (simp; omega) | (simp [later_size]; done) | (simp [later_size]; omega)) (Nat.le_refl _); clear hown hbe hg) | ((with_reducible refine wp_region_later (by kernel_rfl) (by kernel_rfl) ?_); (repeat (first | go_big_quiet_skip | quiet_step ((fail)))); refine wpQuiet_nil ?_; rintro _ ⟨p, rfl⟩))
        all_goals
          go_roundw
          case rel => exact ⟨j + 1, acc ++ [(x1, (x2, x3), x4, x5)], L + 1, by go_num, by omega, by simp [HL.out], ofEp_yes HF.out HX.out rfl, HW1.out, later_of_below hG1⟩
          case measure => simp [intOf]; omega
      · have ee : (x2 == ep) = false := by simpa using he
        go_wp2_with (first | ((with_reducible refine wp_region_later (by kernel_rfl) (by kernel_rfl) ?_); (repeat (first | go_big_quiet_skip | quiet_step ((fail)))); refine wpQuiet_nil ?_; rintro _ ⟨p, rfl⟩))
        all_goals
          go_roundw
          case rel => exact ⟨j + 1, acc, L, by go_num, by omega, HL.out, ofEp_no HF.out HX.out he, (by (repeat (first | with_reducible exact HW.out | with_reducible refine World.ownsRow.alloc ?_ _ | with_reducible refine ownsRow_later ?_ _ | with_reducible refine World.ownsRow.drew ?_)); done), later_of_below (by (repeat (first | with_reducible exact Below.refl _ _ | with_reducible assumption | with_reducible refine Below.drew ?_ | with_reducible refine below_drewN ?_ _ | with_reducible exact HQ.out | with_reducible exact HBW.out | with_reducible refine below_ext ?_ _ _ | with_reducible refine below_then_later ?_ (by first | with_reducible exact Nat.le_refl _ | with_reducible exact HBW.out.size | with_reducible exact HQ.out.size | omega | (simp; done) | (simp; omega) | (simp [later_size]; done) | (simp [later_size]; omega)) _ | with_reducible refine Below.setCell ?_ (by first | with_reducible exact Nat.le_refl _ | with_reducible exact HBW.out.size | with_reducible exact HQ.out.size | omega | (simp; done) | (simp; omega) | (simp [later_size]; done) | (simp [later_size]; omega)) _ | with_reducible refine Below.alloc ?_ (by first | with_reducible exact Nat.le_refl _ | with_reducible exact HBW.out.size | with_reducible exact HQ.out.size | omega | (simp; done) | (simp; omega) | (simp [later_size]; done) | (simp [later_size]; omega)) _)))⟩
          case measure => simp [intOf]; omega
    · have HJ := Lib.hid (show ofEp xs ep = acc by have := HF.out; rwa [List.take_of_length_le (by rw [HN.out]; omega)] at this)
      clear HF
      go_wp2_with (first | ((with_reducible refine wp_region_later (by kernel_rfl) (by kernel_rfl) ?_); (repeat (first | go_big_quiet_skip | quiet_step ((fail)))); refine wpQuiet_nil ?_; rintro _ ⟨p, rfl⟩))
      go_ret
      exact MadeOwn.of_row' (mk := id) (base := w.heap.size) (E := 33) rfl lenR (xs := ofEp xs ep) (by rw [HJ.out]; first | exact HW.out | exact ownsRow_later HW.out _) (by rw [HJ.out]; exact HL.out) (Nat.le_refl _) (by (repeat (first | with_reducible exact Below.refl _ _ | with_reducible assumption | with_reducible refine Below.drew ?_ | with_reducible refine below_drewN ?_ _ | with_reducible exact HQ.out | with_reducible exact HBW.out | with_reducible refine below_ext ?_ _ _ | with_reducible refine below_then_later ?_ (by first | with_reducible exact Nat.le_refl _ | with_reducible exact HBW.out.size | with_reducible exact HQ.out.size | omega | (simp; done) | (simp; omega) | (simp [later_size]; done) | (simp [later_size]; omega)) _ | with_reducible refine Below.setCell ?_ (by first | with_reducible exact Nat.le_refl _ | with_reducible exact HBW.out.size | with_reducible exact HQ.out.size | omega | (simp; done) | (simp; omega) | (simp [later_size]; done) | (simp [later_size]; omega)) _ | with_reducible refine Below.alloc ?_ (by first | with_reducible exact Nat.le_refl _ | with_reducible exact HBW.out.size | with_reducible exact HQ.out.size | omega | (simp; done) | (simp; omega) | (simp [later_size]; done) | (simp [later_size]; omega)) _)))
set_option maxHeartbeats 800000 in
theorem c_iInFlight (cap cr bk st gt : Int) (A : Option Addr) (n c : Nat) (xs : List (Int × (Int × Int) × Int × Int)) (ep : Int) (w : World) (z : Int) (hn : xs.length = n) (hn2 : n ≤ 4294967296)
    (ha : Row encR 5 w A xs) (hz : ((ofEp xs ep).length : Int) = z) : Calls Try.prog 22 #[.agg #[.int .i64 cap, .slice A n c, .int .i64 cr, .int .i64 bk, .int .i64 st, .int .i64 gt], .int .i64 ep] w (Gives (.int .i64 z) w) := by
  have HA := Lib.hid ha
  have HN := Lib.hid hn
  have HZ := Lib.hid hz
  clear ha hn hz
  go_enter Try.func22, Try.ntmps22
  go_wp2_with (first | (go_at_call 39; (with_reducible refine (c_iOfEpoch _ _ _ xs ep _ HN.out hn2 (HA.out.alloc _)).mono ?_); rintro _ w2 ⟨A2, n2, c2, rfl, hl, hc2, hm2, hO, p2, rfl⟩; have HL2 := Lib.hid hl; clear hl hO) | ((with_reducible refine wp_region_later (by kernel_rfl) (by kernel_rfl) ?_); (repeat (first | go_big_quiet_skip | quiet_step ((fail)))); refine wpQuiet_nil ?_; rintro _ ⟨p, rfl⟩))
  go_ret
  exact Gives.mk (by rw [← HZ.out, HL2.out]; rfl) (by (repeat (first | with_reducible exact Below.refl _ _ | with_reducible assumption | with_reducible refine Below.drew ?_ | with_reducible refine below_drewN ?_ _ | with_reducible exact HQ.out | with_reducible exact HBW.out | with_reducible refine below_ext ?_ _ _ | with_reducible refine below_then_later ?_ (by first | with_reducible exact Nat.le_refl _ | with_reducible exact HBW.out.size | with_reducible exact HQ.out.size | omega | (simp; done) | (simp; omega) | (simp [later_size]; done) | (simp [later_size]; omega)) _ | with_reducible refine Below.setCell ?_ (by first | with_reducible exact Nat.le_refl _ | with_reducible exact HBW.out.size | with_reducible exact HQ.out.size | omega | (simp; done) | (simp; omega) | (simp [later_size]; done) | (simp [later_size]; omega)) _ | with_reducible refine Below.alloc ?_ (by first | with_reducible exact Nat.le_refl _ | with_reducible exact HBW.out.size | with_reducible exact HQ.out.size | omega | (simp; done) | (simp; omega) | (simp [later_size]; done) | (simp [later_size]; omega)) _)))
set_option maxHeartbeats 3200000 in
theorem c_sOfEpoch (A : Option Addr) (n c : Nat) (xs : List (Int × (Int × Int) × Int × Int)) (ep : Int) (w : World) (hn : xs.length = n) (hn2 : n ≤ 4294967296)
    (ha : Row encR 5 w A xs) : Calls Try.prog 40 #[.slice A n c, .int .i64 ep] w (MadeOwn encR 5 id (ofEp xs ep) w) := by
  obtain ⟨i0, hi0, hz0, hs0, hb0⟩ := info_parts infoRec
  have HI := Lib.hid hi0
  have HZ := Lib.hid hz0
  have HS := Lib.hid hs0
  have HB := Lib.hid hb0
  have HA := Lib.hid ha
  have HN := Lib.hid hn
  clear ha hn hi0 hz0 hs0 hb0
  go_enter Try.func40, Try.ntmps40
  go_wp2_with fail
  go_loopw [5, 6] (fun v ii wr => ∃ (j : Nat) (acc : List (Int × (Int × Int) × Int × Int)) (L : Nat), ii = .int .i64 j ∧ j ≤ n ∧ acc.length = L ∧ ofEp (xs.take j) ep = acc ∧ wr.ownsRow w.heap.size 33 5 v L (acc.flatMap encR) ∧ ∃ p : Later, wr = later w p) (fun _ ii _ => n - (intOf ii).toNat)
  case atStart => exact ⟨0, [], 0, rfl, by omega, rfl, rfl, own_empty _ _ _ _ _ (by first | rfl | (simp; done) | (simp [later_size]; done)) (by simp), later_of_below (by (repeat (first | with_reducible exact Below.refl _ _ | with_reducible assumption | with_reducible refine Below.drew ?_ | with_reducible refine below_drewN ?_ _ | with_reducible exact HQ.out | with_reducible exact HBW.out | with_reducible refine below_ext ?_ _ _ | with_reducible refine below_then_later ?_ (by first | with_reducible exact Nat.le_refl _ | with_reducible exact HBW.out.size | with_reducible exact HQ.out.size | omega | (simp; done) | (simp; omega) | (simp [later_size]; done) | (simp [later_size]; omega)) _ | with_reducible refine Below.setCell ?_ (by first | with_reducible exact Nat.le_refl _ | with_reducible exact HBW.out.size | with_reducible exact HQ.out.size | omega | (simp; done) | (simp; omega) | (simp [later_size]; done) | (simp [later_size]; omega)) _ | with_reducible refine Below.alloc ?_ (by first | with_reducible exact Nat.le_refl _ | with_reducible exact HBW.out.size | with_reducible exact HQ.out.size | omega | (simp; done) | (simp; omega) | (simp [later_size]; done) | (simp [later_size]; omega)) _)))⟩
  case round =>
    obtain ⟨j, acc, L, rfl, hj, hL, hF, hW, pw, rfl⟩ := hrel
    have hlen : L ≤ j := by
      rw [← hL, ← hF]
      exact Nat.le_trans (ofEp_len _ _) (List.length_take_le _ _)
    have HF := Lib.hid hF
    have HW := Lib.hid hW
    have HL := Lib.hid hL
    clear hF hW hL
    by_cases hlt : j < n
    · obtain ⟨x, hx⟩ : ∃ x, xs[j]? = some x := ⟨_, List.getElem?_eq_getElem (by rw [HN.out]; exact hlt)⟩
      obtain ⟨bk, off, rfl, hcx⟩ := HA.out.at_ hx
      have HX := Lib.hid hx
      have hbl := World.block_lt_of_cell? _ _ (hcx 0 _ rfl)
      simp only at hbl
      have hble := Nat.le_of_lt hbl
      obtain ⟨x1, ⟨x2, x3⟩, x4, x5⟩ := x
      have hx0 := hcx 0 _ rfl
      have hx1 := hcx 1 _ rfl
      have hx2 := hcx 2 _ rfl
      have hx3 := hcx 3 _ rfl
      have hx4 := hcx 4 _ rfl
      clear hcx hx
      simp only [Nat.add_zero] at *
      by_cases he : x2 = ep
      · subst he
        go_wp2_with (first | (at_builtin; refine wpList_append_row _ encR 5 lenR (by decide) oneR rfl (.tmp 22) (.tmp 27) 26 rfl w.heap.size 33 i0 _ 40 Try.underlying26 HI.out HZ.out HS.out HB.out rfl u5 L acc rfl (by (repeat (first | with_reducible exact HW.out | with_reducible refine World.ownsRow.alloc ?_ _ | with_reducible refine ownsRow_later ?_ _ | with_reducible refine World.ownsRow.drew ?_)); done) _ _ _ [(x1, (x2, x3), x4, x5)] rfl rfl (row_oneR (x1, (x2, x3), x4, x5) _ _ _ (by first | with_reducible rfl | (simp; done) | (simp [later_size]; done) | (simp [later_size]; omega))) (by unfold maxLen; omega) (by omega) (by first | (simp; done) | (simp; omega) | (simp [later_size]; done) | (simp [later_size]; omega)) ?_; intro v1 w1 hown hg hbe; have HW1 := Lib.hid hown; have hG1 := hbe w.heap.size w (by (repeat (first | with_reducible exact Below.refl _ _ | with_reducible assumption | with_reducible refine Below.drew ?_ | with_reducible refine below_drewN ?_ _ | with_reducible exact HQ.out | with_reducible exact HBW.out | with_reducible refine below_ext ?_ _ _ | with_reducible refine below_then_later ?_ (by first | with_reducible exact Nat.le_refl _ | with_reducible exact HBW.out.size | with_reducible exact HQ.out.size | omega | (simp; done) | (simp; omega) | (simp [later_size]; done) | (simp [later_size]; omega)) _ | with_reducible refine Below.setCell ?_ (by first | with_reducible exact Nat.le_refl _ | with_reducible exact HBW.out.size | with_reducible exact HQ.out.size | omega | (simp; done) | (simp; omega) | (simp [later_size]; done) | (simp [later_size]; omega)) _ | with_reducible refine Below.alloc ?_ (by first | with_reducible exact Nat.le_refl _ | with_reducible exact HBW.out.size | with_reducible exact HQ.out.size | omega | (simp; done) | (simp; omega) | (simp [later_size]; done) | (simp [later_size]; omega)) _))) (by first | (simp; done) | (simp; omega) | (simp [later_size]; done) | (simp [later_size]; omega)) (Nat.le_refl _); clear hown hbe hg) | ((with_reducible refine wp_region_later (by kernel_rfl) (by kernel_rfl) ?_); (repeat (first | go_big_quiet_skip | quiet_step ((fail)))); refine wpQuiet_nil ?_; rintro _ ⟨p, rfl⟩))
        all_goals
          go_roundw
          case rel => exact ⟨j + 1, acc ++ [(x1, (x2, x3), x4, x5)], L + 1, by go_num, by omega, by simp [HL.out], ofEp_yes HF.out HX.out rfl, HW1.out, later_of_below hG1⟩
          case measure => simp [intOf]; omega
      · have ee : (x2 == ep) = false := by simpa using he
        go_wp2_with (first | ((with_reducible refine wp_region_later (by kernel_rfl) (by kernel_rfl) ?_); (repeat (first | go_big_quiet_skip | quiet_step ((fail)))); refine wpQuiet_nil ?_; rintro _ ⟨p, rfl⟩))
        all_goals
          go_roundw
          case rel => exact ⟨j + 1, acc, L, by go_num, by omega, HL.out, ofEp_no HF.out HX.out he, (by (repeat (first | with_reducible exact HW.out | with_reducible refine World.ownsRow.alloc ?_ _ | with_reducible refine ownsRow_later ?_ _ | with_reducible refine World.ownsRow.drew ?_)); done), later_of_below (by (repeat (first | with_reducible exact Below.refl _ _ | with_reducible assumption | with_reducible refine Below.drew ?_ | with_reducible refine below_drewN ?_ _ | with_reducible exact HQ.out | with_reducible exact HBW.out | with_reducible refine below_ext ?_ _ _ | with_reducible refine below_then_later ?_ (by first | with_reducible exact Nat.le_refl _ | with_reducible exact HBW.out.size | with_reducible exact HQ.out.size | omega | (simp; done) | (simp; omega) | (simp [later_size]; done) | (simp [later_size]; omega)) _ | with_reducible refine Below.setCell ?_ (by first | with_reducible exact Nat.le_refl _ | with_reducible exact HBW.out.size | with_reducible exact HQ.out.size | omega | (simp; done) | (simp; omega) | (simp [later_size]; done) | (simp [later_size]; omega)) _ | with_reducible refine Below.alloc ?_ (by first | with_reducible exact Nat.le_refl _ | with_reducible exact HBW.out.size | with_reducible exact HQ.out.size | omega | (simp; done) | (simp; omega) | (simp [later_size]; done) | (simp [later_size]; omega)) _)))⟩
          case measure => simp [intOf]; omega
    · have HJ := Lib.hid (show ofEp xs ep = acc by have := HF.out; rwa [List.take_of_length_le (by rw [HN.out]; omega)] at this)
      clear HF
      go_wp2_with (first | ((with_reducible refine wp_region_later (by kernel_rfl) (by kernel_rfl) ?_); (repeat (first | go_big_quiet_skip | quiet_step ((fail)))); refine wpQuiet_nil ?_; rintro _ ⟨p, rfl⟩))
      go_ret
      exact MadeOwn.of_row' (mk := id) (base := w.heap.size) (E := 33) rfl lenR (xs := ofEp xs ep) (by rw [HJ.out]; first | exact HW.out | exact ownsRow_later HW.out _) (by rw [HJ.out]; exact HL.out) (Nat.le_refl _) (by (repeat (first | with_reducible exact Below.refl _ _ | with_reducible assumption | with_reducible refine Below.drew ?_ | with_reducible refine below_drewN ?_ _ | with_reducible exact HQ.out | with_reducible exact HBW.out | with_reducible refine below_ext ?_ _ _ | with_reducible refine below_then_later ?_ (by first | with_reducible exact Nat.le_refl _ | with_reducible exact HBW.out.size | with_reducible exact HQ.out.size | omega | (simp; done) | (simp; omega) | (simp [later_size]; done) | (simp [later_size]; omega)) _ | with_reducible refine Below.setCell ?_ (by first | with_reducible exact Nat.le_refl _ | with_reducible exact HBW.out.size | with_reducible exact HQ.out.size | omega | (simp; done) | (simp; omega) | (simp [later_size]; done) | (simp [later_size]; omega)) _ | with_reducible refine Below.alloc ?_ (by first | with_reducible exact Nat.le_refl _ | with_reducible exact HBW.out.size | with_reducible exact HQ.out.size | omega | (simp; done) | (simp; omega) | (simp [later_size]; done) | (simp [later_size]; omega)) _)))
set_option maxHeartbeats 800000 in
theorem c_sInFlight (cap cr bk st gt : Int) (A : Option Addr) (n c : Nat) (xs : List (Int × (Int × Int) × Int × Int)) (ep : Int) (w : World) (z : Int) (hn : xs.length = n) (hn2 : n ≤ 4294967296)
    (ha : Row encR 5 w A xs) (hz : ((ofEp xs ep).length : Int) = z) : Calls Try.prog 23 #[.agg #[.int .i64 cap, .slice A n c, .int .i64 cr, .int .i64 bk, .int .i64 st, .int .i64 gt], .int .i64 ep] w (Gives (.int .i64 z) w) := by
  have HA := Lib.hid ha
  have HN := Lib.hid hn
  have HZ := Lib.hid hz
  clear ha hn hz
  go_enter Try.func23, Try.ntmps23
  go_wp2_with (first | (go_at_call 40; (with_reducible refine (c_sOfEpoch _ _ _ xs ep _ HN.out hn2 (HA.out.alloc _)).mono ?_); rintro _ w2 ⟨A2, n2, c2, rfl, hl, hc2, hm2, hO, p2, rfl⟩; have HL2 := Lib.hid hl; clear hl hO) | ((with_reducible refine wp_region_later (by kernel_rfl) (by kernel_rfl) ?_); (repeat (first | go_big_quiet_skip | quiet_step ((fail)))); refine wpQuiet_nil ?_; rintro _ ⟨p, rfl⟩))
  go_ret
  exact Gives.mk (by rw [← HZ.out, HL2.out]; rfl) (by (repeat (first | with_reducible exact Below.refl _ _ | with_reducible assumption | with_reducible refine Below.drew ?_ | with_reducible refine below_drewN ?_ _ | with_reducible exact HQ.out | with_reducible exact HBW.out | with_reducible refine below_ext ?_ _ _ | with_reducible refine below_then_later ?_ (by first | with_reducible exact Nat.le_refl _ | with_reducible exact HBW.out.size | with_reducible exact HQ.out.size | omega | (simp; done) | (simp; omega) | (simp [later_size]; done) | (simp [later_size]; omega)) _ | with_reducible refine Below.setCell ?_ (by first | with_reducible exact Nat.le_refl _ | with_reducible exact HBW.out.size | with_reducible exact HQ.out.size | omega | (simp; done) | (simp; omega) | (simp [later_size]; done) | (simp [later_size]; omega)) _ | with_reducible refine Below.alloc ?_ (by first | with_reducible exact Nat.le_refl _ | with_reducible exact HBW.out.size | with_reducible exact HQ.out.size | omega | (simp; done) | (simp; omega) | (simp [later_size]; done) | (simp [later_size]; omega)) _)))
theorem m_iOfEpoch (A : Option Addr) (n c : Nat) (xs : List (Int × (Int × Int) × Int × Int)) (ep : Int) (w : World) (R : List (Int × (Int × Int) × Int × Int)) (hn : xs.length = n) (hn2 : n ≤ 4294967296)
    (ha : Row encR 5 w A xs) (hR : ofEp xs ep = R) : Calls Try.prog 39 #[.slice A n c, .int .i64 ep] w (MadeOwn encR 5 id R w) := by subst hR; exact c_iOfEpoch A n c xs ep w hn hn2 ha
theorem m_sOfEpoch (A : Option Addr) (n c : Nat) (xs : List (Int × (Int × Int) × Int × Int)) (ep : Int) (w : World) (R : List (Int × (Int × Int) × Int × Int)) (hn : xs.length = n) (hn2 : n ≤ 4294967296)
    (ha : Row encR 5 w A xs) (hR : ofEp xs ep = R) : Calls Try.prog 40 #[.slice A n c, .int .i64 ep] w (MadeOwn encR 5 id R w) := by subst hR; exact c_sOfEpoch A n c xs ep w hn hn2 ha
end Go.Proofs.Ytcmhmdccfihhiaa
