/-
  Hex of the program and of the reference. Conditions: none.
-/
import Derived.Test.YtmpcdkjncpkfaaaDoorBytes
import Derived.Test.YtmpcdkjncpkfaaaDoorPlt
namespace Go.Proofs.YtmpcdkjncpkfaaaDoor
open Go.RowKit
set_option linter.unusedVariables false

def hexL (l : List UInt8) : List UInt8 := l.flatMap fun b => [fig (b.toNat / 16), fig (b.toNat % 16)]
theorem hexL_len (l : List UInt8) : (hexL l).length = 2 * l.length := by
  induction l with
  | nil => rfl
  | cons b l ih => simp only [hexL, List.flatMap_cons, List.length_append, List.length_cons, List.length_nil] at *; omega
theorem hexL_step {l acc : List UInt8} {k : Nat} {x : UInt8} (h : hexL (l.take k) = acc) (hx : l[k]? = some x) : hexL (l.take (k + 1)) = acc ++ [fig (x.toNat / 16), fig (x.toNat % 16)] := by
  unfold hexL at h ⊢
  rw [List.take_add_one, hx, List.flatMap_append, h]
  simp
def hexV (s : ByteArray) : Value := if s.size ≤ 20000 then .tuple #[.string ⟨(hexL s.data.toList).toArray⟩, .bool true] else .tuple #[.string ⟨#[]⟩, .bool false]
theorem wrap8 (n : Nat) (h : n < 256) : IntKind.u8.wrap (n : Int) = n := by
  have h1 : ((n : Int) % 256) = n := by omega
  unfold IntKind.wrap
  simp [IntKind.bits, IntKind.signed, h1]
theorem wrapQuo {x : UInt8} {q : Nat} (h : x.toNat / 16 = q) : IntKind.u8.wrap ((x.toNat : Int) / 16) = (q : Int) := by
  have := UInt8.toNat_lt x
  subst h
  rw [show ((x.toNat : Int) / 16) = ((x.toNat / 16 : Nat) : Int) from rfl, wrap8 _ (by omega)]
theorem tmodRem {x : UInt8} {q : Nat} (h : x.toNat % 16 = q) : (x.toNat : Int).tmod 16 = (q : Int) := by
  subst h; rfl
set_option maxHeartbeats 3200000 in
theorem c_iHex (s : ByteArray) (w : World) (hn2 : s.size ≤ 9223372036854775807) : Calls Tryd.prog 8 #[.string s] w (Gives (hexV s) w) := by
  obtain ⟨i0, hi0, hz0, hs0, hb0⟩ := info_parts infoB
  have HI := Lib.hid hi0
  have HZ := Lib.hid hz0
  have HS := Lib.hid hs0
  have HB := Lib.hid hb0
  clear hi0 hz0 hs0 hb0
  obtain ⟨V, hV⟩ : ∃ V, hexV s = V := ⟨_, rfl⟩
  rw [hV]
  have HV := Lib.hid hV
  clear hV
  by_cases hbig : s.size ≤ 20000
  · go_enter Tryd.func8, Tryd.ntmps8
    go_wp2_with fail
    go_loopw [4, 5] (fun v ii wr => ∃ (j : Nat) (acc : List UInt8) (L : Nat), ii = .int .i64 j ∧ j ≤ s.size ∧ acc.length = L ∧ L = 2 * j ∧ hexL (s.data.toList.take j) = acc ∧ wr.ownsRow w.heap.size 5 1 v L (acc.flatMap encB) ∧ ∃ p : Later, wr = later w p) (fun _ ii _ => s.size - (intOf ii).toNat)
    case atStart => exact ⟨0, [], 0, rfl, by omega, rfl, rfl, rfl, World.ownsRow_nil _ _ _ _, later_of_below (by (repeat (first | with_reducible exact Below.refl _ _ | with_reducible assumption | with_reducible refine Below.drew ?_ | with_reducible refine below_drewN ?_ _ | with_reducible exact HQ.out | with_reducible exact HBW.out | with_reducible refine below_ext ?_ _ _ | with_reducible refine below_then_later ?_ (by first | with_reducible exact Nat.le_refl _ | with_reducible exact HBW.out.size | with_reducible exact HQ.out.size | omega | (simp; done) | (simp; omega) | (simp [later_size]; done) | (simp [later_size]; omega)) _ | with_reducible refine Below.setCell ?_ (by first | with_reducible exact Nat.le_refl _ | with_reducible exact HBW.out.size | with_reducible exact HQ.out.size | omega | (simp; done) | (simp; omega) | (simp [later_size]; done) | (simp [later_size]; omega)) _ | with_reducible refine Below.alloc ?_ (by first | with_reducible exact Nat.le_refl _ | with_reducible exact HBW.out.size | with_reducible exact HQ.out.size | omega | (simp; done) | (simp; omega) | (simp [later_size]; done) | (simp [later_size]; omega)) _)))⟩
    case round =>
      obtain ⟨j, acc, L, rfl, hj, hL, hL2, hF, hW, pw, rfl⟩ := hrel
      have HF := Lib.hid hF
      have HW := Lib.hid hW
      have HL := Lib.hid hL
      clear hF hW hL
      by_cases hlt : j < s.size
      · obtain ⟨x, hx⟩ : ∃ x, s.data.toList[j]? = some x := ⟨_, List.getElem?_eq_getElem (by rw [Array.length_toList]; exact hlt)⟩
        have HX := Lib.hid hx
        have hx256 := UInt8.toNat_lt x
        obtain ⟨q, hq⟩ : ∃ q, x.toNat / 16 = q := ⟨_, rfl⟩
        obtain ⟨r, hr⟩ : ∃ r, x.toNat % 16 = r := ⟨_, rfl⟩
        have hq1 := wrapQuo hq
        have hr1 := tmodRem hr
        have HQR := Lib.hid (And.intro hq hr)
        have hat := run_byte_at (P := Tryd.prog) 9 s j x Tryd.underlying9 hx
        have hf1 := run_fig (P := Tryd.prog) 9 q Tryd.underlying9 (by omega)
        have hf2 := run_fig (P := Tryd.prog) 9 r Tryd.underlying9 (by omega)
        unfold figs at hf1 hf2
        clear hx hq hr
        go_wp2_with (first | (at_builtin; refine wpList_append_row _ encB 1 lenB (by decide) oneB rfl (.tmp 15) (.tmp 26) 22 rfl w.heap.size 5 i0 _ 1 Tryd.underlying22 HI.out HZ.out HS.out HB.out rfl u4 L acc rfl (by (repeat (first | with_reducible exact HW.out | with_reducible exact ownsRow_draw HW.out _ | with_reducible refine World.ownsRow.alloc ?_ _ | with_reducible refine World.ownsRow.drew ?_ | with_reducible refine ownsRow_later ?_ _)); done) _ _ _ [fig q, fig r] rfl rfl (row_twoB _ _ _ _ _ (by first | with_reducible rfl | (simp; done) | (simp; omega) | (simp [later_size]; done) | (simp [later_size]; omega))) (by unfold maxLen; omega) (by omega) (by first | with_reducible rfl | (simp; done) | (simp; omega) | (simp [later_size]; done) | (simp [later_size]; omega)) ?_; intro v1 w1 hown hg hbe; have HW1 := Lib.hid hown; have hG1 := hbe w.heap.size w (by (repeat (first | with_reducible exact Below.refl _ _ | with_reducible assumption | with_reducible refine Below.drew ?_ | with_reducible refine below_drewN ?_ _ | with_reducible exact HQ.out | with_reducible exact HBW.out | with_reducible refine below_ext ?_ _ _ | with_reducible refine below_then_later ?_ (by first | with_reducible exact Nat.le_refl _ | with_reducible exact HBW.out.size | with_reducible exact HQ.out.size | omega | (simp; done) | (simp; omega) | (simp [later_size]; done) | (simp [later_size]; omega)) _ | with_reducible refine Below.setCell ?_ (by first | with_reducible exact Nat.le_refl _ | with_reducible exact HBW.out.size | with_reducible exact HQ.out.size | omega | (simp; done) | (simp; omega) | (simp [later_size]; done) | (simp [later_size]; omega)) _ | with_reducible refine Below.alloc ?_ (by first | with_reducible exact Nat.le_refl _ | with_reducible exact HBW.out.size | with_reducible exact HQ.out.size | omega | (simp; done) | (simp; omega) | (simp [later_size]; done) | (simp [later_size]; omega)) _))) (by first | with_reducible rfl | (simp; done) | (simp; omega) | (simp [later_size]; done) | (simp [later_size]; omega)) (Nat.le_refl _); clear hown hbe) | (((skip); (with_reducible refine wp_region_plt_any (Plt.pick 0 (Plt.pick 1 (Plt.pick 2 (Plt.pick 3 (Plt.pick 4 (Plt.pick 5 (Plt.pick 6 (Plt.pick 7 (Plt.pick 8 (Plt.pick 9 (Plt.pick 10 (Plt.one 11 (Plt.one 12 (Plt.one 13 (Plt.nil))))))))))))))) (by kernel_rfl) (by kernel_rfl) ?_); (repeat (any_goals (first | (refine wpPlt_pick (fun K hK => ?_); simp only [List.getD_cons_zero, List.getD_cons_succ]; go_simp; refine hK _ ?_; clear hK K) | (refine wpPlt_one (fun K hK => ?_); (simp only [List.getD_cons_zero, List.getD_cons_succ]; go_wp2_with (first | (at_builtin; refine wpList_append_row _ encB 1 lenB (by decide) oneB rfl (.tmp 15) (.tmp 26) 22 rfl w.heap.size 5 i0 _ 1 Tryd.underlying22 HI.out HZ.out HS.out HB.out rfl u4 L acc rfl (by (repeat (first | with_reducible exact HW.out | with_reducible exact ownsRow_draw HW.out _ | with_reducible refine World.ownsRow.alloc ?_ _ | with_reducible refine World.ownsRow.drew ?_ | with_reducible refine ownsRow_later ?_ _)); done) _ _ _ [fig q, fig r] rfl rfl (row_twoB _ _ _ _ _ (by first | with_reducible rfl | (simp; done) | (simp; omega) | (simp [later_size]; done) | (simp [later_size]; omega))) (by unfold maxLen; omega) (by omega) (by first | with_reducible rfl | (simp; done) | (simp; omega) | (simp [later_size]; done) | (simp [later_size]; omega)) ?_; intro v1 w1 hown hg hbe; have HW1 := Lib.hid hown; have hG1 := hbe w.heap.size w (by (repeat (first | with_reducible exact Below.refl _ _ | with_reducible assumption | with_reducible refine Below.drew ?_ | with_reducible refine below_drewN ?_ _ | with_reducible exact HQ.out | with_reducible exact HBW.out | with_reducible refine below_ext ?_ _ _ | with_reducible refine below_then_later ?_ (by first | with_reducible exact Nat.le_refl _ | with_reducible exact HBW.out.size | with_reducible exact HQ.out.size | omega | (simp; done) | (simp; omega) | (simp [later_size]; done) | (simp [later_size]; omega)) _ | with_reducible refine Below.setCell ?_ (by first | with_reducible exact Nat.le_refl _ | with_reducible exact HBW.out.size | with_reducible exact HQ.out.size | omega | (simp; done) | (simp; omega) | (simp [later_size]; done) | (simp [later_size]; omega)) _ | with_reducible refine Below.alloc ?_ (by first | with_reducible exact Nat.le_refl _ | with_reducible exact HBW.out.size | with_reducible exact HQ.out.size | omega | (simp; done) | (simp; omega) | (simp [later_size]; done) | (simp [later_size]; omega)) _))) (by first | with_reducible rfl | (simp; done) | (simp; omega) | (simp [later_size]; done) | (simp [later_size]; omega)) (Nat.le_refl _); clear hown hbe)); refine onward_any (hK _ _ ?_); clear hK K)) | (refine wpPlt_two (fun K hK => ?_) (fun K hK => ?_); all_goals (simp only [List.getD_cons_zero, List.getD_cons_succ]; go_wp2_with (first | (at_builtin; refine wpList_append_row _ encB 1 lenB (by decide) oneB rfl (.tmp 15) (.tmp 26) 22 rfl w.heap.size 5 i0 _ 1 Tryd.underlying22 HI.out HZ.out HS.out HB.out rfl u4 L acc rfl (by (repeat (first | with_reducible exact HW.out | with_reducible exact ownsRow_draw HW.out _ | with_reducible refine World.ownsRow.alloc ?_ _ | with_reducible refine World.ownsRow.drew ?_ | with_reducible refine ownsRow_later ?_ _)); done) _ _ _ [fig q, fig r] rfl rfl (row_twoB _ _ _ _ _ (by first | with_reducible rfl | (simp; done) | (simp; omega) | (simp [later_size]; done) | (simp [later_size]; omega))) (by unfold maxLen; omega) (by omega) (by first | with_reducible rfl | (simp; done) | (simp; omega) | (simp [later_size]; done) | (simp [later_size]; omega)) ?_; intro v1 w1 hown hg hbe; have HW1 := Lib.hid hown; have hG1 := hbe w.heap.size w (by (repeat (first | with_reducible exact Below.refl _ _ | with_reducible assumption | with_reducible refine Below.drew ?_ | with_reducible refine below_drewN ?_ _ | with_reducible exact HQ.out | with_reducible exact HBW.out | with_reducible refine below_ext ?_ _ _ | with_reducible refine below_then_later ?_ (by first | with_reducible exact Nat.le_refl _ | with_reducible exact HBW.out.size | with_reducible exact HQ.out.size | omega | (simp; done) | (simp; omega) | (simp [later_size]; done) | (simp [later_size]; omega)) _ | with_reducible refine Below.setCell ?_ (by first | with_reducible exact Nat.le_refl _ | with_reducible exact HBW.out.size | with_reducible exact HQ.out.size | omega | (simp; done) | (simp; omega) | (simp [later_size]; done) | (simp [later_size]; omega)) _ | with_reducible refine Below.alloc ?_ (by first | with_reducible exact Nat.le_refl _ | with_reducible exact HBW.out.size | with_reducible exact HQ.out.size | omega | (simp; done) | (simp; omega) | (simp [later_size]; done) | (simp [later_size]; omega)) _))) (by first | with_reducible rfl | (simp; done) | (simp; omega) | (simp [later_size]; done) | (simp [later_size]; omega)) (Nat.le_refl _); clear hown hbe)); refine onward_any (hK _ _ ?_); clear hK K))))); all_goals (refine wpPlt_nil ?_))) | ((with_reducible refine wp_region_later (by kernel_rfl) (by kernel_rfl) ?_); (repeat (first | go_big_quiet_skip | quiet_step ((fail)))); refine wpQuiet_nil ?_; rintro _ ⟨p, rfl⟩))
        all_goals
          go_roundw
          case rel => exact ⟨j + 1, acc ++ [fig q, fig r], L + 2, by go_num, by omega, by simp [HL.out], by omega, (by rw [hexL_step HF.out HX.out, HQR.out.1, HQR.out.2]), HW1.out, later_of_below hG1⟩
          case measure => simp [intOf]; omega
      · have HJ := Lib.hid (show hexL s.data.toList = acc by have := HF.out; rwa [List.take_of_length_le (by rw [Array.length_toList]; exact Nat.le_of_not_lt hlt)] at this)
        clear HF
        go_wp2_with (first | (refine wpList_string_own rfl (.tmp 28) 22 9 rfl 5 Tryd.underlying22 Tryd.underlying5 Tryd.underlying9 w.heap.size 5 u4 L acc rfl (by first | exact HW.out | exact ownsRow_later HW.out _) HL.out ?_) | ((with_reducible refine wp_region_later (by kernel_rfl) (by kernel_rfl) ?_); (repeat (first | go_big_quiet_skip | quiet_step ((fail)))); refine wpQuiet_nil ?_; rintro _ ⟨p, rfl⟩))
        go_ret2
        exact Gives.mk (by rw [← HV.out, hexV, if_pos hbig, HJ.out]; rfl) (by (repeat (first | with_reducible exact Below.refl _ _ | with_reducible assumption | with_reducible refine Below.drew ?_ | with_reducible refine below_drewN ?_ _ | with_reducible exact HQ.out | with_reducible exact HBW.out | with_reducible refine below_ext ?_ _ _ | with_reducible refine below_then_later ?_ (by first | with_reducible exact Nat.le_refl _ | with_reducible exact HBW.out.size | with_reducible exact HQ.out.size | omega | (simp; done) | (simp; omega) | (simp [later_size]; done) | (simp [later_size]; omega)) _ | with_reducible refine Below.setCell ?_ (by first | with_reducible exact Nat.le_refl _ | with_reducible exact HBW.out.size | with_reducible exact HQ.out.size | omega | (simp; done) | (simp; omega) | (simp [later_size]; done) | (simp [later_size]; omega)) _ | with_reducible refine Below.alloc ?_ (by first | with_reducible exact Nat.le_refl _ | with_reducible exact HBW.out.size | with_reducible exact HQ.out.size | omega | (simp; done) | (simp; omega) | (simp [later_size]; done) | (simp [later_size]; omega)) _)))
  · go_enter Tryd.func8, Tryd.ntmps8
    go_wp2_with (first | ((with_reducible refine wp_region_later (by kernel_rfl) (by kernel_rfl) ?_); (repeat (first | go_big_quiet_skip | quiet_step ((fail)))); refine wpQuiet_nil ?_; rintro _ ⟨p, rfl⟩))
    go_ret2
    exact Gives.mk (by rw [← HV.out, hexV, if_neg hbig]; rfl) (by (repeat (first | with_reducible exact Below.refl _ _ | with_reducible assumption | with_reducible refine Below.drew ?_ | with_reducible refine below_drewN ?_ _ | with_reducible exact HQ.out | with_reducible exact HBW.out | with_reducible refine below_ext ?_ _ _ | with_reducible refine below_then_later ?_ (by first | with_reducible exact Nat.le_refl _ | with_reducible exact HBW.out.size | with_reducible exact HQ.out.size | omega | (simp; done) | (simp; omega) | (simp [later_size]; done) | (simp [later_size]; omega)) _ | with_reducible refine Below.setCell ?_ (by first | with_reducible exact Nat.le_refl _ | with_reducible exact HBW.out.size | with_reducible exact HQ.out.size | omega | (simp; done) | (simp; omega) | (simp [later_size]; done) | (simp [later_size]; omega)) _ | with_reducible refine Below.alloc ?_ (by first | with_reducible exact Nat.le_refl _ | with_reducible exact HBW.out.size | with_reducible exact HQ.out.size | omega | (simp; done) | (simp; omega) | (simp [later_size]; done) | (simp [later_size]; omega)) _)))
theorem c_figure (x : Int) (k : Nat) (h : x = k) (hk : k < 16) (w : World) : Calls Tryd.prog 40 #[.int .i64 x] w fun e w' => e = .returned (.int .u8 ((fig k).toNat : Int)) ∧ w' = w := by
  subst h
  rw [fig_num hk]
  by_cases hlt : k < 10
  · rw [if_pos hlt]
    go_enter Tryd.func40, Tryd.ntmps40
    go_wp2_with fail
    go_ret
    exact ⟨rfl, rfl⟩
  · rw [if_neg hlt]
    go_enter Tryd.func40, Tryd.ntmps40
    go_wp2_with fail
    go_ret
    exact ⟨congrArg (fun z => Ending.returned (Value.int .u8 z)) (by omega), rfl⟩
theorem hexV_form (s : ByteArray) : ∃ B z, hexV s = .tuple #[.string B, .bool z] := by
  unfold hexV
  split
  · exact ⟨_, _, rfl⟩
  · exact ⟨_, _, rfl⟩
theorem m_iHex (s B : ByteArray) (z : Bool) (w : World) (hn2 : s.size ≤ 9223372036854775807) (h : hexV s = .tuple #[.string B, .bool z]) : Calls Tryd.prog 8 #[.string s] w (Gives (.tuple #[.string B, .bool z]) w) := h ▸ c_iHex s w hn2
end Go.Proofs.YtmpcdkjncpkfaaaDoor
