/-
  What DrawOwnerOf and DrawPlaces of the reference draw. Conditions: the bytes' number is at most 2^32.
-/
import Derived.Test.YtcmhmdccfihhiaaDraw
namespace Go.Proofs.Ytcmhmdccfihhiaa
open Go.RowKit
set_option linter.unusedVariables false

theorem below_drawn {B g : Nat} {a w1 w2 : World} (h : Below B a w1) (hg : w1.grownBy w2 (some g)) (hB : B ≤ g) (hs : B ≤ w1.heap.size) : Below B a w2 :=
  h.grown hg hs fun j hj => by
    cases hj
    exact hB
theorem ne_new {g b m : Nat} (h : g < b) : some g ≠ ob (some ⟨b, 0, Option.none⟩) m := fun e => by
  unfold ob at e
  split at e
  · cases e
  · simp at e
    omega
theorem infoI : (Try.prog.info? 3).map (fun i => (i.zero, i.size, i.bytes)) = some (some (.int .i64 0), 1, 8) := by kernel_rfl
set_option maxHeartbeats 3200000 in
theorem c_drawPlaces (A : Option Addr) (n c : Nat) (xs : List UInt8) (w : World) (hn : xs.length = n) (hn2 : n ≤ 4294967296) (hr : Row encB 1 w A xs) : Calls Try.prog 6 #[.slice A n c] w fun e w' => ∃ (A2 : Option Addr) (c2 : Nat) (ps : List Int), e = .returned (.slice A2 12 c2) ∧ ps.length = 12 ∧ (∀ p ∈ ps, 0 ≤ p ∧ p < 10000) ∧ Row encI 1 w' A2 ps ∧ ∃ p : Later, w' = later w p := by
  have HR := Lib.hid hr
  have HN := Lib.hid hn
  clear hr hn
  obtain ⟨i0, hi0, hz0, hs0, hb0⟩ := info_parts infoI
  have HI := Lib.hid hi0
  have HZ := Lib.hid hz0
  have HS := Lib.hid hs0
  have HB := Lib.hid hb0
  clear hi0 hz0 hs0 hb0
  go_enter Try.func6, Try.ntmps6
  go_wp2_with (first | (go_at_call 25; (with_reducible refine (c_new _ _ _ xs _ HN.out hn2 HR.out).mono ?_); rintro _ w1 ⟨g, rfl, hg, hc, p1, hp⟩; have HC := Lib.hid hc; have HBW := Lib.hid (show Below w.heap.size w w1 by rw [hp]; exact below_later _ _); clear hc hp) | ((with_reducible refine wp_region_later (by kernel_rfl) (by kernel_rfl) ?_); (repeat (first | go_big_quiet_skip | quiet_step ((fail)))); refine wpQuiet_nil ?_; rintro _ ⟨p, rfl⟩))
  have hsz : w.heap.size ≤ w1.heap.size := HBW.out.size
  have hg1 : g < w1.heap.size := HC.out.lt
  go_loopw [4, 5] (fun v ii wr => ∃ (j : Nat) (acc : List Int), ii = .int .i64 j ∧ j ≤ 12 ∧ acc.length = j ∧ (∀ p ∈ acc, 0 ≤ p ∧ p < 10000) ∧ wr.ownsRow w1.heap.size 3 1 v j (acc.flatMap encI) ∧ Cur g wr ∧ w1.heap.size ≤ wr.heap.size ∧ Below w.heap.size w wr) (fun _ ii _ => 12 - (intOf ii).toNat)
  case atStart => exact ⟨0, [], rfl, by omega, rfl, by simp, own_empty _ _ _ _ _ (by first | rfl | (simp; done)) (by simp), HC.out.alloc _, by simp, HBW.out.alloc HBW.out.size _⟩
  case round =>
    obtain ⟨j, acc, rfl, hj, hL, hF, hW, hc2, hs1, hb2⟩ := hrel
    have HF := Lib.hid hF
    have HW := Lib.hid hW
    have HL := Lib.hid hL
    clear HC HBW
    have HC := Lib.hid hc2
    have HBW := Lib.hid hb2
    clear hF hW hL hc2 hb2
    by_cases hlt : j < 12
    · go_wp2_with (first | (at_builtin; refine wpList_append_row _ encI 1 lenI (by decide) oneI rfl (.tmp 13) (.tmp 16) 24 rfl w1.heap.size 3 i0 _ 8 Try.underlying24 HI.out HZ.out HS.out HB.out rfl u4 j acc rfl (by (repeat (first | with_reducible exact HW.out | with_reducible exact ownsRow_draw HW.out _ | with_reducible refine World.ownsRow.alloc ?_ _ | with_reducible refine World.ownsRow.drew ?_ | with_reducible refine ownsRow_later ?_ _)); done) _ _ _ [x] rfl rfl (row_oneI _ _ _ _ (by first | with_reducible rfl | (simp; done) | (simp; omega) | (simp [later_size]; done) | (simp [later_size]; omega))) (by unfold maxLen; omega) (by omega) (by first | with_reducible rfl | (simp; done) | (simp; omega) | (simp [later_size]; done) | (simp [later_size]; omega)) ?_; intro v2 w2 hown hg hbe; have HW2 := Lib.hid hown; have hG2 := hbe w.heap.size w (by (repeat (first | with_reducible exact Below.refl _ _ | with_reducible assumption | with_reducible refine Below.drew ?_ | with_reducible refine below_drewN ?_ _ | with_reducible exact HQ.out | with_reducible exact HBW.out | with_reducible refine below_ext ?_ _ _ | with_reducible refine below_then_later ?_ (by first | with_reducible exact Nat.le_refl _ | with_reducible exact HBW.out.size | with_reducible exact HQ.out.size | omega | (simp; done) | (simp; omega) | (simp [later_size]; done) | (simp [later_size]; omega)) _ | with_reducible refine Below.setCell ?_ (by first | with_reducible exact Nat.le_refl _ | with_reducible exact HBW.out.size | with_reducible exact HQ.out.size | omega | (simp; done) | (simp; omega) | (simp [later_size]; done) | (simp [later_size]; omega)) _ | with_reducible refine Below.alloc ?_ (by first | with_reducible exact Nat.le_refl _ | with_reducible exact HBW.out.size | with_reducible exact HQ.out.size | omega | (simp; done) | (simp; omega) | (simp [later_size]; done) | (simp [later_size]; omega)) _))) (by first | with_reducible rfl | (simp; done) | (simp; omega) | (simp [later_size]; done) | (simp [later_size]; omega)) hsz; clear hown hbe) | (go_at_call 26; (with_reducible refine (c_below _ _ _ HC.out (by unfold I64; omega)).mono ?_); rintro _ w2 ⟨_, rfl, ⟨x, rfl, hx, hx2, -⟩, hc2, hg2⟩; have hx4 := hx2 (by omega); clear hx2; have HW2 := Lib.hid (HW.out.kept hg2 (.inr (fun e => by have := (HW.out.lt _ e).1; omega))); have HB2 := Lib.hid (below_drawn HBW.out hg2 hg HBW.out.size); have hs2 : w1.heap.size ≤ w2.heap.size := Nat.le_trans hs1 hg2.size; clear HC HBW HW; have HC := Lib.hid hc2; have HW := HW2; have HBW := HB2; clear hc2 HW2 HB2 hg2) | ((with_reducible refine wp_region_later (by kernel_rfl) (by kernel_rfl) ?_); (repeat (first | go_big_quiet_skip | quiet_step ((fail)))); refine wpQuiet_nil ?_; rintro _ ⟨p, rfl⟩))
      all_goals
        go_roundw
        case rel => exact ⟨j + 1, acc ++ [x], by go_num, by omega, by simp [HL.out], by intro p hp; rcases List.mem_append.1 hp with h | h; exact HF.out p h; simp at h; subst h; omega, HW2.out, (HC.out.alloc _).grown hg (fun b hb => by have := (HW.out.lt _ hb).1; omega), Nat.le_trans hs2 (Nat.le_trans (by simp) hg.size), hG2⟩
        case measure => simp [intOf]; omega
    · go_wp2_with (first | ((with_reducible refine wp_region_later (by kernel_rfl) (by kernel_rfl) ?_); (repeat (first | go_big_quiet_skip | quiet_step ((fail)))); refine wpQuiet_nil ?_; rintro _ ⟨p, rfl⟩))
      obtain ⟨A2, c2, hv, ho, _, _⟩ := own_of_ownsRow lenI HW.out HL.out
      subst hv
      go_ret
      have hj12 : j = 12 := by omega
      subst hj12
      exact ⟨A2, c2, acc, rfl, HL.out, HF.out, ho.row, later_of_below HBW.out⟩
end Go.Proofs.Ytcmhmdccfihhiaa
