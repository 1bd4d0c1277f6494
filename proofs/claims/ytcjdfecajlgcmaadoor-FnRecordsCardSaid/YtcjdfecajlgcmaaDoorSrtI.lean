/-
  SortRecords and SameBag of the program and of the reference: the sorted list; equal when sorted. Conditions: the length is at most 2^32.
-/
import Derived.Test.YtcjdfecajlgcmaaDoorSort
import Derived.Test.YtcjdfecajlgcmaaDoorSrtS
import Derived.Test.YtcjdfecajlgcmaaDoorEq
namespace Go.Proofs.YtcjdfecajlgcmaaDoor
open Go.RowKit
set_option linter.unusedVariables false

theorem infoRs : (Tryd.prog.info? 32).map (fun i => (i.zero, i.size, i.bytes)) = some (some (.agg #[.int .i64 0, .int .i64 0, .int .i64 0, .int .i64 0, .int .i64 0]), 5, 40) := by kernel_rfl
set_option maxHeartbeats 800000 in
theorem o_copyRecords (A : Option Addr) (n c : Nat) (xs : List (Int × (Int × Int) × Int × Int)) (w : World) (hn : xs.length = n) (hn2 : n ≤ 4294967296)
    (ha : Row encR 5 w A xs) : Calls Tryd.prog 28 #[.slice A n c] w (MadeOwn encR 5 id xs w) := by
  obtain ⟨i0, hi0, hz0, hs0, hb0⟩ := info_parts infoRs
  have HI := Lib.hid hi0
  have HZ := Lib.hid hz0
  have HS := Lib.hid hs0
  have HB := Lib.hid hb0
  clear hi0 hz0 hs0 hb0
  have HA := Lib.hid ha
  have HN := Lib.hid hn
  clear ha hn
  go_enter Tryd.func28, Tryd.ntmps28
  go_wp2_with (at_builtin; refine wpList_append_row _ encR 5 lenR (by decide) oneR rfl _ _ 24 rfl w.heap.size 32 i0 _ 40 Tryd.underlying24 HI.out HZ.out HS.out HB.out rfl (.slice Option.none 0 0) 0 [] rfl (World.ownsRow_nil _ _ _ _) A n c xs rfl HN.out HA.out (by unfold maxLen; omega) (by omega) (Nat.le_refl _) ?_; intro v1 w1 hown hg hbe; rw [List.nil_append, Nat.zero_add] at hown; obtain ⟨A2, c2, rfl, hO, hc2, hm2⟩ := own_of_ownsRow lenR hown HN.out; have HO := Lib.hid hO; have HG := Lib.hid (hbe w.heap.size w (Below.refl _ _) (Nat.le_refl _) (Nat.le_refl _)); clear hown hg hbe hO)
  go_ret
  exact ⟨_, n, _, rfl, HN.out, hc2, hm2, HO.out, later_of_below HG.out⟩
set_option maxHeartbeats 800000 in
theorem c_iSortRecords (A : Option Addr) (n c : Nat) (xs : List (Int × (Int × Int) × Int × Int)) (w : World) (hn : xs.length = n) (hn2 : n ≤ 4294967296)
    (ha : Row encR 5 w A xs) : Calls Tryd.prog 6 #[.slice A n c] w (MadeOwn encR 5 id (srt rcF xs) w) := by
  have HA := Lib.hid ha
  have HN := Lib.hid hn
  clear ha hn
  go_enter Tryd.func6, Tryd.ntmps6
  go_wp2_with (first | (go_at_call 28; (with_reducible refine (o_copyRecords A n c xs _ HN.out hn2 HA.out).mono ?_); rintro _ w1 ⟨A2, m, c2, rfl, hl, hc2, hm2, hO, p1, hp1⟩; have HL := Lib.hid hl; have HO := Lib.hid hO; have HB1 := Lib.hid (show Below w.heap.size w w1 by rw [hp1]; exact below_later _ _); have hmn : m ≤ 4294967296 := (by rw [← hl, HN.out]; exact hn2); clear hl hO hp1 HA) | (go_at_call 29; (with_reducible refine (c_sortR A2 m c2 xs _ HL.out (by omega) HO.out).mono ?_); rintro _ w2 ⟨rfl, hg, hO2⟩; have HB2 := Lib.hid (below_grown (lo := w.heap.size) HB1.out hg HB1.out.size (fun b hb => HO.out.low HL.out hb)); have HO2 := Lib.hid hO2; clear hg hO2 HO HB1) | ((with_reducible refine wp_region_later (by kernel_rfl) (by kernel_rfl) ?_); (repeat (first | go_big_quiet_skip | quiet_step ((fail)))); refine wpQuiet_nil ?_; rintro _ ⟨p, rfl⟩))
  go_ret
  exact ⟨_, m, _, rfl, by rw [srt_len]; exact HL.out, hc2, hm2, HO2.out, later_of_below HB2.out⟩
theorem MadeOwn.as {α : Type} {enc : α → List Value} {k : Nat} {mk : Value → Value} {xs ys : List α} {w : World} {e : Ending} {w' : World} (h : MadeOwn enc k mk xs w e w') (he : xs = ys) : MadeOwn enc k mk ys w e w' := he ▸ h
theorem m_iSortRecords (A : Option Addr) (n c : Nat) (xs r : List (Int × (Int × Int) × Int × Int)) (w : World) (hn : xs.length = n) (hn2 : n ≤ 4294967296) (ha : Row encR 5 w A xs) (hr : srt rcF xs = r) : Calls Tryd.prog 6 #[.slice A n c] w (MadeOwn encR 5 id r w) := hr ▸ c_iSortRecords A n c xs w hn hn2 ha
theorem m_sSortRecords (A : Option Addr) (n c : Nat) (xs r : List (Int × (Int × Int) × Int × Int)) (w : World) (hn : xs.length = n) (hn2 : n ≤ 4294967296) (ha : Row encR 5 w A xs) (hr : srt rcF xs = r) : Calls Tryd.prog 8 #[.slice A n c] w (MadeOwn encR 5 id r w) := hr ▸ c_sSortRecords A n c xs w hn (by omega) ha
theorem dec_as {p : Prop} [Decidable p] {z : Bool} {w : World} {e : Ending} {w' : World} (hz : decide p = z) (h : Gives (.bool (decide p)) w e w') : Gives (.bool z) w e w' := hz ▸ h
set_option maxHeartbeats 1600000 in
theorem c_iSameBag (A B : Option Addr) (n m c d : Nat) (xs ys : List (Int × (Int × Int) × Int × Int)) (z : Bool) (w : World) (hn : xs.length = n) (hm : ys.length = m) (hn2 : n ≤ 4294967296) (hm2 : m ≤ 4294967296)
    (ha : Row encR 5 w A xs) (hb : Row encR 5 w B ys) (hz : decide (srt rcF xs = srt rcF ys) = z) : Calls Tryd.prog 9 #[.slice A n c, .slice B m d] w (Gives (.bool z) w) := by
  have HA := Lib.hid ha
  have HB := Lib.hid hb
  have HN := Lib.hid hn
  have HM := Lib.hid hm
  have HZ := Lib.hid hz
  clear ha hb hn hm hz
  have tok1 : True := trivial
  go_enter Tryd.func9, Tryd.ntmps9
  go_wp2_with (first | (go_at_call 6; have _t := tok1; clear _t tok1; (with_reducible refine (c_iSortRecords A n c xs _ HN.out hn2 HA.out).mono ?_); rintro _ w1 ⟨A1, n1, c1, rfl, hl1, hc1, hm1, hO1, p1, hp1⟩; have HL1 := Lib.hid hl1; have HO1 := Lib.hid hO1.row; have HB1 := Lib.hid (show Row encR 5 w1 B ys by rw [hp1]; exact HB.out.later _); have HW1 := Lib.hid (show Below w.heap.size w w1 by rw [hp1]; exact below_later _ _); unfold maxLen at hm1; clear hl1 hO1 hp1 HA HB) | (go_at_call 6; (with_reducible refine (c_iSortRecords B m d ys _ HM.out hm2 HB1.out).mono ?_); rintro _ w2 ⟨A2, n2, c2, rfl, hl2, hc2, hm2', hO2, p2, hp2⟩; have HL2 := Lib.hid hl2; have HO2 := Lib.hid hO2.row; have HO3 := Lib.hid (show Row encR 5 w2 A1 (srt rcF xs) by rw [hp2]; exact HO1.out.later _); have HW2 := Lib.hid (show Below w.heap.size w w2 by rw [hp2]; exact HW1.out.trans ((below_later _ _).mono HW1.out.size)); unfold maxLen at hm2'; clear hl2 hO2 hp2 HO1 HB1 HW1) | (go_at_call 30; (with_reducible refine (c_EqualRecord A1 A2 n1 n2 c1 c2 _ _ _ HL1.out HL2.out (by omega) (by omega) HO3.out HO2.out).mono ?_); intro e w3 hg; obtain ⟨rfl, p3, hp3⟩ := dec_as HZ.out hg; have HW3 := Lib.hid (show Below w.heap.size w w3 by rw [hp3]; exact HW2.out.trans ((below_later _ _).mono HW2.out.size)); clear hg hp3) | ((with_reducible refine wp_region_later (by kernel_rfl) (by kernel_rfl) ?_); (repeat (first | go_big_quiet_skip | quiet_step ((fail)))); refine wpQuiet_nil ?_; rintro _ ⟨p, rfl⟩))
  go_ret
  exact Gives.mk rfl HW3.out
set_option maxHeartbeats 1600000 in
theorem c_sSameBag (A B : Option Addr) (n m c d : Nat) (xs ys : List (Int × (Int × Int) × Int × Int)) (z : Bool) (w : World) (hn : xs.length = n) (hm : ys.length = m) (hn2 : n ≤ 4294967296) (hm2 : m ≤ 4294967296)
    (ha : Row encR 5 w A xs) (hb : Row encR 5 w B ys) (hz : decide (srt rcF xs = srt rcF ys) = z) : Calls Tryd.prog 15 #[.slice A n c, .slice B m d] w (Gives (.bool z) w) := by
  have HA := Lib.hid ha
  have HB := Lib.hid hb
  have HN := Lib.hid hn
  have HM := Lib.hid hm
  have HZ := Lib.hid hz
  clear ha hb hn hm hz
  have tok1 : True := trivial
  by_cases he : n = m
  · subst he
    go_enter Tryd.func15, Tryd.ntmps15
    go_wp2_with (first | (go_at_call 8; have _t := tok1; clear _t tok1; (with_reducible refine (c_sSortRecords A n c xs _ HN.out (by omega) HA.out).mono ?_); rintro _ w1 ⟨A1, n1, c1, rfl, hl1, hc1, hm1, hO1, p1, hp1⟩; have HL1 := Lib.hid hl1; have HO1 := Lib.hid hO1.row; have HB1 := Lib.hid (show Row encR 5 w1 B ys by rw [hp1]; exact HB.out.later _); have HW1 := Lib.hid (show Below w.heap.size w w1 by rw [hp1]; exact below_later _ _); unfold maxLen at hm1; clear hl1 hO1 hp1 HA HB) | (go_at_call 8; (with_reducible refine (c_sSortRecords B n d ys _ HM.out (by omega) HB1.out).mono ?_); rintro _ w2 ⟨A2, n2, c2, rfl, hl2, hc2, hm2', hO2, p2, hp2⟩; have HL2 := Lib.hid hl2; have HO2 := Lib.hid hO2.row; have HO3 := Lib.hid (show Row encR 5 w2 A1 (srt rcF xs) by rw [hp2]; exact HO1.out.later _); have HW2 := Lib.hid (show Below w.heap.size w w2 by rw [hp2]; exact HW1.out.trans ((below_later _ _).mono HW1.out.size)); unfold maxLen at hm2'; clear hl2 hO2 hp2 HO1 HB1 HW1) | (go_at_call 35; (with_reducible refine (c_l05Same A1 A2 n1 n2 c1 c2 _ _ _ HL1.out HL2.out (by omega) (by omega) HO3.out HO2.out).mono ?_); intro e w3 hg; obtain ⟨rfl, p3, hp3⟩ := dec_as HZ.out hg; have HW3 := Lib.hid (show Below w.heap.size w w3 by rw [hp3]; exact HW2.out.trans ((below_later _ _).mono HW2.out.size)); clear hg hp3) | ((with_reducible refine wp_region_later (by kernel_rfl) (by kernel_rfl) ?_); (repeat (first | go_big_quiet_skip | quiet_step ((fail)))); refine wpQuiet_nil ?_; rintro _ ⟨p, rfl⟩))
    go_ret
    exact Gives.mk rfl HW3.out
  · obtain rfl : z = false := by
      rw [← HZ.out]
      refine decide_eq_false fun e => he ?_
      have := congrArg List.length e
      rw [srt_len, srt_len, HN.out, HM.out] at this
      exact this
    go_enter Tryd.func15, Tryd.ntmps15
    go_wp2_with (first | ((with_reducible refine wp_region_later (by kernel_rfl) (by kernel_rfl) ?_); (repeat (first | go_big_quiet_skip | quiet_step ((fail)))); refine wpQuiet_nil ?_; rintro _ ⟨p, rfl⟩))
    go_ret
    exact Gives.mk (by first | rfl | (simp; omega)) (by (repeat (first | with_reducible exact Below.refl _ _ | with_reducible assumption | with_reducible refine Below.drew ?_ | with_reducible refine below_drewN ?_ _ | with_reducible exact HQ.out | with_reducible exact HBW.out | with_reducible refine below_ext ?_ _ _ | with_reducible refine below_then_later ?_ (by first | with_reducible exact Nat.le_refl _ | with_reducible exact HBW.out.size | with_reducible exact HQ.out.size | omega | (simp; done) | (simp; omega) | (simp [later_size]; done) | (simp [later_size]; omega)) _ | with_reducible refine Below.setCell ?_ (by first | with_reducible exact Nat.le_refl _ | with_reducible exact HBW.out.size | with_reducible exact HQ.out.size | omega | (simp; done) | (simp; omega) | (simp [later_size]; done) | (simp [later_size]; omega)) _ | with_reducible refine Below.alloc ?_ (by first | with_reducible exact Nat.le_refl _ | with_reducible exact HBW.out.size | with_reducible exact HQ.out.size | omega | (simp; done) | (simp; omega) | (simp [later_size]; done) | (simp [later_size]; omega)) _)))
end Go.Proofs.YtcjdfecajlgcmaaDoor
