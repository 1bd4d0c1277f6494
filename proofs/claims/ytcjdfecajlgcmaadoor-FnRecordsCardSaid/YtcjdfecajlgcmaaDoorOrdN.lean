/-
  The program's orders once more: they draw nothing, which the library's sort asks of them. Conditions: none.
-/
import Derived.Test.YtcjdfecajlgcmaaDoorOrd
namespace Go.Proofs.YtcjdfecajlgcmaaDoor
open Go.RowKit
set_option linter.unusedVariables false

/-- the call returns v; the old memory stands as it was; nothing was drawn -/
def GivesN (v : Value) (w : World) (e : Ending) (w' : World) : Prop := e = .returned v ∧ ∃ os : Array Obj, w' = later w ⟨w.drawn, os⟩
theorem laterN_of {w w' : World} (hb : Below w.heap.size w w') (hd : w'.drawn = w.drawn) : ∃ os : Array Obj, w' = later w ⟨w.drawn, os⟩ := by
  obtain ⟨⟨n, os⟩, rfl⟩ := later_of_below hb
  have e : n = w.drawn := hd
  subst e
  exact ⟨os, rfl⟩
theorem laterN_refl (w : World) : ∃ os : Array Obj, w = later w ⟨w.drawn, os⟩ := laterN_of (Below.refl _ _) rfl
theorem GivesN.mk {v : Value} {w w' : World} {e : Ending} (h : e = .returned v) (hb : Below w.heap.size w w') (hd : w'.drawn = w.drawn) : GivesN v w e w' := ⟨h, laterN_of hb hd⟩
theorem GivesN.gives {v : Value} {w w' : World} {e : Ending} (h : GivesN v w e w') : Gives v w e w' := by
  obtain ⟨he, os, rfl⟩ := h
  exact ⟨he, _, rfl⟩

set_option maxHeartbeats 400000 in
theorem n_isNaN (a : Int) (w : World) : Calls Tryd.prog 78 #[.int .i64 a] w (GivesN (.bool false) w) := by
  go_enter Tryd.func78, Tryd.ntmps78
  go_wp2_with (first | ((with_reducible refine wp_region_later (by kernel_rfl) (by kernel_rfl) ?_); (repeat (first | go_big_quiet_skip | quiet_step ((fail)))); refine wpQuiet_nil ?_; rintro _ ⟨p, rfl⟩))
  go_ret
  exact GivesN.mk (by first | rfl | simp) (by (repeat (first | with_reducible exact Below.refl _ _ | with_reducible assumption | with_reducible refine Below.drew ?_ | with_reducible refine below_drewN ?_ _ | with_reducible exact HQ.out | with_reducible exact HBW.out | with_reducible refine below_ext ?_ _ _ | with_reducible refine below_then_later ?_ (by first | with_reducible exact Nat.le_refl _ | with_reducible exact HBW.out.size | with_reducible exact HQ.out.size | omega | (simp; done) | (simp; omega) | (simp [later_size]; done) | (simp [later_size]; omega)) _ | with_reducible refine Below.setCell ?_ (by first | with_reducible exact Nat.le_refl _ | with_reducible exact HBW.out.size | with_reducible exact HQ.out.size | omega | (simp; done) | (simp; omega) | (simp [later_size]; done) | (simp [later_size]; omega)) _ | with_reducible refine Below.alloc ?_ (by first | with_reducible exact Nat.le_refl _ | with_reducible exact HBW.out.size | with_reducible exact HQ.out.size | omega | (simp; done) | (simp; omega) | (simp [later_size]; done) | (simp [later_size]; omega)) _))) (by first | rfl | (simp [later]; done))
set_option maxHeartbeats 400000 in
theorem n_cmpCompare (a b : Int) (w : World) : Calls Tryd.prog 70 #[.int .i64 a, .int .i64 b] w (GivesN (.int .i64 (ord a b)) w) := by
  by_cases h1 : a < b
  · rw [ord_lt h1]
    go_enter Tryd.func70, Tryd.ntmps70
    go_wp2_with (first | (go_at_call 78; (refine (n_isNaN _ _).mono ?_); rintro _ _ ⟨rfl, os, rfl⟩) | ((with_reducible refine wp_region_later (by kernel_rfl) (by kernel_rfl) ?_); (repeat (first | go_big_quiet_skip | quiet_step ((fail)))); refine wpQuiet_nil ?_; rintro _ ⟨p, rfl⟩))
    go_ret
    exact GivesN.mk rfl (by (repeat (first | with_reducible exact Below.refl _ _ | with_reducible assumption | with_reducible refine Below.drew ?_ | with_reducible refine below_drewN ?_ _ | with_reducible exact HQ.out | with_reducible exact HBW.out | with_reducible refine below_ext ?_ _ _ | with_reducible refine below_then_later ?_ (by first | with_reducible exact Nat.le_refl _ | with_reducible exact HBW.out.size | with_reducible exact HQ.out.size | omega | (simp; done) | (simp; omega) | (simp [later_size]; done) | (simp [later_size]; omega)) _ | with_reducible refine Below.setCell ?_ (by first | with_reducible exact Nat.le_refl _ | with_reducible exact HBW.out.size | with_reducible exact HQ.out.size | omega | (simp; done) | (simp; omega) | (simp [later_size]; done) | (simp [later_size]; omega)) _ | with_reducible refine Below.alloc ?_ (by first | with_reducible exact Nat.le_refl _ | with_reducible exact HBW.out.size | with_reducible exact HQ.out.size | omega | (simp; done) | (simp; omega) | (simp [later_size]; done) | (simp [later_size]; omega)) _))) (by first | rfl | (simp [later]; done))
  · by_cases h2 : b < a
    · rw [ord_gt h2]
      go_enter Tryd.func70, Tryd.ntmps70
      go_wp2_with (first | (go_at_call 78; (refine (n_isNaN _ _).mono ?_); rintro _ _ ⟨rfl, os, rfl⟩) | ((with_reducible refine wp_region_later (by kernel_rfl) (by kernel_rfl) ?_); (repeat (first | go_big_quiet_skip | quiet_step ((fail)))); refine wpQuiet_nil ?_; rintro _ ⟨p, rfl⟩))
      go_ret
      exact GivesN.mk rfl (by (repeat (first | with_reducible exact Below.refl _ _ | with_reducible assumption | with_reducible refine Below.drew ?_ | with_reducible refine below_drewN ?_ _ | with_reducible exact HQ.out | with_reducible exact HBW.out | with_reducible refine below_ext ?_ _ _ | with_reducible refine below_then_later ?_ (by first | with_reducible exact Nat.le_refl _ | with_reducible exact HBW.out.size | with_reducible exact HQ.out.size | omega | (simp; done) | (simp; omega) | (simp [later_size]; done) | (simp [later_size]; omega)) _ | with_reducible refine Below.setCell ?_ (by first | with_reducible exact Nat.le_refl _ | with_reducible exact HBW.out.size | with_reducible exact HQ.out.size | omega | (simp; done) | (simp; omega) | (simp [later_size]; done) | (simp [later_size]; omega)) _ | with_reducible refine Below.alloc ?_ (by first | with_reducible exact Nat.le_refl _ | with_reducible exact HBW.out.size | with_reducible exact HQ.out.size | omega | (simp; done) | (simp; omega) | (simp [later_size]; done) | (simp [later_size]; omega)) _))) (by first | rfl | (simp [later]; done))
    · have h3 : a = b := by omega
      subst h3
      rw [ord_eq]
      clear h1 h2
      go_enter Tryd.func70, Tryd.ntmps70
      go_wp2_with (first | (go_at_call 78; (refine (n_isNaN _ _).mono ?_); rintro _ _ ⟨rfl, os, rfl⟩) | ((with_reducible refine wp_region_later (by kernel_rfl) (by kernel_rfl) ?_); (repeat (first | go_big_quiet_skip | quiet_step ((fail)))); refine wpQuiet_nil ?_; rintro _ ⟨p, rfl⟩))
      go_ret
      exact GivesN.mk rfl (by (repeat (first | with_reducible exact Below.refl _ _ | with_reducible assumption | with_reducible refine Below.drew ?_ | with_reducible refine below_drewN ?_ _ | with_reducible exact HQ.out | with_reducible exact HBW.out | with_reducible refine below_ext ?_ _ _ | with_reducible refine below_then_later ?_ (by first | with_reducible exact Nat.le_refl _ | with_reducible exact HBW.out.size | with_reducible exact HQ.out.size | omega | (simp; done) | (simp; omega) | (simp [later_size]; done) | (simp [later_size]; omega)) _ | with_reducible refine Below.setCell ?_ (by first | with_reducible exact Nat.le_refl _ | with_reducible exact HBW.out.size | with_reducible exact HQ.out.size | omega | (simp; done) | (simp; omega) | (simp [later_size]; done) | (simp [later_size]; omega)) _ | with_reducible refine Below.alloc ?_ (by first | with_reducible exact Nat.le_refl _ | with_reducible exact HBW.out.size | with_reducible exact HQ.out.size | omega | (simp; done) | (simp; omega) | (simp [later_size]; done) | (simp [later_size]; omega)) _))) (by first | rfl | (simp [later]; done))
theorem n_cmpCompare_v (a b v : Int) (w : World) (h : ord a b = v) : Calls Tryd.prog 70 #[.int .i64 a, .int .i64 b] w (GivesN (.int .i64 v) w) := by
  subst h; exact n_cmpCompare a b w
set_option maxHeartbeats 1600000 in
theorem n_Compare (A B : Option Addr) (n c d : Nat) (xs ys : List Int) (w : World) (hn : xs.length = n) (hm : ys.length = n) (hn2 : n ≤ 1048576)
    (ha : Row encI 1 w A xs) (hb : Row encI 1 w B ys) : Calls Tryd.prog 51 #[.slice A n c, .slice B n d] w (GivesN (.int .i64 (cmpL xs ys)) w) := by
  have HA := Lib.hid ha
  have HB := Lib.hid hb
  have HN := Lib.hid hn
  have HM := Lib.hid hm
  clear ha hb hn hm
  go_enter Tryd.func51, Tryd.ntmps51
  go_wp2_with fail
  go_loopw [5, 6, 7, 8, 11] (fun s0 s1 s2 s3 s4 wr => ∃ k : Nat, s4 = .int .i64 k ∧ k ≤ n ∧ xs.take k = ys.take k ∧ ∃ os : Array Obj, wr = later w ⟨w.drawn, os⟩) (fun s0 s1 s2 s3 s4 _ => n - (intOf s4).toNat)
  case atStart => exact ⟨0, rfl, by omega, by simp, laterN_refl w⟩
  case round =>
    obtain ⟨k, rfl, hk, hT, os, rfl⟩ := hrel
    have HT := Lib.hid hT
    clear hT
    by_cases hlt : k < n
    · obtain ⟨x, hx⟩ : ∃ x, xs[k]? = some x := ⟨_, List.getElem?_eq_getElem (by rw [HN.out]; exact hlt)⟩
      obtain ⟨y, hy⟩ : ∃ y, ys[k]? = some y := ⟨_, List.getElem?_eq_getElem (by rw [HM.out]; exact hlt)⟩
      obtain ⟨b, off, rfl, hcx⟩ := HA.out.at_ hx
      obtain ⟨b', off', rfl, hcy⟩ := HB.out.at_ hy
      have HX := Lib.hid hx
      have HY := Lib.hid hy
      clear hx hy
      have hx0 := hcx 0 _ rfl
      have hy0 := hcy 0 _ rfl
      clear hcx hcy
      simp only [Nat.add_zero, Nat.mul_one] at *
      by_cases he : x = y
      · have HO := Lib.hid (he ▸ ord_eq x : ord x y = 0)
        have HE := Lib.hid he
        clear he
        go_wp2_with (first | (go_at_call 70; (refine (n_cmpCompare_v _ _ 0 _ HO.out).mono ?_); rintro _ _ ⟨rfl, os, rfl⟩) | ((with_reducible refine wp_region_later (by kernel_rfl) (by kernel_rfl) ?_); (repeat (first | go_big_quiet_skip | quiet_step ((fail)))); refine wpQuiet_nil ?_; rintro _ ⟨p, rfl⟩))
        all_goals
          go_roundw
          case rel => exact ⟨k + 1, by go_num, by omega, take_eq_succ HT.out HX.out HY.out HE.out, laterN_of (by (repeat (first | with_reducible exact Below.refl _ _ | with_reducible assumption | with_reducible refine Below.drew ?_ | with_reducible refine below_drewN ?_ _ | with_reducible exact HQ.out | with_reducible exact HBW.out | with_reducible refine below_ext ?_ _ _ | with_reducible refine below_then_later ?_ (by first | with_reducible exact Nat.le_refl _ | with_reducible exact HBW.out.size | with_reducible exact HQ.out.size | omega | (simp; done) | (simp; omega) | (simp [later_size]; done) | (simp [later_size]; omega)) _ | with_reducible refine Below.setCell ?_ (by first | with_reducible exact Nat.le_refl _ | with_reducible exact HBW.out.size | with_reducible exact HQ.out.size | omega | (simp; done) | (simp; omega) | (simp [later_size]; done) | (simp [later_size]; omega)) _ | with_reducible refine Below.alloc ?_ (by first | with_reducible exact Nat.le_refl _ | with_reducible exact HBW.out.size | with_reducible exact HQ.out.size | omega | (simp; done) | (simp; omega) | (simp [later_size]; done) | (simp [later_size]; omega)) _))) (by first | rfl | (simp [later]; done))⟩
          case measure => simp [intOf]; omega
      · have hr := cmpL_at xs ys k x y HT.out HX.out HY.out he
        rcases Int.lt_or_gt_of_ne he with hl | hl
        · have HO := Lib.hid (ord_lt hl)
          have HR := Lib.hid (hr.trans (ord_lt hl))
          clear hr hl he
          go_wp2_with (first | (go_at_call 70; (refine (n_cmpCompare_v _ _ (-1) _ HO.out).mono ?_); rintro _ _ ⟨rfl, os, rfl⟩) | ((with_reducible refine wp_region_later (by kernel_rfl) (by kernel_rfl) ?_); (repeat (first | go_big_quiet_skip | quiet_step ((fail)))); refine wpQuiet_nil ?_; rintro _ ⟨p, rfl⟩))
          all_goals
            go_ret
            exact GivesN.mk (ret_int HR.out.symm) (by (repeat (first | with_reducible exact Below.refl _ _ | with_reducible assumption | with_reducible refine Below.drew ?_ | with_reducible refine below_drewN ?_ _ | with_reducible exact HQ.out | with_reducible exact HBW.out | with_reducible refine below_ext ?_ _ _ | with_reducible refine below_then_later ?_ (by first | with_reducible exact Nat.le_refl _ | with_reducible exact HBW.out.size | with_reducible exact HQ.out.size | omega | (simp; done) | (simp; omega) | (simp [later_size]; done) | (simp [later_size]; omega)) _ | with_reducible refine Below.setCell ?_ (by first | with_reducible exact Nat.le_refl _ | with_reducible exact HBW.out.size | with_reducible exact HQ.out.size | omega | (simp; done) | (simp; omega) | (simp [later_size]; done) | (simp [later_size]; omega)) _ | with_reducible refine Below.alloc ?_ (by first | with_reducible exact Nat.le_refl _ | with_reducible exact HBW.out.size | with_reducible exact HQ.out.size | omega | (simp; done) | (simp; omega) | (simp [later_size]; done) | (simp [later_size]; omega)) _))) (by first | rfl | (simp [later]; done))
        · have HO := Lib.hid (ord_gt hl)
          have HR := Lib.hid (hr.trans (ord_gt hl))
          clear hr hl he
          go_wp2_with (first | (go_at_call 70; (refine (n_cmpCompare_v _ _ 1 _ HO.out).mono ?_); rintro _ _ ⟨rfl, os, rfl⟩) | ((with_reducible refine wp_region_later (by kernel_rfl) (by kernel_rfl) ?_); (repeat (first | go_big_quiet_skip | quiet_step ((fail)))); refine wpQuiet_nil ?_; rintro _ ⟨p, rfl⟩))
          all_goals
            go_ret
            exact GivesN.mk (ret_int HR.out.symm) (by (repeat (first | with_reducible exact Below.refl _ _ | with_reducible assumption | with_reducible refine Below.drew ?_ | with_reducible refine below_drewN ?_ _ | with_reducible exact HQ.out | with_reducible exact HBW.out | with_reducible refine below_ext ?_ _ _ | with_reducible refine below_then_later ?_ (by first | with_reducible exact Nat.le_refl _ | with_reducible exact HBW.out.size | with_reducible exact HQ.out.size | omega | (simp; done) | (simp; omega) | (simp [later_size]; done) | (simp [later_size]; omega)) _ | with_reducible refine Below.setCell ?_ (by first | with_reducible exact Nat.le_refl _ | with_reducible exact HBW.out.size | with_reducible exact HQ.out.size | omega | (simp; done) | (simp; omega) | (simp [later_size]; done) | (simp [later_size]; omega)) _ | with_reducible refine Below.alloc ?_ (by first | with_reducible exact Nat.le_refl _ | with_reducible exact HBW.out.size | with_reducible exact HQ.out.size | omega | (simp; done) | (simp; omega) | (simp [later_size]; done) | (simp [later_size]; omega)) _))) (by first | rfl | (simp [later]; done))
    · have hkn : k = n := by omega
      have he := eq_of_take (hkn ▸ HT.out) HN.out HM.out
      have HR := Lib.hid (he ▸ cmpL_eq xs : cmpL xs ys = 0)
      clear hkn he
      go_wp2_with (first | ((with_reducible refine wp_region_later (by kernel_rfl) (by kernel_rfl) ?_); (repeat (first | go_big_quiet_skip | quiet_step ((fail)))); refine wpQuiet_nil ?_; rintro _ ⟨p, rfl⟩))
      all_goals
        go_ret
        exact GivesN.mk (ret_int HR.out.symm) (by (repeat (first | with_reducible exact Below.refl _ _ | with_reducible assumption | with_reducible refine Below.drew ?_ | with_reducible refine below_drewN ?_ _ | with_reducible exact HQ.out | with_reducible exact HBW.out | with_reducible refine below_ext ?_ _ _ | with_reducible refine below_then_later ?_ (by first | with_reducible exact Nat.le_refl _ | with_reducible exact HBW.out.size | with_reducible exact HQ.out.size | omega | (simp; done) | (simp; omega) | (simp [later_size]; done) | (simp [later_size]; omega)) _ | with_reducible refine Below.setCell ?_ (by first | with_reducible exact Nat.le_refl _ | with_reducible exact HBW.out.size | with_reducible exact HQ.out.size | omega | (simp; done) | (simp; omega) | (simp [later_size]; done) | (simp [later_size]; omega)) _ | with_reducible refine Below.alloc ?_ (by first | with_reducible exact Nat.le_refl _ | with_reducible exact HBW.out.size | with_reducible exact HQ.out.size | omega | (simp; done) | (simp; omega) | (simp [later_size]; done) | (simp [later_size]; omega)) _))) (by first | rfl | (simp [later]; done))
set_option maxHeartbeats 400000 in
theorem n_orderOf (A B : Option Addr) (n c d : Nat) (xs ys : List Int) (w : World) (hn : xs.length = n) (hm : ys.length = n) (hn2 : n ≤ 1048576)
    (ha : Row encI 1 w A xs) (hb : Row encI 1 w B ys) : Calls Tryd.prog 32 #[.slice A n c, .slice B n d] w (GivesN (.int .i64 (cmpL xs ys)) w) := by
  have HI := Lib.hid (n_Compare A B n c d xs ys w hn hm hn2 ha hb)
  clear ha hb hn hm
  go_enter Tryd.func32, Tryd.ntmps32
  go_wp2_with (first | (go_at_call 51; (refine (HI.out).mono ?_); rintro _ _ ⟨rfl, os, rfl⟩) | ((with_reducible refine wp_region_later (by kernel_rfl) (by kernel_rfl) ?_); (repeat (first | go_big_quiet_skip | quiet_step ((fail)))); refine wpQuiet_nil ?_; rintro _ ⟨p, rfl⟩))
  go_ret
  exact GivesN.mk rfl (by (repeat (first | with_reducible exact Below.refl _ _ | with_reducible assumption | with_reducible refine Below.drew ?_ | with_reducible refine below_drewN ?_ _ | with_reducible exact HQ.out | with_reducible exact HBW.out | with_reducible refine below_ext ?_ _ _ | with_reducible refine below_then_later ?_ (by first | with_reducible exact Nat.le_refl _ | with_reducible exact HBW.out.size | with_reducible exact HQ.out.size | omega | (simp; done) | (simp; omega) | (simp [later_size]; done) | (simp [later_size]; omega)) _ | with_reducible refine Below.setCell ?_ (by first | with_reducible exact Nat.le_refl _ | with_reducible exact HBW.out.size | with_reducible exact HQ.out.size | omega | (simp; done) | (simp; omega) | (simp [later_size]; done) | (simp [later_size]; omega)) _ | with_reducible refine Below.alloc ?_ (by first | with_reducible exact Nat.le_refl _ | with_reducible exact HBW.out.size | with_reducible exact HQ.out.size | omega | (simp; done) | (simp; omega) | (simp [later_size]; done) | (simp [later_size]; omega)) _))) (by first | rfl | (simp [later]; done))
set_option maxHeartbeats 800000 in
theorem n_iStampOrder (a b c d : Int) (w : World) : Calls Tryd.prog 31 #[.agg #[.int .i64 a, .int .i64 b], .agg #[.int .i64 c, .int .i64 d]] w (GivesN (.int .i64 (stOrd a b c d)) w) := by
  go_enter Tryd.func31, Tryd.ntmps31
  go_wp2_with (first | (go_at_call 32; (refine (n_orderOf _ _ 2 _ _ [a, b] [c, d] _ rfl rfl (by omega) (row_pair (by simp [go_sem]) (by simp [go_sem])) (row_pair (by simp [go_sem]) (by simp [go_sem]))).mono ?_); rintro _ _ ⟨rfl, os, rfl⟩) | ((with_reducible refine wp_region_later (by kernel_rfl) (by kernel_rfl) ?_); (repeat (first | go_big_quiet_skip | quiet_step ((fail)))); refine wpQuiet_nil ?_; rintro _ ⟨p, rfl⟩))
  go_ret
  exact GivesN.mk rfl (by (repeat (first | with_reducible exact Below.refl _ _ | with_reducible assumption | with_reducible refine Below.drew ?_ | with_reducible refine below_drewN ?_ _ | with_reducible exact HQ.out | with_reducible exact HBW.out | with_reducible refine below_ext ?_ _ _ | with_reducible refine below_then_later ?_ (by first | with_reducible exact Nat.le_refl _ | with_reducible exact HBW.out.size | with_reducible exact HQ.out.size | omega | (simp; done) | (simp; omega) | (simp [later_size]; done) | (simp [later_size]; omega)) _ | with_reducible refine Below.setCell ?_ (by first | with_reducible exact Nat.le_refl _ | with_reducible exact HBW.out.size | with_reducible exact HQ.out.size | omega | (simp; done) | (simp; omega) | (simp [later_size]; done) | (simp [later_size]; omega)) _ | with_reducible refine Below.alloc ?_ (by first | with_reducible exact Nat.le_refl _ | with_reducible exact HBW.out.size | with_reducible exact HQ.out.size | omega | (simp; done) | (simp; omega) | (simp [later_size]; done) | (simp [later_size]; omega)) _))) (by first | rfl | (simp [later]; done))
theorem n_iStampOrder_v (a b c d v : Int) (w : World) (h : stOrd a b c d = v) : Calls Tryd.prog 31 #[.agg #[.int .i64 a, .int .i64 b], .agg #[.int .i64 c, .int .i64 d]] w (GivesN (.int .i64 v) w) := by
  subst h; exact n_iStampOrder a b c d w
set_option maxHeartbeats 1600000 in
theorem n_iRecordOrder (o a b k v o' a' b' k' v' : Int) (w : World) : Calls Tryd.prog 10 #[.agg #[.int .i64 o, .int .i64 a, .int .i64 b, .int .i64 k, .int .i64 v], .agg #[.int .i64 o', .int .i64 a', .int .i64 b', .int .i64 k', .int .i64 v']] w (GivesN (.int .i64 (rcOrd o a b k v o' a' b' k' v')) w) := by
  have hr := stOrd_rng a b a' b'
  by_cases h0 : stOrd a b a' b' = 0
  · have he : rcOrd o a b k v o' a' b' k' v' = cmpL [o, k, v] [o', k', v'] := by unfold rcOrd; rw [if_neg (by simpa using h0)]
    have HO := Lib.hid h0
    rw [he]
    clear he h0 hr
    go_enter Tryd.func10, Tryd.ntmps10
    go_wp2_with (first | (go_at_call 31; (refine (n_iStampOrder_v _ _ _ _ 0 _ HO.out).mono ?_); rintro _ _ ⟨rfl, os, rfl⟩) | (go_at_call 32; (refine (n_orderOf _ _ 3 _ _ [o, k, v] [o', k', v'] _ rfl rfl (by omega) (row_three (by simp [go_sem]) (by simp [go_sem]) (by simp [go_sem])) (row_three (by simp [go_sem]) (by simp [go_sem]) (by simp [go_sem]))).mono ?_); rintro _ _ ⟨rfl, os, rfl⟩) | ((with_reducible refine wp_region_later (by kernel_rfl) (by kernel_rfl) ?_); (repeat (first | go_big_quiet_skip | quiet_step ((fail)))); refine wpQuiet_nil ?_; rintro _ ⟨p, rfl⟩))
    go_ret
    exact GivesN.mk rfl (by (repeat (first | with_reducible exact Below.refl _ _ | with_reducible assumption | with_reducible refine Below.drew ?_ | with_reducible refine below_drewN ?_ _ | with_reducible exact HQ.out | with_reducible exact HBW.out | with_reducible refine below_ext ?_ _ _ | with_reducible refine below_then_later ?_ (by first | with_reducible exact Nat.le_refl _ | with_reducible exact HBW.out.size | with_reducible exact HQ.out.size | omega | (simp; done) | (simp; omega) | (simp [later_size]; done) | (simp [later_size]; omega)) _ | with_reducible refine Below.setCell ?_ (by first | with_reducible exact Nat.le_refl _ | with_reducible exact HBW.out.size | with_reducible exact HQ.out.size | omega | (simp; done) | (simp; omega) | (simp [later_size]; done) | (simp [later_size]; omega)) _ | with_reducible refine Below.alloc ?_ (by first | with_reducible exact Nat.le_refl _ | with_reducible exact HBW.out.size | with_reducible exact HQ.out.size | omega | (simp; done) | (simp; omega) | (simp [later_size]; done) | (simp [later_size]; omega)) _))) (by first | rfl | (simp [later]; done))
  · have he : rcOrd o a b k v o' a' b' k' v' = stOrd a b a' b' := by unfold rcOrd; rw [if_pos h0]
    rw [he]
    rcases (by omega : stOrd a b a' b' = -1 ∨ stOrd a b a' b' = 1) with h1 | h1
    · have HO := Lib.hid h1
      rw [h1]
      clear he h0 hr h1
      go_enter Tryd.func10, Tryd.ntmps10
      go_wp2_with (first | (go_at_call 31; (refine (n_iStampOrder_v _ _ _ _ (-1) _ HO.out).mono ?_); rintro _ _ ⟨rfl, os, rfl⟩) | ((with_reducible refine wp_region_later (by kernel_rfl) (by kernel_rfl) ?_); (repeat (first | go_big_quiet_skip | quiet_step ((fail)))); refine wpQuiet_nil ?_; rintro _ ⟨p, rfl⟩))
      go_ret
      exact GivesN.mk rfl (by (repeat (first | with_reducible exact Below.refl _ _ | with_reducible assumption | with_reducible refine Below.drew ?_ | with_reducible refine below_drewN ?_ _ | with_reducible exact HQ.out | with_reducible exact HBW.out | with_reducible refine below_ext ?_ _ _ | with_reducible refine below_then_later ?_ (by first | with_reducible exact Nat.le_refl _ | with_reducible exact HBW.out.size | with_reducible exact HQ.out.size | omega | (simp; done) | (simp; omega) | (simp [later_size]; done) | (simp [later_size]; omega)) _ | with_reducible refine Below.setCell ?_ (by first | with_reducible exact Nat.le_refl _ | with_reducible exact HBW.out.size | with_reducible exact HQ.out.size | omega | (simp; done) | (simp; omega) | (simp [later_size]; done) | (simp [later_size]; omega)) _ | with_reducible refine Below.alloc ?_ (by first | with_reducible exact Nat.le_refl _ | with_reducible exact HBW.out.size | with_reducible exact HQ.out.size | omega | (simp; done) | (simp; omega) | (simp [later_size]; done) | (simp [later_size]; omega)) _))) (by first | rfl | (simp [later]; done))
    · have HO := Lib.hid h1
      rw [h1]
      clear he h0 hr h1
      go_enter Tryd.func10, Tryd.ntmps10
      go_wp2_with (first | (go_at_call 31; (refine (n_iStampOrder_v _ _ _ _ 1 _ HO.out).mono ?_); rintro _ _ ⟨rfl, os, rfl⟩) | ((with_reducible refine wp_region_later (by kernel_rfl) (by kernel_rfl) ?_); (repeat (first | go_big_quiet_skip | quiet_step ((fail)))); refine wpQuiet_nil ?_; rintro _ ⟨p, rfl⟩))
      go_ret
      exact GivesN.mk rfl (by (repeat (first | with_reducible exact Below.refl _ _ | with_reducible assumption | with_reducible refine Below.drew ?_ | with_reducible refine below_drewN ?_ _ | with_reducible exact HQ.out | with_reducible exact HBW.out | with_reducible refine below_ext ?_ _ _ | with_reducible refine below_then_later ?_ (by first | with_reducible exact Nat.le_refl _ | with_reducible exact HBW.out.size | with_reducible exact HQ.out.size | omega | (simp; done) | (simp; omega) | (simp [later_size]; done) | (simp [later_size]; omega)) _ | with_reducible refine Below.setCell ?_ (by first | with_reducible exact Nat.le_refl _ | with_reducible exact HBW.out.size | with_reducible exact HQ.out.size | omega | (simp; done) | (simp; omega) | (simp [later_size]; done) | (simp [later_size]; omega)) _ | with_reducible refine Below.alloc ?_ (by first | with_reducible exact Nat.le_refl _ | with_reducible exact HBW.out.size | with_reducible exact HQ.out.size | omega | (simp; done) | (simp; omega) | (simp [later_size]; done) | (simp [later_size]; omega)) _))) (by first | rfl | (simp [later]; done))
end Go.Proofs.YtcjdfecajlgcmaaDoor
