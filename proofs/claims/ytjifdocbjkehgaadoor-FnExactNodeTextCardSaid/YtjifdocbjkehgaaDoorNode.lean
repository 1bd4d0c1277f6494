/-
  Nodes: the law's copies, sizes and comparing; NodeOk and Changed of the program and of the reference. Conditions: the length is at most 2^20, or fits an int.
-/
import Derived.Test.YtjifdocbjkehgaaDoorAnchor
import Derived.Test.YtjifdocbjkehgaaDoorPick
import Derived.Test.YtjifdocbjkehgaaDoorFn
import Derived.Tactics2
import Derived.Deep.DeepCutAuto
import Derived.Deep.CutBlock
namespace Go.Proofs.YtjifdocbjkehgaaDoor
open Go.RowKit
set_option linter.unusedVariables false

theorem infoInt : (Tryd.prog.info? 3).map (fun i => (i.zero, i.size, i.bytes)) = some (some (.int .i64 0), 1, 8) := by kernel_rfl
set_option maxHeartbeats 1600000 in
theorem c_toIntS (A : Option Addr) (n c : Nat) (xs : List Int) (w : World) (hn : xs.length = n) (hn2 : n ≤ 1048576)
    (ha : Row encI 1 w A xs) : Calls Tryd.prog 27 #[.slice A n c] w (Copied 3 (xs.flatMap encI).toArray n w) := by
  obtain ⟨i0, hi0, hz0, hs0, hb0⟩ := info_parts infoInt
  have HA := Lib.hid ha
  have HN := Lib.hid hn
  clear ha hn
  have hmk : ∀ u : World, (Instr.makeSlice 37 (.int .i64 (n : Int)) (.int .i64 (n : Int))).run Tryd.prog u = .ok (.slice (some ⟨u.heap.size, 0, Option.none⟩) n n) (u.alloc (.cells (fill encI 1 xs 0) 3)) := fun u => by
    rw [run_make_rowN _ _ i0 _ Tryd.underlying37 hi0 hz0 _ _ n n (Nat.le_refl _) (by rw [hb0]; omega) (by omega) u, hs0]
    have hz : (Value.int .i64 0).cells = Array.replicate 1 (Value.int .i64 0) := rfl
    rw [hz, madeCells_zero 1 n (by omega)]
    have hf : fill encI 1 xs 0 = (List.replicate (n * 1) (Value.int .i64 0)).toArray := by unfold fill; simp [HN.out]
    rw [hf]
  clear hi0 hz0 hs0 hb0
  go_enter Tryd.func27, Tryd.ntmps27
  go_wp2_with fail
  go_loopw [4] (fun i wr => ∃ k : Nat, i = .int .i64 k ∧ k ≤ n ∧ ∃ p : Later, wr = later (w.alloc (Obj.cells (fill encI 1 xs k) 3)) p) (fun i _ => n - (intOf i).toNat)
  case atStart => exact ⟨0, rfl, by omega, later_refl _⟩
  case round =>
    obtain ⟨k, rfl, hk, p, rfl⟩ := hrel
    clear hmk
    by_cases hlt : k < n
    · obtain ⟨x, hx⟩ : ∃ x, xs[k]? = some x := ⟨_, List.getElem?_eq_getElem (by rw [HN.out]; exact hlt)⟩
      obtain ⟨b, off, rfl, hcx⟩ := HA.out.at_ hx
      have HX := Lib.hid hx
      have hz0 := fill_get encI 1 (fun _ => rfl) xs k (by rw [HN.out]; exact hlt) 0 (by omega)
      have hbl := World.block_lt_of_cell? _ _ (hcx 0 _ rfl)
      simp only at hbl
      have hble := Nat.le_of_lt hbl
      have hx0 := hcx 0 _ rfl
      have hsz := fill_size encI 1 (fun _ => rfl) xs k (by rw [HN.out]; omega)
      have HS := Lib.hid (fill_succ encI 1 (fun _ => rfl) xs k _ hx)
      clear hcx hx hsz
      simp only [Nat.add_zero, Nat.mul_one] at *
      generalize hF : fill encI 1 xs k = F at *
      clear hF
      go_wp2_with (first | ((with_reducible refine wp_region_later (by kernel_rfl) (by kernel_rfl) ?_); (repeat (first | go_big_quiet_skip | quiet_step ((fail)))); refine wpQuiet_nil ?_; rintro _ ⟨p, rfl⟩))
      all_goals
        go_roundw
        case rel => exact ⟨k + 1, by go_num, by omega, _, by rw [← HS.out]; rfl⟩
        case measure => simp [intOf]; omega
    · have hkn : k = n := by omega
      subst hkn
      go_wp2_with (first | ((with_reducible refine wp_region_later (by kernel_rfl) (by kernel_rfl) ?_); (repeat (first | go_big_quiet_skip | quiet_step ((fail)))); refine wpQuiet_nil ?_; rintro _ ⟨p, rfl⟩))
      go_ret
      exact ⟨rfl, p, by rw [← HN.out, fill_all]⟩
theorem m_toIntS (A : Option Addr) (n c : Nat) (xs : List Int) (w : World) (hn : xs.length = n) (hn2 : n ≤ 1048576) (ha : Row encI 1 w A xs) : Calls Tryd.prog 27 #[.slice A n c] w (MadeOwn encI 1 id xs w) :=
  MadeOwn.of_copied lenI hn (by unfold maxLen; omega) (c_toIntS A n c xs w hn hn2 ha)
set_option maxHeartbeats 1600000 in
theorem c_toNode (kd a b : Int) (A : Option Addr) (n c : Nat) (xs : List Int) (w : World) (hn : xs.length = n) (hn2 : n ≤ 1048576)
    (ha : Row encI 1 w A xs) : Calls Tryd.prog 18 #[.agg #[.int .i64 kd, .int .i64 a, .int .i64 b, .slice A n c]] w (MadeOwn encI 1 (fun v => .agg #[.int .i64 kd, .int .i64 a, .int .i64 b, v]) xs w) := by
  have HA := Lib.hid ha
  have HN := Lib.hid hn
  clear ha hn
  go_enter Tryd.func18, Tryd.ntmps18
  go_wp2_with (go_at_call 27; (with_reducible refine (m_toIntS A n c xs _ HN.out hn2 (by (repeat (first | with_reducible exact HA.out | with_reducible refine Row.later ?_ _ | with_reducible refine Row.alloc ?_ _)); done)).mono ?_); rintro _ w2 ⟨A2, n2, c2, rfl, hl, hc, hx, hO, p2, rfl⟩; have HL := Lib.hid hl; have HO := Lib.hid hO; clear hl hO)
  refine bodyPost_ret (v := .agg #[.int .i64 kd, .int .i64 a, .int .i64 b, .slice A2 n2 c2]) (by simp [results, Tryd.results18, go_sem]) rfl ?_
  exact ⟨A2, n2, c2, rfl, HL.out, hc, hx, (own_swap (by simp) (by simp) HO.out).mono (by simp <;> omega), later_of_below (by (repeat (first | with_reducible exact Below.refl _ _ | with_reducible assumption | with_reducible refine Below.drew ?_ | with_reducible refine below_drewN ?_ _ | with_reducible exact HQ.out | with_reducible exact HBW.out | with_reducible refine below_ext ?_ _ _ | with_reducible refine below_then_later ?_ (by first | with_reducible exact Nat.le_refl _ | with_reducible exact HBW.out.size | with_reducible exact HQ.out.size | omega | (simp; done) | (simp; omega) | (simp [later_size]; done) | (simp [later_size]; omega)) _ | with_reducible refine Below.setCell ?_ (by first | with_reducible exact Nat.le_refl _ | with_reducible exact HBW.out.size | with_reducible exact HQ.out.size | omega | (simp; done) | (simp; omega) | (simp [later_size]; done) | (simp [later_size]; omega)) _ | with_reducible refine Below.alloc ?_ (by first | with_reducible exact Nat.le_refl _ | with_reducible exact HBW.out.size | with_reducible exact HQ.out.size | omega | (simp; done) | (simp; omega) | (simp [later_size]; done) | (simp [later_size]; omega)) _)))⟩
theorem c_szIntS_ok (A : Option Addr) (n c : Nat) (left : Int) (w : World) (h0 : (n : Int) ≤ left) (h1 : left ≤ 1048576) : Calls Tryd.prog 25 #[.slice A n c, .int .i64 left] w (Gives (.int .i64 (left - n)) w) := by
  go_enter Tryd.func25, Tryd.ntmps25
  go_wp2_with (first | ((with_reducible refine wp_region_later (by kernel_rfl) (by kernel_rfl) ?_); (repeat (first | go_big_quiet_skip | quiet_step ((fail)))); refine wpQuiet_nil ?_; rintro _ ⟨p, rfl⟩))
  go_ret
  exact Gives.mk rfl (by (repeat (first | with_reducible exact Below.refl _ _ | with_reducible assumption | with_reducible refine Below.drew ?_ | with_reducible refine below_drewN ?_ _ | with_reducible exact HQ.out | with_reducible exact HBW.out | with_reducible refine below_ext ?_ _ _ | with_reducible refine below_then_later ?_ (by first | with_reducible exact Nat.le_refl _ | with_reducible exact HBW.out.size | with_reducible exact HQ.out.size | omega | (simp; done) | (simp; omega) | (simp [later_size]; done) | (simp [later_size]; omega)) _ | with_reducible refine Below.setCell ?_ (by first | with_reducible exact Nat.le_refl _ | with_reducible exact HBW.out.size | with_reducible exact HQ.out.size | omega | (simp; done) | (simp; omega) | (simp [later_size]; done) | (simp [later_size]; omega)) _ | with_reducible refine Below.alloc ?_ (by first | with_reducible exact Nat.le_refl _ | with_reducible exact HBW.out.size | with_reducible exact HQ.out.size | omega | (simp; done) | (simp; omega) | (simp [later_size]; done) | (simp [later_size]; omega)) _)))
theorem c_szIntS_big (A : Option Addr) (n c : Nat) (left : Int) (w : World) (h0 : left < (n : Int)) (h1 : left ≤ 1048576) (h2 : 0 ≤ left) (h3 : n ≤ 9223372036854775807) : Calls Tryd.prog 25 #[.slice A n c, .int .i64 left] w (Gives (.int .i64 (-1)) w) := by
  go_enter Tryd.func25, Tryd.ntmps25
  go_wp2_with (first | ((with_reducible refine wp_region_later (by kernel_rfl) (by kernel_rfl) ?_); (repeat (first | go_big_quiet_skip | quiet_step ((fail)))); refine wpQuiet_nil ?_; rintro _ ⟨p, rfl⟩))
  go_ret
  exact Gives.mk rfl (by (repeat (first | with_reducible exact Below.refl _ _ | with_reducible assumption | with_reducible refine Below.drew ?_ | with_reducible refine below_drewN ?_ _ | with_reducible exact HQ.out | with_reducible exact HBW.out | with_reducible refine below_ext ?_ _ _ | with_reducible refine below_then_later ?_ (by first | with_reducible exact Nat.le_refl _ | with_reducible exact HBW.out.size | with_reducible exact HQ.out.size | omega | (simp; done) | (simp; omega) | (simp [later_size]; done) | (simp [later_size]; omega)) _ | with_reducible refine Below.setCell ?_ (by first | with_reducible exact Nat.le_refl _ | with_reducible exact HBW.out.size | with_reducible exact HQ.out.size | omega | (simp; done) | (simp; omega) | (simp [later_size]; done) | (simp [later_size]; omega)) _ | with_reducible refine Below.alloc ?_ (by first | with_reducible exact Nat.le_refl _ | with_reducible exact HBW.out.size | with_reducible exact HQ.out.size | omega | (simp; done) | (simp; omega) | (simp [later_size]; done) | (simp [later_size]; omega)) _)))
theorem c_szNode_ok (kd a b : Int) (A : Option Addr) (n c : Nat) (left : Int) (w : World) (h0 : (n : Int) ≤ left) (h1 : left ≤ 1048576) : Calls Tryd.prog 16 #[.agg #[.int .i64 kd, .int .i64 a, .int .i64 b, .slice A n c], .int .i64 left] w (Gives (.int .i64 (left - n)) w) := by
  go_enter Tryd.func16, Tryd.ntmps16
  go_wp2_with (first | (go_at_call 25; (refine (c_szIntS_ok _ _ _ _ _ h0 h1).mono ?_); rintro _ _ ⟨rfl, p, rfl⟩) | ((with_reducible refine wp_region_later (by kernel_rfl) (by kernel_rfl) ?_); (repeat (first | go_big_quiet_skip | quiet_step ((first | (go_at_call 25; first | exact calls_later (c_szIntS_ok _ _ _ _ _ h0 h1) | exact calls_later2 (c_szIntS_ok _ _ _ _ _ h0 h1)))))); refine wpQuiet_nil ?_; rintro _ ⟨p, rfl⟩))
  go_ret
  exact Gives.mk rfl (by (repeat (first | with_reducible exact Below.refl _ _ | with_reducible assumption | with_reducible refine Below.drew ?_ | with_reducible refine below_drewN ?_ _ | with_reducible exact HQ.out | with_reducible exact HBW.out | with_reducible refine below_ext ?_ _ _ | with_reducible refine below_then_later ?_ (by first | with_reducible exact Nat.le_refl _ | with_reducible exact HBW.out.size | with_reducible exact HQ.out.size | omega | (simp; done) | (simp; omega) | (simp [later_size]; done) | (simp [later_size]; omega)) _ | with_reducible refine Below.setCell ?_ (by first | with_reducible exact Nat.le_refl _ | with_reducible exact HBW.out.size | with_reducible exact HQ.out.size | omega | (simp; done) | (simp; omega) | (simp [later_size]; done) | (simp [later_size]; omega)) _ | with_reducible refine Below.alloc ?_ (by first | with_reducible exact Nat.le_refl _ | with_reducible exact HBW.out.size | with_reducible exact HQ.out.size | omega | (simp; done) | (simp; omega) | (simp [later_size]; done) | (simp [later_size]; omega)) _)))
theorem c_szNode_big (kd a b : Int) (A : Option Addr) (n c : Nat) (left : Int) (w : World) (h0 : left < (n : Int)) (h1 : left ≤ 1048576) (h2 : 0 ≤ left) (h3 : n ≤ 9223372036854775807) : Calls Tryd.prog 16 #[.agg #[.int .i64 kd, .int .i64 a, .int .i64 b, .slice A n c], .int .i64 left] w (Gives (.int .i64 (-1)) w) := by
  go_enter Tryd.func16, Tryd.ntmps16
  go_wp2_with (first | (go_at_call 25; (refine (c_szIntS_big _ _ _ _ _ h0 h1 h2 h3).mono ?_); rintro _ _ ⟨rfl, p, rfl⟩) | ((with_reducible refine wp_region_later (by kernel_rfl) (by kernel_rfl) ?_); (repeat (first | go_big_quiet_skip | quiet_step ((first | (go_at_call 25; first | exact calls_later (c_szIntS_big _ _ _ _ _ h0 h1 h2 h3) | exact calls_later2 (c_szIntS_big _ _ _ _ _ h0 h1 h2 h3)))))); refine wpQuiet_nil ?_; rintro _ ⟨p, rfl⟩))
  go_ret
  exact Gives.mk rfl (by (repeat (first | with_reducible exact Below.refl _ _ | with_reducible assumption | with_reducible refine Below.drew ?_ | with_reducible refine below_drewN ?_ _ | with_reducible exact HQ.out | with_reducible exact HBW.out | with_reducible refine below_ext ?_ _ _ | with_reducible refine below_then_later ?_ (by first | with_reducible exact Nat.le_refl _ | with_reducible exact HBW.out.size | with_reducible exact HQ.out.size | omega | (simp; done) | (simp; omega) | (simp [later_size]; done) | (simp [later_size]; omega)) _ | with_reducible refine Below.setCell ?_ (by first | with_reducible exact Nat.le_refl _ | with_reducible exact HBW.out.size | with_reducible exact HQ.out.size | omega | (simp; done) | (simp; omega) | (simp [later_size]; done) | (simp [later_size]; omega)) _ | with_reducible refine Below.alloc ?_ (by first | with_reducible exact Nat.le_refl _ | with_reducible exact HBW.out.size | with_reducible exact HQ.out.size | omega | (simp; done) | (simp; omega) | (simp [later_size]; done) | (simp [later_size]; omega)) _)))
theorem gives_b {P : Program} {f : FuncId} {args : Array Value} {w : World} {x y : Bool} (h : x = y) (hc : Calls P f args w (Gives (.bool x) w)) : Calls P f args w (Gives (.bool y) w) := by subst h; exact hc
set_option maxHeartbeats 1600000 in
theorem c_eqNode (kd a b kd' a' b' : Int) (A B : Option Addr) (n m c d : Nat) (xs ys : List Int) (w : World) (z : Bool) (hn : xs.length = n) (hm : ys.length = m) (hn2 : n ≤ 9223372036854775807) (hm2 : m ≤ 9223372036854775807)
    (ha : Row encI 1 w A xs) (hb : Row encI 1 w B ys) (hz : decide (kd = kd' ∧ a = a' ∧ b = b' ∧ xs = ys) = true) : Calls Tryd.prog 20 #[.agg #[.int .i64 kd, .int .i64 a, .int .i64 b, .slice A n c], .agg #[.int .i64 kd', .int .i64 a', .int .i64 b', .slice B m d]] w (Gives (.bool true) w) := by
  have HA := Lib.hid ha
  have HB := Lib.hid hb
  have HN := Lib.hid hn
  have HM := Lib.hid hm
  simp only [decide_eq_true_eq] at hz
  obtain ⟨rfl, rfl, rfl, hq⟩ := hz
  have HQ' := Lib.hid (show decide (xs = ys) = true by simpa using hq)
  clear ha hb hn hm hq
  go_enter Tryd.func20, Tryd.ntmps20
  go_wp2_with (first | (go_at_call 29; (refine (gives_b HQ'.out (c_eqIntS _ _ _ _ _ _ _ _ _ HN.out HM.out hn2 hm2 (by (repeat (first | with_reducible exact HA.out | with_reducible refine Row.later ?_ _ | with_reducible refine Row.alloc ?_ _)); done) (by (repeat (first | with_reducible exact HB.out | with_reducible refine Row.later ?_ _ | with_reducible refine Row.alloc ?_ _)); done))).mono ?_); rintro _ _ ⟨rfl, p, rfl⟩) | ((with_reducible refine wp_region_later (by kernel_rfl) (by kernel_rfl) ?_); (repeat (first | go_big_quiet_skip | quiet_step ((first | (go_at_call 29; first | exact calls_later (gives_b HQ'.out (c_eqIntS _ _ _ _ _ _ _ _ _ HN.out HM.out hn2 hm2 (by (repeat (first | with_reducible exact HA.out | with_reducible refine Row.later ?_ _ | with_reducible refine Row.alloc ?_ _)); done) (by (repeat (first | with_reducible exact HB.out | with_reducible refine Row.later ?_ _ | with_reducible refine Row.alloc ?_ _)); done))) | exact calls_later2 (gives_b HQ'.out (c_eqIntS _ _ _ _ _ _ _ _ _ HN.out HM.out hn2 hm2 (by (repeat (first | with_reducible exact HA.out | with_reducible refine Row.later ?_ _ | with_reducible refine Row.alloc ?_ _)); done) (by (repeat (first | with_reducible exact HB.out | with_reducible refine Row.later ?_ _ | with_reducible refine Row.alloc ?_ _)); done)))))))); refine wpQuiet_nil ?_; rintro _ ⟨p, rfl⟩))
  go_ret
  exact Gives.mk rfl (by (repeat (first | with_reducible exact Below.refl _ _ | with_reducible assumption | with_reducible refine Below.drew ?_ | with_reducible refine below_drewN ?_ _ | with_reducible exact HQ.out | with_reducible exact HBW.out | with_reducible refine below_ext ?_ _ _ | with_reducible refine below_then_later ?_ (by first | with_reducible exact Nat.le_refl _ | with_reducible exact HBW.out.size | with_reducible exact HQ.out.size | omega | (simp; done) | (simp; omega) | (simp [later_size]; done) | (simp [later_size]; omega)) _ | with_reducible refine Below.setCell ?_ (by first | with_reducible exact Nat.le_refl _ | with_reducible exact HBW.out.size | with_reducible exact HQ.out.size | omega | (simp; done) | (simp; omega) | (simp [later_size]; done) | (simp [later_size]; omega)) _ | with_reducible refine Below.alloc ?_ (by first | with_reducible exact Nat.le_refl _ | with_reducible exact HBW.out.size | with_reducible exact HQ.out.size | omega | (simp; done) | (simp; omega) | (simp [later_size]; done) | (simp [later_size]; omega)) _)))
def ndA (kd a : Int) : Bool := if kd = 2 then decide (0 ≤ a ∧ a ≤ 999) else if kd = 3 then decide (1 ≤ a ∧ a ≤ 10) else if kd = 4 then decide (0 ≤ a ∧ a ≤ 99) else decide (a = 0)
def ndB (kd a b : Int) : Bool := if kd = 3 then decide (0 ≤ b ∧ b ≤ a - 1) else decide (b = 0)
def ndAB (kd a b : Int) : Bool := decide (1 ≤ kd ∧ kd ≤ 8) && (ndA kd a && ndB kd a b)
def dst : List Int → Bool
  | [x, y] => !decide (x = y)
  | _ => true
def outBad (x : Int) : Bool := !decide (0 ≤ x ∧ x ≤ 7)
def ndL (kd : Int) (xs : List Int) : Bool := decide (xs.length ≤ 2) && !decide (kd = 8 ∧ 0 < xs.length)
def nodeOk (kd a b : Int) (xs : List Int) : Bool := ndAB kd a b && (ndL kd xs && (dst xs && !xs.any outBad))
def Mid (P : Prop) (B wx : World) : Prop := P ∧ ∃ p : Later, wx = later B p
end Go.Proofs.YtjifdocbjkehgaaDoor
