/-
  Links: copies; CreditBack, SendOn, TakeFrom of the program and of the reference. Conditions: the length is at most 2^32.
-/
import Derived.Test.YtcmhmdccfihhiaaLink
import Derived.Test.YtcmhmdccfihhiaaAnchor
import Derived.Test.YtcmhmdccfihhiaaBlk
import Derived.RegionTactic
import Derived.BigRegion
namespace Go.Proofs.Ytcmhmdccfihhiaa
open Go.RowKit
set_option linter.unusedVariables false

/-- the call made a slice that holds xs, in a row of its own -/
def MadeRow {α : Type} (E : TypeId) (enc : α → List Value) (k : Nat) (mk : Value → Value) (xs : List α) (w : World) (e : Ending) (w' : World) : Prop :=
  ∃ A n c, e = .returned (mk (.slice A n c)) ∧ xs.length = n ∧ n ≤ c ∧ c ≤ maxLen ∧ w'.ownsRow w.heap.size E k (.slice A n c) n (xs.flatMap enc) ∧ ∃ p : Later, w' = later w p
theorem ownsRow_slice {w : World} {base : Nat} {e : TypeId} {size : Nat} {v : Value} {n : Nat} {xs : List Value} (h : w.ownsRow base e size v n xs) : ∃ A c, v = .slice A n c ∧ n ≤ c ∧ c ≤ maxLen := by
  obtain ⟨h1, h2⟩ := h
  rcases h2 with ⟨rfl, rfl⟩ | ⟨g, cap, cur, rfl, hb, hg, hnc, hcm, hr⟩
  · exact ⟨_, _, rfl, Nat.le_refl _, by simp [maxLen]⟩
  · exact ⟨_, _, rfl, hnc, hcm⟩
theorem ownsRow_lo {w : World} {base base' : Nat} {e : TypeId} {size : Nat} {v : Value} {n : Nat} {xs : List Value} (h : w.ownsRow base e size v n xs) (hb : base' ≤ base) : w.ownsRow base' e size v n xs := by
  obtain ⟨h1, h2⟩ := h
  refine ⟨h1, ?_⟩
  rcases h2 with h2 | ⟨g, cap, cur, h2, hb2, hr⟩
  · exact .inl h2
  · exact .inr ⟨g, cap, cur, h2, Nat.le_trans hb hb2, hr⟩
theorem MadeRow.own {α : Type} {E : TypeId} {enc : α → List Value} {k : Nat} {mk : Value → Value} {xs : List α} {w w' : World} {e : Ending} (hk : ∀ x, (enc x).length = k) (h : MadeRow E enc k mk xs w e w') : MadeOwn enc k mk xs w e w' := by
  obtain ⟨A, n, c, he, hn, _, _, ho, p, rfl⟩ := h
  exact MadeOwn.of_row' he hk ho hn (Nat.le_refl _) (below_later w p)
theorem ownsRow_swap {B B' : World} {p : Later} {base : Nat} {e : TypeId} {size : Nat} {v : Value} {n : Nat} {xs : List Value} (hs : B'.heap.size = B.heap.size) (hl : B.heap.size ≤ base) (h : (later B p).ownsRow base e size v n xs) : (later B' p).ownsRow base e size v n xs := by
  obtain ⟨h1, h2⟩ := h
  refine ⟨h1, ?_⟩
  rcases h2 with h2 | ⟨g, cap, cur, h2, hb, hg, hr⟩
  · exact .inl h2
  · refine .inr ⟨g, cap, cur, h2, hb, ?_, hr⟩
    rw [← hg]
    unfold later
    simp only
    rw [Array.getElem?_append_right (by omega), Array.getElem?_append_right (by omega), hs]
theorem ownsRow_later2 {w : World} {base : Nat} {e : TypeId} {size : Nat} {v : Value} {n : Nat} {xs : List Value} {p : Later} (h : (later w p).ownsRow base e size v n xs) (m : Nat) (os : Array Obj) : (later w ⟨m, p.os ++ os⟩).ownsRow base e size v n xs := by
  have := ownsRow_later h ⟨m, os⟩
  rwa [later_later] at this
theorem infoRcd : (Try.prog.info? 33).map (fun i => (i.zero, i.size, i.bytes)) = some (some (.agg #[.int .i64 0, .int .i64 0, .int .i64 0, .int .i64 0, .int .i64 0]), 5, 40) := by kernel_rfl

set_option maxHeartbeats 800000 in
theorem r_copyRecords (A : Option Addr) (n c : Nat) (xs : List (Int × (Int × Int) × Int × Int)) (w : World) (hn : xs.length = n) (hn2 : n ≤ 4294967296)
    (ha : Row encR 5 w A xs) : Calls Try.prog 43 #[.slice A n c] w (MadeRow 33 encR 5 id xs w) := by
  obtain ⟨i0, hi0, hz0, hs0, hb0⟩ := info_parts infoRcd
  have HI := Lib.hid hi0
  have HZ := Lib.hid hz0
  have HS := Lib.hid hs0
  have HB := Lib.hid hb0
  clear hi0 hz0 hs0 hb0
  have HA := Lib.hid ha
  have HN := Lib.hid hn
  clear ha hn
  go_enter Try.func43, Try.ntmps43
  go_wp2_with (at_builtin; refine wpList_append_row _ encR 5 lenR (by decide) oneR rfl _ _ 26 rfl w.heap.size 33 i0 _ 40 Try.underlying26 HI.out HZ.out HS.out HB.out rfl (.slice Option.none 0 0) 0 [] rfl (World.ownsRow_nil _ _ _ _) A n c xs rfl HN.out HA.out (by unfold maxLen; omega) (by omega) (Nat.le_refl _) ?_; intro v1 w1 hown hg hbe; rw [List.nil_append, Nat.zero_add] at hown; obtain ⟨A2, c2, rfl, hc2, hm2⟩ := ownsRow_slice hown; have HO := Lib.hid hown; have HG := Lib.hid (hbe w.heap.size w (Below.refl _ _) (Nat.le_refl _) (Nat.le_refl _)); clear hown hg hbe)
  go_ret
  exact ⟨_, n, _, rfl, HN.out, hc2, hm2, HO.out, later_of_below HG.out⟩
set_option maxHeartbeats 1600000 in
theorem c_iCopyLink (cap cr bk st gt : Int) (A : Option Addr) (n c : Nat) (xs : List (Int × (Int × Int) × Int × Int)) (w : World) (hn : xs.length = n) (hn2 : n ≤ 4294967296)
    (ha : Row encR 5 w A xs) : Calls Try.prog 28 #[.agg #[.int .i64 cap, .slice A n c, .int .i64 cr, .int .i64 bk, .int .i64 st, .int .i64 gt]] w (MadeRow 33 encR 5 (fun v => .agg #[.int .i64 cap, v, .int .i64 cr, .int .i64 bk, .int .i64 st, .int .i64 gt]) xs w) := by
  have HA := Lib.hid ha
  have HN := Lib.hid hn
  clear ha hn
  go_enter Try.func28, Try.ntmps28
  go_wp2_with (go_at_call 43; (with_reducible refine (r_copyRecords A n c xs _ HN.out hn2 (by (repeat (first | with_reducible exact HA.out | with_reducible refine Row.later ?_ _ | with_reducible refine Row.alloc ?_ _ | with_reducible refine row_later2 ?_ _ _)); done)).mono ?_); rintro _ w2 ⟨A2, n2, c2, rfl, hl, hc2, hm2, hO, p2, rfl⟩; have HL := Lib.hid hl; have HO := Lib.hid hO; clear hl hO)
  refine bodyPost_ret (v := .agg #[.int .i64 cap, .slice A2 n2 c2, .int .i64 cr, .int .i64 bk, .int .i64 st, .int .i64 gt]) (by simp [results, Try.results28, go_sem]) rfl ?_
  exact ⟨A2, n2, c2, rfl, HL.out, hc2, hm2, ownsRow_lo (ownsRow_swap (by simp) (by simp) HO.out) (by first | (simp; done) | (simp; omega) | omega), later_of_below (by (repeat (first | with_reducible exact Below.refl _ _ | with_reducible assumption | with_reducible refine Below.drew ?_ | with_reducible refine below_drewN ?_ _ | with_reducible exact HQ.out | with_reducible exact HBW.out | with_reducible refine below_ext ?_ _ _ | with_reducible refine below_then_later ?_ (by first | with_reducible exact Nat.le_refl _ | with_reducible exact HBW.out.size | with_reducible exact HQ.out.size | omega | (simp; done) | (simp; omega) | (simp [later_size]; done) | (simp [later_size]; omega)) _ | with_reducible refine Below.setCell ?_ (by first | with_reducible exact Nat.le_refl _ | with_reducible exact HBW.out.size | with_reducible exact HQ.out.size | omega | (simp; done) | (simp; omega) | (simp [later_size]; done) | (simp [later_size]; omega)) _ | with_reducible refine Below.alloc ?_ (by first | with_reducible exact Nat.le_refl _ | with_reducible exact HBW.out.size | with_reducible exact HQ.out.size | omega | (simp; done) | (simp; omega) | (simp [later_size]; done) | (simp [later_size]; omega)) _)))⟩
set_option maxHeartbeats 1600000 in
theorem c_sCopyLink (cap cr bk st gt : Int) (A : Option Addr) (n c : Nat) (xs : List (Int × (Int × Int) × Int × Int)) (w : World) (hn : xs.length = n) (hn2 : n ≤ 4294967296)
    (ha : Row encR 5 w A xs) : Calls Try.prog 34 #[.agg #[.int .i64 cap, .slice A n c, .int .i64 cr, .int .i64 bk, .int .i64 st, .int .i64 gt]] w (MadeRow 33 encR 5 (fun v => .agg #[.int .i64 cap, v, .int .i64 cr, .int .i64 bk, .int .i64 st, .int .i64 gt]) xs w) := by
  obtain ⟨i0, hi0, hz0, hs0, hb0⟩ := info_parts infoRcd
  have HI := Lib.hid hi0
  have HZ := Lib.hid hz0
  have HS := Lib.hid hs0
  have HB := Lib.hid hb0
  clear hi0 hz0 hs0 hb0
  have HA := Lib.hid ha
  have HN := Lib.hid hn
  clear ha hn
  go_enter Try.func34, Try.ntmps34
  go_wp2_with (at_builtin; refine wpList_append_row _ encR 5 lenR (by decide) oneR rfl (.tmp 3) (.tmp 5) 26 rfl (w.heap.size + 2) 33 i0 _ 40 Try.underlying26 HI.out HZ.out HS.out HB.out rfl _ 0 [] rfl (own_empty _ _ _ _ _ (by first | with_reducible rfl | (simp; done) | (simp [later_size]; done) | (simp [later_size]; omega)) (by first | exact Nat.le_refl _ | (simp; done) | (simp; omega) | (simp [later_size]; done) | (simp [later_size]; omega))) _ _ _ xs rfl HN.out (by (repeat (first | with_reducible exact HA.out | with_reducible refine Row.later ?_ _ | with_reducible refine Row.alloc ?_ _ | with_reducible refine row_later2 ?_ _ _)); done) (by unfold maxLen; omega) (by omega) (by first | exact Nat.le_refl _ | (simp; done) | (simp; omega) | (simp [later_size]; done) | (simp [later_size]; omega)) ?_; intro v2 w2 hown hg hbe; rw [List.nil_append, Nat.zero_add] at hown; obtain ⟨A2, c2, rfl, hc2, hm2⟩ := ownsRow_slice hown; have HO := Lib.hid hown; have hG := hbe (w.heap.size + 2) ((w.alloc (Obj.cells #[.int .i64 cap, .slice A n c, .int .i64 cr, .int .i64 bk, .int .i64 st, .int .i64 gt] 28)).alloc (Obj.cells #[.int .i64 0, .slice Option.none 0 0, .int .i64 0, .int .i64 0, .int .i64 0, .int .i64 0] 28)) (by (repeat (first | with_reducible exact Below.refl _ _ | with_reducible assumption | with_reducible refine Below.drew ?_ | with_reducible refine below_drewN ?_ _ | with_reducible exact HQ.out | with_reducible exact HBW.out | with_reducible refine below_ext ?_ _ _ | with_reducible refine below_then_later ?_ (by first | with_reducible exact Nat.le_refl _ | with_reducible exact HBW.out.size | with_reducible exact HQ.out.size | omega | (simp; done) | (simp; omega) | (simp [later_size]; done) | (simp [later_size]; omega)) _ | with_reducible refine Below.setCell ?_ (by first | with_reducible exact Nat.le_refl _ | with_reducible exact HBW.out.size | with_reducible exact HQ.out.size | omega | (simp; done) | (simp; omega) | (simp [later_size]; done) | (simp [later_size]; omega)) _ | with_reducible refine Below.alloc ?_ (by first | with_reducible exact Nat.le_refl _ | with_reducible exact HBW.out.size | with_reducible exact HQ.out.size | omega | (simp; done) | (simp; omega) | (simp [later_size]; done) | (simp [later_size]; omega)) _))) (by first | exact Nat.le_refl _ | (simp; done) | (simp; omega) | (simp [later_size]; done) | (simp [later_size]; omega)) (Nat.le_refl _); obtain ⟨q2, rfl⟩ := later_of_below (w := (w.alloc (Obj.cells #[.int .i64 cap, .slice A n c, .int .i64 cr, .int .i64 bk, .int .i64 st, .int .i64 gt] 28)).alloc (Obj.cells #[.int .i64 0, .slice Option.none 0 0, .int .i64 0, .int .i64 0, .int .i64 0, .int .i64 0] 28)) (by simpa using hG); clear hown hg hbe hG)
  refine bodyPost_ret (v := .agg #[.int .i64 cap, .slice A2 n c2, .int .i64 cr, .int .i64 bk, .int .i64 st, .int .i64 gt]) (by simp [results, Try.results34, go_sem]) rfl ?_
  exact ⟨A2, n, c2, rfl, HN.out, hc2, hm2, ownsRow_lo (ownsRow_swap (by simp) (by simp) HO.out) (by first | (simp; done) | (simp; omega) | omega), later_of_below (by (repeat (first | with_reducible exact Below.refl _ _ | with_reducible assumption | with_reducible refine Below.drew ?_ | with_reducible refine below_drewN ?_ _ | with_reducible exact HQ.out | with_reducible exact HBW.out | with_reducible refine below_ext ?_ _ _ | with_reducible refine below_then_later ?_ (by first | with_reducible exact Nat.le_refl _ | with_reducible exact HBW.out.size | with_reducible exact HQ.out.size | omega | (simp; done) | (simp; omega) | (simp [later_size]; done) | (simp [later_size]; omega)) _ | with_reducible refine Below.setCell ?_ (by first | with_reducible exact Nat.le_refl _ | with_reducible exact HBW.out.size | with_reducible exact HQ.out.size | omega | (simp; done) | (simp; omega) | (simp [later_size]; done) | (simp [later_size]; omega)) _ | with_reducible refine Below.alloc ?_ (by first | with_reducible exact Nat.le_refl _ | with_reducible exact HBW.out.size | with_reducible exact HQ.out.size | omega | (simp; done) | (simp; omega) | (simp [later_size]; done) | (simp [later_size]; omega)) _)))⟩
def crBack (cap cr bk st gt : Int) (xs : List (Int × (Int × Int) × Int × Int)) : Bool := lkOk cap cr bk st gt xs && !decide (bk = 0)
def creditBack (cap cr bk st gt : Int) (xs : List (Int × (Int × Int) × Int × Int)) : Int × Int × Bool := if crBack cap cr bk st gt xs = true then (cr + 1, bk - 1, true) else (cr, bk, false)
theorem lkOk_num {cap cr bk st gt : Int} {xs : List (Int × (Int × Int) × Int × Int)} (h : lkOk cap cr bk st gt xs = true) : (1 ≤ cap ∧ cap ≤ 4) ∧ (0 ≤ cr ∧ cr ≤ cap) ∧ (0 ≤ bk ∧ bk ≤ cap) ∧ cr + bk + xs.length = cap ∧ (0 ≤ st ∧ st ≤ 1000000000) ∧ 0 ≤ gt ∧ st - gt = xs.length := by
  unfold lkOk lkNum at h
  simp only [Bool.and_eq_true, decide_eq_true_eq] at h
  exact h.1

theorem own_of_ownsRow_row {α : Type} {enc : α → List Value} {k : Nat} {w : World} {E : TypeId} {base n c : Nat} {A : Option Addr} {xs : List α} (hk : ∀ x, (enc x).length = k) (h : w.ownsRow base E k (.slice A n c) n (xs.flatMap enc)) (hn : xs.length = n) : Row enc k w A xs := by
  obtain ⟨A', c', he, ho, _⟩ := own_of_ownsRow hk h hn
  simp only [Value.slice.injEq] at he
  obtain ⟨rfl, _, _⟩ := he
  exact ho.row
set_option maxHeartbeats 3200000 in
theorem c_iCreditBack (cap cr bk st gt : Int) (A : Option Addr) (n c : Nat) (xs : List (Int × (Int × Int) × Int × Int)) (w : World) (cr' bk' : Int) (z : Bool) (hn : xs.length = n) (hn2 : n ≤ 4294967296) (hcr : I64 cr) (hbk : I64 bk) (hst : I64 st) (hgt : I64 gt)
    (ha : Row encR 5 w A xs) (hz : creditBack cap cr bk st gt xs = (cr', bk', z)) : Calls Try.prog 9 #[.agg #[.int .i64 cap, .slice A n c, .int .i64 cr, .int .i64 bk, .int .i64 st, .int .i64 gt]] w (MadeRow 33 encR 5 (fun v => .tuple #[.agg #[.int .i64 cap, v, .int .i64 cr', .int .i64 bk', .int .i64 st, .int .i64 gt], .bool z]) xs w) := by
  have HA := Lib.hid ha
  have HN := Lib.hid hn
  have HZ := Lib.hid hz
  clear ha hn hz
  cases hk : lkOk cap cr bk st gt xs
  · have HK := Lib.hid hk
    clear hk
    obtain ⟨rfl, rfl, rfl⟩ : cr = cr' ∧ bk = bk' ∧ false = z := by
      have := HZ.out
      unfold creditBack crBack at this
      rw [HK.out] at this
      simp only [Bool.false_and, Bool.false_eq_true, if_false] at this
      simp only [Prod.mk.injEq] at this
      exact ⟨this.1, this.2.1, this.2.2⟩
    clear HZ
    go_enter Try.func9, Try.ntmps9
    go_wp2_with (first | (go_at_call 28; (with_reducible refine (c_iCopyLink _ _ _ _ _ _ _ _ xs _ HN.out hn2 (by (repeat (first | with_reducible exact HA.out | with_reducible refine Row.later ?_ _ | with_reducible refine Row.alloc ?_ _ | with_reducible refine row_later2 ?_ _ _)); done)).mono ?_); rintro _ w2 ⟨A2, n2, c2, rfl, hl, hc2, hm2, hO, p2, rfl⟩; have HL := Lib.hid hl; have HO := Lib.hid hO; clear hl hO) | (go_at_call 15; (refine (c_iLinkOk _ _ _ _ _ _ _ _ xs _ _ HN.out (by omega) hcr hbk hst hgt (by (repeat (first | with_reducible exact HA.out | with_reducible refine Row.later ?_ _ | with_reducible refine Row.alloc ?_ _ | with_reducible refine row_later2 ?_ _ _)); done) HK.out).mono ?_); rintro _ _ ⟨rfl, p, rfl⟩) | ((with_reducible refine wp_region_later (by kernel_rfl) (by kernel_rfl) ?_); (repeat (first | go_big_quiet_skip | quiet_step ((first | (go_at_call 15; first | exact calls_later (c_iLinkOk _ _ _ _ _ _ _ _ xs _ _ HN.out (by omega) hcr hbk hst hgt (by (repeat (first | with_reducible exact HA.out | with_reducible refine Row.later ?_ _ | with_reducible refine Row.alloc ?_ _ | with_reducible refine row_later2 ?_ _ _)); done) HK.out) | exact calls_later2 (c_iLinkOk _ _ _ _ _ _ _ _ xs _ _ HN.out (by omega) hcr hbk hst hgt (by (repeat (first | with_reducible exact HA.out | with_reducible refine Row.later ?_ _ | with_reducible refine Row.alloc ?_ _ | with_reducible refine row_later2 ?_ _ _)); done) HK.out)))))); refine wpQuiet_nil ?_; rintro _ ⟨p, rfl⟩))
    refine bodyPost_ret (v := .tuple #[.agg #[.int .i64 cap, .slice A2 n2 c2, .int .i64 (cr), .int .i64 (bk), .int .i64 st, .int .i64 gt], .bool false]) (by simp [results, Try.results9, go_sem]) rfl ?_
    exact ⟨A2, n2, c2, rfl, HL.out, hc2, hm2, (ownsRow_lo (ownsRow_later (World.ownsRow.alloc (ownsRow_swap (by simp) (by simp) HO.out) _) _) (by simp; omega)), later_of_below (by (repeat (first | with_reducible exact Below.refl _ _ | with_reducible assumption | with_reducible refine Below.drew ?_ | with_reducible refine below_drewN ?_ _ | with_reducible exact HQ.out | with_reducible exact HBW.out | with_reducible refine below_ext ?_ _ _ | with_reducible refine below_then_later ?_ (by first | with_reducible exact Nat.le_refl _ | with_reducible exact HBW.out.size | with_reducible exact HQ.out.size | omega | (simp; done) | (simp; omega) | (simp [later_size]; done) | (simp [later_size]; omega)) _ | with_reducible refine Below.setCell ?_ (by first | with_reducible exact Nat.le_refl _ | with_reducible exact HBW.out.size | with_reducible exact HQ.out.size | omega | (simp; done) | (simp; omega) | (simp [later_size]; done) | (simp [later_size]; omega)) _ | with_reducible refine Below.alloc ?_ (by first | with_reducible exact Nat.le_refl _ | with_reducible exact HBW.out.size | with_reducible exact HQ.out.size | omega | (simp; done) | (simp; omega) | (simp [later_size]; done) | (simp [later_size]; omega)) _)))⟩
  · have hnum := lkOk_num hk
    have HK := Lib.hid hk
    clear hk
    by_cases hb0 : bk = 0
    · subst hb0
      clear hnum
      obtain ⟨rfl, rfl, rfl⟩ : cr = cr' ∧ 0 = bk' ∧ false = z := by
        have := HZ.out
        unfold creditBack crBack at this
        rw [HK.out] at this
        simp only [decide_true, Bool.not_true, Bool.and_false, Bool.false_eq_true, if_false] at this
        simp only [Prod.mk.injEq] at this
        exact ⟨this.1, this.2.1, this.2.2⟩
      clear HZ
      go_enter Try.func9, Try.ntmps9
      go_wp2_with (first | (go_at_call 28; (with_reducible refine (c_iCopyLink _ _ _ _ _ _ _ _ xs _ HN.out hn2 (by (repeat (first | with_reducible exact HA.out | with_reducible refine Row.later ?_ _ | with_reducible refine Row.alloc ?_ _ | with_reducible refine row_later2 ?_ _ _)); done)).mono ?_); rintro _ w2 ⟨A2, n2, c2, rfl, hl, hc2, hm2, hO, p2, rfl⟩; have HL := Lib.hid hl; have HO := Lib.hid hO; clear hl hO) | (go_at_call 15; (refine (c_iLinkOk _ _ _ _ _ _ _ _ xs _ _ HN.out (by omega) hcr hbk hst hgt (by (repeat (first | with_reducible exact HA.out | with_reducible refine Row.later ?_ _ | with_reducible refine Row.alloc ?_ _ | with_reducible refine row_later2 ?_ _ _)); done) HK.out).mono ?_); rintro _ _ ⟨rfl, p, rfl⟩) | ((with_reducible refine wp_region_later (by kernel_rfl) (by kernel_rfl) ?_); (repeat (first | go_big_quiet_skip | quiet_step ((first | (go_at_call 15; first | exact calls_later (c_iLinkOk _ _ _ _ _ _ _ _ xs _ _ HN.out (by omega) hcr hbk hst hgt (by (repeat (first | with_reducible exact HA.out | with_reducible refine Row.later ?_ _ | with_reducible refine Row.alloc ?_ _ | with_reducible refine row_later2 ?_ _ _)); done) HK.out) | exact calls_later2 (c_iLinkOk _ _ _ _ _ _ _ _ xs _ _ HN.out (by omega) hcr hbk hst hgt (by (repeat (first | with_reducible exact HA.out | with_reducible refine Row.later ?_ _ | with_reducible refine Row.alloc ?_ _ | with_reducible refine row_later2 ?_ _ _)); done) HK.out)))))); refine wpQuiet_nil ?_; rintro _ ⟨p, rfl⟩))
      refine bodyPost_ret (v := .tuple #[.agg #[.int .i64 cap, .slice A2 n2 c2, .int .i64 (cr), .int .i64 (0), .int .i64 st, .int .i64 gt], .bool false]) (by simp [results, Try.results9, go_sem]) rfl ?_
      exact ⟨A2, n2, c2, rfl, HL.out, hc2, hm2, (ownsRow_lo (ownsRow_later (World.ownsRow.alloc (ownsRow_swap (by simp) (by simp) HO.out) _) _) (by simp; omega)), later_of_below (by (repeat (first | with_reducible exact Below.refl _ _ | with_reducible assumption | with_reducible refine Below.drew ?_ | with_reducible refine below_drewN ?_ _ | with_reducible exact HQ.out | with_reducible exact HBW.out | with_reducible refine below_ext ?_ _ _ | with_reducible refine below_then_later ?_ (by first | with_reducible exact Nat.le_refl _ | with_reducible exact HBW.out.size | with_reducible exact HQ.out.size | omega | (simp; done) | (simp; omega) | (simp [later_size]; done) | (simp [later_size]; omega)) _ | with_reducible refine Below.setCell ?_ (by first | with_reducible exact Nat.le_refl _ | with_reducible exact HBW.out.size | with_reducible exact HQ.out.size | omega | (simp; done) | (simp; omega) | (simp [later_size]; done) | (simp [later_size]; omega)) _ | with_reducible refine Below.alloc ?_ (by first | with_reducible exact Nat.le_refl _ | with_reducible exact HBW.out.size | with_reducible exact HQ.out.size | omega | (simp; done) | (simp; omega) | (simp [later_size]; done) | (simp [later_size]; omega)) _)))⟩
    · obtain ⟨hq1, hq2, hq3, _⟩ := hnum
      have eb : (bk == 0) = false := by simpa using hb0
      obtain ⟨rfl, rfl, rfl⟩ : cr + 1 = cr' ∧ bk - 1 = bk' ∧ true = z := by
        have := HZ.out
        unfold creditBack crBack at this
        rw [HK.out, decide_eq_false hb0] at this
        simp only [Bool.not_false, Bool.and_true, if_true] at this
        simp only [Prod.mk.injEq] at this
        exact ⟨this.1, this.2.1, this.2.2⟩
      clear HZ
      go_enter Try.func9, Try.ntmps9
      go_wp2_with (first | (go_at_call 28; (with_reducible refine (c_iCopyLink _ _ _ _ _ _ _ _ xs _ HN.out hn2 (by (repeat (first | with_reducible exact HA.out | with_reducible refine Row.later ?_ _ | with_reducible refine Row.alloc ?_ _ | with_reducible refine row_later2 ?_ _ _)); done)).mono ?_); rintro _ w2 ⟨A2, n2, c2, rfl, hl, hc2, hm2, hO, p2, rfl⟩; have HL := Lib.hid hl; have HO := Lib.hid hO; clear hl hO) | (go_at_call 15; (refine (c_iLinkOk _ _ _ _ _ _ _ _ xs _ _ HN.out (by omega) hcr hbk hst hgt (by (repeat (first | with_reducible exact HA.out | with_reducible refine Row.later ?_ _ | with_reducible refine Row.alloc ?_ _ | with_reducible refine row_later2 ?_ _ _)); done) HK.out).mono ?_); rintro _ _ ⟨rfl, p, rfl⟩) | ((with_reducible refine wp_region_later (by kernel_rfl) (by kernel_rfl) ?_); (repeat (first | go_big_quiet_skip | quiet_step ((first | (go_at_call 15; first | exact calls_later (c_iLinkOk _ _ _ _ _ _ _ _ xs _ _ HN.out (by omega) hcr hbk hst hgt (by (repeat (first | with_reducible exact HA.out | with_reducible refine Row.later ?_ _ | with_reducible refine Row.alloc ?_ _ | with_reducible refine row_later2 ?_ _ _)); done) HK.out) | exact calls_later2 (c_iLinkOk _ _ _ _ _ _ _ _ xs _ _ HN.out (by omega) hcr hbk hst hgt (by (repeat (first | with_reducible exact HA.out | with_reducible refine Row.later ?_ _ | with_reducible refine Row.alloc ?_ _ | with_reducible refine row_later2 ?_ _ _)); done) HK.out)))))); refine wpQuiet_nil ?_; rintro _ ⟨p, rfl⟩))
      refine bodyPost_ret (v := .tuple #[.agg #[.int .i64 cap, .slice A2 n2 c2, .int .i64 (cr + 1), .int .i64 (bk - 1), .int .i64 st, .int .i64 gt], .bool true]) (by simp [results, Try.results9, go_sem]) rfl ?_
      exact ⟨A2, n2, c2, rfl, HL.out, hc2, hm2, (ownsRow_lo (ownsRow_later (World.ownsRow.alloc (ownsRow_swap (by simp) (by simp) HO.out) _) _) (by simp; omega)), later_of_below (by (repeat (first | with_reducible exact Below.refl _ _ | with_reducible assumption | with_reducible refine Below.drew ?_ | with_reducible refine below_drewN ?_ _ | with_reducible exact HQ.out | with_reducible exact HBW.out | with_reducible refine below_ext ?_ _ _ | with_reducible refine below_then_later ?_ (by first | with_reducible exact Nat.le_refl _ | with_reducible exact HBW.out.size | with_reducible exact HQ.out.size | omega | (simp; done) | (simp; omega) | (simp [later_size]; done) | (simp [later_size]; omega)) _ | with_reducible refine Below.setCell ?_ (by first | with_reducible exact Nat.le_refl _ | with_reducible exact HBW.out.size | with_reducible exact HQ.out.size | omega | (simp; done) | (simp; omega) | (simp [later_size]; done) | (simp [later_size]; omega)) _ | with_reducible refine Below.alloc ?_ (by first | with_reducible exact Nat.le_refl _ | with_reducible exact HBW.out.size | with_reducible exact HQ.out.size | omega | (simp; done) | (simp; omega) | (simp [later_size]; done) | (simp [later_size]; omega)) _)))⟩
set_option maxHeartbeats 3200000 in
theorem c_sCreditBack (cap cr bk st gt : Int) (A : Option Addr) (n c : Nat) (xs : List (Int × (Int × Int) × Int × Int)) (w : World) (cr' bk' : Int) (z : Bool) (hn : xs.length = n) (hn2 : n ≤ 4294967296) (hcr : I64 cr) (hbk : I64 bk) (hst : I64 st) (hgt : I64 gt)
    (ha : Row encR 5 w A xs) (hz : creditBack cap cr bk st gt xs = (cr', bk', z)) : Calls Try.prog 19 #[.agg #[.int .i64 cap, .slice A n c, .int .i64 cr, .int .i64 bk, .int .i64 st, .int .i64 gt]] w (MadeRow 33 encR 5 (fun v => .tuple #[.agg #[.int .i64 cap, v, .int .i64 cr', .int .i64 bk', .int .i64 st, .int .i64 gt], .bool z]) xs w) := by
  have HA := Lib.hid ha
  have HN := Lib.hid hn
  have HZ := Lib.hid hz
  clear ha hn hz
  cases hk : lkOk cap cr bk st gt xs
  · have HK := Lib.hid hk
    clear hk
    obtain ⟨rfl, rfl, rfl⟩ : cr = cr' ∧ bk = bk' ∧ false = z := by
      have := HZ.out
      unfold creditBack crBack at this
      rw [HK.out] at this
      simp only [Bool.false_and, Bool.false_eq_true, if_false] at this
      simp only [Prod.mk.injEq] at this
      exact ⟨this.1, this.2.1, this.2.2⟩
    clear HZ
    go_enter Try.func19, Try.ntmps19
    go_wp2_with (first | (go_at_call 34; (with_reducible refine (c_sCopyLink _ _ _ _ _ _ _ _ xs _ HN.out hn2 (by (repeat (first | with_reducible exact HA.out | with_reducible refine Row.later ?_ _ | with_reducible refine Row.alloc ?_ _ | with_reducible refine row_later2 ?_ _ _)); done)).mono ?_); rintro _ w2 ⟨A2, n2, c2, rfl, hl, hc2, hm2, hO, p2, rfl⟩; have HL := Lib.hid hl; have HO := Lib.hid hO; clear hl hO) | (go_at_call 11; (refine (c_sLinkOk _ _ _ _ _ _ _ _ xs _ _ HL.out (by rw [← HL.out, HN.out]; omega) hcr hbk hst hgt (own_of_ownsRow_row lenR (ownsRow_swap (by simp) (by simp) HO.out) HL.out) HK.out).mono ?_); rintro _ _ ⟨rfl, p, rfl⟩) | ((with_reducible refine wp_region_later (by kernel_rfl) (by kernel_rfl) ?_); (repeat (first | go_big_quiet_skip | quiet_step ((first | (go_at_call 11; first | exact calls_later (c_sLinkOk _ _ _ _ _ _ _ _ xs _ _ HL.out (by rw [← HL.out, HN.out]; omega) hcr hbk hst hgt (own_of_ownsRow_row lenR (ownsRow_swap (by simp) (by simp) HO.out) HL.out) HK.out) | exact calls_later2 (c_sLinkOk _ _ _ _ _ _ _ _ xs _ _ HL.out (by rw [← HL.out, HN.out]; omega) hcr hbk hst hgt (own_of_ownsRow_row lenR (ownsRow_swap (by simp) (by simp) HO.out) HL.out) HK.out)))))); refine wpQuiet_nil ?_; rintro _ ⟨p, rfl⟩))
    refine bodyPost_ret (v := .tuple #[.agg #[.int .i64 cap, .slice A2 n2 c2, .int .i64 (cr), .int .i64 (bk), .int .i64 st, .int .i64 gt], .bool false]) (by simp [results, Try.results19, go_sem]) rfl ?_
    exact ⟨A2, n2, c2, rfl, HL.out, hc2, hm2, (ownsRow_lo (ownsRow_swap (by simp) (by simp) (ownsRow_later2 HO.out _ _)) (by simp; omega)), later_of_below (by (repeat (first | with_reducible exact Below.refl _ _ | with_reducible assumption | with_reducible refine Below.drew ?_ | with_reducible refine below_drewN ?_ _ | with_reducible exact HQ.out | with_reducible exact HBW.out | with_reducible refine below_ext ?_ _ _ | with_reducible refine below_then_later ?_ (by first | with_reducible exact Nat.le_refl _ | with_reducible exact HBW.out.size | with_reducible exact HQ.out.size | omega | (simp; done) | (simp; omega) | (simp [later_size]; done) | (simp [later_size]; omega)) _ | with_reducible refine Below.setCell ?_ (by first | with_reducible exact Nat.le_refl _ | with_reducible exact HBW.out.size | with_reducible exact HQ.out.size | omega | (simp; done) | (simp; omega) | (simp [later_size]; done) | (simp [later_size]; omega)) _ | with_reducible refine Below.alloc ?_ (by first | with_reducible exact Nat.le_refl _ | with_reducible exact HBW.out.size | with_reducible exact HQ.out.size | omega | (simp; done) | (simp; omega) | (simp [later_size]; done) | (simp [later_size]; omega)) _)))⟩
  · have hnum := lkOk_num hk
    have HK := Lib.hid hk
    clear hk
    by_cases hb0 : bk = 0
    · subst hb0
      clear hnum
      obtain ⟨rfl, rfl, rfl⟩ : cr = cr' ∧ 0 = bk' ∧ false = z := by
        have := HZ.out
        unfold creditBack crBack at this
        rw [HK.out] at this
        simp only [decide_true, Bool.not_true, Bool.and_false, Bool.false_eq_true, if_false] at this
        simp only [Prod.mk.injEq] at this
        exact ⟨this.1, this.2.1, this.2.2⟩
      clear HZ
      go_enter Try.func19, Try.ntmps19
      go_wp2_with (first | (go_at_call 34; (with_reducible refine (c_sCopyLink _ _ _ _ _ _ _ _ xs _ HN.out hn2 (by (repeat (first | with_reducible exact HA.out | with_reducible refine Row.later ?_ _ | with_reducible refine Row.alloc ?_ _ | with_reducible refine row_later2 ?_ _ _)); done)).mono ?_); rintro _ w2 ⟨A2, n2, c2, rfl, hl, hc2, hm2, hO, p2, rfl⟩; have HL := Lib.hid hl; have HO := Lib.hid hO; clear hl hO) | (go_at_call 11; (refine (c_sLinkOk _ _ _ _ _ _ _ _ xs _ _ HL.out (by rw [← HL.out, HN.out]; omega) hcr hbk hst hgt (own_of_ownsRow_row lenR (ownsRow_swap (by simp) (by simp) HO.out) HL.out) HK.out).mono ?_); rintro _ _ ⟨rfl, p, rfl⟩) | ((with_reducible refine wp_region_later (by kernel_rfl) (by kernel_rfl) ?_); (repeat (first | go_big_quiet_skip | quiet_step ((first | (go_at_call 11; first | exact calls_later (c_sLinkOk _ _ _ _ _ _ _ _ xs _ _ HL.out (by rw [← HL.out, HN.out]; omega) hcr hbk hst hgt (own_of_ownsRow_row lenR (ownsRow_swap (by simp) (by simp) HO.out) HL.out) HK.out) | exact calls_later2 (c_sLinkOk _ _ _ _ _ _ _ _ xs _ _ HL.out (by rw [← HL.out, HN.out]; omega) hcr hbk hst hgt (own_of_ownsRow_row lenR (ownsRow_swap (by simp) (by simp) HO.out) HL.out) HK.out)))))); refine wpQuiet_nil ?_; rintro _ ⟨p, rfl⟩))
      refine bodyPost_ret (v := .tuple #[.agg #[.int .i64 cap, .slice A2 n2 c2, .int .i64 (cr), .int .i64 (0), .int .i64 st, .int .i64 gt], .bool false]) (by simp [results, Try.results19, go_sem]) rfl ?_
      exact ⟨A2, n2, c2, rfl, HL.out, hc2, hm2, (ownsRow_lo (ownsRow_swap (by simp) (by simp) (ownsRow_later2 HO.out _ _)) (by simp; omega)), later_of_below (by (repeat (first | with_reducible exact Below.refl _ _ | with_reducible assumption | with_reducible refine Below.drew ?_ | with_reducible refine below_drewN ?_ _ | with_reducible exact HQ.out | with_reducible exact HBW.out | with_reducible refine below_ext ?_ _ _ | with_reducible refine below_then_later ?_ (by first | with_reducible exact Nat.le_refl _ | with_reducible exact HBW.out.size | with_reducible exact HQ.out.size | omega | (simp; done) | (simp; omega) | (simp [later_size]; done) | (simp [later_size]; omega)) _ | with_reducible refine Below.setCell ?_ (by first | with_reducible exact Nat.le_refl _ | with_reducible exact HBW.out.size | with_reducible exact HQ.out.size | omega | (simp; done) | (simp; omega) | (simp [later_size]; done) | (simp [later_size]; omega)) _ | with_reducible refine Below.alloc ?_ (by first | with_reducible exact Nat.le_refl _ | with_reducible exact HBW.out.size | with_reducible exact HQ.out.size | omega | (simp; done) | (simp; omega) | (simp [later_size]; done) | (simp [later_size]; omega)) _)))⟩
    · obtain ⟨hq1, hq2, hq3, _⟩ := hnum
      have eb : (bk == 0) = false := by simpa using hb0
      obtain ⟨rfl, rfl, rfl⟩ : cr + 1 = cr' ∧ bk - 1 = bk' ∧ true = z := by
        have := HZ.out
        unfold creditBack crBack at this
        rw [HK.out, decide_eq_false hb0] at this
        simp only [Bool.not_false, Bool.and_true, if_true] at this
        simp only [Prod.mk.injEq] at this
        exact ⟨this.1, this.2.1, this.2.2⟩
      clear HZ
      go_enter Try.func19, Try.ntmps19
      go_wp2_with (first | (go_at_call 34; (with_reducible refine (c_sCopyLink _ _ _ _ _ _ _ _ xs _ HN.out hn2 (by (repeat (first | with_reducible exact HA.out | with_reducible refine Row.later ?_ _ | with_reducible refine Row.alloc ?_ _ | with_reducible refine row_later2 ?_ _ _)); done)).mono ?_); rintro _ w2 ⟨A2, n2, c2, rfl, hl, hc2, hm2, hO, p2, rfl⟩; have HL := Lib.hid hl; have HO := Lib.hid hO; clear hl hO) | (go_at_call 11; (refine (c_sLinkOk _ _ _ _ _ _ _ _ xs _ _ HL.out (by rw [← HL.out, HN.out]; omega) hcr hbk hst hgt (own_of_ownsRow_row lenR (ownsRow_swap (by simp) (by simp) HO.out) HL.out) HK.out).mono ?_); rintro _ _ ⟨rfl, p, rfl⟩) | ((with_reducible refine wp_region_later (by kernel_rfl) (by kernel_rfl) ?_); (repeat (first | go_big_quiet_skip | quiet_step ((first | (go_at_call 11; first | exact calls_later (c_sLinkOk _ _ _ _ _ _ _ _ xs _ _ HL.out (by rw [← HL.out, HN.out]; omega) hcr hbk hst hgt (own_of_ownsRow_row lenR (ownsRow_swap (by simp) (by simp) HO.out) HL.out) HK.out) | exact calls_later2 (c_sLinkOk _ _ _ _ _ _ _ _ xs _ _ HL.out (by rw [← HL.out, HN.out]; omega) hcr hbk hst hgt (own_of_ownsRow_row lenR (ownsRow_swap (by simp) (by simp) HO.out) HL.out) HK.out)))))); refine wpQuiet_nil ?_; rintro _ ⟨p, rfl⟩))
      refine bodyPost_ret (v := .tuple #[.agg #[.int .i64 cap, .slice A2 n2 c2, .int .i64 (cr + 1), .int .i64 (bk - 1), .int .i64 st, .int .i64 gt], .bool true]) (by simp [results, Try.results19, go_sem]) rfl ?_
      exact ⟨A2, n2, c2, rfl, HL.out, hc2, hm2, (ownsRow_lo (ownsRow_swap (by simp) (by simp) (ownsRow_later2 HO.out _ _)) (by simp; omega)), later_of_below (by (repeat (first | with_reducible exact Below.refl _ _ | with_reducible assumption | with_reducible refine Below.drew ?_ | with_reducible refine below_drewN ?_ _ | with_reducible exact HQ.out | with_reducible exact HBW.out | with_reducible refine below_ext ?_ _ _ | with_reducible refine below_then_later ?_ (by first | with_reducible exact Nat.le_refl _ | with_reducible exact HBW.out.size | with_reducible exact HQ.out.size | omega | (simp; done) | (simp; omega) | (simp [later_size]; done) | (simp [later_size]; omega)) _ | with_reducible refine Below.setCell ?_ (by first | with_reducible exact Nat.le_refl _ | with_reducible exact HBW.out.size | with_reducible exact HQ.out.size | omega | (simp; done) | (simp; omega) | (simp [later_size]; done) | (simp [later_size]; omega)) _ | with_reducible refine Below.alloc ?_ (by first | with_reducible exact Nat.le_refl _ | with_reducible exact HBW.out.size | with_reducible exact HQ.out.size | omega | (simp; done) | (simp; omega) | (simp [later_size]; done) | (simp [later_size]; omega)) _)))⟩
def takeFrom (cap cr bk st gt : Int) (xs : List (Int × (Int × Int) × Int × Int)) : Int × Int × List (Int × (Int × Int) × Int × Int) × (Int × (Int × Int) × Int × Int) × Bool :=
  if lkOk cap cr bk st gt xs = true then match xs with | [] => (bk, gt, [], (0, (0, 0), 0, 0), false) | x :: ys => (bk + 1, gt + 1, ys, x, true) else (bk, gt, xs, (0, (0, 0), 0, 0), false)
theorem Own.rest {α : Type} {enc : α → List Value} {k lo b off : Nat} {w : World} {x : α} {xs : List α} (hk : ∀ x, (enc x).length = k) (h : Own enc k lo w (some ⟨b, off, Option.none⟩) (x :: xs)) : Own enc k lo w (some ⟨b, off + k, Option.none⟩) xs := by
  obtain ⟨h1, h2⟩ := h
  obtain ⟨b', off', e, hc⟩ := h1 (by simp)
  simp at e
  obtain ⟨rfl, rfl⟩ := e
  obtain ⟨hlo, hs⟩ := h2 (by simp) _ _ rfl
  refine ⟨fun h0 => ⟨b, off + k, rfl, fun j y hy i v hv => ?_⟩, fun h0 b' off' e => ?_⟩
  · have := hc (j + 1) y (by simpa using hy) i v hv
    rw [Nat.succ_mul] at this
    rw [show off + k + j * k + i = off + (j * k + k) + i by omega]
    exact this
  · simp at e
    obtain ⟨rfl, rfl⟩ := e
    refine ⟨hlo, fun j hj => ?_⟩
    have := hs (k + j) (by simp only [List.length_cons, Nat.succ_mul]; omega)
    rw [show off + k + j = off + (k + j) by omega]
    exact this
theorem own_of_ownsRow' {α : Type} {enc : α → List Value} {k : Nat} {w : World} {E : TypeId} {base n c : Nat} {A : Option Addr} {xs : List α} (hk : ∀ x, (enc x).length = k) (h : w.ownsRow base E k (.slice A n c) n (xs.flatMap enc)) (hn : xs.length = n) : Own enc k base w A xs := by
  obtain ⟨A', c', he, ho, _⟩ := own_of_ownsRow hk h hn
  simp only [Value.slice.injEq] at he
  obtain ⟨rfl, _, _⟩ := he
  exact ho
theorem cons_addr {w : World} {E : TypeId} {base n c : Nat} {A : Option Addr} {x : Int × (Int × Int) × Int × Int} {xs : List (Int × (Int × Int) × Int × Int)} (h : w.ownsRow base E 5 (.slice A n c) n ((x :: xs).flatMap encR)) (hn : (x :: xs).length = n) : ∃ b o, A = some ⟨b, o, Option.none⟩ := by
  obtain ⟨b, o, e, _⟩ := (own_of_ownsRow' lenR h hn).row (by simp)
  exact ⟨b, o, e⟩
theorem low_rest {α : Type} {enc : α → List Value} {k lo b b2 o2 o3 m : Nat} {w : World} {xs : List α} (h : Own enc k lo w (some ⟨b2, o2, Option.none⟩) xs) (hx : 0 < xs.length) (hb : some b = ob (some ⟨b2, o3, Option.none⟩) m) : lo ≤ b := by
  obtain ⟨_, off, sp, e⟩ := ob_some hb
  simp at e
  obtain ⟨rfl, _⟩ := e
  exact (h.2 hx _ _ rfl).1
theorem Row.rest {α : Type} {enc : α → List Value} {k b off : Nat} {w : World} {x : α} {xs : List α} (h : Row enc k w (some ⟨b, off, Option.none⟩) (x :: xs)) : Row enc k w (some ⟨b, off + k, Option.none⟩) xs := fun h0 => by
  obtain ⟨b', off', e, hc⟩ := h (by simp)
  simp at e
  obtain ⟨rfl, rfl⟩ := e
  refine ⟨b, off + k, rfl, fun j y hy i v hv => ?_⟩
  have := hc (j + 1) y (by simpa using hy) i v hv
  rw [Nat.succ_mul] at this
  rw [show off + k + j * k + i = off + (j * k + k) + i by omega]
  exact this

theorem row_empty {α : Type} {enc : α → List Value} {k n : Nat} {w : World} {A : Option Addr} {xs : List α} (h : xs.length = n) (hn : n = 0) : Row enc k w A xs := fun h0 => by omega
def sendOn (cap cr bk st gt : Int) (xs : List (Int × (Int × Int) × Int × Int)) (r : Int × (Int × Int) × Int × Int) : Int × Int × List (Int × (Int × Int) × Int × Int) × Bool :=
  if (lkOk cap cr bk st gt xs && (rcOkT r && !(decide (cr = 0) || decide (st = 1000000000)))) = true then (cr - 1, st + 1, xs ++ [r], true) else (cr, st, xs, false)
theorem Blk.below {g B : Nat} {vs : List Value} {t : TypeId} {W W' : World} (h : Blk g vs t W) (hb : Below B W W') (hg : g < B) : Blk g vs t W' := by
  unfold Blk at *
  rw [hb.block g hg, h]
theorem m_iCreditBack (cap cr bk st gt : Int) (A : Option Addr) (n c : Nat) (xs : List (Int × (Int × Int) × Int × Int)) (w : World) (cr' bk' : Int) (z : Bool) (hn : xs.length = n) (hn2 : n ≤ 4294967296) (hcr : I64 cr) (hbk : I64 bk) (hst : I64 st) (hgt : I64 gt)
    (ha : Row encR 5 w A xs) (hz : creditBack cap cr bk st gt xs = (cr', bk', z)) : Calls Try.prog 9 #[.agg #[.int .i64 cap, .slice A n c, .int .i64 cr, .int .i64 bk, .int .i64 st, .int .i64 gt]] w (MadeOwn encR 5 (fun v => .tuple #[.agg #[.int .i64 cap, v, .int .i64 cr', .int .i64 bk', .int .i64 st, .int .i64 gt], .bool z]) xs w) :=
  (c_iCreditBack cap cr bk st gt A n c xs w cr' bk' z hn hn2 hcr hbk hst hgt ha hz).mono fun _ _ h => h.own lenR
theorem m_sCreditBack (cap cr bk st gt : Int) (A : Option Addr) (n c : Nat) (xs : List (Int × (Int × Int) × Int × Int)) (w : World) (cr' bk' : Int) (z : Bool) (hn : xs.length = n) (hn2 : n ≤ 4294967296) (hcr : I64 cr) (hbk : I64 bk) (hst : I64 st) (hgt : I64 gt)
    (ha : Row encR 5 w A xs) (hz : creditBack cap cr bk st gt xs = (cr', bk', z)) : Calls Try.prog 19 #[.agg #[.int .i64 cap, .slice A n c, .int .i64 cr, .int .i64 bk, .int .i64 st, .int .i64 gt]] w (MadeOwn encR 5 (fun v => .tuple #[.agg #[.int .i64 cap, v, .int .i64 cr', .int .i64 bk', .int .i64 st, .int .i64 gt], .bool z]) xs w) :=
  (c_sCreditBack cap cr bk st gt A n c xs w cr' bk' z hn hn2 hcr hbk hst hgt ha hz).mono fun _ _ h => h.own lenR
theorem takeFrom_len {cap cr bk st gt : Int} {xs : List (Int × (Int × Int) × Int × Int)} {bk' gt' : Int} {ys : List (Int × (Int × Int) × Int × Int)} {r : Int × (Int × Int) × Int × Int} {z : Bool} (h : takeFrom cap cr bk st gt xs = (bk', gt', ys, r, z)) : ys.length ≤ xs.length := by
  unfold takeFrom at h
  split at h
  · split at h
    · simp at h; obtain ⟨_, _, rfl, _⟩ := h; simp
    · simp at h; obtain ⟨_, _, rfl, _⟩ := h; simp
  · simp at h; obtain ⟨_, _, rfl, _⟩ := h; simp
theorem sendOn_len {cap cr bk st gt : Int} {xs : List (Int × (Int × Int) × Int × Int)} {r : Int × (Int × Int) × Int × Int} {cr' st' : Int} {ys : List (Int × (Int × Int) × Int × Int)} {z : Bool} (h : sendOn cap cr bk st gt xs r = (cr', st', ys, z)) : ys.length ≤ xs.length + 1 := by
  unfold sendOn at h
  split at h <;> (simp at h; obtain ⟨_, _, rfl, _⟩ := h; simp)
end Go.Proofs.Ytcmhmdccfihhiaa
