/-
  The law FnLattice returns true for every input, and its argument reads afterwards as before. Conditions: none.
-/
import Derived.Test.YtgjlkanimlkboaaDrawT
import Derived.Test.YtgjlkanimlkboaaOpenB
import Derived.Test.YtgjlkanimlkboaaScal
namespace Go.Proofs.Ytgjlkanimlkboaa
open Go.ChangeShapes Go.WideShapes Go.ChangeAt Go.RowKit Go.Deep Go.Joins
set_option linter.unusedVariables false

theorem own_three (W : World) (g base : Nat) (E : TypeId) (hg : g = W.heap.size) (hb : base ≤ W.heap.size) : (W.alloc (.cells #[.int .u8 3] E)).ownsRow base E 1 (.slice (some ⟨g, 0, Option.none⟩) 1 1) 1 (([3] : List UInt8).flatMap encB) := by
  subst hg
  exact ⟨by simp [encB], .inr ⟨W.heap.size, 1, #[.int .u8 3], rfl, hb, heap_alloc_new W _, Nat.le_refl _, by decide, by simp, by simp [encB]⟩⟩
theorem lessI_comm (a b : Int) : lessI b a = lessI a b := by unfold lessI; split <;> split <;> omega
theorem moreI_comm (a b : Int) : moreI b a = moreI a b := by unfold moreI; split <;> split <;> omega
theorem lessI_assoc (a b c : Int) : lessI (lessI a b) c = lessI a (lessI b c) := by unfold lessI; repeat' split <;> try omega
theorem moreI_assoc (a b c : Int) : moreI (moreI a b) c = moreI a (moreI b c) := by unfold moreI; repeat' split <;> try omega
theorem lessI_more (a b : Int) : lessI a (moreI a b) = a := by unfold lessI moreI; repeat' split <;> try omega
theorem moreI_self (a : Int) : moreI a a = a := by unfold moreI; split <;> omega

set_option maxRecDepth 20000 in
set_option maxHeartbeats 3200000 in
theorem w_Lattice (A : Option Addr) (n c : Nat) (xs : List UInt8) (hn : xs.length = n) (w : World) (hr : Row encB 1 w A xs) : Calls Try.prog 7 #[.slice A n c] w (Gives (.bool true) w) := by
  have HR := Lib.hid hr
  have HN := Lib.hid hn
  clear hr hn
  by_cases hbig : 1048576 < n
  · have hz : decide (1048576 < n) = true := by simpa using hbig
    go_enter Try.func7, Try.ntmps7
    go_wp2_with (first | (go_at_call 19; (refine (c_big _ _ _ _ _ hz).mono ?_); rintro _ _ ⟨rfl, p, rfl⟩) | ((with_reducible refine wp_region_later (by kernel_rfl) (by kernel_rfl) ?_); (repeat (first | go_big_quiet_skip | quiet_step ((first | (go_at_call 19; first | exact calls_later (c_big _ _ _ _ _ hz) | exact calls_later2 (c_big _ _ _ _ _ hz)))))); refine wpQuiet_nil ?_; rintro _ ⟨p, rfl⟩))
    go_ret
    exact Gives.mk rfl (by (repeat (first | with_reducible exact Below.refl _ _ | with_reducible assumption | with_reducible refine Below.drew ?_ | with_reducible refine below_drewN ?_ _ | with_reducible exact HQ.out | with_reducible exact HBW.out | with_reducible refine below_ext ?_ _ _ | with_reducible refine below_then_later ?_ (by first | with_reducible exact Nat.le_refl _ | with_reducible exact HBW.out.size | with_reducible exact HQ.out.size | omega | (simp; done) | (simp; omega) | (simp [later_size]; done) | (simp [later_size]; omega)) _ | with_reducible refine Below.setCell ?_ (by first | with_reducible exact Nat.le_refl _ | with_reducible exact HBW.out.size | with_reducible exact HQ.out.size | omega | (simp; done) | (simp; omega) | (simp [later_size]; done) | (simp [later_size]; omega)) _ | with_reducible refine Below.alloc ?_ (by first | with_reducible exact Nat.le_refl _ | with_reducible exact HBW.out.size | with_reducible exact HQ.out.size | omega | (simp; done) | (simp; omega) | (simp [later_size]; done) | (simp [later_size]; omega)) _)))
  · have hz : decide (1048576 < n) = false := by simpa using hbig
    obtain ⟨i0, hi, hz0, hz1, hz2⟩ := info_parts (show (Try.prog.info? 5).map (fun i => (i.zero, i.size, i.bytes)) = some (some (.int .u8 0), 1, 1) by kernel_rfl)
    have HI := Lib.hid hi
    have HZ := Lib.hid hz0
    have HS := Lib.hid hz1
    have HB := Lib.hid hz2
    clear hi hz0 hz1 hz2
    go_enter Try.func7, Try.ntmps7
    go_wp2_with (first | (go_at_call 19; (with_reducible refine (c_big _ _ _ _ _ hz).mono ?_); rintro _ w1 ⟨rfl, p, hp⟩; have HR1 := Lib.hid (show Row encB 1 w1 A xs by rw [hp]; exact HR.out.later _); have HB1 := Lib.hid (show Below w.heap.size w w1 by rw [hp]; exact below_later _ _); clear hp) | (go_at_call 20; (with_reducible refine (c_drawStampMeet _ _ _ xs _ HN.out (by omega) HR1.out).mono ?_); rintro _ w2 ⟨a1, a2, b1, b2, rfl, ha1, ha2, hb1, hb2, p2, hp2⟩; have HR2 := Lib.hid (show Row encB 1 w2 A xs by rw [hp2]; exact HR1.out.later _); have HBW := Lib.hid (show Below w.heap.size w w2 by rw [hp2]; exact HB1.out.trans ((below_later _ _).mono HB1.out.size)); have hs2 : w.heap.size ≤ w2.heap.size := HBW.out.size; clear hp2 HR1 HB1 ha1 ha2 hb1 hb2) | (at_builtin; refine wpList_append_row _ encB 1 lenB (by decide) oneB rfl (.tmp 15) (.tmp 16) 32 rfl w2.heap.size 5 i0 _ 1 Try.underlying32 HI.out HZ.out HS.out HB.out rfl (.slice (some ⟨w2.heap.size + 1 + 1, 0, Option.none⟩) 1 1) 1 [3] rfl (own_three _ _ _ _ (by simp) (by simp; omega)) _ _ _ xs rfl HN.out (((HR2.out.alloc _).alloc _).alloc _) (by unfold maxLen; omega) (by omega) (by simp; omega) ?_; intro v w4 hown hg hbe; obtain ⟨A2, c2, rfl, hO, -, -⟩ := own_of_ownsRow lenB hown (by have := HN.out; simp; omega); have HR4 := Lib.hid hO.row; have HB4 := Lib.hid (hbe w.heap.size w (by (repeat (first | with_reducible exact Below.refl _ _ | with_reducible assumption | with_reducible refine Below.drew ?_ | with_reducible refine below_drewN ?_ _ | with_reducible exact HQ.out | with_reducible exact HBW.out | with_reducible refine below_ext ?_ _ _ | with_reducible refine below_then_later ?_ (by first | with_reducible exact Nat.le_refl _ | with_reducible exact HBW.out.size | with_reducible exact HQ.out.size | omega | (simp; done) | (simp; omega) | (simp [later_size]; done) | (simp [later_size]; omega)) _ | with_reducible refine Below.setCell ?_ (by first | with_reducible exact Nat.le_refl _ | with_reducible exact HBW.out.size | with_reducible exact HQ.out.size | omega | (simp; done) | (simp; omega) | (simp [later_size]; done) | (simp [later_size]; omega)) _ | with_reducible refine Below.alloc ?_ (by first | with_reducible exact Nat.le_refl _ | with_reducible exact HBW.out.size | with_reducible exact HQ.out.size | omega | (simp; done) | (simp; omega) | (simp [later_size]; done) | (simp [later_size]; omega)) _))) (by simp; omega) (by omega)); have b3 := (((Blk.new w2 w2.heap.size [.int .i64 a1, .int .i64 a2] 27 rfl).alloc _).alloc _).grown hg (by simp only [Value.ownBlock, ne_eq, Option.some.injEq]; omega); have b4 := ((Blk.new (w2.alloc (.cells #[.int .i64 a1, .int .i64 a2] 27)) (w2.heap.size + 1) [.int .i64 b1, .int .i64 b2] 27 (by simp)).alloc _).grown hg (by simp only [Value.ownBlock, ne_eq, Option.some.injEq]; omega); have HK3 := Lib.hid b3; have HK4 := Lib.hid b4; clear hO hown hg hbe b3 b4 HR2 HBW) | (go_at_call 21; (with_reducible refine (c_drawStampJoin _ _ _ ([3] ++ xs) _ (by have := HN.out; simp; omega) (by omega) HR4.out).mono ?_); rintro _ w5 ⟨c1, c2', d1, d2, rfl, hc1, hc2, hd1, hd2, p5, hp5⟩; have HBW := Lib.hid (show Below w.heap.size w w5 by rw [hp5]; exact HB4.out.trans ((below_later _ _).mono HB4.out.size)); have k3 := HK3.out.to hp5; have k4 := HK4.out.to hp5; have e30 := k3.cell (i := 0) rfl; have e31 := k3.cell (i := 1) rfl; have e40 := k4.cell (i := 0) rfl; have e41 := k4.cell (i := 1) rfl; have l3 := k3.lt; have l4 := k4.lt; have l3' := Nat.le_of_lt l3; have l4' := Nat.le_of_lt l4; have hs5 : w.heap.size ≤ w5.heap.size := HBW.out.size; clear hp5 k3 k4 HK3 HK4 HR4 HB4 hc1 hc2 hd1 hd2) | ((with_reducible refine wp_region_later (by kernel_rfl) (by kernel_rfl) ?_); (repeat (first | go_big_quiet_skip | quiet_step ((fail)))); refine wpQuiet_nil ?_; rintro _ ⟨p, rfl⟩))
    have q1 := lessI_comm a1 b1
    have q2 := lessI_comm a2 b2
    have q3 := moreI_comm a1 b1
    have q4 := moreI_comm a2 b2
    have q5 := lessI_assoc a1 b1 c1
    have q6 := lessI_assoc a2 b2 c2'
    have q7 := moreI_assoc a1 b1 c1
    have q8 := moreI_assoc a2 b2 c2'
    have q9 := lessI_more a1 b1
    have q10 := lessI_more a2 b2
    have q11 := moreI_self a1
    have q12 := moreI_self a2
    clear HR HN HI HZ HS HB
    go_wp2_with (first | (go_at_call 18; (refine (c_iStampMeet _ _ _ _ _).mono ?_); rintro _ _ ⟨rfl, p, rfl⟩) | (go_at_call 15; (refine (c_iStampJoin _ _ _ _ _).mono ?_); rintro _ _ ⟨rfl, p, rfl⟩) | ((with_reducible refine wp_region_later (by kernel_rfl) (by kernel_rfl) ?_); (repeat (first | go_big_quiet_skip | quiet_step ((first | (go_at_call 18; first | exact calls_later (c_iStampMeet _ _ _ _ _) | exact calls_later2 (c_iStampMeet _ _ _ _ _)) | (go_at_call 15; first | exact calls_later (c_iStampJoin _ _ _ _ _) | exact calls_later2 (c_iStampJoin _ _ _ _ _)))))); refine wpQuiet_nil ?_; rintro _ ⟨p, rfl⟩))
    go_ret
    exact Gives.mk rfl (by (repeat (first | with_reducible exact Below.refl _ _ | with_reducible assumption | with_reducible refine Below.drew ?_ | with_reducible refine below_drewN ?_ _ | with_reducible exact HQ.out | with_reducible exact HBW.out | with_reducible refine below_ext ?_ _ _ | with_reducible refine below_then_later ?_ (by first | with_reducible exact Nat.le_refl _ | with_reducible exact HBW.out.size | with_reducible exact HQ.out.size | omega | (simp; done) | (simp; omega) | (simp [later_size]; done) | (simp [later_size]; omega)) _ | with_reducible refine Below.setCell ?_ (by first | with_reducible exact Nat.le_refl _ | with_reducible exact HBW.out.size | with_reducible exact HQ.out.size | omega | (simp; done) | (simp; omega) | (simp [later_size]; done) | (simp [later_size]; omega)) _ | with_reducible refine Below.alloc ?_ (by first | with_reducible exact Nat.le_refl _ | with_reducible exact HBW.out.size | with_reducible exact HQ.out.size | omega | (simp; done) | (simp; omega) | (simp [later_size]; done) | (simp [later_size]; omega)) _)))


set_option maxRecDepth 100000 in
theorem liftedFnLattice (os : Os) (started : os.Started) (H : Type) (enc : TypeId × Value → H) :
    ReturnsInHanded {} Try.checked os 7 .any (Rows.fnLatticeSpec.pre6 enc Try.prog Try.f7 Rows.fnLatticeRow.domain false) (Rows.fnLatticeSpec.post enc Try.prog Try.f7 false true false false) := by
  refine returnsInHanded_of_change (C := Try.checked) own started (by kernel_rfl) Try.func7
    (ChangeSpec.witness6 (enc := enc) (C := Try.checked) false ⟨#[], #[.slice Option.none 0 0], []⟩ 8 (by as_aux_lemma => kernel_rfl) (by as_aux_lemma => kernel_rfl) (by as_aux_lemma => kernel_rfl) (by as_aux_lemma => kernel_rfl)) ?_
  intro W base args ds gs before hval0 hW0 _ _
  have hval : ∀ (j : Nat) t v, Try.f7.params[j]? = some t → args[j]? = some v → Value.okWide Try.prog W .any base t v := hval0
  have hW : DataW.Whole enc Try.prog Try.f7.params.toList Rows.fnLatticeSpec.vars false W args.toList ds gs before := hW0
  obtain ⟨p, q, hA0, hV, hpq, hfz, hnd⟩ := id hW
  have hA : DataW.TrodAll enc Try.prog W 0 (fun _ => true) true Try.f7.params.toList args.toList ds p := hA0
  rw [Try.params7] at hA hval
  obtain ⟨v0, vs0, d0, ds0, p0, q0, hargs, rfl, rfl, h0, r0⟩ := trodAll_cons hA
  obtain ⟨rfl, rfl, rfl⟩ := trodAll_nil r0
  obtain rfl : args = #[v0] := by cases args; simp_all
  obtain ⟨rfl, rfl⟩ := trodVars_none hV
  obtain ⟨A0, n0, cap0, x0, rfl, hn0, hc0, hm0, hr0, -⟩ := open_bytes Try.underlying32 Try.underlying5 (by kernel_rfl) (hval 0 32 v0 rfl rfl) h0
  refine (w_Lattice A0 n0 cap0 x0 hn0 W hr0).mono fun e W' hg => ?_
  obtain ⟨he, hb⟩ := hg.below
  exact ⟨_, he, law_post laidOut rfl (by kernel_rfl) Try.underlying4 (by kernel_rfl) hW rfl hb⟩

set_option maxHeartbeats 3200000 in
theorem closedFnLattice : joinedFacts Try.checked.prog 7 Try.f7 Rows.fnLatticeSpec Rows.fnLatticeRow = true := by
  unfold joinedFacts
  repeat' (with_reducible refine and_mk ?_ ?_)
  all_goals (as_aux_lemma => kernel_rfl)
theorem namedFnLattice : Try.checked.prog.funcNamed Rows.fnLatticeRow.func = some 7 := by as_aux_lemma => kernel_rfl
theorem instFnLattice : Try.f7.isInstance Try.checked.prog Rows.fnLatticeRow.origin Rows.fnLatticeRow.targs := of_decide_eq_true (by as_aux_lemma => kernel_rfl)
theorem wrapFnLattice : Try.f7.isWrapper Try.checked.prog Rows.fnLatticeRow.wrapper Rows.fnLatticeRow.mainSum := by unfold Func.isWrapper; first | (rw [if_pos (by decide +kernel)]; kernel_rfl) | (rw [if_neg (by decide +kernel)]; exact ⟨rfl, rfl⟩)
theorem holdsFnLattice : Rows.FnLatticeSaid :=
  OpenClaim.holds_of_wide 7 Try.f7 rfl rfl rfl rfl rfl rfl rfl ⟨rfl, rfl, rfl, rfl, rfl⟩ rfl rfl rfl rfl rfl namedFnLattice Try.func7 closedFnLattice instFnLattice wrapFnLattice
    (fun os started H enc _ => liftedFnLattice os started H enc)
end Go.Proofs.Ytgjlkanimlkboaa
