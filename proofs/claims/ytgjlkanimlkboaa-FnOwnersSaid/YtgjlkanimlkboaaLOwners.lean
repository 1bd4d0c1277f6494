/-
  The law FnOwners returns true for every input, and its argument reads afterwards as before. Conditions: none.
-/
import Derived.Test.YtgjlkanimlkboaaDrawO
import Derived.Test.YtgjlkanimlkboaaOpenB
import Derived.Test.YtgjlkanimlkboaaScal
namespace Go.Proofs.Ytgjlkanimlkboaa
open Go.ChangeShapes Go.WideShapes Go.ChangeAt Go.RowKit Go.Deep Go.Joins
set_option linter.unusedVariables false

theorem below_lat {w W : World} (h : Below w.heap.size w W) (p : Later) : Below w.heap.size w (later W p) := h.trans ((below_later W p).mono h.size)
def ownerV (k m : Int) : Int := if m < 1 then 0 else if k.tmod m < 0 then k.tmod m + m else k.tmod m
theorem ownerV_le (k m : Int) : 0 ≤ ownerV k m ∧ (1 ≤ m → ownerV k m < m) := by
  unfold ownerV
  by_cases h1 : m < 1
  · rw [if_pos h1]; omega
  · rw [if_neg h1]
    have b1 := Int.tmod_lt_of_pos k (by omega : 0 < m)
    have b2 := Int.lt_tmod_of_pos k (by omega : 0 < m)
    split <;> omega
theorem ownerV_small {p k : Int} (hp : 0 ≤ p) (hk : 1 ≤ k) : ownerV p k = p.tmod k := by
  unfold ownerV
  rw [if_neg (by omega), if_neg (by have := Int.tmod_nonneg k hp; omega)]
theorem o_impl (k m n : Int) (w : World) (hk : I64 k) (hm : I64 m) (h : ownerV k m = n) : Calls Try.prog 23 #[.int .i64 k, .int .i64 m] w (Gives (.int .i64 n) w) := h ▸ c_iOwnerOf k m w hk hm
theorem o_spec (k m n : Int) (w : World) (hk : I64 k) (hm : I64 m) (h : ownerV k m = n) : Calls Try.prog 25 #[.int .i64 k, .int .i64 m] w (Gives (.int .i64 n) w) := h ▸ c_sOwnerOf k m w hk hm

set_option maxHeartbeats 3200000 in
theorem w_Owners (A : Option Addr) (n c : Nat) (xs : List UInt8) (hn : xs.length = n) (w : World) (hr : Row encB 1 w A xs) : Calls Try.prog 8 #[.slice A n c] w (Gives (.bool true) w) := by
  have HR := Lib.hid hr
  have HN := Lib.hid hn
  clear hr hn
  by_cases hbig : 1048576 < n
  · have hz : decide (1048576 < n) = true := by simpa using hbig
    go_enter Try.func8, Try.ntmps8
    go_wp2_with (first | (go_at_call 19; (refine (c_big _ _ _ _ _ hz).mono ?_); rintro _ _ ⟨rfl, p, rfl⟩) | ((with_reducible refine wp_region_later (by kernel_rfl) (by kernel_rfl) ?_); (repeat (first | go_big_quiet_skip | quiet_step ((first | (go_at_call 19; first | exact calls_later (c_big _ _ _ _ _ hz) | exact calls_later2 (c_big _ _ _ _ _ hz)))))); refine wpQuiet_nil ?_; rintro _ ⟨p, rfl⟩))
    go_ret
    exact Gives.mk rfl (by (repeat (first | with_reducible exact Below.refl _ _ | with_reducible assumption | with_reducible refine Below.drew ?_ | with_reducible refine below_drewN ?_ _ | with_reducible exact HQ.out | with_reducible exact HBW.out | with_reducible refine below_ext ?_ _ _ | with_reducible refine below_then_later ?_ (by first | with_reducible exact Nat.le_refl _ | with_reducible exact HBW.out.size | with_reducible exact HQ.out.size | omega | (simp; done) | (simp; omega) | (simp [later_size]; done) | (simp [later_size]; omega)) _ | with_reducible refine Below.setCell ?_ (by first | with_reducible exact Nat.le_refl _ | with_reducible exact HBW.out.size | with_reducible exact HQ.out.size | omega | (simp; done) | (simp; omega) | (simp [later_size]; done) | (simp [later_size]; omega)) _ | with_reducible refine Below.alloc ?_ (by first | with_reducible exact Nat.le_refl _ | with_reducible exact HBW.out.size | with_reducible exact HQ.out.size | omega | (simp; done) | (simp; omega) | (simp [later_size]; done) | (simp [later_size]; omega)) _)))
  · have hz : decide (1048576 < n) = false := by simpa using hbig
    go_enter Try.func8, Try.ntmps8
    go_wp2_with (first | (go_at_call 19; (with_reducible refine (c_big _ _ _ _ _ hz).mono ?_); rintro _ w1 ⟨rfl, p, hp⟩; have HP := Lib.hid hp; have HR1 := Lib.hid (show Row encB 1 w1 A xs by rw [hp]; exact HR.out.later _); clear hp) | (go_at_call 22; (with_reducible refine (c_drawOwnerOf _ _ _ xs _ HN.out (by omega) HR1.out).mono ?_); rintro _ w2 ⟨k, m, rfl, hk, hm, p2, hp2⟩; have HK := Lib.hid hk; have HM := Lib.hid hm; have HR2 := Lib.hid (show Row encB 1 w2 A xs by rw [hp2]; exact HR1.out.later _); have HBW := Lib.hid (show Below w.heap.size w w2 by rw [hp2, HP.out]; exact (below_later _ _).trans ((below_later _ _).mono (below_later _ _).size)); clear hk hm hp2; obtain ⟨o, ho⟩ : ∃ o, ownerV k m = o := ⟨_, rfl⟩; have HO := Lib.hid ho; have hob := ownerV_le k m; rw [ho] at hob; clear ho) | (go_at_call 24; (refine (c_drawPlaces _ _ _ xs _ HN.out (by omega) (by first | exact HR2.out | exact HR2.out.later _)).mono ?_); rintro _ w3 ⟨A2, c2, ps, rfl, hpl, hpb, hpr, p3, hp3⟩; have HB3 := Lib.hid (show Below w.heap.size w w3 by rw [hp3]; first | exact below_lat HBW.out _ | exact below_lat (below_lat HBW.out _) _); clear HBW; have HBW := Lib.hid HB3.out; clear HB3 hp3; obtain ⟨q0, hq0⟩ : ∃ z, ps[0]? = some z := ⟨_, List.getElem?_eq_getElem (by rw [hpl]; omega)⟩; obtain ⟨q1, hq1⟩ : ∃ z, ps[1]? = some z := ⟨_, List.getElem?_eq_getElem (by rw [hpl]; omega)⟩; obtain ⟨b, off, rfl, hcx⟩ := hpr.at_ hq0; have hc0 := hcx 0 _ rfl; obtain ⟨b', off', hbo, hcy⟩ := hpr.at_ hq1; cases hbo; have hc1 := hcy 0 _ rfl; clear hcx hcy; simp only [Nat.add_zero, Nat.mul_one] at hc0 hc1; have hb0 := hpb q0 (List.mem_of_getElem? hq0); have hb1 := hpb q1 (List.mem_of_getElem? hq1); clear hpb hpr hpl hq0 hq1; obtain ⟨kk, hkk⟩ : ∃ kk, 1 + q0 % 4 = kk := ⟨_, rfl⟩; have hkk1 : 1 ≤ kk := (by omega); have hkk4 : kk ≤ 4 := (by omega); have hkk0 : ¬ kk = 0 := (by omega); obtain ⟨hb1, hb1'⟩ := hb1; obtain ⟨hb0, hb0'⟩ := hb0; have HO1 := Lib.hid (ownerV_small (p := q1) (k := kk) (by omega) (by omega)); have hi1 : I64 q1 := (by unfold I64; omega); have hik : I64 kk := (by unfold I64; omega); have hth : 0 ≤ q1.tmod kk := Int.tmod_nonneg kk (by omega)) | (go_at_call 23; (first | (with_reducible refine (o_impl k m o _ HK.out HM.out HO.out).mono ?_) | (with_reducible refine (o_impl q1 kk (q1.tmod kk) _ hi1 hik HO1.out).mono ?_) | (with_reducible refine (o_impl (-1) 3 2 _ (by unfold I64; omega) (by unfold I64; omega) (by decide)).mono ?_)); rintro _ _ ⟨rfl, p, rfl⟩) | (go_at_call 25; (refine (o_spec k m o _ HK.out HM.out HO.out).mono ?_); rintro _ _ ⟨rfl, p, rfl⟩) | ((with_reducible refine wp_region_later (by kernel_rfl) (by kernel_rfl) ?_); (repeat (first | go_big_quiet_skip | quiet_step ((first | (go_at_call 23; first | with_reducible exact calls_later (o_impl k m o _ HK.out HM.out HO.out) | with_reducible exact calls_later2 (o_impl k m o _ HK.out HM.out HO.out) | with_reducible exact calls_later (o_impl q1 kk (q1.tmod kk) _ hi1 hik HO1.out) | with_reducible exact calls_later2 (o_impl q1 kk (q1.tmod kk) _ hi1 hik HO1.out) | with_reducible exact calls_later (o_impl (-1) 3 2 _ (by unfold I64; omega) (by unfold I64; omega) (by decide)) | with_reducible exact calls_later2 (o_impl (-1) 3 2 _ (by unfold I64; omega) (by unfold I64; omega) (by decide))) | (go_at_call 25; first | exact calls_later (o_spec k m o _ HK.out HM.out HO.out) | exact calls_later2 (o_spec k m o _ HK.out HM.out HO.out)))))); refine wpQuiet_nil ?_; rintro _ ⟨p, rfl⟩))
    by_cases hm1 : m < 1
    · have hm2 : (decide (m < 1)) = true := by simpa using hm1
      have ho0 : 0 ≤ o := hob.1
      have he : (o == o) = true := by simp
      go_wp2_with (first | (go_at_call 23; (first | (with_reducible refine (o_impl k m o _ HK.out HM.out HO.out).mono ?_) | (with_reducible refine (o_impl q1 kk (q1.tmod kk) _ hi1 hik HO1.out).mono ?_) | (with_reducible refine (o_impl (-1) 3 2 _ (by unfold I64; omega) (by unfold I64; omega) (by decide)).mono ?_)); rintro _ _ ⟨rfl, p, rfl⟩) | (go_at_call 25; (refine (o_spec k m o _ HK.out HM.out HO.out).mono ?_); rintro _ _ ⟨rfl, p, rfl⟩) | ((with_reducible refine wp_region_later (by kernel_rfl) (by kernel_rfl) ?_); (repeat (first | go_big_quiet_skip | quiet_step ((first | (go_at_call 23; first | with_reducible exact calls_later (o_impl k m o _ HK.out HM.out HO.out) | with_reducible exact calls_later2 (o_impl k m o _ HK.out HM.out HO.out) | with_reducible exact calls_later (o_impl q1 kk (q1.tmod kk) _ hi1 hik HO1.out) | with_reducible exact calls_later2 (o_impl q1 kk (q1.tmod kk) _ hi1 hik HO1.out) | with_reducible exact calls_later (o_impl (-1) 3 2 _ (by unfold I64; omega) (by unfold I64; omega) (by decide)) | with_reducible exact calls_later2 (o_impl (-1) 3 2 _ (by unfold I64; omega) (by unfold I64; omega) (by decide))) | (go_at_call 25; first | exact calls_later (o_spec k m o _ HK.out HM.out HO.out) | exact calls_later2 (o_spec k m o _ HK.out HM.out HO.out)))))); refine wpQuiet_nil ?_; rintro _ ⟨p, rfl⟩))
      go_ret
      exact Gives.mk (by first | rfl | simp) (by first | exact below_lat HBW.out _ | exact HBW.out)
    · have hm2 : (decide (m < 1)) = false := by simpa using hm1
      have ho0 : 0 ≤ o := hob.1
      have hom : o < m := hob.2 (by omega)
      go_wp2_with (first | (go_at_call 23; (first | (with_reducible refine (o_impl k m o _ HK.out HM.out HO.out).mono ?_) | (with_reducible refine (o_impl q1 kk (q1.tmod kk) _ hi1 hik HO1.out).mono ?_) | (with_reducible refine (o_impl (-1) 3 2 _ (by unfold I64; omega) (by unfold I64; omega) (by decide)).mono ?_)); rintro _ _ ⟨rfl, p, rfl⟩) | (go_at_call 25; (refine (o_spec k m o _ HK.out HM.out HO.out).mono ?_); rintro _ _ ⟨rfl, p, rfl⟩) | ((with_reducible refine wp_region_later (by kernel_rfl) (by kernel_rfl) ?_); (repeat (first | go_big_quiet_skip | quiet_step ((first | (go_at_call 23; first | with_reducible exact calls_later (o_impl k m o _ HK.out HM.out HO.out) | with_reducible exact calls_later2 (o_impl k m o _ HK.out HM.out HO.out) | with_reducible exact calls_later (o_impl q1 kk (q1.tmod kk) _ hi1 hik HO1.out) | with_reducible exact calls_later2 (o_impl q1 kk (q1.tmod kk) _ hi1 hik HO1.out) | with_reducible exact calls_later (o_impl (-1) 3 2 _ (by unfold I64; omega) (by unfold I64; omega) (by decide)) | with_reducible exact calls_later2 (o_impl (-1) 3 2 _ (by unfold I64; omega) (by unfold I64; omega) (by decide))) | (go_at_call 25; first | exact calls_later (o_spec k m o _ HK.out HM.out HO.out) | exact calls_later2 (o_spec k m o _ HK.out HM.out HO.out)))))); refine wpQuiet_nil ?_; rintro _ ⟨p, rfl⟩))
      go_ret
      exact Gives.mk (by first | rfl | simp) (by first | exact below_lat HBW.out _ | exact HBW.out)


set_option maxRecDepth 100000 in
theorem liftedFnOwners (os : Os) (started : os.Started) (H : Type) (enc : TypeId × Value → H) :
    ReturnsInHanded {} Try.checked os 8 .any (Rows.fnOwnersSpec.pre6 enc Try.prog Try.f8 Rows.fnOwnersRow.domain false) (Rows.fnOwnersSpec.post enc Try.prog Try.f8 false true false false) := by
  refine returnsInHanded_of_change (C := Try.checked) own started (by kernel_rfl) Try.func8
    (ChangeSpec.witness6 (enc := enc) (C := Try.checked) false ⟨#[], #[.slice Option.none 0 0], []⟩ 8 (by as_aux_lemma => kernel_rfl) (by as_aux_lemma => kernel_rfl) (by as_aux_lemma => kernel_rfl) (by as_aux_lemma => kernel_rfl)) ?_
  intro W base args ds gs before hval0 hW0 _ _
  have hval : ∀ (j : Nat) t v, Try.f8.params[j]? = some t → args[j]? = some v → Value.okWide Try.prog W .any base t v := hval0
  have hW : DataW.Whole enc Try.prog Try.f8.params.toList Rows.fnOwnersSpec.vars false W args.toList ds gs before := hW0
  obtain ⟨p, q, hA0, hV, hpq, hfz, hnd⟩ := id hW
  have hA : DataW.TrodAll enc Try.prog W 0 (fun _ => true) true Try.f8.params.toList args.toList ds p := hA0
  rw [Try.params8] at hA hval
  obtain ⟨v0, vs0, d0, ds0, p0, q0, hargs, rfl, rfl, h0, r0⟩ := trodAll_cons hA
  obtain ⟨rfl, rfl, rfl⟩ := trodAll_nil r0
  obtain rfl : args = #[v0] := by cases args; simp_all
  obtain ⟨rfl, rfl⟩ := trodVars_none hV
  obtain ⟨A0, n0, cap0, x0, rfl, hn0, hc0, hm0, hr0, -⟩ := open_bytes Try.underlying32 Try.underlying5 (by kernel_rfl) (hval 0 32 v0 rfl rfl) h0
  refine (w_Owners A0 n0 cap0 x0 hn0 W hr0).mono fun e W' hg => ?_
  obtain ⟨he, hb⟩ := hg.below
  exact ⟨_, he, law_post laidOut rfl (by kernel_rfl) Try.underlying4 (by kernel_rfl) hW rfl hb⟩

set_option maxHeartbeats 3200000 in
theorem closedFnOwners : joinedFacts Try.checked.prog 8 Try.f8 Rows.fnOwnersSpec Rows.fnOwnersRow = true := by
  unfold joinedFacts
  repeat' (with_reducible refine and_mk ?_ ?_)
  all_goals (as_aux_lemma => kernel_rfl)
theorem namedFnOwners : Try.checked.prog.funcNamed Rows.fnOwnersRow.func = some 8 := by as_aux_lemma => kernel_rfl
theorem instFnOwners : Try.f8.isInstance Try.checked.prog Rows.fnOwnersRow.origin Rows.fnOwnersRow.targs := of_decide_eq_true (by as_aux_lemma => kernel_rfl)
theorem wrapFnOwners : Try.f8.isWrapper Try.checked.prog Rows.fnOwnersRow.wrapper Rows.fnOwnersRow.mainSum := by unfold Func.isWrapper; first | (rw [if_pos (by decide +kernel)]; kernel_rfl) | (rw [if_neg (by decide +kernel)]; exact ⟨rfl, rfl⟩)
theorem holdsFnOwners : Rows.FnOwnersSaid :=
  OpenClaim.holds_of_wide 8 Try.f8 rfl rfl rfl rfl rfl rfl rfl ⟨rfl, rfl, rfl, rfl, rfl⟩ rfl rfl rfl rfl rfl namedFnOwners Try.func8 closedFnOwners instFnOwners wrapFnOwners
    (fun os started H enc _ => liftedFnOwners os started H enc)
end Go.Proofs.Ytgjlkanimlkboaa
