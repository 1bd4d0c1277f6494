/-
  PartsOf of the program (by the library's contract on Fields, which reads a table of the library's own) and of the reference. Conditions: the table holds what its initialiser lays.
-/
import Derived.Test.YtopaapgbenpbaaaDoorPart
import Derived.Lib.AppendIntMem
namespace Go.Proofs.YtopaapgbenpbaaaDoor
open Go.RowKit
set_option linter.unusedVariables false

/-- the library's table of white space, in this world and in all that only add to it -/
def TabS (w : World) : Prop := ∀ W, Below w.heap.size w W → Lib.TabIs Tryd.prog W "strings.asciiSpace" .u8 Lib.asciiSpaceTab
theorem TabS.mk {w : World} (h : Lib.TabIs Tryd.prog w "strings.asciiSpace" .u8 Lib.asciiSpaceTab) : TabS w := fun W hb => Lib.tabBelow_of_tabIs h W hb
theorem TabS.on {w W : World} (h : TabS w) (hb : Below w.heap.size w W) : TabS W := fun W2 hb2 => h W2 (hb.trans (hb2.mono hb.size))

def lineOk (s : ByteArray) : Bool := decide (s.size ≤ 600) && s.data.toList.all fun b => decide (32 ≤ b.toNat ∧ b.toNat ≤ 126)
def pcs (s : ByteArray) : List ByteArray := (Lib.fields s.data.toList).map fun l => ⟨l.toArray⟩
def parts (s : ByteArray) : List ByteArray × Bool := if (lineOk s && decide ((pcs s).length ≤ 12)) = true then (pcs s, true) else ([], false)
def OkUpto (s : ByteArray) (j : Nat) : Prop := ∀ i x, i < j → s.data.toList[i]? = some x → 32 ≤ x.toNat ∧ x.toNat ≤ 126
theorem OkUpto.zero (s : ByteArray) : OkUpto s 0 := fun i x h => by omega
theorem OkUpto.step {s : ByteArray} {j : Nat} {x : UInt8} (h : OkUpto s j) (hx : s.data.toList[j]? = some x) (ho : 32 ≤ x.toNat ∧ x.toNat ≤ 126) : OkUpto s (j + 1) := fun i y hi hy => by
  by_cases he : i = j
  · subst he
    rw [hx] at hy
    cases hy
    exact ho
  · exact h i y (by omega) hy
theorem OkUpto.over {s : ByteArray} {j : Nat} (h : OkUpto s j) (hj : s.size ≤ j) : OkUpto s (j + 1) := fun i y hi hy => by
  have := (List.getElem?_eq_some_iff.1 hy).1
  have hs : s.data.toList.length = s.size := by rw [Array.length_toList]; rfl
  exact h i y (by omega) hy
theorem OkUpto.line {s : ByteArray} {j : Nat} (h : OkUpto s j) (hj : s.size ≤ j) (hs : s.size ≤ 600) : lineOk s = true := by
  unfold lineOk
  rw [decide_eq_true hs, Bool.true_and, List.all_eq_true]
  intro x hx
  obtain ⟨i, hi⟩ := List.getElem?_of_mem hx
  have := (List.getElem?_eq_some_iff.1 hi).1
  have hs : s.data.toList.length = s.size := by rw [Array.length_toList]; rfl
  exact decide_eq_true (h i x (by omega) hi)
theorem parts_big {s : ByteArray} (h : 600 < s.size) : parts s = ([], false) := by
  unfold parts lineOk
  rw [decide_eq_false (by omega)]
  rfl
theorem parts_bad {s : ByteArray} {j : Nat} {x : UInt8} (hx : s.data.toList[j]? = some x) (h : ¬ (32 ≤ x.toNat ∧ x.toNat ≤ 126)) : parts s = ([], false) := by
  unfold parts
  rw [if_neg]
  intro e
  simp only [Bool.and_eq_true] at e
  have h1 := e.1
  unfold lineOk at h1
  simp only [Bool.and_eq_true, List.all_eq_true, decide_eq_true_eq] at h1
  exact h (h1.2 x (List.mem_of_getElem? hx))
theorem parts_many {s : ByteArray} (h : 12 < (pcs s).length) : parts s = ([], false) := by
  unfold parts
  rw [decide_eq_false (by omega), Bool.and_false]
  rfl
theorem parts_ok {s : ByteArray} (h : lineOk s = true) (h2 : (pcs s).length ≤ 12) : parts s = (pcs s, true) := by
  unfold parts
  rw [h, decide_eq_true h2]
  rfl
theorem parts_len (s : ByteArray) : (parts s).1.length ≤ 12 := by
  unfold parts
  split
  · rename_i h
    simp only [Bool.and_eq_true, decide_eq_true_eq] at h
    exact h.2
  · simp
theorem isSp_yes {x : UInt8} (h : x.toNat = 32) : Lib.isSp x = true := by
  have : x = 32 := UInt8.toNat.inj h
  subst this
  rfl
theorem isSp_no {x : UInt8} (h : 32 ≤ x.toNat) (h2 : ¬ x.toNat = 32) : Lib.isSp x = false := by
  unfold Lib.isSp
  have ne : ∀ y : UInt8, ¬ x.toNat = y.toNat → (x == y) = false := fun y hy => by
    rw [beq_eq_false_iff_ne]
    intro e
    exact hy (by rw [e])
  rw [ne 9 (by show ¬ x.toNat = 9; omega), ne 10 (by show ¬ x.toNat = 10; omega), ne 11 (by show ¬ x.toNat = 11; omega), ne 12 (by show ¬ x.toNat = 12; omega), ne 13 (by show ¬ x.toNat = 13; omega), ne 32 h2]
  rfl
theorem pcs_eq {s : ByteArray} {done : List ByteArray} (h : done.map (·.data.toList) = Lib.fields s.data.toList) : done = pcs s := by
  unfold pcs
  rw [← h, List.map_map]
  have : (fun l : List UInt8 => (⟨l.toArray⟩ : ByteArray)) ∘ (fun b : ByteArray => b.data.toList) = id := by
    funext b
    rfl
  rw [this, List.map_id]
/-- what the reference's loop holds: j bytes are read, the piece from b on is open, the pieces ahead of it are done -/
def InP (s : ByteArray) (j b : Nat) (done : List ByteArray) : Prop := done.map (·.data.toList) ++ Lib.fieldsGo ((s.data.toList.drop b).take (j - b)) (s.data.toList.drop j) = Lib.fields s.data.toList
theorem InP.start (s : ByteArray) : InP s 0 0 [] := by unfold InP; simp [Lib.fields]
theorem InP.more {s : ByteArray} {j b : Nat} {x : UInt8} {done : List ByteArray} (h : InP s j b done) (hb : b ≤ j) (hx : s.data.toList[j]? = some x) (hs : Lib.isSp x = false) : InP s (j + 1) b done := by
  unfold InP at h ⊢
  rw [Lib.drop_at hx, Lib.fieldsGo_more _ _ _ hs] at h
  rw [Lib.piece_more hb hx]
  exact h
theorem InP.cut {s : ByteArray} {j b : Nat} {x : UInt8} {done : List ByteArray} (h : InP s j b done) (hb : b < j) (hx : s.data.toList[j]? = some x) (hs : Lib.isSp x = true) : InP s (j + 1) (j + 1) (done ++ [s.extract b j]) := by
  unfold InP at h ⊢
  have hj := (List.getElem?_eq_some_iff.1 hx).1
  rw [Lib.drop_at hx, Lib.fieldsGo_end _ _ _ hs (Lib.piece_ne hb (by omega))] at h
  rw [← h, Lib.piece_nil, List.map_append, List.map_cons, List.map_nil, Lib.extract_data, List.append_assoc]
  rfl
theorem InP.skip {s : ByteArray} {j : Nat} {x : UInt8} {done : List ByteArray} (h : InP s j j done) (hx : s.data.toList[j]? = some x) (hs : Lib.isSp x = true) : InP s (j + 1) (j + 1) done := by
  unfold InP at h ⊢
  rw [Lib.piece_nil, Lib.drop_at hx, Lib.fieldsGo_sp _ _ hs] at h
  rw [Lib.piece_nil]
  exact h
theorem drop_over (s : ByteArray) : s.data.toList.drop (s.size + 1) = [] := List.drop_eq_nil_of_le (by rw [Array.length_toList]; exact Nat.le_succ _)
theorem drop_full (s : ByteArray) : s.data.toList.drop s.size = [] := List.drop_eq_nil_of_le (by rw [Array.length_toList]; exact Nat.le_refl _)
theorem InP.cutEnd {s : ByteArray} {b : Nat} {done : List ByteArray} (h : InP s s.size b done) (hb : b < s.size) : InP s (s.size + 1) (s.size + 1) (done ++ [s.extract b s.size]) := by
  unfold InP at h ⊢
  have hne := Lib.piece_ne (l := s.data.toList) hb (by rw [Array.length_toList]; exact Nat.le_refl _)
  rw [drop_full] at h
  have e1 : Lib.fieldsGo ((s.data.toList.drop b).take (s.size - b)) [] = [(s.data.toList.drop b).take (s.size - b)] := by
    cases hc : (s.data.toList.drop b).take (s.size - b) with
    | nil => exact absurd hc hne
    | cons _ _ => rfl
  rw [e1] at h
  rw [← h, Lib.piece_nil, drop_over, List.map_append, List.map_cons, List.map_nil, Lib.extract_data]
  simp [Lib.fieldsGo]
theorem InP.skipEnd {s : ByteArray} {done : List ByteArray} (h : InP s s.size s.size done) : InP s (s.size + 1) (s.size + 1) done := by
  unfold InP at h ⊢
  rw [Lib.piece_nil, drop_full] at h
  rw [Lib.piece_nil, drop_over]
  exact h
theorem InP.done {s : ByteArray} {b : Nat} {done : List ByteArray} (h : InP s (s.size + 1) b done) (hb : b = s.size + 1) : done = pcs s := by
  subst hb
  unfold InP at h
  rw [Lib.piece_nil, drop_over] at h
  exact pcs_eq (by simpa [Lib.fieldsGo] using h)
theorem ownsRow_slc {w : World} {base : Nat} {e : TypeId} {size : Nat} {v : Value} {n : Nat} {xs : List Value} (h : w.ownsRow base e size v n xs) : ∃ A c, v = .slice A n c ∧ n ≤ c ∧ c ≤ maxLen := by
  obtain ⟨h1, h2⟩ := h
  rcases h2 with ⟨rfl, rfl⟩ | ⟨g, cap, cur, rfl, hb, hg, hnc, hcm, hr⟩
  · exact ⟨_, _, rfl, Nat.le_refl _, by simp [maxLen]⟩
  · exact ⟨_, _, rfl, hnc, hcm⟩
theorem cnt_le : ∀ (l : List UInt8) (ws : Bool), Lib.cntF ws l ≤ l.length
  | [], ws => by simp [Lib.cntF]
  | x :: l, ws => by
    have := cnt_le l (Lib.isSp x)
    rw [Lib.cntF_step, List.length_cons]
    split <;> omega
theorem made_none {w w' : World} {A : Option Addr} {c : Nat} {e : Ending} {mk : Value → Value} (he : e = .returned (mk (.slice A 0 c))) (hc : c ≤ maxLen) (hb : Below w.heap.size w w') : MadeOwn encT 1 mk ([] : List ByteArray) w e w' :=
  ⟨A, 0, c, he, rfl, Nat.zero_le _, hc, Own.nil, later_of_below hb⟩
theorem c_fields (s : ByteArray) (w : World) (hs : s.size ≤ 600) (hok : lineOk s = true) (ht : TabS w) : Calls Tryd.prog 10 #[.string s] w (MadeOwn encT 1 id (pcs s) w) := by
  unfold lineOk at hok
  simp only [Bool.and_eq_true, List.all_eq_true, decide_eq_true_eq] at hok
  refine (Tryd.strings_Fields s w (by omega) (fun j b hj => by have := (hok.2 b (List.mem_of_getElem? hj)).2; omega) (ht w (Below.refl _ _))).mono ?_
  rintro _ _ ⟨rfl, rfl⟩
  have hl : (pcs s).length = (Lib.fields s.data.toList).length := by unfold pcs; rw [List.length_map]
  have hf : ((pcs s).flatMap encT).toArray = ((Lib.fields s.data.toList).map fun l => Value.string ⟨l.toArray⟩).toArray := by
    rw [flatT]; unfold pcs; rw [List.map_map]; rfl
  have hlen : (Lib.fields s.data.toList).length ≤ 600 := by
    rw [Lib.fields_length]
    have h1 := cnt_le s.data.toList true
    have h2 : s.data.toList.length = s.size := by rw [Array.length_toList]; rfl
    omega
  refine ⟨_, _, _, rfl, hl, Nat.le_refl _, by unfold maxLen; omega, ?_, later_of_below ((Below.refl _ _).alloc (Nat.le_refl _) _)⟩
  rw [← hf]
  obtain ⟨p, hp⟩ := later_refl (w.alloc (.cells ((pcs s).flatMap encT).toArray 9))
  have ho := own_copied encT 1 lenT w (pcs s) 9 p
  rwa [← hp] at ho
set_option maxHeartbeats 3200000 in
theorem c_iPartsOf (s : ByteArray) (w : World) (hs : s.size ≤ 1048576) (ht : TabS w) (xs : List ByteArray) (z : Bool) (hp : parts s = (xs, z)) : Calls Tryd.prog 5 #[.string s] w (MadeOwn encT 1 (fun v => .tuple #[v, .bool z]) xs w) := by
  have HT := Lib.hid ht
  have HP := Lib.hid hp
  clear ht hp
  by_cases hbig : 600 < s.size
  · obtain ⟨rfl, rfl⟩ := Prod.mk.inj (HP.out.symm.trans (parts_big hbig))
    go_enter Tryd.func5, Tryd.ntmps5
    go_wp2_with (first | ((with_reducible refine wp_region_later (by kernel_rfl) (by kernel_rfl) ?_); (repeat (first | go_big_quiet_skip | quiet_step ((fail)))); refine wpQuiet_nil ?_; rintro _ ⟨p, rfl⟩))
    go_ret2
    exact made_none (mk := fun v => .tuple #[v, .bool false]) rfl (by unfold maxLen; omega) (by (repeat (first | with_reducible exact Below.refl _ _ | with_reducible assumption | with_reducible refine Below.drew ?_ | with_reducible refine below_drewN ?_ _ | with_reducible exact HQ.out | with_reducible exact HBW.out | with_reducible refine below_ext ?_ _ _ | with_reducible refine below_then_later ?_ (by first | with_reducible exact Nat.le_refl _ | with_reducible exact HBW.out.size | with_reducible exact HQ.out.size | omega | (simp; done) | (simp; omega) | (simp [later_size]; done) | (simp [later_size]; omega)) _ | with_reducible refine Below.setCell ?_ (by first | with_reducible exact Nat.le_refl _ | with_reducible exact HBW.out.size | with_reducible exact HQ.out.size | omega | (simp; done) | (simp; omega) | (simp [later_size]; done) | (simp [later_size]; omega)) _ | with_reducible refine Below.alloc ?_ (by first | with_reducible exact Nat.le_refl _ | with_reducible exact HBW.out.size | with_reducible exact HQ.out.size | omega | (simp; done) | (simp; omega) | (simp [later_size]; done) | (simp [later_size]; omega)) _)))
  go_enter Tryd.func5, Tryd.ntmps5
  go_wp2_with fail
  go_loopw [4] (fun ii wr => ∃ j : Nat, ii = .int .i64 j ∧ j ≤ s.size ∧ OkUpto s j ∧ ∃ p : Later, wr = later w p) (fun ii _ => s.size - (intOf ii).toNat)
  case atStart => exact ⟨0, rfl, by omega, OkUpto.zero s, later_of_below (by (repeat (first | with_reducible exact Below.refl _ _ | with_reducible assumption | with_reducible refine Below.drew ?_ | with_reducible refine below_drewN ?_ _ | with_reducible exact HQ.out | with_reducible exact HBW.out | with_reducible refine below_ext ?_ _ _ | with_reducible refine below_then_later ?_ (by first | with_reducible exact Nat.le_refl _ | with_reducible exact HBW.out.size | with_reducible exact HQ.out.size | omega | (simp; done) | (simp; omega) | (simp [later_size]; done) | (simp [later_size]; omega)) _ | with_reducible refine Below.setCell ?_ (by first | with_reducible exact Nat.le_refl _ | with_reducible exact HBW.out.size | with_reducible exact HQ.out.size | omega | (simp; done) | (simp; omega) | (simp [later_size]; done) | (simp [later_size]; omega)) _ | with_reducible refine Below.alloc ?_ (by first | with_reducible exact Nat.le_refl _ | with_reducible exact HBW.out.size | with_reducible exact HQ.out.size | omega | (simp; done) | (simp; omega) | (simp [later_size]; done) | (simp [later_size]; omega)) _)))⟩
  case round =>
    obtain ⟨j, rfl, hj, hO, p, rfl⟩ := hrel
    have HO := Lib.hid hO
    clear hO
    by_cases hlt : j < s.size
    · obtain ⟨x, hx⟩ : ∃ x, s.data.toList[j]? = some x := ⟨_, List.getElem?_eq_getElem (by rw [Array.length_toList]; exact hlt)⟩
      have HX := Lib.hid hx
      have hx256 := UInt8.toNat_lt x
      have hat := run_byte_at (P := Tryd.prog) 9 s j x Tryd.underlying9 hx
      clear hx
      by_cases hok : 32 ≤ x.toNat ∧ x.toNat ≤ 126
      · go_wp2_with (first | (go_at_call 9; (refine (c_within_t _ _ _ _ (by omega)).mono ?_); rintro _ _ ⟨rfl, p, rfl⟩) | ((with_reducible refine wp_region_later (by kernel_rfl) (by kernel_rfl) ?_); (repeat (first | go_big_quiet_skip | quiet_step ((first | (go_at_call 9; first | exact calls_later (c_within_t _ _ _ _ (by omega)) | exact calls_later2 (c_within_t _ _ _ _ (by omega))))))); refine wpQuiet_nil ?_; rintro _ ⟨p, rfl⟩))
        all_goals
          go_roundw
          case rel => exact ⟨j + 1, by go_num, by omega, HO.out.step HX.out hok, later_of_below (by (repeat (first | with_reducible exact Below.refl _ _ | with_reducible assumption | with_reducible refine Below.drew ?_ | with_reducible refine below_drewN ?_ _ | with_reducible exact HQ.out | with_reducible exact HBW.out | with_reducible refine below_ext ?_ _ _ | with_reducible refine below_then_later ?_ (by first | with_reducible exact Nat.le_refl _ | with_reducible exact HBW.out.size | with_reducible exact HQ.out.size | omega | (simp; done) | (simp; omega) | (simp [later_size]; done) | (simp [later_size]; omega)) _ | with_reducible refine Below.setCell ?_ (by first | with_reducible exact Nat.le_refl _ | with_reducible exact HBW.out.size | with_reducible exact HQ.out.size | omega | (simp; done) | (simp; omega) | (simp [later_size]; done) | (simp [later_size]; omega)) _ | with_reducible refine Below.alloc ?_ (by first | with_reducible exact Nat.le_refl _ | with_reducible exact HBW.out.size | with_reducible exact HQ.out.size | omega | (simp; done) | (simp; omega) | (simp [later_size]; done) | (simp [later_size]; omega)) _)))⟩
          case measure => first | (simp [intOf]; done) | (simp [intOf]; omega)
      · obtain ⟨rfl, rfl⟩ := Prod.mk.inj (HP.out.symm.trans (parts_bad HX.out hok))
        go_wp2_with (first | (go_at_call 9; (refine (c_within_f _ _ _ _ (by omega)).mono ?_); rintro _ _ ⟨rfl, p, rfl⟩) | ((with_reducible refine wp_region_later (by kernel_rfl) (by kernel_rfl) ?_); (repeat (first | go_big_quiet_skip | quiet_step ((first | (go_at_call 9; first | exact calls_later (c_within_f _ _ _ _ (by omega)) | exact calls_later2 (c_within_f _ _ _ _ (by omega))))))); refine wpQuiet_nil ?_; rintro _ ⟨p, rfl⟩))
        go_ret2
        exact made_none (mk := fun v => .tuple #[v, .bool false]) rfl (by unfold maxLen; omega) (by (repeat (first | with_reducible exact Below.refl _ _ | with_reducible assumption | with_reducible refine Below.drew ?_ | with_reducible refine below_drewN ?_ _ | with_reducible exact HQ.out | with_reducible exact HBW.out | with_reducible refine below_ext ?_ _ _ | with_reducible refine below_then_later ?_ (by first | with_reducible exact Nat.le_refl _ | with_reducible exact HBW.out.size | with_reducible exact HQ.out.size | omega | (simp; done) | (simp; omega) | (simp [later_size]; done) | (simp [later_size]; omega)) _ | with_reducible refine Below.setCell ?_ (by first | with_reducible exact Nat.le_refl _ | with_reducible exact HBW.out.size | with_reducible exact HQ.out.size | omega | (simp; done) | (simp; omega) | (simp [later_size]; done) | (simp [later_size]; omega)) _ | with_reducible refine Below.alloc ?_ (by first | with_reducible exact Nat.le_refl _ | with_reducible exact HBW.out.size | with_reducible exact HQ.out.size | omega | (simp; done) | (simp; omega) | (simp [later_size]; done) | (simp [later_size]; omega)) _)))
    · obtain rfl : j = s.size := by omega
      have HL := Lib.hid (HO.out.line (Nat.le_refl _) (by omega))
      clear HO
      have hs6 : s.size ≤ 600 := by omega
      go_wp2_with fail
      refine (c_fields s _ hs6 HL.out (HT.out.on (by (repeat (first | with_reducible exact Below.refl _ _ | with_reducible assumption | with_reducible refine Below.drew ?_ | with_reducible refine below_drewN ?_ _ | with_reducible exact HQ.out | with_reducible exact HBW.out | with_reducible refine below_ext ?_ _ _ | with_reducible refine below_then_later ?_ (by first | with_reducible exact Nat.le_refl _ | with_reducible exact HBW.out.size | with_reducible exact HQ.out.size | omega | (simp; done) | (simp; omega) | (simp [later_size]; done) | (simp [later_size]; omega)) _ | with_reducible refine Below.setCell ?_ (by first | with_reducible exact Nat.le_refl _ | with_reducible exact HBW.out.size | with_reducible exact HQ.out.size | omega | (simp; done) | (simp; omega) | (simp [later_size]; done) | (simp [later_size]; omega)) _ | with_reducible refine Below.alloc ?_ (by first | with_reducible exact Nat.le_refl _ | with_reducible exact HBW.out.size | with_reducible exact HQ.out.size | omega | (simp; done) | (simp; omega) | (simp [later_size]; done) | (simp [later_size]; omega)) _))))).mono ?_
      rintro _ W5 ⟨A, n, c, rfl, hl, hc, hm, hO, p5, hp5⟩
      have HO := Lib.hid hO
      have HB5 := Lib.hid (show Below w.heap.size w W5 by rw [hp5]; exact (below_later w p).trans ((below_later _ p5).mono (by simp [later_size])))
      have HN := Lib.hid hl
      clear hO hp5
      by_cases hmany : 12 < n
      · obtain ⟨rfl, rfl⟩ := Prod.mk.inj (HP.out.symm.trans (parts_many (by rw [HN.out]; exact hmany)))
        go_wp2_with fail
        go_ret2
        exact made_none (mk := fun v => .tuple #[v, .bool false]) rfl (by unfold maxLen; omega) HB5.out
      · obtain ⟨rfl, rfl⟩ := Prod.mk.inj (HP.out.symm.trans (parts_ok HL.out (by rw [HN.out]; omega)))
        go_wp2_with fail
        go_ret2
        exact ⟨A, n, c, rfl, HN.out, hc, hm, HO.out.mono (by simp [later_size]), later_of_below HB5.out⟩
set_option maxHeartbeats 6400000 in
theorem c_sPartsOf (s : ByteArray) (w : World) (hs : s.size ≤ 1048576) (xs : List ByteArray) (z : Bool) (hp : parts s = (xs, z)) : Calls Tryd.prog 4 #[.string s] w (MadeOwn encT 1 (fun v => .tuple #[v, .bool z]) xs w) := by
  obtain ⟨i0, hi0, hz0, hs0, hb0⟩ := info_parts infoT
  have HI := Lib.hid hi0
  have HZ := Lib.hid hz0
  have HS := Lib.hid hs0
  have HB := Lib.hid hb0
  have HP := Lib.hid hp
  clear hi0 hz0 hs0 hb0 hp
  by_cases hbig : 600 < s.size
  · obtain ⟨rfl, rfl⟩ := Prod.mk.inj (HP.out.symm.trans (parts_big hbig))
    go_enter Tryd.func4, Tryd.ntmps4
    go_wp2_with (first | ((with_reducible refine wp_region_later (by kernel_rfl) (by kernel_rfl) ?_); (repeat (first | go_big_quiet_skip | quiet_step ((fail)))); refine wpQuiet_nil ?_; rintro _ ⟨p, rfl⟩))
    go_ret2
    exact made_none (mk := fun v => .tuple #[v, .bool false]) rfl (by unfold maxLen; omega) (by (repeat (first | with_reducible exact Below.refl _ _ | with_reducible assumption | with_reducible refine Below.drew ?_ | with_reducible refine below_drewN ?_ _ | with_reducible exact HQ.out | with_reducible exact HBW.out | with_reducible refine below_ext ?_ _ _ | with_reducible refine below_then_later ?_ (by first | with_reducible exact Nat.le_refl _ | with_reducible exact HBW.out.size | with_reducible exact HQ.out.size | omega | (simp; done) | (simp; omega) | (simp [later_size]; done) | (simp [later_size]; omega)) _ | with_reducible refine Below.setCell ?_ (by first | with_reducible exact Nat.le_refl _ | with_reducible exact HBW.out.size | with_reducible exact HQ.out.size | omega | (simp; done) | (simp; omega) | (simp [later_size]; done) | (simp [later_size]; omega)) _ | with_reducible refine Below.alloc ?_ (by first | with_reducible exact Nat.le_refl _ | with_reducible exact HBW.out.size | with_reducible exact HQ.out.size | omega | (simp; done) | (simp; omega) | (simp [later_size]; done) | (simp [later_size]; omega)) _)))
  go_enter Tryd.func4, Tryd.ntmps4
  go_wp2_with fail
  go_loopw [4, 5, 6] (fun v bb ii wr => ∃ (j b : Nat) (done : List ByteArray) (L : Nat), ii = .int .i64 j ∧ bb = .int .i64 b ∧ b ≤ j ∧ j ≤ s.size + 1 ∧ (j = s.size + 1 → b = j) ∧ done.length = L ∧ L ≤ j ∧ OkUpto s j ∧ InP s j b done ∧ wr.ownsRow w.heap.size 9 1 v L (done.flatMap encT) ∧ ∃ p : Later, wr = later w p) (fun _ _ ii _ => s.size + 1 - (intOf ii).toNat)
  case atStart => exact ⟨0, 0, [], 0, rfl, rfl, by omega, by omega, by omega, rfl, by omega, OkUpto.zero s, InP.start s, own_empty _ _ _ _ _ (by first | rfl | (simp; done) | (simp [later_size]; done)) (by simp), later_of_below (by (repeat (first | with_reducible exact Below.refl _ _ | with_reducible assumption | with_reducible refine Below.drew ?_ | with_reducible refine below_drewN ?_ _ | with_reducible exact HQ.out | with_reducible exact HBW.out | with_reducible refine below_ext ?_ _ _ | with_reducible refine below_then_later ?_ (by first | with_reducible exact Nat.le_refl _ | with_reducible exact HBW.out.size | with_reducible exact HQ.out.size | omega | (simp; done) | (simp; omega) | (simp [later_size]; done) | (simp [later_size]; omega)) _ | with_reducible refine Below.setCell ?_ (by first | with_reducible exact Nat.le_refl _ | with_reducible exact HBW.out.size | with_reducible exact HQ.out.size | omega | (simp; done) | (simp; omega) | (simp [later_size]; done) | (simp [later_size]; omega)) _ | with_reducible refine Below.alloc ?_ (by first | with_reducible exact Nat.le_refl _ | with_reducible exact HBW.out.size | with_reducible exact HQ.out.size | omega | (simp; done) | (simp; omega) | (simp [later_size]; done) | (simp [later_size]; omega)) _)))⟩
  case round =>
    obtain ⟨j, b, done, L, rfl, rfl, hbj, hj, hbe, hL, hLj, hO, hI, hW, pw, rfl⟩ := hrel
    have HO := Lib.hid hO
    have HL := Lib.hid hL
    have HIN := Lib.hid hI
    have HW := Lib.hid hW
    clear hO hL hI hW
    by_cases hend : j = s.size + 1
    · have hbe' := hbe hend
      subst hend
      have HD := Lib.hid (HIN.out.done hbe')
      have HLN := Lib.hid (HO.out.line (by omega) (by omega))
      clear HO HIN
      obtain ⟨A4, c4, rfl, hcc, hmm⟩ := ownsRow_slc HW.out
      by_cases hmany : 12 < L
      · obtain ⟨rfl, rfl⟩ := Prod.mk.inj (HP.out.symm.trans (parts_many (by rw [← HD.out, HL.out]; exact hmany)))
        go_wp2_with (first | ((with_reducible refine wp_region_later (by kernel_rfl) (by kernel_rfl) ?_); (repeat (first | go_big_quiet_skip | quiet_step ((fail)))); refine wpQuiet_nil ?_; rintro _ ⟨p, rfl⟩))
        go_ret2
        exact made_none (mk := fun v => .tuple #[v, .bool false]) rfl (by unfold maxLen; omega) (by (repeat (first | with_reducible exact Below.refl _ _ | with_reducible assumption | with_reducible refine Below.drew ?_ | with_reducible refine below_drewN ?_ _ | with_reducible exact HQ.out | with_reducible exact HBW.out | with_reducible refine below_ext ?_ _ _ | with_reducible refine below_then_later ?_ (by first | with_reducible exact Nat.le_refl _ | with_reducible exact HBW.out.size | with_reducible exact HQ.out.size | omega | (simp; done) | (simp; omega) | (simp [later_size]; done) | (simp [later_size]; omega)) _ | with_reducible refine Below.setCell ?_ (by first | with_reducible exact Nat.le_refl _ | with_reducible exact HBW.out.size | with_reducible exact HQ.out.size | omega | (simp; done) | (simp; omega) | (simp [later_size]; done) | (simp [later_size]; omega)) _ | with_reducible refine Below.alloc ?_ (by first | with_reducible exact Nat.le_refl _ | with_reducible exact HBW.out.size | with_reducible exact HQ.out.size | omega | (simp; done) | (simp; omega) | (simp [later_size]; done) | (simp [later_size]; omega)) _)))
      · obtain ⟨rfl, rfl⟩ := Prod.mk.inj (HP.out.symm.trans (parts_ok HLN.out (by rw [← HD.out, HL.out]; omega)))
        go_wp2_with (first | ((with_reducible refine wp_region_later (by kernel_rfl) (by kernel_rfl) ?_); (repeat (first | go_big_quiet_skip | quiet_step ((fail)))); refine wpQuiet_nil ?_; rintro _ ⟨p, rfl⟩))
        go_ret2
        exact MadeOwn.of_row' (mk := fun v => .tuple #[v, .bool true]) (base := w.heap.size) (E := 9) rfl lenT (xs := pcs s) (by rw [← HD.out]; first | exact HW.out | exact ownsRow_later HW.out _) (by rw [← HD.out]; exact HL.out) (Nat.le_refl _) (by (repeat (first | with_reducible exact Below.refl _ _ | with_reducible assumption | with_reducible refine Below.drew ?_ | with_reducible refine below_drewN ?_ _ | with_reducible exact HQ.out | with_reducible exact HBW.out | with_reducible refine below_ext ?_ _ _ | with_reducible refine below_then_later ?_ (by first | with_reducible exact Nat.le_refl _ | with_reducible exact HBW.out.size | with_reducible exact HQ.out.size | omega | (simp; done) | (simp; omega) | (simp [later_size]; done) | (simp [later_size]; omega)) _ | with_reducible refine Below.setCell ?_ (by first | with_reducible exact Nat.le_refl _ | with_reducible exact HBW.out.size | with_reducible exact HQ.out.size | omega | (simp; done) | (simp; omega) | (simp [later_size]; done) | (simp [later_size]; omega)) _ | with_reducible refine Below.alloc ?_ (by first | with_reducible exact Nat.le_refl _ | with_reducible exact HBW.out.size | with_reducible exact HQ.out.size | omega | (simp; done) | (simp; omega) | (simp [later_size]; done) | (simp [later_size]; omega)) _)))
    · clear hbe
      by_cases hlt : j < s.size
      · obtain ⟨x, hx⟩ : ∃ x, s.data.toList[j]? = some x := ⟨_, List.getElem?_eq_getElem (by rw [Array.length_toList]; exact hlt)⟩
        have HX := Lib.hid hx
        have hx256 := UInt8.toNat_lt x
        have hat := run_byte_at (P := Tryd.prog) 9 s j x Tryd.underlying9 hx
        clear hx
        by_cases hok : 32 ≤ x.toNat ∧ x.toNat ≤ 126
        · have hl1 : decide ((x.toNat : Int) < 32) = false := decide_eq_false (by omega)
          have hl2 : decide ((126 : Int) < (x.toNat : Int)) = false := decide_eq_false (by omega)
          by_cases hsp : x.toNat = 32
          · have hsz : ((x.toNat : Int) == 32) = true := by rw [hsp]; rfl
            by_cases hbl : b < j
            · have hb1 : (b : Int) ≤ (j : Int) := by omega
              have hb2 : (j : Int) ≤ (s.size : Int) := by omega
              go_wp2_with (first | (at_builtin; refine wpList_append_row _ encT 1 lenT (by decide) oneT rfl (.tmp 48) (.tmp 53) 22 rfl w.heap.size 9 i0 _ 16 Tryd.underlying22 HI.out HZ.out HS.out HB.out rfl u4 L done rfl (by (repeat (first | with_reducible exact HW.out | with_reducible exact ownsRow_draw HW.out _ | with_reducible refine World.ownsRow.alloc ?_ _ | with_reducible refine World.ownsRow.drew ?_ | with_reducible refine ownsRow_later ?_ _)); done) _ _ _ [s.extract b j] rfl rfl (row_oneT _ _ _ _ (by first | with_reducible rfl | (simp; done) | (simp; omega) | (simp [later_size]; done) | (simp [later_size]; omega))) (by unfold maxLen; omega) (by omega) (by first | with_reducible rfl | (simp; done) | (simp; omega) | (simp [later_size]; done) | (simp [later_size]; omega)) ?_; intro v1 w1 hown hg hbe; have HW1 := Lib.hid hown; have hG1 := hbe w.heap.size w (by (repeat (first | with_reducible exact Below.refl _ _ | with_reducible assumption | with_reducible refine Below.drew ?_ | with_reducible refine below_drewN ?_ _ | with_reducible exact HQ.out | with_reducible exact HBW.out | with_reducible refine below_ext ?_ _ _ | with_reducible refine below_then_later ?_ (by first | with_reducible exact Nat.le_refl _ | with_reducible exact HBW.out.size | with_reducible exact HQ.out.size | omega | (simp; done) | (simp; omega) | (simp [later_size]; done) | (simp [later_size]; omega)) _ | with_reducible refine Below.setCell ?_ (by first | with_reducible exact Nat.le_refl _ | with_reducible exact HBW.out.size | with_reducible exact HQ.out.size | omega | (simp; done) | (simp; omega) | (simp [later_size]; done) | (simp [later_size]; omega)) _ | with_reducible refine Below.alloc ?_ (by first | with_reducible exact Nat.le_refl _ | with_reducible exact HBW.out.size | with_reducible exact HQ.out.size | omega | (simp; done) | (simp; omega) | (simp [later_size]; done) | (simp [later_size]; omega)) _))) (by first | with_reducible rfl | (simp; done) | (simp; omega) | (simp [later_size]; done) | (simp [later_size]; omega)) (Nat.le_refl _); clear hown hbe) | ((with_reducible refine wp_region_later (by kernel_rfl) (by kernel_rfl) ?_); (repeat (first | go_big_quiet_skip | quiet_step ((fail)))); refine wpQuiet_nil ?_; rintro _ ⟨p, rfl⟩))
              all_goals
                go_roundw
                case rel => exact ⟨j + 1, j + 1, done ++ [s.extract b j], L + 1, by go_num, by go_num, by omega, by omega, by omega, by simp [HL.out], by omega, HO.out.step HX.out hok, HIN.out.cut hbl HX.out (isSp_yes hsp), HW1.out, later_of_below hG1⟩
                case measure => first | (simp [intOf]; done) | (simp [intOf]; omega)
            · obtain rfl : b = j := by omega
              go_wp2_with (first | ((with_reducible refine wp_region_later (by kernel_rfl) (by kernel_rfl) ?_); (repeat (first | go_big_quiet_skip | quiet_step ((fail)))); refine wpQuiet_nil ?_; rintro _ ⟨p, rfl⟩))
              all_goals
                go_roundw
                case rel => exact ⟨b + 1, b + 1, done, L, by go_num, by go_num, by omega, by omega, by omega, HL.out, by omega, HO.out.step HX.out hok, HIN.out.skip HX.out (isSp_yes hsp), (by first | exact HW.out | exact ownsRow_later HW.out _), later_of_below (by (repeat (first | with_reducible exact Below.refl _ _ | with_reducible assumption | with_reducible refine Below.drew ?_ | with_reducible refine below_drewN ?_ _ | with_reducible exact HQ.out | with_reducible exact HBW.out | with_reducible refine below_ext ?_ _ _ | with_reducible refine below_then_later ?_ (by first | with_reducible exact Nat.le_refl _ | with_reducible exact HBW.out.size | with_reducible exact HQ.out.size | omega | (simp; done) | (simp; omega) | (simp [later_size]; done) | (simp [later_size]; omega)) _ | with_reducible refine Below.setCell ?_ (by first | with_reducible exact Nat.le_refl _ | with_reducible exact HBW.out.size | with_reducible exact HQ.out.size | omega | (simp; done) | (simp; omega) | (simp [later_size]; done) | (simp [later_size]; omega)) _ | with_reducible refine Below.alloc ?_ (by first | with_reducible exact Nat.le_refl _ | with_reducible exact HBW.out.size | with_reducible exact HQ.out.size | omega | (simp; done) | (simp; omega) | (simp [later_size]; done) | (simp [later_size]; omega)) _)))⟩
                case measure => first | (simp [intOf]; done) | (simp [intOf]; omega)
          · have hsz : ((x.toNat : Int) == 32) = false := by rw [beq_eq_false_iff_ne]; omega
            go_wp2_with (first | ((with_reducible refine wp_region_later (by kernel_rfl) (by kernel_rfl) ?_); (repeat (first | go_big_quiet_skip | quiet_step ((fail)))); refine wpQuiet_nil ?_; rintro _ ⟨p, rfl⟩))
            all_goals
              go_roundw
              case rel => exact ⟨j + 1, b, done, L, by go_num, rfl, by omega, by omega, by omega, HL.out, by omega, HO.out.step HX.out hok, HIN.out.more hbj HX.out (isSp_no hok.1 hsp), (by first | exact HW.out | exact ownsRow_later HW.out _), later_of_below (by (repeat (first | with_reducible exact Below.refl _ _ | with_reducible assumption | with_reducible refine Below.drew ?_ | with_reducible refine below_drewN ?_ _ | with_reducible exact HQ.out | with_reducible exact HBW.out | with_reducible refine below_ext ?_ _ _ | with_reducible refine below_then_later ?_ (by first | with_reducible exact Nat.le_refl _ | with_reducible exact HBW.out.size | with_reducible exact HQ.out.size | omega | (simp; done) | (simp; omega) | (simp [later_size]; done) | (simp [later_size]; omega)) _ | with_reducible refine Below.setCell ?_ (by first | with_reducible exact Nat.le_refl _ | with_reducible exact HBW.out.size | with_reducible exact HQ.out.size | omega | (simp; done) | (simp; omega) | (simp [later_size]; done) | (simp [later_size]; omega)) _ | with_reducible refine Below.alloc ?_ (by first | with_reducible exact Nat.le_refl _ | with_reducible exact HBW.out.size | with_reducible exact HQ.out.size | omega | (simp; done) | (simp; omega) | (simp [later_size]; done) | (simp [later_size]; omega)) _)))⟩
              case measure => first | (simp [intOf]; done) | (simp [intOf]; omega)
        · obtain ⟨rfl, rfl⟩ := Prod.mk.inj (HP.out.symm.trans (parts_bad HX.out hok))
          by_cases hlo : x.toNat < 32
          · have hl1 : decide ((x.toNat : Int) < 32) = true := decide_eq_true (by omega)
            go_wp2_with (first | ((with_reducible refine wp_region_later (by kernel_rfl) (by kernel_rfl) ?_); (repeat (first | go_big_quiet_skip | quiet_step ((fail)))); refine wpQuiet_nil ?_; rintro _ ⟨p, rfl⟩))
            go_ret2
            exact made_none (mk := fun v => .tuple #[v, .bool false]) rfl (by unfold maxLen; omega) (by (repeat (first | with_reducible exact Below.refl _ _ | with_reducible assumption | with_reducible refine Below.drew ?_ | with_reducible refine below_drewN ?_ _ | with_reducible exact HQ.out | with_reducible exact HBW.out | with_reducible refine below_ext ?_ _ _ | with_reducible refine below_then_later ?_ (by first | with_reducible exact Nat.le_refl _ | with_reducible exact HBW.out.size | with_reducible exact HQ.out.size | omega | (simp; done) | (simp; omega) | (simp [later_size]; done) | (simp [later_size]; omega)) _ | with_reducible refine Below.setCell ?_ (by first | with_reducible exact Nat.le_refl _ | with_reducible exact HBW.out.size | with_reducible exact HQ.out.size | omega | (simp; done) | (simp; omega) | (simp [later_size]; done) | (simp [later_size]; omega)) _ | with_reducible refine Below.alloc ?_ (by first | with_reducible exact Nat.le_refl _ | with_reducible exact HBW.out.size | with_reducible exact HQ.out.size | omega | (simp; done) | (simp; omega) | (simp [later_size]; done) | (simp [later_size]; omega)) _)))
          · have hl1 : decide ((x.toNat : Int) < 32) = false := decide_eq_false (by omega)
            have hl2 : decide ((126 : Int) < (x.toNat : Int)) = true := decide_eq_true (by omega)
            go_wp2_with (first | ((with_reducible refine wp_region_later (by kernel_rfl) (by kernel_rfl) ?_); (repeat (first | go_big_quiet_skip | quiet_step ((fail)))); refine wpQuiet_nil ?_; rintro _ ⟨p, rfl⟩))
            go_ret2
            exact made_none (mk := fun v => .tuple #[v, .bool false]) rfl (by unfold maxLen; omega) (by (repeat (first | with_reducible exact Below.refl _ _ | with_reducible assumption | with_reducible refine Below.drew ?_ | with_reducible refine below_drewN ?_ _ | with_reducible exact HQ.out | with_reducible exact HBW.out | with_reducible refine below_ext ?_ _ _ | with_reducible refine below_then_later ?_ (by first | with_reducible exact Nat.le_refl _ | with_reducible exact HBW.out.size | with_reducible exact HQ.out.size | omega | (simp; done) | (simp; omega) | (simp [later_size]; done) | (simp [later_size]; omega)) _ | with_reducible refine Below.setCell ?_ (by first | with_reducible exact Nat.le_refl _ | with_reducible exact HBW.out.size | with_reducible exact HQ.out.size | omega | (simp; done) | (simp; omega) | (simp [later_size]; done) | (simp [later_size]; omega)) _ | with_reducible refine Below.alloc ?_ (by first | with_reducible exact Nat.le_refl _ | with_reducible exact HBW.out.size | with_reducible exact HQ.out.size | omega | (simp; done) | (simp; omega) | (simp [later_size]; done) | (simp [later_size]; omega)) _)))
      · obtain rfl : j = s.size := by omega
        by_cases hbl : b < s.size
        · have hb1 : (b : Int) ≤ (s.size : Int) := by omega
          go_wp2_with (first | (at_builtin; refine wpList_append_row _ encT 1 lenT (by decide) oneT rfl (.tmp 48) (.tmp 53) 22 rfl w.heap.size 9 i0 _ 16 Tryd.underlying22 HI.out HZ.out HS.out HB.out rfl u4 L done rfl (by (repeat (first | with_reducible exact HW.out | with_reducible exact ownsRow_draw HW.out _ | with_reducible refine World.ownsRow.alloc ?_ _ | with_reducible refine World.ownsRow.drew ?_ | with_reducible refine ownsRow_later ?_ _)); done) _ _ _ [s.extract b s.size] rfl rfl (row_oneT _ _ _ _ (by first | with_reducible rfl | (simp; done) | (simp; omega) | (simp [later_size]; done) | (simp [later_size]; omega))) (by unfold maxLen; omega) (by omega) (by first | with_reducible rfl | (simp; done) | (simp; omega) | (simp [later_size]; done) | (simp [later_size]; omega)) ?_; intro v1 w1 hown hg hbe; have HW1 := Lib.hid hown; have hG1 := hbe w.heap.size w (by (repeat (first | with_reducible exact Below.refl _ _ | with_reducible assumption | with_reducible refine Below.drew ?_ | with_reducible refine below_drewN ?_ _ | with_reducible exact HQ.out | with_reducible exact HBW.out | with_reducible refine below_ext ?_ _ _ | with_reducible refine below_then_later ?_ (by first | with_reducible exact Nat.le_refl _ | with_reducible exact HBW.out.size | with_reducible exact HQ.out.size | omega | (simp; done) | (simp; omega) | (simp [later_size]; done) | (simp [later_size]; omega)) _ | with_reducible refine Below.setCell ?_ (by first | with_reducible exact Nat.le_refl _ | with_reducible exact HBW.out.size | with_reducible exact HQ.out.size | omega | (simp; done) | (simp; omega) | (simp [later_size]; done) | (simp [later_size]; omega)) _ | with_reducible refine Below.alloc ?_ (by first | with_reducible exact Nat.le_refl _ | with_reducible exact HBW.out.size | with_reducible exact HQ.out.size | omega | (simp; done) | (simp; omega) | (simp [later_size]; done) | (simp [later_size]; omega)) _))) (by first | with_reducible rfl | (simp; done) | (simp; omega) | (simp [later_size]; done) | (simp [later_size]; omega)) (Nat.le_refl _); clear hown hbe) | ((with_reducible refine wp_region_later (by kernel_rfl) (by kernel_rfl) ?_); (repeat (first | go_big_quiet_skip | quiet_step ((fail)))); refine wpQuiet_nil ?_; rintro _ ⟨p, rfl⟩))
          all_goals
            go_roundw
            case rel => exact ⟨s.size + 1, s.size + 1, done ++ [s.extract b s.size], L + 1, by go_num, by go_num, by omega, by omega, by omega, by simp [HL.out], by omega, HO.out.over (Nat.le_refl _), HIN.out.cutEnd hbl, HW1.out, later_of_below hG1⟩
            case measure => first | (simp [intOf]; done) | (simp [intOf]; omega)
        · obtain rfl : b = s.size := by omega
          go_wp2_with (first | ((with_reducible refine wp_region_later (by kernel_rfl) (by kernel_rfl) ?_); (repeat (first | go_big_quiet_skip | quiet_step ((fail)))); refine wpQuiet_nil ?_; rintro _ ⟨p, rfl⟩))
          all_goals
            go_roundw
            case rel => exact ⟨s.size + 1, s.size + 1, done, L, by go_num, by go_num, by omega, by omega, by omega, HL.out, by omega, HO.out.over (Nat.le_refl _), HIN.out.skipEnd, (by first | exact HW.out | exact ownsRow_later HW.out _), later_of_below (by (repeat (first | with_reducible exact Below.refl _ _ | with_reducible assumption | with_reducible refine Below.drew ?_ | with_reducible refine below_drewN ?_ _ | with_reducible exact HQ.out | with_reducible exact HBW.out | with_reducible refine below_ext ?_ _ _ | with_reducible refine below_then_later ?_ (by first | with_reducible exact Nat.le_refl _ | with_reducible exact HBW.out.size | with_reducible exact HQ.out.size | omega | (simp; done) | (simp; omega) | (simp [later_size]; done) | (simp [later_size]; omega)) _ | with_reducible refine Below.setCell ?_ (by first | with_reducible exact Nat.le_refl _ | with_reducible exact HBW.out.size | with_reducible exact HQ.out.size | omega | (simp; done) | (simp; omega) | (simp [later_size]; done) | (simp [later_size]; omega)) _ | with_reducible refine Below.alloc ?_ (by first | with_reducible exact Nat.le_refl _ | with_reducible exact HBW.out.size | with_reducible exact HQ.out.size | omega | (simp; done) | (simp; omega) | (simp [later_size]; done) | (simp [later_size]; omega)) _)))⟩
            case measure => first | (simp [intOf]; done) | (simp [intOf]; omega)
end Go.Proofs.YtopaapgbenpbaaaDoor
