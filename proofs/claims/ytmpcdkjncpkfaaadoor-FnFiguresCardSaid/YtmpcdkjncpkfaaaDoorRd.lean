/-
  ReadDecimal of the program (by the library's contracts on Itoa and Atoi) and of the reference. Conditions: the library's variables hold what their initialisers lay; the text has at most 2^40 bytes.
-/
import Derived.Test.YtmpcdkjncpkfaaaDoorItoa
import Derived.Lib.SmallJoins
namespace Go.Proofs.YtmpcdkjncpkfaaaDoor
open Go.RowKit
set_option linter.unusedVariables false

/-- the number that figures spell -/
def valL (l : List UInt8) : Nat := l.foldl (fun a c => a * 10 + (c.toNat - 48)) 0
def Fig (l : List UInt8) : Prop := ∀ c ∈ l, 48 ≤ c.toNat ∧ c.toNat ≤ 57
theorem valL_snoc (l : List UInt8) (c : UInt8) : valL (l ++ [c]) = valL l * 10 + (c.toNat - 48) := by simp [valL]
theorem dec_ind {p : Nat → Prop} (h1 : ∀ n, n < 10 → p n) (h2 : ∀ n, ¬ n < 10 → p (n / 10) → p n) (n : Nat) : p n := by
  induction n using Nat.strongRecOn with
  | _ n ih =>
    by_cases h : n < 10
    · exact h1 n h
    · exact h2 n h (ih (n / 10) (by omega))
theorem dec_toNat {k : Nat} (h : k < 10) : (UInt8.ofNat (48 + k)).toNat = 48 + k := by simp; omega
theorem dec_val (n : Nat) : valL (Lib.decDigits n) = n := by
  refine dec_ind (p := fun n => valL (Lib.decDigits n) = n) (fun n h => ?_) (fun n h ih => ?_) n
  · rw [Lib.decDigits, dif_pos h]
    show 0 * 10 + ((UInt8.ofNat (48 + n)).toNat - 48) = n
    rw [dec_toNat h]; omega
  · rw [Lib.decDigits, dif_neg h, valL_snoc, ih, dec_toNat (Nat.mod_lt _ (by omega))]; omega
theorem dec_fig (n : Nat) : Fig (Lib.decDigits n) := by
  refine dec_ind (p := fun n => Fig (Lib.decDigits n)) (fun n h => ?_) (fun n h ih => ?_) n
  · rw [Lib.decDigits, dif_pos h]
    intro c hc
    rw [List.mem_singleton] at hc
    subst hc
    rw [dec_toNat h]; omega
  · rw [Lib.decDigits, dif_neg h]
    intro c hc
    rcases List.mem_append.1 hc with hc | hc
    · exact ih c hc
    · rw [List.mem_singleton] at hc
      subst hc
      rw [dec_toNat (Nat.mod_lt _ (by omega))]; omega
theorem dec_len10 {n : Nat} (h : n ≤ 1000000000) : (Lib.decDigits n).length ≤ 10 := by rw [Lib.decDigits_length]; exact nDigits_le 9 n (by omega)
theorem fold_lt : ∀ (l : List UInt8) (a : Nat), Fig l → l.foldl (fun a c => a * 10 + (c.toNat - 48)) a < (a + 1) * 10 ^ l.length
  | [], a, _ => by simp
  | c :: l, a, h => by
    have hc := h c (by simp)
    have h1 := fold_lt l (a * 10 + (c.toNat - 48)) fun d hd => h d (by simp [hd])
    rw [List.foldl_cons, List.length_cons, Nat.pow_succ, Nat.mul_comm (10 ^ _) 10, ← Nat.mul_assoc]
    exact Nat.lt_of_lt_of_le h1 (Nat.mul_le_mul_right _ (by omega))
theorem valL_lt (l : List UInt8) (h : Fig l) : valL l < 10 ^ l.length := by
  have := fold_lt l 0 h
  simpa [valL] using this
theorem fold_ge : ∀ (l : List UInt8) (a : Nat), a ≤ l.foldl (fun a c => a * 10 + (c.toNat - 48)) a
  | [], a => Nat.le_refl _
  | c :: l, a => Nat.le_trans (by omega) (fold_ge l (a * 10 + (c.toNat - 48)))
theorem parse_fig : ∀ (l : List UInt8) (a : Nat), Fig l → l.foldl (fun a c => a * 10 + (c.toNat - 48)) a ≤ 1000000000 → Lib.parseUint10 a l = .ok (l.foldl (fun a c => a * 10 + (c.toNat - 48)) a)
  | [], a, _, _ => rfl
  | c :: l, a, h, hb => by
    have hc := h c (by simp)
    simp only [List.foldl_cons] at hb
    have hge := fold_ge l (a * 10 + (c.toNat - 48))
    rw [Lib.parseUint10, if_pos hc, if_neg (by omega), if_neg (by omega)]
    exact parse_fig l _ (fun d hd => h d (by simp [hd])) hb
theorem atoi_dec {n : Nat} (h : n ≤ 1000000000) : Lib.atoiAll (Lib.decDigits n) = .ok (n : Int) := by
  have hf := dec_fig n
  have hv := dec_val n
  have hp := parse_fig (Lib.decDigits n) 0 hf (by show valL _ ≤ _; rw [hv]; exact h)
  rw [show (Lib.decDigits n).foldl (fun a c => a * 10 + (c.toNat - 48)) 0 = n from hv] at hp
  cases hd : Lib.decDigits n with
  | nil =>
    have : (Lib.decDigits n).length = 0 := by rw [hd]; rfl
    rw [Lib.decDigits_length] at this
    have := Lib.nDigits_pos n
    omega
  | cons c r =>
    rw [hd] at hf hp
    have hc := hf c (by simp)
    unfold Lib.atoiAll
    simp only
    rw [if_neg (by omega)]
    unfold Lib.parseMag
    rw [if_neg (by simp), hp]
    simp only
    rw [if_neg (by omega), if_neg (by omega), if_neg (by omega)]
theorem atoi_i64 {l : List UInt8} {v : Int} (h : Lib.atoiAll l = .ok v) : I64 v := by
  unfold Lib.atoiAll at h
  split at h
  · cases h
  · simp only at h
    split at h
    · cases h
    · cases h
    · rename_i u hu
      split at h
      · cases h
      · split at h
        · cases h
        · injection h with h
          subst h
          unfold I64
          split <;> omega
/-- a numeral of at most ten to the ninth -/
def Num9 (l : List UInt8) : Prop := valL l ≤ 1000000000 ∧ l = Lib.decDigits (valL l)
instance (l : List UInt8) : Decidable (Num9 l) := by unfold Num9; exact inferInstance
theorem num9_of {l : List UInt8} {n : Nat} (h : n ≤ 1000000000) (e : l = Lib.decDigits n) : Num9 l ∧ valL l = n := by
  have : valL l = n := by rw [e, dec_val]
  exact ⟨⟨by omega, by rw [this]; exact e⟩, this⟩
def rdV (l : List UInt8) : Value := if Num9 l then .tuple #[.int .i64 (valL l), .bool true] else .tuple #[.int .i64 0, .bool false]
theorem rd_yes {l : List UInt8} {n : Nat} (h : n ≤ 1000000000) (e : l = Lib.decDigits n) : rdV l = .tuple #[.int .i64 (n : Int), .bool true] := by
  obtain ⟨h1, h2⟩ := num9_of h e
  unfold rdV
  rw [if_pos h1, h2]
theorem rd_no {l : List UInt8} (h : ∀ n, n ≤ 1000000000 → l ≠ Lib.decDigits n) : rdV l = .tuple #[.int .i64 0, .bool false] := by
  unfold rdV
  rw [if_neg fun hn => h _ hn.1 hn.2]
theorem arr_eq {s : ByteArray} {l : List UInt8} : s = ⟨l.toArray⟩ ↔ s.data.toList = l := by
  obtain ⟨⟨l'⟩⟩ := s
  simp

theorem str_neq {d s : ByteArray} (h : ¬ d = s) : (d.toList == s.toList) = false := by
  rw [beq_eq_false_iff_ne, ByteArray.toList_eq, ByteArray.toList_eq]
  exact fun e => h (Go.WideShapes.bytes_inj e)
/-- a variable of the library's holds an error, here and in all worlds that only add to this one -/
def ErrVar (w : World) (n : String) : Prop := ∃ tp p, ∀ W, Below w.heap.size w W → W.var? Tryd.prog n = some #[.iface tp p]
theorem ErrVar.on {w W : World} {n : String} (h : ErrVar w n) (hb : Below w.heap.size w W) : ErrVar W n := by
  obtain ⟨tp, p, h⟩ := h
  exact ⟨tp, p, fun W2 hb2 => h W2 (hb.trans (hb2.mono hb.size))⟩
theorem ErrVar.mk {w : World} {n : String} {tp : TypeId} {p : Value} (h : w.var? Tryd.prog n = some #[.iface tp p]) : ErrVar w n := ⟨tp, p, fun w' hb => by
  unfold World.var? at *
  cases hg : Tryd.prog.globalNamed n with
  | none => simp [hg] at h
  | some g =>
    simp only [hg, Option.bind_some] at h ⊢
    have hlt : g < w.heap.size := by
      rcases Nat.lt_or_ge g w.heap.size with h' | h'
      · exact h'
      · rw [Array.getElem?_eq_none h'] at h; simp at h
    rw [hb.block g hlt]
    exact h⟩

theorem e_spec (n : Int) (s : ByteArray) (w : World) (hn : Hid (I64 n)) (hs : Hid ((⟨(Lib.itoa n).toArray⟩ : ByteArray) = s)) : Calls Tryd.prog 31 #[.int .i64 n] w (Gives (.string s) w) := hs.out ▸ c_sDecimal n w hn.out
/-- Atoi: a value, or an error of whatever kind -/
theorem c_atoi_ok (s : ByteArray) (v : Int) (w : World) (hs : s.size ≤ 1099511627776) (h : Lib.atoiAll s.data.toList = .ok v) : Calls Tryd.prog 27 #[.string s] w (Gives (.tuple #[.int .i64 v, .nilIface]) w) :=
  (Tryd.strconv_Atoi_ok s (by omega) v h w).mono fun _ _ ⟨he, hw⟩ => Gives.mk he (by
    rcases hw with rfl | ⟨t, rfl⟩
    · exact Below.refl _ _
    · exact Lib.bytesWorld_below _ _ _)
def ErrOut (w : World) (e : Ending) (w' : World) : Prop := ∃ (x : Int) (N : Nat), e = .returned (.tuple #[.int .i64 x, .iface 65 (.pointer (some ⟨N, 0, Option.none⟩))]) ∧ ∃ p : Later, w' = later w p
theorem c_atoi_err (s : ByteArray) (w : World) (hs : s.size ≤ 1099511627776) (h : ∀ v, Lib.atoiAll s.data.toList ≠ .ok v) (h1 : ErrVar w "strconv.ErrSyntax") (h2 : ErrVar w "strconv.ErrRange") : Calls Tryd.prog 27 #[.string s] w (ErrOut w) := by
  obtain ⟨t1, p1, h1⟩ := h1
  obtain ⟨t2, p2, h2⟩ := h2
  cases hc : Lib.atoiAll s.data.toList with
  | ok v => exact absurd hc (h v)
  | range => exact (Tryd.strconv_Atoi_range_var s (by omega) hc t2 p2 w (h2 w (Below.refl _ _))).mono fun _ _ ⟨N, he, _, _, hb⟩ => ⟨_, N, he, later_of_below hb⟩
  | _ => exact (Tryd.strconv_Atoi_syntax_var s (by omega) hc t1 p1 w (h1 w (Below.refl _ _))).mono fun _ _ ⟨N, he, _, _, hb⟩ => ⟨_, N, he, later_of_below hb⟩

set_option maxHeartbeats 3200000 in
theorem c_iReadDecimal (s : ByteArray) (V : Value) (w : World) (hs : s.size ≤ 1099511627776) (hV : rdV s.data.toList = V) (ht : Tab w) (h1 : ErrVar w "strconv.ErrSyntax") (h2 : ErrVar w "strconv.ErrRange") : Calls Tryd.prog 10 #[.string s] w (Gives V w) := by
  have HT := Lib.hid ht
  have H1 := Lib.hid h1
  have H2 := Lib.hid h2
  have HV := Lib.hid hV
  clear ht h1 h2 hV
  by_cases hok : ∃ v, Lib.atoiAll s.data.toList = .ok v
  · obtain ⟨v, hv⟩ := hok
    have hi := atoi_i64 hv
    obtain ⟨d, hd, ld⟩ := itoa_arr hi
    have HI := Lib.hid hi
    have HD := Lib.hid hd
    have HO := Lib.hid hv
    unfold I64 at hi
    obtain ⟨hi1, hi2⟩ := hi
    clear hd hv
    by_cases he : d = s
    · subst he
      by_cases hr : 0 ≤ v ∧ v ≤ 1000000000
      · obtain rfl : V = .tuple #[.int .i64 v, .bool true] := by
          rw [← HV.out, ← HD.out]
          have := rd_yes (l := Lib.itoa v) (n := v.toNat) (by omega) (by unfold Lib.itoa; rw [if_neg (by omega)])
          rw [this]
          congr 4
          omega
        clear HV
        go_enter Tryd.func10, Tryd.ntmps10
        go_wp2_with (first | (go_at_call 27; (refine (c_atoi_ok d v _ hs HO.out).mono ?_); rintro _ _ ⟨rfl, p, rfl⟩) | (go_at_call 7; (refine (d_impl v d _ HI HD (HT.out.on (by (repeat (first | with_reducible exact Below.refl _ _ | with_reducible assumption | with_reducible refine Below.drew ?_ | with_reducible refine below_drewN ?_ _ | with_reducible exact HQ.out | with_reducible exact HBW.out | with_reducible refine below_ext ?_ _ _ | with_reducible refine below_then_later ?_ (by first | with_reducible exact Nat.le_refl _ | with_reducible exact HBW.out.size | with_reducible exact HQ.out.size | omega | (simp; done) | (simp; omega) | (simp [later_size]; done) | (simp [later_size]; omega)) _ | with_reducible refine Below.setCell ?_ (by first | with_reducible exact Nat.le_refl _ | with_reducible exact HBW.out.size | with_reducible exact HQ.out.size | omega | (simp; done) | (simp; omega) | (simp [later_size]; done) | (simp [later_size]; omega)) _ | with_reducible refine Below.alloc ?_ (by first | with_reducible exact Nat.le_refl _ | with_reducible exact HBW.out.size | with_reducible exact HQ.out.size | omega | (simp; done) | (simp; omega) | (simp [later_size]; done) | (simp [later_size]; omega)) _))))).mono ?_); rintro _ _ ⟨rfl, p, rfl⟩) | (go_at_call 28; (refine (c_within_t _ _ _ _ hr).mono ?_); rintro _ _ ⟨rfl, p, rfl⟩) | ((with_reducible refine wp_region_later (by kernel_rfl) (by kernel_rfl) ?_); (repeat (first | go_big_quiet_skip | quiet_step ((first | (go_at_call 27; first | exact calls_later (c_atoi_ok d v _ hs HO.out) | exact calls_later2 (c_atoi_ok d v _ hs HO.out)) | (go_at_call 7; first | exact calls_later (d_impl v d _ HI HD (HT.out.on (by (repeat (first | with_reducible exact Below.refl _ _ | with_reducible assumption | with_reducible refine Below.drew ?_ | with_reducible refine below_drewN ?_ _ | with_reducible exact HQ.out | with_reducible exact HBW.out | with_reducible refine below_ext ?_ _ _ | with_reducible refine below_then_later ?_ (by first | with_reducible exact Nat.le_refl _ | with_reducible exact HBW.out.size | with_reducible exact HQ.out.size | omega | (simp; done) | (simp; omega) | (simp [later_size]; done) | (simp [later_size]; omega)) _ | with_reducible refine Below.setCell ?_ (by first | with_reducible exact Nat.le_refl _ | with_reducible exact HBW.out.size | with_reducible exact HQ.out.size | omega | (simp; done) | (simp; omega) | (simp [later_size]; done) | (simp [later_size]; omega)) _ | with_reducible refine Below.alloc ?_ (by first | with_reducible exact Nat.le_refl _ | with_reducible exact HBW.out.size | with_reducible exact HQ.out.size | omega | (simp; done) | (simp; omega) | (simp [later_size]; done) | (simp [later_size]; omega)) _))))) | exact calls_later2 (d_impl v d _ HI HD (HT.out.on (by (repeat (first | with_reducible exact Below.refl _ _ | with_reducible assumption | with_reducible refine Below.drew ?_ | with_reducible refine below_drewN ?_ _ | with_reducible exact HQ.out | with_reducible exact HBW.out | with_reducible refine below_ext ?_ _ _ | with_reducible refine below_then_later ?_ (by first | with_reducible exact Nat.le_refl _ | with_reducible exact HBW.out.size | with_reducible exact HQ.out.size | omega | (simp; done) | (simp; omega) | (simp [later_size]; done) | (simp [later_size]; omega)) _ | with_reducible refine Below.setCell ?_ (by first | with_reducible exact Nat.le_refl _ | with_reducible exact HBW.out.size | with_reducible exact HQ.out.size | omega | (simp; done) | (simp; omega) | (simp [later_size]; done) | (simp [later_size]; omega)) _ | with_reducible refine Below.alloc ?_ (by first | with_reducible exact Nat.le_refl _ | with_reducible exact HBW.out.size | with_reducible exact HQ.out.size | omega | (simp; done) | (simp; omega) | (simp [later_size]; done) | (simp [later_size]; omega)) _)))))) | (go_at_call 28; first | exact calls_later (c_within_t _ _ _ _ hr) | exact calls_later2 (c_within_t _ _ _ _ hr)))))); refine wpQuiet_nil ?_; rintro _ ⟨p, rfl⟩))
        go_ret2
        exact Gives.mk rfl (by (repeat (first | with_reducible exact Below.refl _ _ | with_reducible assumption | with_reducible refine Below.drew ?_ | with_reducible refine below_drewN ?_ _ | with_reducible exact HQ.out | with_reducible exact HBW.out | with_reducible refine below_ext ?_ _ _ | with_reducible refine below_then_later ?_ (by first | with_reducible exact Nat.le_refl _ | with_reducible exact HBW.out.size | with_reducible exact HQ.out.size | omega | (simp; done) | (simp; omega) | (simp [later_size]; done) | (simp [later_size]; omega)) _ | with_reducible refine Below.setCell ?_ (by first | with_reducible exact Nat.le_refl _ | with_reducible exact HBW.out.size | with_reducible exact HQ.out.size | omega | (simp; done) | (simp; omega) | (simp [later_size]; done) | (simp [later_size]; omega)) _ | with_reducible refine Below.alloc ?_ (by first | with_reducible exact Nat.le_refl _ | with_reducible exact HBW.out.size | with_reducible exact HQ.out.size | omega | (simp; done) | (simp; omega) | (simp [later_size]; done) | (simp [later_size]; omega)) _)))
      · obtain rfl : V = .tuple #[.int .i64 0, .bool false] := by
          rw [← HV.out]
          refine rd_no fun n hn e => hr ?_
          have := atoi_dec hn
          rw [← e, HO.out] at this
          injection this with this
          omega
        clear HV
        go_enter Tryd.func10, Tryd.ntmps10
        go_wp2_with (first | (go_at_call 27; (refine (c_atoi_ok d v _ hs HO.out).mono ?_); rintro _ _ ⟨rfl, p, rfl⟩) | (go_at_call 7; (refine (d_impl v d _ HI HD (HT.out.on (by (repeat (first | with_reducible exact Below.refl _ _ | with_reducible assumption | with_reducible refine Below.drew ?_ | with_reducible refine below_drewN ?_ _ | with_reducible exact HQ.out | with_reducible exact HBW.out | with_reducible refine below_ext ?_ _ _ | with_reducible refine below_then_later ?_ (by first | with_reducible exact Nat.le_refl _ | with_reducible exact HBW.out.size | with_reducible exact HQ.out.size | omega | (simp; done) | (simp; omega) | (simp [later_size]; done) | (simp [later_size]; omega)) _ | with_reducible refine Below.setCell ?_ (by first | with_reducible exact Nat.le_refl _ | with_reducible exact HBW.out.size | with_reducible exact HQ.out.size | omega | (simp; done) | (simp; omega) | (simp [later_size]; done) | (simp [later_size]; omega)) _ | with_reducible refine Below.alloc ?_ (by first | with_reducible exact Nat.le_refl _ | with_reducible exact HBW.out.size | with_reducible exact HQ.out.size | omega | (simp; done) | (simp; omega) | (simp [later_size]; done) | (simp [later_size]; omega)) _))))).mono ?_); rintro _ _ ⟨rfl, p, rfl⟩) | (go_at_call 28; (refine (c_within_f _ _ _ _ hr).mono ?_); rintro _ _ ⟨rfl, p, rfl⟩) | ((with_reducible refine wp_region_later (by kernel_rfl) (by kernel_rfl) ?_); (repeat (first | go_big_quiet_skip | quiet_step ((first | (go_at_call 27; first | exact calls_later (c_atoi_ok d v _ hs HO.out) | exact calls_later2 (c_atoi_ok d v _ hs HO.out)) | (go_at_call 7; first | exact calls_later (d_impl v d _ HI HD (HT.out.on (by (repeat (first | with_reducible exact Below.refl _ _ | with_reducible assumption | with_reducible refine Below.drew ?_ | with_reducible refine below_drewN ?_ _ | with_reducible exact HQ.out | with_reducible exact HBW.out | with_reducible refine below_ext ?_ _ _ | with_reducible refine below_then_later ?_ (by first | with_reducible exact Nat.le_refl _ | with_reducible exact HBW.out.size | with_reducible exact HQ.out.size | omega | (simp; done) | (simp; omega) | (simp [later_size]; done) | (simp [later_size]; omega)) _ | with_reducible refine Below.setCell ?_ (by first | with_reducible exact Nat.le_refl _ | with_reducible exact HBW.out.size | with_reducible exact HQ.out.size | omega | (simp; done) | (simp; omega) | (simp [later_size]; done) | (simp [later_size]; omega)) _ | with_reducible refine Below.alloc ?_ (by first | with_reducible exact Nat.le_refl _ | with_reducible exact HBW.out.size | with_reducible exact HQ.out.size | omega | (simp; done) | (simp; omega) | (simp [later_size]; done) | (simp [later_size]; omega)) _))))) | exact calls_later2 (d_impl v d _ HI HD (HT.out.on (by (repeat (first | with_reducible exact Below.refl _ _ | with_reducible assumption | with_reducible refine Below.drew ?_ | with_reducible refine below_drewN ?_ _ | with_reducible exact HQ.out | with_reducible exact HBW.out | with_reducible refine below_ext ?_ _ _ | with_reducible refine below_then_later ?_ (by first | with_reducible exact Nat.le_refl _ | with_reducible exact HBW.out.size | with_reducible exact HQ.out.size | omega | (simp; done) | (simp; omega) | (simp [later_size]; done) | (simp [later_size]; omega)) _ | with_reducible refine Below.setCell ?_ (by first | with_reducible exact Nat.le_refl _ | with_reducible exact HBW.out.size | with_reducible exact HQ.out.size | omega | (simp; done) | (simp; omega) | (simp [later_size]; done) | (simp [later_size]; omega)) _ | with_reducible refine Below.alloc ?_ (by first | with_reducible exact Nat.le_refl _ | with_reducible exact HBW.out.size | with_reducible exact HQ.out.size | omega | (simp; done) | (simp; omega) | (simp [later_size]; done) | (simp [later_size]; omega)) _)))))) | (go_at_call 28; first | exact calls_later (c_within_f _ _ _ _ hr) | exact calls_later2 (c_within_f _ _ _ _ hr)))))); refine wpQuiet_nil ?_; rintro _ ⟨p, rfl⟩))
        go_ret2
        exact Gives.mk rfl (by (repeat (first | with_reducible exact Below.refl _ _ | with_reducible assumption | with_reducible refine Below.drew ?_ | with_reducible refine below_drewN ?_ _ | with_reducible exact HQ.out | with_reducible exact HBW.out | with_reducible refine below_ext ?_ _ _ | with_reducible refine below_then_later ?_ (by first | with_reducible exact Nat.le_refl _ | with_reducible exact HBW.out.size | with_reducible exact HQ.out.size | omega | (simp; done) | (simp; omega) | (simp [later_size]; done) | (simp [later_size]; omega)) _ | with_reducible refine Below.setCell ?_ (by first | with_reducible exact Nat.le_refl _ | with_reducible exact HBW.out.size | with_reducible exact HQ.out.size | omega | (simp; done) | (simp; omega) | (simp [later_size]; done) | (simp [later_size]; omega)) _ | with_reducible refine Below.alloc ?_ (by first | with_reducible exact Nat.le_refl _ | with_reducible exact HBW.out.size | with_reducible exact HQ.out.size | omega | (simp; done) | (simp; omega) | (simp [later_size]; done) | (simp [later_size]; omega)) _)))
    · obtain rfl : V = .tuple #[.int .i64 0, .bool false] := by
        rw [← HV.out]
        refine rd_no fun n hn e => he ?_
        have h3 := atoi_dec hn
        rw [← e, HO.out] at h3
        injection h3 with h3
        rw [← HD.out]
        refine (arr_eq.2 ?_).symm
        rw [e, h3]
        unfold Lib.itoa
        rw [if_neg (by omega)]
        rfl
      clear HV
      have hdec := str_neq he
      go_enter Tryd.func10, Tryd.ntmps10
      go_wp2_with (first | (go_at_call 27; (refine (c_atoi_ok s v _ hs HO.out).mono ?_); rintro _ _ ⟨rfl, p, rfl⟩) | (go_at_call 7; (refine (d_impl v d _ HI HD (HT.out.on (by (repeat (first | with_reducible exact Below.refl _ _ | with_reducible assumption | with_reducible refine Below.drew ?_ | with_reducible refine below_drewN ?_ _ | with_reducible exact HQ.out | with_reducible exact HBW.out | with_reducible refine below_ext ?_ _ _ | with_reducible refine below_then_later ?_ (by first | with_reducible exact Nat.le_refl _ | with_reducible exact HBW.out.size | with_reducible exact HQ.out.size | omega | (simp; done) | (simp; omega) | (simp [later_size]; done) | (simp [later_size]; omega)) _ | with_reducible refine Below.setCell ?_ (by first | with_reducible exact Nat.le_refl _ | with_reducible exact HBW.out.size | with_reducible exact HQ.out.size | omega | (simp; done) | (simp; omega) | (simp [later_size]; done) | (simp [later_size]; omega)) _ | with_reducible refine Below.alloc ?_ (by first | with_reducible exact Nat.le_refl _ | with_reducible exact HBW.out.size | with_reducible exact HQ.out.size | omega | (simp; done) | (simp; omega) | (simp [later_size]; done) | (simp [later_size]; omega)) _))))).mono ?_); rintro _ _ ⟨rfl, p, rfl⟩) | ((with_reducible refine wp_region_later (by kernel_rfl) (by kernel_rfl) ?_); (repeat (first | go_big_quiet_skip | quiet_step ((first | (go_at_call 27; first | exact calls_later (c_atoi_ok s v _ hs HO.out) | exact calls_later2 (c_atoi_ok s v _ hs HO.out)) | (go_at_call 7; first | exact calls_later (d_impl v d _ HI HD (HT.out.on (by (repeat (first | with_reducible exact Below.refl _ _ | with_reducible assumption | with_reducible refine Below.drew ?_ | with_reducible refine below_drewN ?_ _ | with_reducible exact HQ.out | with_reducible exact HBW.out | with_reducible refine below_ext ?_ _ _ | with_reducible refine below_then_later ?_ (by first | with_reducible exact Nat.le_refl _ | with_reducible exact HBW.out.size | with_reducible exact HQ.out.size | omega | (simp; done) | (simp; omega) | (simp [later_size]; done) | (simp [later_size]; omega)) _ | with_reducible refine Below.setCell ?_ (by first | with_reducible exact Nat.le_refl _ | with_reducible exact HBW.out.size | with_reducible exact HQ.out.size | omega | (simp; done) | (simp; omega) | (simp [later_size]; done) | (simp [later_size]; omega)) _ | with_reducible refine Below.alloc ?_ (by first | with_reducible exact Nat.le_refl _ | with_reducible exact HBW.out.size | with_reducible exact HQ.out.size | omega | (simp; done) | (simp; omega) | (simp [later_size]; done) | (simp [later_size]; omega)) _))))) | exact calls_later2 (d_impl v d _ HI HD (HT.out.on (by (repeat (first | with_reducible exact Below.refl _ _ | with_reducible assumption | with_reducible refine Below.drew ?_ | with_reducible refine below_drewN ?_ _ | with_reducible exact HQ.out | with_reducible exact HBW.out | with_reducible refine below_ext ?_ _ _ | with_reducible refine below_then_later ?_ (by first | with_reducible exact Nat.le_refl _ | with_reducible exact HBW.out.size | with_reducible exact HQ.out.size | omega | (simp; done) | (simp; omega) | (simp [later_size]; done) | (simp [later_size]; omega)) _ | with_reducible refine Below.setCell ?_ (by first | with_reducible exact Nat.le_refl _ | with_reducible exact HBW.out.size | with_reducible exact HQ.out.size | omega | (simp; done) | (simp; omega) | (simp [later_size]; done) | (simp [later_size]; omega)) _ | with_reducible refine Below.alloc ?_ (by first | with_reducible exact Nat.le_refl _ | with_reducible exact HBW.out.size | with_reducible exact HQ.out.size | omega | (simp; done) | (simp; omega) | (simp [later_size]; done) | (simp [later_size]; omega)) _)))))))))); refine wpQuiet_nil ?_; rintro _ ⟨p, rfl⟩))
      go_ret2
      exact Gives.mk rfl (by (repeat (first | with_reducible exact Below.refl _ _ | with_reducible assumption | with_reducible refine Below.drew ?_ | with_reducible refine below_drewN ?_ _ | with_reducible exact HQ.out | with_reducible exact HBW.out | with_reducible refine below_ext ?_ _ _ | with_reducible refine below_then_later ?_ (by first | with_reducible exact Nat.le_refl _ | with_reducible exact HBW.out.size | with_reducible exact HQ.out.size | omega | (simp; done) | (simp; omega) | (simp [later_size]; done) | (simp [later_size]; omega)) _ | with_reducible refine Below.setCell ?_ (by first | with_reducible exact Nat.le_refl _ | with_reducible exact HBW.out.size | with_reducible exact HQ.out.size | omega | (simp; done) | (simp; omega) | (simp [later_size]; done) | (simp [later_size]; omega)) _ | with_reducible refine Below.alloc ?_ (by first | with_reducible exact Nat.le_refl _ | with_reducible exact HBW.out.size | with_reducible exact HQ.out.size | omega | (simp; done) | (simp; omega) | (simp [later_size]; done) | (simp [later_size]; omega)) _)))
  · have HO := Lib.hid hok
    obtain rfl : V = .tuple #[.int .i64 0, .bool false] := by
      rw [← HV.out]
      refine rd_no fun n hn e => hok ⟨n, ?_⟩
      rw [e]
      exact atoi_dec hn
    clear HV hok
    go_enter Tryd.func10, Tryd.ntmps10
    go_wp2_with (first | (go_at_call 27; refine (c_atoi_err s _ hs (fun v h => HO.out ⟨v, h⟩) (H1.out.on (by (repeat (first | with_reducible exact Below.refl _ _ | with_reducible assumption | with_reducible refine Below.drew ?_ | with_reducible refine below_drewN ?_ _ | with_reducible exact HQ.out | with_reducible exact HBW.out | with_reducible refine below_ext ?_ _ _ | with_reducible refine below_then_later ?_ (by first | with_reducible exact Nat.le_refl _ | with_reducible exact HBW.out.size | with_reducible exact HQ.out.size | omega | (simp; done) | (simp; omega) | (simp [later_size]; done) | (simp [later_size]; omega)) _ | with_reducible refine Below.setCell ?_ (by first | with_reducible exact Nat.le_refl _ | with_reducible exact HBW.out.size | with_reducible exact HQ.out.size | omega | (simp; done) | (simp; omega) | (simp [later_size]; done) | (simp [later_size]; omega)) _ | with_reducible refine Below.alloc ?_ (by first | with_reducible exact Nat.le_refl _ | with_reducible exact HBW.out.size | with_reducible exact HQ.out.size | omega | (simp; done) | (simp; omega) | (simp [later_size]; done) | (simp [later_size]; omega)) _)))) (H2.out.on (by (repeat (first | with_reducible exact Below.refl _ _ | with_reducible assumption | with_reducible refine Below.drew ?_ | with_reducible refine below_drewN ?_ _ | with_reducible exact HQ.out | with_reducible exact HBW.out | with_reducible refine below_ext ?_ _ _ | with_reducible refine below_then_later ?_ (by first | with_reducible exact Nat.le_refl _ | with_reducible exact HBW.out.size | with_reducible exact HQ.out.size | omega | (simp; done) | (simp; omega) | (simp [later_size]; done) | (simp [later_size]; omega)) _ | with_reducible refine Below.setCell ?_ (by first | with_reducible exact Nat.le_refl _ | with_reducible exact HBW.out.size | with_reducible exact HQ.out.size | omega | (simp; done) | (simp; omega) | (simp [later_size]; done) | (simp [later_size]; omega)) _ | with_reducible refine Below.alloc ?_ (by first | with_reducible exact Nat.le_refl _ | with_reducible exact HBW.out.size | with_reducible exact HQ.out.size | omega | (simp; done) | (simp; omega) | (simp [later_size]; done) | (simp [later_size]; omega)) _))))).mono ?_; rintro _ _ ⟨x, N, rfl, p, rfl⟩) | ((with_reducible refine wp_region_later (by kernel_rfl) (by kernel_rfl) ?_); (repeat (first | go_big_quiet_skip | quiet_step ((fail)))); refine wpQuiet_nil ?_; rintro _ ⟨p, rfl⟩))
    go_ret2
    exact Gives.mk rfl (by (repeat (first | with_reducible exact Below.refl _ _ | with_reducible assumption | with_reducible refine Below.drew ?_ | with_reducible refine below_drewN ?_ _ | with_reducible exact HQ.out | with_reducible exact HBW.out | with_reducible refine below_ext ?_ _ _ | with_reducible refine below_then_later ?_ (by first | with_reducible exact Nat.le_refl _ | with_reducible exact HBW.out.size | with_reducible exact HQ.out.size | omega | (simp; done) | (simp; omega) | (simp [later_size]; done) | (simp [later_size]; omega)) _ | with_reducible refine Below.setCell ?_ (by first | with_reducible exact Nat.le_refl _ | with_reducible exact HBW.out.size | with_reducible exact HQ.out.size | omega | (simp; done) | (simp; omega) | (simp [later_size]; done) | (simp [later_size]; omega)) _ | with_reducible refine Below.alloc ?_ (by first | with_reducible exact Nat.le_refl _ | with_reducible exact HBW.out.size | with_reducible exact HQ.out.size | omega | (simp; done) | (simp; omega) | (simp [later_size]; done) | (simp [later_size]; omega)) _)))
end Go.Proofs.YtmpcdkjncpkfaaaDoor
