/-
  Slices of strings: the law's marks and its comparison; PartsOf of the program (by the library's contract on Fields, which reads a table of the library's own) and of the reference. Conditions: the table holds what its initialiser lays.
-/
import Derived.Test.YtopaapgbenpbaaaDoorDec
import Derived.Test.YtopaapgbenpbaaaDoorApp
import Derived.Test.YtopaapgbenpbaaaDoorScal
import Derived.Test.YtopaapgbenpbaaaDoorShelf
import Derived.Lib.FieldsLaws
import Derived.Lib.SplitLaws
import Derived.Lib.LaidTab
namespace Go.Proofs.YtopaapgbenpbaaaDoor
open Go.RowKit
set_option linter.unusedVariables false

def encT (s : ByteArray) : List Value := [.string s]
theorem lenT : ∀ x, (encT x).length = 1 := fun _ => rfl
theorem oneT : ∀ x, ∀ u ∈ encT x, u.oneCell' = true := by intro x u hu; simp [encT] at hu; subst hu; rfl
theorem row_oneT (x : ByteArray) (w : World) (g : Nat) (E : TypeId) (hg : g = w.heap.size) : Row encT 1 (w.alloc (.cells #[.string x] E)) (some ⟨g, 0, Option.none⟩) [x] := by
  subst hg; exact row_new encT 1 lenT w [x] E
theorem infoT : (Tryd.prog.info? 9).map (fun i => (i.zero, i.size, i.bytes)) = some (some (.string ByteArray.empty), 1, 16) := by kernel_rfl
theorem flatT (l : List ByteArray) : l.flatMap encT = l.map Value.string := by
  induction l with
  | nil => rfl
  | cons x l ih => rw [List.flatMap_cons, ih]; rfl

/-- the text of a mark -/
def mt (k : Nat) : ByteArray := ⟨(109 :: Lib.decDigits k).toArray⟩
theorem wrapFig {k : Nat} (h : k < 10) : IntKind.u8.wrap (48 + (k : Int)) = ((fig k).toNat : Int) := by
  have : ∀ k : Fin 10, IntKind.u8.wrap (48 + ((k.val : Nat) : Int)) = ((fig k.val).toNat : Int) := by decide
  exact this ⟨k, h⟩
set_option maxRecDepth 20000 in
set_option maxHeartbeats 3200000 in
theorem c_markText (n : Int) (m : Nat) (w : World) (hm : n = m) (h0 : 0 < m) (h1 : m ≤ 1099511627776) : Calls Tryd.prog 11 #[.int .i64 n] w (Gives (.string (mt m)) w) := by
  subst hm
  have hM := Lib.hid (DecR.start (M := m) (by omega))
  have hnz : ¬ ((m : Int) ≤ 0) := by omega
  go_enter Tryd.func11, Tryd.ntmps11
  go_wp2_with (first | ((with_reducible refine wp_region_later (by kernel_rfl) (by kernel_rfl) ?_); (try dsimp only [List.append]); (repeat (first | go_big_quiet_skip | go_big_quiet_step ((fail)) | quiet_step ((fail)))); refine wpQuiet_nil ?_; rintro _ ⟨p, rfl⟩))
  go_loopw [0, 3] (fun nn ss wr => ∃ (x : Nat) (l : List UInt8), nn = .int .i64 x ∧ x ≤ 1099511627776 ∧ ss = .string ⟨l.toArray⟩ ∧ DecR m x l ∧ ∃ p : Later, wr = later w p) (fun nn _ _ => (intOf nn).natAbs)
  case atStart => exact ⟨m, [], rfl, by omega, by first | rfl | simp, hM.out, later_refl _⟩
  case round =>
    obtain ⟨x, l, rfl, hx1, rfl, hR, p, rfl⟩ := hrel
    have hlen := hR.len (by omega)
    have HR := Lib.hid hR
    clear hR hM
    have hl1 : 1 + l.length ≤ 9223372036854775807 := by omega
    by_cases hz : x = 0
    · subst hz
      have HL := Lib.hid (DecR.done HR.out)
      have hxz : ¬ ((0 : Int) < 0) := by omega
      go_wp2_with (first | ((with_reducible refine wp_region_later (by kernel_rfl) (by kernel_rfl) ?_); (try dsimp only [List.append]); (repeat (first | go_big_quiet_skip | go_big_quiet_step ((fail)) | quiet_step ((fail)))); refine wpQuiet_nil ?_; rintro _ ⟨p, rfl⟩))
      go_ret
      exact Gives.mk (by first | (rw [mt, ← HL.out]; rfl) | (rw [mt, ← HL.out]; exact congrArg (fun b => Ending.returned (.string b)) (str_app [109] l))) (by (repeat (first | with_reducible exact Below.refl _ _ | with_reducible assumption | with_reducible refine Below.drew ?_ | with_reducible refine below_drewN ?_ _ | with_reducible exact HQ.out | with_reducible exact HBW.out | with_reducible refine below_ext ?_ _ _ | with_reducible refine below_then_later ?_ (by first | with_reducible exact Nat.le_refl _ | with_reducible exact HBW.out.size | with_reducible exact HQ.out.size | omega | (simp; done) | (simp; omega) | (simp [later_size]; done) | (simp [later_size]; omega)) _ | with_reducible refine Below.setCell ?_ (by first | with_reducible exact Nat.le_refl _ | with_reducible exact HBW.out.size | with_reducible exact HQ.out.size | omega | (simp; done) | (simp; omega) | (simp [later_size]; done) | (simp [later_size]; omega)) _ | with_reducible refine Below.alloc ?_ (by first | with_reducible exact Nat.le_refl _ | with_reducible exact HBW.out.size | with_reducible exact HQ.out.size | omega | (simp; done) | (simp; omega) | (simp [later_size]; done) | (simp [later_size]; omega)) _)))
    · have hxz : (0 : Int) < (x : Int) := by omega
      have ht : (x : Int).tmod 10 = ((x % 10 : Nat) : Int) := rfl
      have hq : (x : Int).tdiv 10 = ((x / 10 : Nat) : Int) := rfl
      obtain ⟨k, hk⟩ : ∃ k, x % 10 = k := ⟨_, rfl⟩
      obtain ⟨y, hy⟩ : ∃ y, x / 10 = y := ⟨_, rfl⟩
      have hk10 : k < 10 := by omega
      have hy1 : y ≤ 1099511627776 := by omega
      have hlt : y < x := by omega
      have HS := Lib.hid (show DecR m y (fig k :: l) by rw [← hy, ← hk]; exact HR.out.step (by omega))
      rw [hk] at ht
      rw [hy] at hq
      have hq2 : (x : Int) / 10 = (y : Int) := by omega
      have hwf := wrapFig hk10
      clear hk hy HR
      have hl2 : 1 + l.length ≤ 9223372036854775807 := by omega
      go_wp2_with (first | (refine wpList_string_row rfl (.tmp 12) 34 9 rfl 5 Tryd.underlying34 Tryd.underlying5 Tryd.underlying9 _ 1 _ [fig k] rfl (row_oneB (fig k) _ _ _ rfl) rfl ?_) | ((with_reducible refine wp_region_later (by kernel_rfl) (by kernel_rfl) ?_); (try dsimp only [List.append]); (repeat (first | go_big_quiet_skip | go_big_quiet_step ((fail)) | quiet_step ((fail)))); refine wpQuiet_nil ?_; rintro _ ⟨p, rfl⟩))
      all_goals
        go_roundw
        case rel => exact ⟨y, fig k :: l, rfl, hy1, (by first | rfl | exact congrArg Value.string (str_app [fig k] l)), HS.out, later_of_below (by (repeat (first | with_reducible exact Below.refl _ _ | with_reducible assumption | with_reducible refine Below.drew ?_ | with_reducible refine below_drewN ?_ _ | with_reducible exact HQ.out | with_reducible exact HBW.out | with_reducible refine below_ext ?_ _ _ | with_reducible refine below_then_later ?_ (by first | with_reducible exact Nat.le_refl _ | with_reducible exact HBW.out.size | with_reducible exact HQ.out.size | omega | (simp; done) | (simp; omega) | (simp [later_size]; done) | (simp [later_size]; omega)) _ | with_reducible refine Below.setCell ?_ (by first | with_reducible exact Nat.le_refl _ | with_reducible exact HBW.out.size | with_reducible exact HQ.out.size | omega | (simp; done) | (simp; omega) | (simp [later_size]; done) | (simp [later_size]; omega)) _ | with_reducible refine Below.alloc ?_ (by first | with_reducible exact Nat.le_refl _ | with_reducible exact HBW.out.size | with_reducible exact HQ.out.size | omega | (simp; done) | (simp; omega) | (simp [later_size]; done) | (simp [later_size]; omega)) _)))⟩
        case measure => simp [intOf]; omega
/-- the marks: the texts of the numbers from k0 on -/
def encMT (k0 : Nat) (i : Nat) : List Value := [.string (mt (k0 + i))]
/-- marked up to cell m of the slice's t cells -/
def MrkT (k0 : Nat) (t m : Nat) (A : Option Addr) (row : Option Nat) (w wr : World) : Prop :=
  w.grownBy wr row ∧ Row (encMT k0) 1 wr A (List.range m) ∧ (0 < t → ∃ b off, A = some ⟨b, off, Option.none⟩ ∧ row = some b ∧ ∀ j, j < t → (wr.cell? ⟨b, off + j, Option.none⟩).isSome = true ∧ wr.frozen? ⟨b, off + j, Option.none⟩ = false)
theorem MrkT.start {α : Type} {enc : α → List Value} {k lo : Nat} {w : World} {A : Option Addr} {xs : List α} {n : Nat} (h : Own enc k lo w A xs) (hn : xs.length = n) (k0 : Nat) : MrkT k0 (n * k) 0 A (ob A n) w w := by
  refine ⟨World.grownBy.refl w _, Row.nil, fun h0 => ?_⟩
  have hn0 : 0 < n := Nat.pos_of_mul_pos_right h0
  obtain ⟨b, off, e, _⟩ := h.1 (by omega)
  refine ⟨b, off, e, ?_, fun j hj => (h.2 (by omega) b off e).2 j (by rw [hn]; exact hj)⟩
  subst e
  unfold ob
  rw [if_neg (by omega)]
  rfl
theorem MrkT.drew {k0 : Nat} {t m : Nat} {A : Option Addr} {row : Option Nat} {w wr : World} (h : MrkT k0 t m A row w wr) : MrkT k0 t m A row w wr.drew :=
  ⟨⟨h.1.os, h.1.tape, h.1.output, h.1.size, h.1.block⟩, h.2⟩
theorem MrkT.later {k0 : Nat} {t m : Nat} {A : Option Addr} {row : Option Nat} {w wr : World} (h : MrkT k0 t m A row w wr) (p : Later) : MrkT k0 t m A row w (later wr p) := by
  refine ⟨?_, h.2.1.later p, fun h0 => ?_⟩
  · have hb := below_later wr p
    exact ⟨h.1.os, h.1.tape, h.1.output, Nat.le_trans h.1.size hb.size, fun j hj hne => (hb.block j (Nat.lt_of_lt_of_le hj h.1.size)).trans (h.1.block j hj hne)⟩
  · obtain ⟨b, off, e, er, hc⟩ := h.2.2 h0
    refine ⟨b, off, e, er, fun j hj => ?_⟩
    rw [later_cell (hc j hj).1, later_frozen (hc j hj).1]
    exact hc j hj
/-- one more cell -/
theorem MrkT.step {k0 : Nat} {v : ByteArray} {t m b off o : Nat} {A : Option Addr} {row : Option Nat} {w wr : World} (h : MrkT k0 t m A row w wr) (hA : A = some ⟨b, off, Option.none⟩) (hm : m < t) (hv : v = mt (k0 + m)) (ho : o = off + m) :
    MrkT k0 t (m + 1) A row w (wr.setCell ⟨b, o, Option.none⟩ (.string v)) := by
  subst hv ho
  obtain ⟨b', off', e, er, hc⟩ := h.2.2 (by omega)
  rw [hA] at e
  simp at e
  obtain ⟨rfl, rfl⟩ := e
  have hother : ∀ q, q ≠ (⟨b, off + m, Option.none⟩ : Addr) → (wr.setCell ⟨b, off + m, Option.none⟩ (.string (mt (k0 + m)))).cell? q = wr.cell? q := fun q hq =>
    World.cell?_setCell_other wr _ q _ (Ne.symm hq)
  have hsome := (hc m hm).1
  obtain ⟨v0, hv0⟩ := Option.isSome_iff_exists.1 hsome
  have hself : (wr.setCell ⟨b, off + m, Option.none⟩ (.string (mt (k0 + m)))).cell? ⟨b, off + m, Option.none⟩ = some (.string (mt (k0 + m))) := World.cell?_setCell_same wr _ _ hv0
  refine ⟨?_, fun _ => ⟨b, off, hA, fun j x hx i v hv => ?_⟩, fun _ => ⟨b, off, hA, er, fun j hj => ?_⟩⟩
  · refine ⟨h.1.os, h.1.tape, h.1.output, by simpa [World.setCell] using h.1.size, fun j hj hne => ?_⟩
    rw [Below.heap_setCell _ _ _ _ (by rintro rfl; exact hne er.symm)]
    exact h.1.block j hj hne
  · have hj : j < m + 1 := by
      have := (List.getElem?_eq_some_iff.1 hx).1
      simpa using this
    have hx' : x = j := by
      rw [List.getElem?_range hj] at hx
      exact (Option.some.inj hx).symm
    subst hx'
    have hi : i = 0 := by
      have := (List.getElem?_eq_some_iff.1 hv).1
      simp [encMT] at this
      exact this
    subst hi
    simp [encMT] at hv
    subst hv
    simp only [Nat.mul_one, Nat.add_zero]
    by_cases he : x = m
    · subst he
      exact hself
    · rw [hother _ (fun e => he (by have := congrArg Addr.off e; simp at this; omega))]
      obtain ⟨b2, off2, e2, hc2⟩ := h.2.1 (by simp; omega)
      rw [hA] at e2
      simp at e2
      obtain ⟨rfl, rfl⟩ := e2
      have := hc2 x x (List.getElem?_range (by omega)) 0 (.string (mt (k0 + x))) (by simp [encMT])
      simpa using this
  · constructor
    · by_cases he : j = m
      · subst he
        rw [hself]
        rfl
      · rw [hother _ (fun e => he (by have := congrArg Addr.off e; simp at this; omega))]
        exact (hc j hj).1
    · rw [World.frozen?_setCell]
      exact (hc j hj).2

theorem MrkT.done {k0 : Nat} {t : Nat} {A : Option Addr} {row : Option Nat} {w wr : World} (h : MrkT k0 t t A row w wr) : w.grownBy wr row ∧ Row (encMT k0) 1 wr A (List.range t) := ⟨h.1, h.2.1⟩
theorem mark_cellT {k0 : Nat} {w : World} {A : Option Addr} {t m : Nat} (h : Row (encMT k0) 1 w A (List.range t)) (hm : m < t) : ∃ b off, A = some ⟨b, off, Option.none⟩ ∧ ∀ i, i < t → w.cell? ⟨b, off + i, Option.none⟩ = some (.string (mt (k0 + i))) := by
  obtain ⟨b, off, e, hc⟩ := h (by simp; omega)
  refine ⟨b, off, e, fun i hi => ?_⟩
  have := hc i i (List.getElem?_range hi) 0 (.string (mt (k0 + i))) (by simp [encMT])
  simpa using this


/-- a slice of strings is marked: its cells hold the marks' texts from k0 on; nothing else has turned -/
def MarkedT (A : Option Addr) (n : Nat) (k0 : Nat) (w : World) (e : Ending) (w' : World) : Prop :=
  e = .returned (.int .i64 ((k0 + n : Nat) : Int)) ∧ w.grownBy w' (ob A n) ∧ Row (encMT k0) 1 w' A (List.range n)
theorem mark_retT {a : Int} {b : Nat} (h : a = b) : Ending.returned (.int .i64 a) = .returned (.int .i64 b) := by rw [h]
set_option maxHeartbeats 1600000 in
theorem c_markStringS {lo : Nat} (A : Option Addr) (n c : Nat) (xs : List ByteArray) (k0 : Nat) (w : World) (hn : xs.length = n) (hn2 : n ≤ 1048576) (hk0 : 0 < k0) (hk1 : k0 ≤ 1048576)
    (ha : Own encT 1 lo w A xs) : Calls Tryd.prog 7 #[.slice A n c, .int .i64 k0] w (MarkedT A n k0 w) := by
  have HM := Lib.hid (MrkT.start ha hn k0)
  clear ha hn
  go_enter Tryd.func7, Tryd.ntmps7
  go_wp2_with fail
  go_loopw [1, 5] (fun kk ii wr => ∃ j : Nat, ii = .int .i64 j ∧ j ≤ n ∧ kk = .int .i64 ((k0 + j : Nat) : Int) ∧ MrkT k0 n j A (ob A n) w wr) (fun _ ii _ => n - (intOf ii).toNat)
  case atStart => exact ⟨0, rfl, by omega, by go_num, by simpa using HM.out⟩
  case round =>
    obtain ⟨j, rfl, hj, rfl, hR⟩ := hrel
    have HR := Lib.hid hR
    clear hR
    by_cases hlt : j < n
    · clear HM
      go_wp2_with fail
      refine (c_markText _ (k0 + j) _ (by first | rfl | omega) (by omega) (by omega)).mono ?_
      rintro _ W5 ⟨rfl, p5, hp5⟩
      have HR5 := Lib.hid (show MrkT k0 n j A (ob A n) w W5 by rw [hp5]; exact HR.out.later p5)
      clear HR hp5
      obtain ⟨b, off, hA, hrow, hc⟩ := HR5.out.2.2 (by omega)
      have HAA := Lib.hid hA
      subst hA
      clear hrow
      obtain ⟨hs0, hf0⟩ := hc j (by omega)
      obtain ⟨v0, hx0⟩ := Option.isSome_iff_exists.1 hs0
      clear hs0
      have hbl := World.block_lt_of_cell? _ _ hx0
      simp only at hbl
      have hble := Nat.le_of_lt hbl
      clear hc
      have HST := Lib.hid (HR5.out.step (v := mt (k0 + j)) (o := off + j) HAA.out (by omega) rfl rfl)
      clear HR5
      go_wp2_with fail
      all_goals
        go_roundw
        case rel => exact ⟨j + 1, by go_num, by omega, by first | rfl | go_num | (congr 1; omega), HST.out⟩
        case measure => simp [intOf]; omega
    · have hjn : j = n := by omega
      subst hjn
      have HD := Lib.hid HR.out.done
      clear HR HM
      go_wp2_with fail
      go_ret
      exact ⟨mark_retT (by omega), HD.out⟩
set_option maxHeartbeats 1600000 in
theorem c_heldStringS (A : Option Addr) (n c : Nat) (k0 : Nat) (w : World) (hn2 : n ≤ 1048576) (hk0 : 0 < k0) (hk1 : k0 ≤ 1048576)
    (ha : Row (encMT k0) 1 w A (List.range n)) : Calls Tryd.prog 8 #[.slice A n c, .int .i64 k0] w (Gives (.int .i64 ((k0 + n : Nat) : Int)) w) := by
  have HA := Lib.hid ha
  clear ha
  go_enter Tryd.func8, Tryd.ntmps8
  go_wp2_with fail
  go_loopw [1, 5] (fun kk ii wr => ∃ j : Nat, ii = .int .i64 j ∧ j ≤ n ∧ kk = .int .i64 ((k0 + j : Nat) : Int) ∧ ∃ p : Later, wr = later w p) (fun _ ii _ => n - (intOf ii).toNat)
  case atStart => exact ⟨0, rfl, by omega, by go_num, later_refl _⟩
  case round =>
    obtain ⟨j, rfl, hj, rfl, p, rfl⟩ := hrel
    by_cases hlt : j < n
    · obtain ⟨b, off, hA, hc⟩ := mark_cellT (m := j) HA.out hlt
      subst hA
      have hx0 := hc j hlt
      have hbl := World.block_lt_of_cell? _ _ hx0
      simp only at hbl
      have hble := Nat.le_of_lt hbl
      clear hc HA
      obtain ⟨T, hT⟩ : ∃ T, mt (k0 + j) = T := ⟨_, rfl⟩
      rw [hT] at hx0
      have HT := Lib.hid hT
      clear hT
      go_wp2_with (first | (go_at_call 11; (refine (HT.out ▸ c_markText _ (k0 + j) _ (by first | rfl | omega) (by omega) (by omega)).mono ?_); rintro _ _ ⟨rfl, p, rfl⟩) | ((with_reducible refine wp_region_later (by kernel_rfl) (by kernel_rfl) ?_); (try dsimp only [List.append]); (repeat (first | go_big_quiet_skip | go_big_quiet_step ((first | (go_at_call 11; first | exact calls_later (HT.out ▸ c_markText _ (k0 + j) _ (by first | rfl | omega) (by omega) (by omega)) | exact calls_later2 (HT.out ▸ c_markText _ (k0 + j) _ (by first | rfl | omega) (by omega) (by omega))))) | quiet_step ((first | (go_at_call 11; first | exact calls_later (HT.out ▸ c_markText _ (k0 + j) _ (by first | rfl | omega) (by omega) (by omega)) | exact calls_later2 (HT.out ▸ c_markText _ (k0 + j) _ (by first | rfl | omega) (by omega) (by omega))))))); refine wpQuiet_nil ?_; rintro _ ⟨p, rfl⟩))
      all_goals
        go_roundw
        case rel => exact ⟨j + 1, by go_num, by omega, by first | rfl | go_num | (congr 1; omega), _, rfl⟩
        case measure => simp [intOf]; omega
    · have hjn : j = n := by omega
      subst hjn
      clear HA
      go_wp2_with fail
      go_ret
      exact Gives.mk (mark_retT (by omega)) (by (repeat (first | with_reducible exact Below.refl _ _ | with_reducible assumption | with_reducible refine Below.drew ?_ | with_reducible refine below_drewN ?_ _ | with_reducible exact HQ.out | with_reducible exact HBW.out | with_reducible refine below_ext ?_ _ _ | with_reducible refine below_then_later ?_ (by first | with_reducible exact Nat.le_refl _ | with_reducible exact HBW.out.size | with_reducible exact HQ.out.size | omega | (simp; done) | (simp; omega) | (simp [later_size]; done) | (simp [later_size]; omega)) _ | with_reducible refine Below.setCell ?_ (by first | with_reducible exact Nat.le_refl _ | with_reducible exact HBW.out.size | with_reducible exact HQ.out.size | omega | (simp; done) | (simp; omega) | (simp [later_size]; done) | (simp [later_size]; omega)) _ | with_reducible refine Below.alloc ?_ (by first | with_reducible exact Nat.le_refl _ | with_reducible exact HBW.out.size | with_reducible exact HQ.out.size | omega | (simp; done) | (simp; omega) | (simp [later_size]; done) | (simp [later_size]; omega)) _)))
set_option maxHeartbeats 1600000 in
theorem c_eqStringS (A B : Option Addr) (n c d : Nat) (xs : List ByteArray) (w : World) (hn : xs.length = n) (hn2 : n ≤ 1048576)
    (ha : Row encT 1 w A xs) (hb : Row encT 1 w B xs) : Calls Tryd.prog 6 #[.slice A n c, .slice B n d] w (Gives (.bool true) w) := by
  have HA := Lib.hid ha
  have HB := Lib.hid hb
  have HN := Lib.hid hn
  clear ha hb hn
  go_enter Tryd.func6, Tryd.ntmps6
  go_wp2_with fail
  go_loopw [5] (fun ii wr => ∃ j : Nat, ii = .int .i64 j ∧ j ≤ n ∧ ∃ p : Later, wr = later w p) (fun ii _ => n - (intOf ii).toNat)
  case atStart => exact ⟨0, rfl, by omega, later_refl _⟩
  case round =>
    obtain ⟨j, rfl, hj, p, rfl⟩ := hrel
    by_cases hlt : j < n
    · obtain ⟨x, hx⟩ : ∃ x, xs[j]? = some x := ⟨_, List.getElem?_eq_getElem (by rw [HN.out]; exact hlt)⟩
      obtain ⟨ba, oa, rfl, hca⟩ := HA.out.at_ hx
      obtain ⟨bb, ob_, rfl, hcb⟩ := HB.out.at_ hx
      have hx0 := hca 0 _ rfl
      have hy0 := hcb 0 _ rfl
      simp only [Nat.mul_one, Nat.add_zero] at hx0 hy0
      have hbla := World.block_lt_of_cell? _ _ hx0
      have hblb := World.block_lt_of_cell? _ _ hy0
      simp only at hbla hblb
      have hblea := Nat.le_of_lt hbla
      have hbleb := Nat.le_of_lt hblb
      clear hca hcb HA HB hx
      go_wp2_with (first | ((with_reducible refine wp_region_later (by kernel_rfl) (by kernel_rfl) ?_); (try dsimp only [List.append]); (repeat (first | go_big_quiet_skip | go_big_quiet_step ((fail)) | quiet_step ((fail)))); refine wpQuiet_nil ?_; rintro _ ⟨p, rfl⟩))
      all_goals
        go_roundw
        case rel => exact ⟨j + 1, by go_num, by omega, _, rfl⟩
        case measure => simp [intOf]; omega
    · have hjn : j = n := by omega
      subst hjn
      clear HA HB
      go_wp2_with fail
      go_ret
      exact Gives.mk rfl (by (repeat (first | with_reducible exact Below.refl _ _ | with_reducible assumption | with_reducible refine Below.drew ?_ | with_reducible refine below_drewN ?_ _ | with_reducible exact HQ.out | with_reducible exact HBW.out | with_reducible refine below_ext ?_ _ _ | with_reducible refine below_then_later ?_ (by first | with_reducible exact Nat.le_refl _ | with_reducible exact HBW.out.size | with_reducible exact HQ.out.size | omega | (simp; done) | (simp; omega) | (simp [later_size]; done) | (simp [later_size]; omega)) _ | with_reducible refine Below.setCell ?_ (by first | with_reducible exact Nat.le_refl _ | with_reducible exact HBW.out.size | with_reducible exact HQ.out.size | omega | (simp; done) | (simp; omega) | (simp [later_size]; done) | (simp [later_size]; omega)) _ | with_reducible refine Below.alloc ?_ (by first | with_reducible exact Nat.le_refl _ | with_reducible exact HBW.out.size | with_reducible exact HQ.out.size | omega | (simp; done) | (simp; omega) | (simp [later_size]; done) | (simp [later_size]; omega)) _)))
end Go.Proofs.YtopaapgbenpbaaaDoor
