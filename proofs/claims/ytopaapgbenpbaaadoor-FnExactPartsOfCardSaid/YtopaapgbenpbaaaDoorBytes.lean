/-
  Rows of bytes, a string made of one, figures of base sixteen. Conditions: none.
-/
import Derived.Test.YtopaapgbenpbaaaDoorApp
import Derived.Test.YtopaapgbenpbaaaDoorPick
import Derived.Laws.IdiomStrings
namespace Go.Proofs.YtopaapgbenpbaaaDoor
open Go.RowKit
set_option linter.unusedVariables false

def encB (b : UInt8) : List Value := [.int .u8 (b.toNat : Int)]
theorem lenB : ∀ x, (encB x).length = 1 := fun _ => rfl
theorem oneB : ∀ x, ∀ u ∈ encB x, u.oneCell' = true := by intro x u hu; simp [encB] at hu; subst hu; rfl
theorem infoB : (Tryd.prog.info? 5).map (fun i => (i.zero, i.size, i.bytes)) = some (some (.int .u8 0), 1, 1) := by kernel_rfl
theorem row_twoB (x y : UInt8) (w : World) (g : Nat) (E : TypeId) (hg : g = w.heap.size) : Row encB 1 (w.alloc (.cells #[.int .u8 (x.toNat : Int), .int .u8 (y.toNat : Int)] E)) (some ⟨g, 0, Option.none⟩) [x, y] := by
  subst hg; exact row_new encB 1 lenB w [x, y] E
theorem row_oneB (x : UInt8) (w : World) (g : Nat) (E : TypeId) (hg : g = w.heap.size) : Row encB 1 (w.alloc (.cells #[.int .u8 (x.toNat : Int)] E)) (some ⟨g, 0, Option.none⟩) [x] := by
  subst hg; exact row_new encB 1 lenB w [x] E

theorem ownsRow_draw {w : World} {p : Later} {base : Nat} {e : TypeId} {size : Nat} {v : Value} {n : Nat} {xs : List Value} (h : (later w p).ownsRow base e size v n xs) (m : Nat) : (later w ⟨m, p.os⟩).ownsRow base e size v n xs := by
  have := ownsRow_later h ⟨m, #[]⟩
  rw [later_later] at this
  simpa using this
/-- string(v), v a row of bytes of the call's own -/
theorem run_string_own {P : Program} (w : World) (src dst e : TypeId) (hs : P.underlying src = some (.slice e)) (he : P.underlying e = some (.int .u8)) (hd : P.underlying dst = some .string)
    {base : Nat} {E : TypeId} {v : Value} {n : Nat} {xs : List UInt8} (hown : w.ownsRow base E 1 v n (xs.flatMap encB)) (hn : xs.length = n) :
    (convert src dst v).run P w = .ok (.string ⟨xs.toArray⟩) w := by
  obtain ⟨A, c, rfl, h1, h2, h3⟩ := own_of_ownsRow lenB hown hn
  rcases A with _ | a
  · have hx : xs = [] := by
      rcases xs with _ | ⟨x, xs⟩
      · rfl
      · obtain ⟨b, off, h, _⟩ := h1.row (by simp)
        cases h
    subst hx
    rw [run_convert_bytes_string w src dst e Option.none n c hs he hd]
    simp [Conv.bytesToString, Sem.run_pure]
    rfl
  · subst hn
    refine run_convert_bytes_back w src dst e a c xs hs he hd (fun j hj => ?_)
    obtain ⟨b, off, ha, hc⟩ := h1.row (Nat.lt_of_le_of_lt (Nat.zero_le _) hj)
    cases ha
    have := hc j xs[j] (List.getElem?_eq_getElem hj) 0 _ rfl
    have ea : (⟨b, off, Option.none⟩ : Addr).add j = ⟨b, off + j, Option.none⟩ := by
      unfold Addr.add; split <;> simp_all
    rw [ea]
    simpa using this

theorem wpList_string_own {P : Program} {ops : Array Oper} {rest : List Oper} {o : Oper} {a : Act} {w : World} {Q : Exit → Act → World → Prop} (hgd : o.guard = none) (x : Operand) (src dst : TypeId)
    (ho : o.op = .convert src dst x) (e : TypeId) (hs : P.underlying src = some (.slice e)) (he : P.underlying e = some (.int .u8)) (hd : P.underlying dst = some .string)
    (base : Nat) (E : TypeId) (v : Value) (n : Nat) (xs : List UInt8) (hx : a.eval x = v) (hown : w.ownsRow base E 1 v n (xs.flatMap encB)) (hn : xs.length = n)
    (h : wpList P ops Q rest (a.put o.dst (.string ⟨xs.toArray⟩)) w) : wpList P ops Q (o :: rest) a w :=
  wpList_plain hgd fun _ hK => by
    unfold Oper.wp execOp
    simp only [ho, hx, Sem.run_bind, Sem.run_pure, run_string_own w src dst e hs he hd hown hn, Result.andThen_ok]
    exact hK _ _ h

/-- a byte of a string -/
theorem run_byte_at {P : Program} (t : TypeId) (s : ByteArray) (j : Nat) (x : UInt8) (h : P.underlying t = some .string) (hx : s.data.toList[j]? = some x) (w : World) :
    (Instr.index t (.string s) (.int .i64 (j : Int))).run P w = .ok (.int .u8 (x.toNat : Int)) w := by
  have hj : j < s.data.toList.length := (List.getElem?_eq_some_iff.1 hx).1
  have hj' : j < s.size := by rw [Array.length_toList] at hj; exact hj
  have hv : s.data.toList[j] = x := (List.getElem?_eq_some_iff.1 hx).2
  have h2 : s[j]'hj' = x := by rw [← hv]; rfl
  have h3 : (0 : Int) ≤ (j : Int) ∧ (j : Int) < (s.size : Int) := ⟨by omega, by omega⟩
  rw [run_index_string w t s .i64 j h, dif_pos h3]
  have h4 : s[(j : Int).toNat]'(by simpa using hj') = x := h2
  rw [h4]

/-- a figure of base sixteen -/
def fig (k : Nat) : UInt8 := if k < 10 then UInt8.ofNat (48 + k) else UInt8.ofNat (87 + k)
def figs : ByteArray := ⟨#[48, 49, 50, 51, 52, 53, 54, 55, 56, 57, 97, 98, 99, 100, 101, 102]⟩
theorem figs_at : ∀ k, k < 16 → figs.data.toList[k]? = some (fig k) := by decide
theorem run_fig {P : Program} (t : TypeId) (k : Nat) (h : P.underlying t = some .string) (hk : k < 16) (w : World) :
    (Instr.index t (.string figs) (.int .u8 (k : Int))).run P w = .ok (.int .u8 ((fig k).toNat : Int)) w := by
  have hs : figs.size = 16 := rfl
  have h3 : (0 : Int) ≤ (k : Int) ∧ (k : Int) < (figs.size : Int) := ⟨by omega, by rw [hs]; omega⟩
  rw [run_index_string w t figs .u8 k h, dif_pos h3]
  have hv := (List.getElem?_eq_some_iff.1 (figs_at k hk)).2
  have h4 : figs[(k : Int).toNat]'(by rw [hs]; omega) = fig k := by rw [← hv]; rfl
  rw [h4]
theorem fig_num {k : Nat} (hk : k < 16) : ((fig k).toNat : Int) = if k < 10 then 48 + (k : Int) else 87 + (k : Int) := by
  revert k; decide
end Go.Proofs.YtopaapgbenpbaaaDoor
