/-
  What the reference draws by name: lists of stamps. Conditions: the bytes' number is at most 2^32.
-/
import Derived.Test.YtkjgllcfgljkeaaDrawL
namespace Go.Proofs.Ytkjgllcfgljkeaa
open Go.RowKit
set_option linter.unusedVariables false
theorem row_set2 {α : Type} {enc : α → List Value} {k n : Nat} {w : World} {A : Option Addr} {xs : List α} {a : Addr} (h : Row enc k w A xs) (hn : xs.length = n) (hne : some a.block ≠ ob A n) (v : Value) : Row enc k (w.setCell a v) A xs :=
  h.grown (w' := w.setCell a v) (row := some a.block) ⟨rfl, rfl, rfl, by simp [World.setCell], fun j hj hne => Below.heap_setCell _ _ _ _ (fun e => hne (by rw [e]))⟩ (fun b hb e => hne (by rw [← e, hb, hn]))
/-- two lists of stamps -/
def TwoLists (w : World) (e : Ending) (w' : World) : Prop := ∃ (A : Option Addr) (n c : Nat) (xs : List (Int × Int)) (B : Option Addr) (m d : Nat) (ys : List (Int × Int)), e = .returned (.tuple #[.slice A n c, .slice B m d]) ∧ xs.length = n ∧ ys.length = m ∧ n ≤ 5 ∧ m ≤ 5 ∧ Row encS 2 w' A xs ∧ Row encS 2 w' B ys ∧ ∃ p : Later, w' = later w p
set_option maxRecDepth 20000 in
set_option maxHeartbeats 3200000 in
theorem c_l03Two (A : Option Addr) (n c : Nat) (xs : List UInt8) (w : World) (hn : xs.length = n) (hn2 : n ≤ 4294967296) (hr : Row encB 1 w A xs) : Calls Try.prog 24 #[.slice A n c] w (TwoLists w) := by
  obtain ⟨i0, hi0, hz0, hs0, hb0⟩ := info_parts infoStL
  have HI := Lib.hid hi0
  have HZ := Lib.hid hz0
  have HS := Lib.hid hs0
  have HB := Lib.hid hb0
  clear hi0 hz0 hs0 hb0
  have HR := Lib.hid hr
  have HN := Lib.hid hn
  clear hr hn
  go_enter Try.func24, Try.ntmps24
  go_wp2_with fail
  refine (c_new _ _ _ xs _ HN.out hn2 HR.out).mono ?_
  rintro _ w1 ⟨g, rfl, hg, hc, p1, hp⟩
  have HC := Lib.hid hc
  have HBW := Lib.hid (show Below w.heap.size w w1 by rw [hp]; exact below_later _ _)
  have hgl := hc.lt
  clear hc hp
  go_wp2_with fail
  refine (c_l03List g _ HC.out).mono ?_
  rintro _ w2 ⟨A1, n1, c1, xs1, rfl, hl1, hn1, hcap1, hmax1, -, hO1, hc2, hg2⟩
  have HB2 := Lib.hid (below_drawn HBW.out hg2 hg HBW.out.size)
  have HNE := Lib.hid (hO1.ne_low hl1 hgl)
  have HO1 := Lib.hid hO1
  have HL1 := Lib.hid hl1
  clear HC HBW
  have HC := Lib.hid hc2
  clear hO1 hl1 hc2 hg2 hgl
  go_wp2_with fail
  refine (c_once _ 4 _ HC.out (by unfold I64; omega)).mono ?_
  rintro _ w3 ⟨_, rfl, ⟨b, rfl⟩, hc2, hg2⟩
  have HB3 := Lib.hid (below_drawn HB2.out hg2 hg HB2.out.size)
  have HR3 := Lib.hid (HO1.out.row.grown_ne HL1.out hg2 HNE.out)
  clear HC HB2
  have HC := Lib.hid hc2
  clear hc2 hg2
  have hs3 : w.heap.size ≤ w3.heap.size := HB3.out.size
  cases b
  · go_wp2_with fail
    refine (c_l03List g _ HC.out).mono ?_
    rintro _ w4 ⟨A2, n2, c2, xs2, rfl, hl2, hn2', hcap2, hmax2, -, hO2, hc4, hg4⟩
    have HB4 := Lib.hid (below_drawn HB3.out hg4 hg HB3.out.size)
    have HR4 := Lib.hid (HR3.out.grown_ne HL1.out hg4 HNE.out)
    have HL2 := Lib.hid hl2
    have HO2 := Lib.hid hO2
    clear hl2 hO2 hc4 hg4 HR3 HB3
    go_wp2_with fail
    go_ret2
    exact ⟨A1, n1, c1, xs1, A2, n2, c2, xs2, rfl, HL1.out, HL2.out, hn1, hn2', HR4.out, HO2.out.row, later_of_below HB4.out⟩
  · go_wp2_with (at_builtin; refine wpList_append_row _ encS 2 lenS (by decide) oneS rfl (.tmp 13) (.tmp 14) 24 rfl w3.heap.size 32 i0 _ 16 Try.underlying24 HI.out HZ.out HS.out HB.out rfl (.slice (some ⟨_, 0, Option.none⟩) 0 0) 0 [] rfl (own_empty _ _ _ _ _ (by first | rfl | (simp; done)) (by simp)) _ _ _ xs1 rfl HL1.out (HR3.out.alloc _) (by unfold maxLen; omega) (by omega) (by first | (simp; done) | (simp; omega)) ?_; intro v9 w9 hown hga hbe; have HWN := Lib.hid hown; have HGA := Lib.hid hga; have HBE := Lib.hid (hbe w.heap.size w (HB3.out.alloc HB3.out.size _) (by simp; omega) (by omega)); clear hown hbe hga)
    obtain ⟨A2, c2, hv, ho, hcap, hmax⟩ := own_of_ownsRow (xs := xs1) (n := n1) lenS (by have := HWN.out; simpa using this) HL1.out
    subst hv
    go_ret2
    have hR9 : Row encS 2 w9 A1 xs1 := (HR3.out.alloc _).grown HGA.out (fun b hb e => by
      have h1 := HR3.out.block_lt lenS (by decide) HL1.out (by rw [← HL1.out]; exact hb)
      simp only [Value.ownBlock, Option.some.injEq] at e
      omega)
    exact ⟨A1, n1, c1, xs1, A2, n1, c2, xs1, by simp, HL1.out, HL1.out, hn1, hn1, hR9, ho.row, later_of_below HBE.out⟩
set_option maxHeartbeats 800000 in
theorem c_drawMergeFronts (A : Option Addr) (n c : Nat) (xs : List UInt8) (w : World) (hn : xs.length = n) (hn2 : n ≤ 4294967296) (hr : Row encB 1 w A xs) : Calls Try.prog 6 #[.slice A n c] w (TwoLists w) := by
  have HR := Lib.hid hr
  have HN := Lib.hid hn
  clear hr hn
  go_enter Try.func6, Try.ntmps6
  go_wp2_with fail
  refine (c_l03Two _ _ _ xs _ HN.out hn2 HR.out).mono ?_
  rintro _ w1 ⟨A1, n1, c1, xs1, A2, n2, c2, xs2, rfl, h⟩
  have HH := Lib.hid h
  clear h
  go_wp2_with fail
  go_ret2
  exact ⟨A1, n1, c1, xs1, A2, n2, c2, xs2, rfl, HH.out⟩
set_option maxHeartbeats 800000 in
theorem c_drawSameFront (A : Option Addr) (n c : Nat) (xs : List UInt8) (w : World) (hn : xs.length = n) (hn2 : n ≤ 4294967296) (hr : Row encB 1 w A xs) : Calls Try.prog 20 #[.slice A n c] w (TwoLists w) := by
  have HR := Lib.hid hr
  have HN := Lib.hid hn
  clear hr hn
  go_enter Try.func20, Try.ntmps20
  go_wp2_with fail
  refine (c_l03Two _ _ _ xs _ HN.out hn2 HR.out).mono ?_
  rintro _ w1 ⟨A1, n1, c1, xs1, A2, n2, c2, xs2, rfl, h⟩
  have HH := Lib.hid h
  clear h
  go_wp2_with fail
  go_ret2
  exact ⟨A1, n1, c1, xs1, A2, n2, c2, xs2, rfl, HH.out⟩
set_option maxRecDepth 20000 in
set_option maxHeartbeats 1600000 in
theorem c_drawAhead (A : Option Addr) (n c : Nat) (xs : List UInt8) (w : World) (hn : xs.length = n) (hn2 : n ≤ 4294967296) (hr : Row encB 1 w A xs) : Calls Try.prog 16 #[.slice A n c] w fun e w' => ∃ (A1 : Option Addr) (n1 c1 : Nat) (xs1 : List (Int × Int)) (y z : Int), e = .returned (.tuple #[.slice A1 n1 c1, .agg #[.int .i64 y, .int .i64 z]]) ∧ xs1.length = n1 ∧ n1 ≤ 5 ∧ Row encS 2 w' A1 xs1 ∧ I64 y ∧ I64 z ∧ ∃ p : Later, w' = later w p := by
  have HR := Lib.hid hr
  have HN := Lib.hid hn
  clear hr hn
  go_enter Try.func16, Try.ntmps16
  go_wp2_with fail
  refine (c_new _ _ _ xs _ HN.out hn2 (HR.out.alloc _)).mono ?_
  rintro _ w1 ⟨g, rfl, hg, hc, p1, hp⟩
  have HC := Lib.hid hc
  have HBW := Lib.hid (show Below w.heap.size w w1 by rw [hp]; (repeat (first | with_reducible exact Below.refl _ _ | with_reducible assumption | with_reducible refine Below.drew ?_ | with_reducible refine below_drewN ?_ _ | with_reducible exact HQ.out | with_reducible exact HBW.out | with_reducible refine below_ext ?_ _ _ | with_reducible refine below_then_later ?_ (by first | with_reducible exact Nat.le_refl _ | with_reducible exact HBW.out.size | with_reducible exact HQ.out.size | omega | (simp; done) | (simp; omega) | (simp [later_size]; done) | (simp [later_size]; omega)) _ | with_reducible refine Below.setCell ?_ (by first | with_reducible exact Nat.le_refl _ | with_reducible exact HBW.out.size | with_reducible exact HQ.out.size | omega | (simp; done) | (simp; omega) | (simp [later_size]; done) | (simp [later_size]; omega)) _ | with_reducible refine Below.alloc ?_ (by first | with_reducible exact Nat.le_refl _ | with_reducible exact HBW.out.size | with_reducible exact HQ.out.size | omega | (simp; done) | (simp; omega) | (simp [later_size]; done) | (simp [later_size]; omega)) _)))
  have HK := Lib.hid (Blk.to hp (Blk.new w w.heap.size [.int .i64 0, .int .i64 0] 32 rfl))
  have hgl := hc.lt
  have hg' : w.heap.size < g := by simp at hg; omega
  clear hc hp
  go_wp2_with fail
  refine (c_l03List g _ HC.out).mono ?_
  rintro _ w2 ⟨A1, n1, c1, xs1, rfl, hl1, hn1, hcap1, hmax1, -, hO1, hc2, hg2⟩
  have HB2 := Lib.hid (below_drawn HBW.out hg2 (by omega) HBW.out.size)
  have HNE := Lib.hid (hO1.ne_low hl1 hgl)
  have HNK := Lib.hid (hO1.ne_low (g := w.heap.size) hl1 (by omega))
  have HO1 := Lib.hid hO1
  have HL1 := Lib.hid hl1
  have HK2 := Lib.hid (HK.out.grown hg2 (by simp; omega))
  clear HK
  clear HC HBW
  have HC := Lib.hid hc2
  clear hO1 hl1 hc2 hg2 hgl
  go_wp2_with fail
  refine (c_l02Any _ _ HC.out).mono ?_
  rintro _ w3 ⟨_, rfl, ⟨y, z, rfl, hy, hz⟩, hc2, hg2⟩
  have HB3 := Lib.hid (below_drawn HB2.out hg2 (by omega) HB2.out.size)
  have HR3 := Lib.hid (HO1.out.row.grown_ne HL1.out hg2 HNE.out)
  have hK3 := HK2.out.grown hg2 (by simp; omega)
  have k0 := hK3.cell (i := 0) rfl
  have k1 := hK3.cell (i := 1) rfl
  have z0 := hK3.frozen 0
  have z1 := hK3.frozen 1
  have lK := hK3.lt
  clear hK3 HK2 HC HB2 hc2 hg2
  have hs3 := HB3.out.size
  go_wp2_with fail
  refine bodyPost_ret (v := .tuple #[.slice A1 n1 c1, .agg #[.int .i64 y, .int .i64 z]]) (by first | (simp [results, Try.results16, go_sem]; done) | (simp [results, Try.results16, go_sem, *]; done)) rfl ?_
  exact ⟨A1, n1, c1, xs1, y, z, rfl, HL1.out, hn1, row_set2 (row_set2 HR3.out HL1.out HNK.out _) HL1.out HNK.out _, hy, hz, later_of_below (Below.setCell (Below.setCell HB3.out (by simp) _) (by simp) _)⟩
set_option maxRecDepth 20000 in
set_option maxHeartbeats 1600000 in
theorem c_drawEpochOver (A : Option Addr) (n c : Nat) (xs : List UInt8) (w : World) (hn : xs.length = n) (hn2 : n ≤ 4294967296) (hr : Row encB 1 w A xs) : Calls Try.prog 19 #[.slice A n c] w fun e w' => ∃ (A1 : Option Addr) (n1 c1 : Nat) (xs1 : List (Int × Int)) (y : Int), e = .returned (.tuple #[.slice A1 n1 c1, .int .i64 y]) ∧ xs1.length = n1 ∧ n1 ≤ 5 ∧ Row encS 2 w' A1 xs1 ∧ -1 ≤ y ∧ y ≤ 4 ∧ ∃ p : Later, w' = later w p := by
  have HR := Lib.hid hr
  have HN := Lib.hid hn
  clear hr hn
  go_enter Try.func19, Try.ntmps19
  go_wp2_with fail
  refine (c_new _ _ _ xs _ HN.out hn2 HR.out).mono ?_
  rintro _ w1 ⟨g, rfl, hg, hc, p1, hp⟩
  have HC := Lib.hid hc
  have HBW := Lib.hid (show Below w.heap.size w w1 by rw [hp]; exact below_later _ _)
  have hgl := hc.lt
  clear hc hp
  go_wp2_with fail
  refine (c_l03List g _ HC.out).mono ?_
  rintro _ w2 ⟨A1, n1, c1, xs1, rfl, hl1, hn1, hcap1, hmax1, -, hO1, hc2, hg2⟩
  have HB2 := Lib.hid (below_drawn HBW.out hg2 (by omega) HBW.out.size)
  have HNE := Lib.hid (hO1.ne_low hl1 hgl)
  have HO1 := Lib.hid hO1
  have HL1 := Lib.hid hl1
  clear HC HBW
  have HC := Lib.hid hc2
  clear hO1 hl1 hc2 hg2 hgl
  go_wp2_with fail
  refine (c_below _ 6 _ HC.out (by unfold I64; omega)).mono ?_
  rintro _ w3 ⟨_, rfl, ⟨x, rfl, hx, hx2, -⟩, hc2, hg2⟩
  have hx4 := hx2 (by omega)
  clear hx2
  have HB3 := Lib.hid (below_drawn HB2.out hg2 hg HB2.out.size)
  have HR3 := Lib.hid (HO1.out.row.grown_ne HL1.out hg2 HNE.out)
  clear hc2 hg2 HC
  go_wp2_with fail
  go_ret2
  exact ⟨A1, n1, c1, xs1, x - 1, rfl, HL1.out, hn1, HR3.out, by omega, by omega, later_of_below HB3.out⟩
end Go.Proofs.Ytkjgllcfgljkeaa
