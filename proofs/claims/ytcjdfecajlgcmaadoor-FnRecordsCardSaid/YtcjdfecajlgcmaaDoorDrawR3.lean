/-
  What the reference draws by name: records and lists of records. Conditions: the bytes' number is at most 2^32.
-/
import Derived.Test.YtcjdfecajlgcmaaDoorDrawR2
import Derived.Test.YtcjdfecajlgcmaaDoorSrtI
namespace Go.Proofs.YtcjdfecajlgcmaaDoor
open Go.RowKit
set_option linter.unusedVariables false
theorem onward_S3 {S : World → Prop} {J : Act → World → Prop} {a : Act} {w : World} (hs : S w) (h : J a w) : onward S J .normal a w := ⟨rfl, hs, h⟩
set_option maxRecDepth 20000 in
set_option maxHeartbeats 1600000 in
theorem c_drawSortRecords (A : Option Addr) (n c : Nat) (xs : List UInt8) (w : World) (hn : xs.length = n) (hn2 : n ≤ 4294967296) (hr : Row encB 1 w A xs) : Calls Tryd.prog 5 #[.slice A n c] w fun e w' => ∃ (A1 : Option Addr) (n1 c1 : Nat) (xs1 : List (Int × (Int × Int) × Int × Int)), e = .returned (.slice A1 n1 c1) ∧ xs1.length = n1 ∧ n1 ≤ 6 ∧ (∀ x ∈ xs1, okR x) ∧ Row encR 5 w' A1 xs1 ∧ ∃ p : Later, w' = later w p := by
  have HR := Lib.hid hr
  have HN := Lib.hid hn
  clear hr hn
  go_enter Tryd.func5, Tryd.ntmps5
  go_wp2_with fail
  refine (c_new _ _ _ xs _ HN.out hn2 HR.out).mono ?_
  rintro _ w1 ⟨g, rfl, hg, hc, p1, hp⟩
  have HC := Lib.hid hc
  have HBW := Lib.hid (show Below w.heap.size w w1 by rw [hp]; exact below_later _ _)
  have hgl := hc.lt
  clear hc hp
  go_wp2_with fail
  refine (c_l05List g _ HC.out).mono ?_
  rintro _ w2 ⟨A1, n1, c1, xs1, rfl, hl1, hn1, hcap1, hmax1, hok1, hO1, hc2, hg2⟩
  have HB2 := Lib.hid (below_drawn HBW.out hg2 (by omega) HBW.out.size)
  have HNE := Lib.hid (hO1.ne_low hl1 hgl)
  have HOK := Lib.hid hok1
  have HO1 := Lib.hid hO1
  have HL1 := Lib.hid hl1
  clear HC HBW
  have HC := Lib.hid hc2
  clear hO1 hl1 hc2 hg2 hgl hok1
  go_wp2_with fail
  go_ret
  exact ⟨A1, n1, c1, xs1, rfl, HL1.out, hn1, HOK.out, HO1.out.row, later_of_below HB2.out⟩
set_option maxRecDepth 20000 in
set_option maxHeartbeats 1600000 in
theorem c_drawOfEpoch (A : Option Addr) (n c : Nat) (xs : List UInt8) (w : World) (hn : xs.length = n) (hn2 : n ≤ 4294967296) (hr : Row encB 1 w A xs) : Calls Tryd.prog 14 #[.slice A n c] w fun e w' => ∃ (A1 : Option Addr) (n1 c1 : Nat) (xs1 : List (Int × (Int × Int) × Int × Int)) (y : Int), e = .returned (.tuple #[.slice A1 n1 c1, .int .i64 y]) ∧ xs1.length = n1 ∧ n1 ≤ 6 ∧ Row encR 5 w' A1 xs1 ∧ -1 ≤ y ∧ y ≤ 4 ∧ ∃ p : Later, w' = later w p := by
  have HR := Lib.hid hr
  have HN := Lib.hid hn
  clear hr hn
  go_enter Tryd.func14, Tryd.ntmps14
  go_wp2_with fail
  refine (c_new _ _ _ xs _ HN.out hn2 HR.out).mono ?_
  rintro _ w1 ⟨g, rfl, hg, hc, p1, hp⟩
  have HC := Lib.hid hc
  have HBW := Lib.hid (show Below w.heap.size w w1 by rw [hp]; exact below_later _ _)
  have hgl := hc.lt
  clear hc hp
  go_wp2_with fail
  refine (c_l05List g _ HC.out).mono ?_
  rintro _ w2 ⟨A1, n1, c1, xs1, rfl, hl1, hn1, hcap1, hmax1, hok1, hO1, hc2, hg2⟩
  have HB2 := Lib.hid (below_drawn HBW.out hg2 (by omega) HBW.out.size)
  have HNE := Lib.hid (hO1.ne_low hl1 hgl)
  have HOK := Lib.hid hok1
  have HO1 := Lib.hid hO1
  have HL1 := Lib.hid hl1
  clear HC HBW
  have HC := Lib.hid hc2
  clear hO1 hl1 hc2 hg2 hgl hok1
  go_wp2_with fail
  refine (c_below _ 6 _ HC.out (by unfold I64; omega)).mono ?_
  rintro _ w3 ⟨_, rfl, ⟨x, rfl, hx, hx2, -⟩, hc2, hg2⟩
  have hx4 := hx2 (by omega)
  clear hx2
  have HB3 := Lib.hid (below_drawn HB2.out hg2 hg HB2.out.size)
  have HR3 := Lib.hid (HO1.out.row.grown_ne HL1.out hg2 HNE.out)
  clear hc2 hg2 HC
  go_wp2_with fail
  go_ret2
  exact ⟨A1, n1, c1, xs1, x - 1, rfl, HL1.out, hn1, HR3.out, by omega, by omega, later_of_below HB3.out⟩
set_option maxRecDepth 20000 in
set_option maxHeartbeats 1600000 in
theorem c_drawRecordOk (A : Option Addr) (n c : Nat) (xs : List UInt8) (w : World) (hn : xs.length = n) (hn2 : n ≤ 4294967296) (hr : Row encB 1 w A xs) : Calls Tryd.prog 12 #[.slice A n c] w fun e w' => ∃ v, e = .returned v ∧ recV v ∧ ∃ p : Later, w' = later w p := by
  have HR := Lib.hid hr
  have HN := Lib.hid hn
  clear hr hn
  go_enter Tryd.func12, Tryd.ntmps12
  go_wp2_with fail
  refine (c_new _ _ _ xs _ HN.out hn2 (HR.out.alloc _)).mono ?_
  rintro _ w1 ⟨g, rfl, hg, hc, p1, hp⟩
  have HC := Lib.hid hc
  have HBW := Lib.hid (show Below w.heap.size w w1 by rw [hp]; (repeat (first | with_reducible exact Below.refl _ _ | with_reducible assumption | with_reducible refine Below.drew ?_ | with_reducible refine below_drewN ?_ _ | with_reducible exact HQ.out | with_reducible exact HBW.out | with_reducible refine below_ext ?_ _ _ | with_reducible refine below_then_later ?_ (by first | with_reducible exact Nat.le_refl _ | with_reducible exact HBW.out.size | with_reducible exact HQ.out.size | omega | (simp; done) | (simp; omega) | (simp [later_size]; done) | (simp [later_size]; omega)) _ | with_reducible refine Below.setCell ?_ (by first | with_reducible exact Nat.le_refl _ | with_reducible exact HBW.out.size | with_reducible exact HQ.out.size | omega | (simp; done) | (simp; omega) | (simp [later_size]; done) | (simp [later_size]; omega)) _ | with_reducible refine Below.alloc ?_ (by first | with_reducible exact Nat.le_refl _ | with_reducible exact HBW.out.size | with_reducible exact HQ.out.size | omega | (simp; done) | (simp; omega) | (simp [later_size]; done) | (simp [later_size]; omega)) _)))
  have HK := Lib.hid (Blk.to hp (Blk.new w w.heap.size [.int .i64 0, .int .i64 0, .int .i64 0, .int .i64 0, .int .i64 0] 32 rfl))
  have hgl := hc.lt
  have hg' : w.heap.size < g := by simp at hg; omega
  clear hc hp
  go_wp2_with fail
  refine (c_l05Any g _ HC.out).mono ?_
  rintro _ w2 ⟨_, rfl, ⟨o, a, b, k, e, rfl, ho, ha, hb, hk, he⟩, hc2, hg2⟩
  have HB2 := Lib.hid (below_drawn HBW.out hg2 (by omega) HBW.out.size)
  have hK2 := HK.out.grown hg2 (by simp; omega)
  have k0 := hK2.cell (i := 0) rfl
  have z0 := hK2.frozen 0
  have k1 := hK2.cell (i := 1) rfl
  have z1 := hK2.frozen 1
  have k2 := hK2.cell (i := 2) rfl
  have z2 := hK2.frozen 2
  have k3 := hK2.cell (i := 3) rfl
  have z3 := hK2.frozen 3
  have k4 := hK2.cell (i := 4) rfl
  have z4 := hK2.frozen 4
  have lK := hK2.lt
  clear hK2 HK HC HBW hc2 hg2
  have hs2 := HB2.out.size
  go_wp2_with fail
  refine bodyPost_ret (v := .agg #[.int .i64 o, .int .i64 a, .int .i64 b, .int .i64 k, .int .i64 e]) (by simp [results, Tryd.results12, go_sem, k0, k1, k2, k3, k4]; done) rfl ?_
  exact ⟨_, rfl, ⟨o, a, b, k, e, rfl, ho, ha, hb, hk, he⟩, later_of_below (by (repeat (first | with_reducible exact HB2.out | with_reducible refine Below.setCell ?_ (by simp) _)))⟩
set_option maxRecDepth 20000 in
set_option maxHeartbeats 6400000 in
theorem c_drawSameBag (A : Option Addr) (n c : Nat) (xs : List UInt8) (w : World) (hn : xs.length = n) (hn2 : n ≤ 4294967296) (hr : Row encB 1 w A xs) : Calls Tryd.prog 11 #[.slice A n c] w fun e w' => ∃ (A1 : Option Addr) (n1 c1 : Nat) (xs1 : List (Int × (Int × Int) × Int × Int)) (A2 : Option Addr) (n2 c2 : Nat) (xs2 : List (Int × (Int × Int) × Int × Int)), e = .returned (.tuple #[.slice A1 n1 c1, .slice A2 n2 c2]) ∧ xs1.length = n1 ∧ xs2.length = n2 ∧ n1 ≤ 6 ∧ n2 ≤ 6 ∧ Row encR 5 w' A1 xs1 ∧ Row encR 5 w' A2 xs2 ∧ ∃ p : Later, w' = later w p := by
  obtain ⟨i0, hi0, hz0, hs0, hb0⟩ := info_parts infoRcL
  have HI := Lib.hid hi0
  have HZ := Lib.hid hz0
  have HS := Lib.hid hs0
  have HB := Lib.hid hb0
  clear hi0 hz0 hs0 hb0
  have HR := Lib.hid hr
  have HN := Lib.hid hn
  clear hr hn
  go_enter Tryd.func11, Tryd.ntmps11
  go_wp2_with fail
  refine (c_new _ _ _ xs _ HN.out hn2 HR.out).mono ?_
  rintro _ w1 ⟨g, rfl, hg, hc, p1, hp⟩
  have HC := Lib.hid hc
  have HBW := Lib.hid (show Below w.heap.size w w1 by rw [hp]; exact below_later _ _)
  have hgl := hc.lt
  clear hc hp
  go_wp2_with fail
  refine (c_l05List g _ HC.out).mono ?_
  rintro _ w2 ⟨A1, n1, c1, xs1, rfl, hl1, hn1, hcap1, hmax1, hok1, hO1, hc2, hg2⟩
  have HB2 := Lib.hid (below_drawn HBW.out hg2 (by omega) HBW.out.size)
  have HNE := Lib.hid (hO1.ne_low hl1 hgl)
  have HOK := Lib.hid hok1
  have HO1 := Lib.hid hO1
  have HL1 := Lib.hid hl1
  clear HC HBW
  have HC := Lib.hid hc2
  clear hO1 hl1 hc2 hg2 hgl hok1
  go_wp2_with fail
  refine (c_below _ 3 _ HC.out (by unfold I64; omega)).mono ?_
  rintro _ w3 ⟨_, rfl, ⟨x, rfl, hx, hx2, -⟩, hc2, hg2⟩
  clear hx2
  have HB3 := Lib.hid (below_drawn HB2.out hg2 hg HB2.out.size)
  have HR3 := Lib.hid (HO1.out.row.grown_ne HL1.out hg2 HNE.out)
  clear HC HB2 HO1
  have HC := Lib.hid hc2
  clear hc2 hg2
  have hs3 := HB3.out.size
  by_cases hx0 : x = 0
  · subst hx0
    go_wp2_with fail
    refine (m_sSortRecords A1 n1 c1 xs1 _ _ HL1.out (by omega) HR3.out rfl).mono ?_
    rintro _ w4 ⟨A4, n4, c4, rfl, hl4, hc4, hm4, hO4, p4, hp4⟩
    have HR4 := Lib.hid (row_to hp4 HR3.out)
    have HB4 := Lib.hid (below_to hp4 HB3.out)
    have HO4 := Lib.hid hO4.row
    have HL4 := Lib.hid hl4
    have hn4 : n4 ≤ 6 := by rw [← hl4, srt_len, HL1.out]; exact hn1
    clear hl4 hO4 hp4 HR3 HB3
    go_wp2_with fail
    go_ret2
    exact ⟨A1, n1, c1, xs1, A4, n4, c4, _, rfl, HL1.out, HL4.out, hn1, hn4, HR4.out, HO4.out, later_of_below HB4.out⟩
  · by_cases hx1 : x = 1
    · subst hx1
      by_cases h1 : n1 > 1
      · have hd1 : decide (n1 > 1) = true := decide_eq_true h1
        go_wp2_with (at_builtin; refine wpList_append_row _ encR 5 lenR (by decide) oneR rfl (.tmp 20) (.tmp 21) 24 rfl w3.heap.size 32 i0 _ 40 Tryd.underlying24 HI.out HZ.out HS.out HB.out rfl (.slice (some ⟨_, 0, Option.none⟩) 0 0) 0 [] rfl (own_empty _ _ _ _ _ (by first | rfl | (simp; done)) (by simp)) _ _ _ xs1 rfl HL1.out (HR3.out.alloc _) (by unfold maxLen; omega) (by omega) (by first | (simp; done) | (simp; omega)) ?_; intro v9 w9 hown hga hbe; have HWN := Lib.hid hown; have HGA := Lib.hid hga; have HBE := Lib.hid (hbe w.heap.size w (HB3.out.alloc HB3.out.size _) (by simp; omega) (by omega)); clear hown hbe hga; obtain ⟨A2, c2, hv, ho, hcap, hmax⟩ := own_of_ownsRow (xs := xs1) (n := n1) lenR (by have := HWN.out; simpa using this) HL1.out; subst hv; have HOW := Lib.hid ho; have hR9 := Lib.hid (show Row encR 5 w9 A1 xs1 from (HR3.out.alloc _).grown HGA.out (fun b hb e => by have h1 := HR3.out.block_lt lenR (by decide) HL1.out (by rw [← HL1.out]; exact hb); simp only [Value.ownBlock, Option.some.injEq] at e; omega)); obtain ⟨b, off, hA2⟩ : ∃ b off, A2 = some ⟨b, off, Option.none⟩ := (by obtain ⟨b, off, e, _⟩ := ho.row (by rw [HL1.out]; omega); exact ⟨b, off, e⟩); subst hA2; have hb9 := HOW.out.low HL1.out (b := b) (by unfold ob; rw [if_neg (by omega)]; rfl); obtain ⟨q, hq⟩ : ∃ q, xs1[1]? = some q := ⟨_, List.getElem?_eq_getElem (by rw [HL1.out]; omega)⟩; obtain ⟨q1, ⟨q2, q3⟩, q4, q5⟩ := q; obtain ⟨b', off', eb, cx⟩ := HOW.out.row.at_ hq; cases eb; have x0 := cx 0 _ rfl; have x1 := cx 1 _ rfl; have x2 := cx 2 _ rfl; have x3 := cx 3 _ rfl; have x4 := cx 4 _ rfl; have hpl := own_places HOW.out (j := 0) (by rw [HL1.out]; omega); obtain ⟨⟨y0, e0⟩, f0⟩ := hpl 0 (by omega); obtain ⟨⟨y1, e1⟩, f1⟩ := hpl 1 (by omega); obtain ⟨⟨y2, e2⟩, f2⟩ := hpl 2 (by omega); obtain ⟨⟨y3, e3⟩, f3⟩ := hpl 3 (by omega); obtain ⟨⟨y4, e4⟩, f4⟩ := hpl 4 (by omega); clear hpl cx hq ho; simp only [Nat.add_zero, Nat.zero_mul, Nat.one_mul] at x0 x1 x2 x3 x4 e0 e1 e2 e3 e4 f0 f1 f2 f3 f4)
        go_ret2
        have hR2 : Row encR 5 (put5 w9 b off (q1, (q2, q3), q4, q5)) (some ⟨b, off, Option.none⟩) (xs1.set 0 (q1, (q2, q3), q4, q5)) := by
          have h := (own_put5 (j := 0) (q1, (q2, q3), q4, q5) HOW.out (by rw [HL1.out]; omega)).row
          simp only [Nat.zero_mul, Nat.add_zero] at h
          exact h
        have hR1 : Row encR 5 (put5 w9 b off (q1, (q2, q3), q4, q5)) A1 xs1 := hR9.out.grown (grown_put5 w9 b off _) (fun b' hb' e => by
          have h1 := HR3.out.block_lt lenR (by decide) HL1.out (by rw [← HL1.out]; exact hb')
          cases e
          omega)
        exact ⟨A1, n1, c1, xs1, some ⟨b, off, Option.none⟩, n1, c2, xs1.set 0 (q1, (q2, q3), q4, q5), rfl, HL1.out, by rw [List.length_set]; exact HL1.out, hn1, hn1, hR1, hR2, later_of_below (below_put5 HBE.out (by omega))⟩
      · have hd1 : decide (n1 > 1) = false := decide_eq_false h1
        go_wp2_with (at_builtin; refine wpList_append_row _ encR 5 lenR (by decide) oneR rfl (.tmp 20) (.tmp 21) 24 rfl w3.heap.size 32 i0 _ 40 Tryd.underlying24 HI.out HZ.out HS.out HB.out rfl (.slice (some ⟨_, 0, Option.none⟩) 0 0) 0 [] rfl (own_empty _ _ _ _ _ (by first | rfl | (simp; done)) (by simp)) _ _ _ xs1 rfl HL1.out (HR3.out.alloc _) (by unfold maxLen; omega) (by omega) (by first | (simp; done) | (simp; omega)) ?_; intro v9 w9 hown hga hbe; have HWN := Lib.hid hown; have HGA := Lib.hid hga; have HBE := Lib.hid (hbe w.heap.size w (HB3.out.alloc HB3.out.size _) (by simp; omega) (by omega)); clear hown hbe hga; obtain ⟨A2, c2, hv, ho, hcap, hmax⟩ := own_of_ownsRow (xs := xs1) (n := n1) lenR (by have := HWN.out; simpa using this) HL1.out; subst hv; have HOW := Lib.hid ho.row; have hR9 := Lib.hid (show Row encR 5 w9 A1 xs1 from (HR3.out.alloc _).grown HGA.out (fun b hb e => by have h1 := HR3.out.block_lt lenR (by decide) HL1.out (by rw [← HL1.out]; exact hb); simp only [Value.ownBlock, Option.some.injEq] at e; omega)); clear ho)
        go_ret2
        exact ⟨A1, n1, c1, xs1, A2, n1, c2, xs1, rfl, HL1.out, HL1.out, hn1, hn1, hR9.out, HOW.out, later_of_below HBE.out⟩
    · have hb0 : (x == 0) = false := by simpa using hx0
      have hb1 : (x == 1) = false := by simpa using hx1
      go_wp2_with fail
      refine (c_l05List g _ HC.out).mono ?_
      rintro _ w4 ⟨A2, n2, c2, xs2, rfl, hl2, hn2', hcap2, hmax2, -, hO2, hc4, hg4⟩
      have HB4 := Lib.hid (below_drawn HB3.out hg4 hg HB3.out.size)
      have HR4 := Lib.hid (HR3.out.grown_ne HL1.out hg4 HNE.out)
      have HL2 := Lib.hid hl2
      have HO2 := Lib.hid hO2
      clear hl2 hO2 hc4 hg4 HR3 HB3
      go_wp2_with fail
      go_ret2
      exact ⟨A1, n1, c1, xs1, A2, n2, c2, xs2, rfl, HL1.out, HL2.out, hn1, hn2', HR4.out, HO2.out.row, later_of_below HB4.out⟩
set_option maxRecDepth 20000 in
set_option maxHeartbeats 6400000 in
theorem c_drawRecordOrder (A : Option Addr) (n c : Nat) (xs : List UInt8) (w : World) (hn : xs.length = n) (hn2 : n ≤ 4294967296) (hr : Row encB 1 w A xs) : Calls Tryd.prog 13 #[.slice A n c] w fun e w' => ∃ u v, e = .returned (.tuple #[u, v]) ∧ recV u ∧ recV v ∧ ∃ p : Later, w' = later w p := by
  have HR := Lib.hid hr
  have HN := Lib.hid hn
  clear hr hn
  go_enter Tryd.func13, Tryd.ntmps13
  go_wp2_with fail
  refine (c_new _ _ _ xs _ HN.out hn2 ((HR.out.alloc _).alloc _)).mono ?_
  rintro _ w1 ⟨g, rfl, hg, hc, p1, hp⟩
  have HC := Lib.hid hc
  have HBW := Lib.hid (show Below w.heap.size w w1 by rw [hp]; (repeat (first | with_reducible exact Below.refl _ _ | with_reducible assumption | with_reducible refine Below.drew ?_ | with_reducible refine below_drewN ?_ _ | with_reducible exact HQ.out | with_reducible exact HBW.out | with_reducible refine below_ext ?_ _ _ | with_reducible refine below_then_later ?_ (by first | with_reducible exact Nat.le_refl _ | with_reducible exact HBW.out.size | with_reducible exact HQ.out.size | omega | (simp; done) | (simp; omega) | (simp [later_size]; done) | (simp [later_size]; omega)) _ | with_reducible refine Below.setCell ?_ (by first | with_reducible exact Nat.le_refl _ | with_reducible exact HBW.out.size | with_reducible exact HQ.out.size | omega | (simp; done) | (simp; omega) | (simp [later_size]; done) | (simp [later_size]; omega)) _ | with_reducible refine Below.alloc ?_ (by first | with_reducible exact Nat.le_refl _ | with_reducible exact HBW.out.size | with_reducible exact HQ.out.size | omega | (simp; done) | (simp; omega) | (simp [later_size]; done) | (simp [later_size]; omega)) _)))
  have HK2 := Lib.hid (Blk.to hp ((Blk.new w w.heap.size [.int .i64 0, .int .i64 0, .int .i64 0, .int .i64 0, .int .i64 0] 32 rfl).alloc _))
  have HK3 := Lib.hid (Blk.to hp (Blk.new (w.alloc (.cells #[.int .i64 0, .int .i64 0, .int .i64 0, .int .i64 0, .int .i64 0] 32)) (w.heap.size + 1) [.int .i64 0, .int .i64 0, .int .i64 0, .int .i64 0, .int .i64 0] 32 (by simp)))
  have hg' : w.heap.size + 1 < g := by simp at hg; omega
  have hgl := hc.lt
  clear hc hp
  go_wp2_with fail
  refine (c_l05Any g _ HC.out).mono ?_
  rintro _ w2 ⟨_, rfl, ⟨o, a, b, k, e, rfl, ho, ha, hb, hk, he⟩, hc2, hg2⟩
  have qHK2 := (HK2.out).grown hg2 (by simp; omega)
  have qHK3 := (HK3.out).grown hg2 (by simp; omega)
  have qB := below_drawn (HBW.out) hg2 (by omega) (by first | exact HBW.out.size | (have := HBW.out.size; simp; omega))
  clear HC HBW HK2 HK3
  have HC := Lib.hid hc2
  have HBW := Lib.hid qB
  clear hc2 hg2 qB
  have HK2 := Lib.hid qHK2
  clear qHK2
  have HK3 := Lib.hid qHK3
  clear qHK3
  have hsw2 : w.heap.size ≤ w2.heap.size := HBW.out.size
  have hgw2 : g < w2.heap.size := HC.out.lt
  go_wp2_with fail
  refine calls_anchor (F := fun V => Cur g V ∧ Below w.heap.size w V ∧ Blk w.heap.size [.int .i64 0, .int .i64 0, .int .i64 0, .int .i64 0, .int .i64 0] 32 V ∧ Blk (w.heap.size + 1) [.int .i64 0, .int .i64 0, .int .i64 0, .int .i64 0, .int .i64 0] 32 V ∧ Blk w2.heap.size [.int .i64 o, .int .i64 a, .int .i64 b, .int .i64 k, .int .i64 e] 32 V) ⟨HC.out.alloc _, HBW.out.alloc HBW.out.size _, HK2.out.alloc _, HK3.out.alloc _, Blk.new _ _ [.int .i64 o, .int .i64 a, .int .i64 b, .int .i64 k, .int .i64 e] _ rfl⟩ (fun V hV => ?_)
  obtain ⟨hc4, hb4, q2, q3, q5⟩ := hV
  have hw2 : w.heap.size + 1 < w2.heap.size := HK3.out.lt
  clear HC HBW HK2 HK3
  have HC := Lib.hid hc4
  have HBW := Lib.hid hb4
  have HK2 := Lib.hid q2
  have HK3 := Lib.hid q3
  have HK5 := Lib.hid q5
  clear hc4 hb4 q2 q3 q5
  refine (c_below g 4 _ HC.out (by unfold I64; omega)).mono ?_
  rintro _ w3 ⟨_, rfl, ⟨s, rfl, hs, hs2, -⟩, hc2, hg2⟩
  clear hs2
  have qHK2 := (HK2.out).grown hg2 (by simp; omega)
  have qHK3 := (HK3.out).grown hg2 (by simp; omega)
  have qHK5 := (HK5.out).grown hg2 (by simp; omega)
  have qB := below_drawn (HBW.out) hg2 (by omega) (by first | exact HBW.out.size | (have := HBW.out.size; simp; omega))
  clear HC HBW HK2 HK3 HK5
  have HC := Lib.hid hc2
  have HBW := Lib.hid qB
  clear hc2 hg2 qB
  have HK2 := Lib.hid qHK2
  clear qHK2
  have HK3 := Lib.hid qHK3
  clear qHK3
  have HK5 := Lib.hid qHK5
  clear qHK5
  have hsw3 : w.heap.size ≤ w3.heap.size := HBW.out.size
  have hgw3 : g < w3.heap.size := HC.out.lt
  have n1 : ¬ w2.heap.size = w.heap.size := by omega
  have n2 : ¬ w2.heap.size = w.heap.size + 1 := by omega
  have n3 : ¬ w.heap.size = w2.heap.size := by omega
  have n4 : ¬ w.heap.size + 1 = w2.heap.size := by omega
  by_cases hs0 : s = 0
  · subst hs0
    have lHK2 : w.heap.size < w3.heap.size := HK2.out.lt
    have cHK2_0 := HK2.out.cell (i := 0) rfl
    have zHK2_0 := HK2.out.frozen 0
    have cHK2_1 := HK2.out.cell (i := 1) rfl
    have zHK2_1 := HK2.out.frozen 1
    have cHK2_2 := HK2.out.cell (i := 2) rfl
    have zHK2_2 := HK2.out.frozen 2
    have cHK2_3 := HK2.out.cell (i := 3) rfl
    have zHK2_3 := HK2.out.frozen 3
    have cHK2_4 := HK2.out.cell (i := 4) rfl
    have zHK2_4 := HK2.out.frozen 4
    have lHK3 : w.heap.size + 1 < w3.heap.size := HK3.out.lt
    have cHK3_0 := HK3.out.cell (i := 0) rfl
    have zHK3_0 := HK3.out.frozen 0
    have cHK3_1 := HK3.out.cell (i := 1) rfl
    have zHK3_1 := HK3.out.frozen 1
    have cHK3_2 := HK3.out.cell (i := 2) rfl
    have zHK3_2 := HK3.out.frozen 2
    have cHK3_3 := HK3.out.cell (i := 3) rfl
    have zHK3_3 := HK3.out.frozen 3
    have cHK3_4 := HK3.out.cell (i := 4) rfl
    have zHK3_4 := HK3.out.frozen 4
    have lHK5 : w2.heap.size < w3.heap.size := HK5.out.lt
    have cHK5_0 := HK5.out.cell (i := 0) rfl
    have zHK5_0 := HK5.out.frozen 0
    have cHK5_1 := HK5.out.cell (i := 1) rfl
    have zHK5_1 := HK5.out.frozen 1
    have cHK5_2 := HK5.out.cell (i := 2) rfl
    have zHK5_2 := HK5.out.frozen 2
    have cHK5_3 := HK5.out.cell (i := 3) rfl
    have zHK5_3 := HK5.out.frozen 3
    have cHK5_4 := HK5.out.cell (i := 4) rfl
    have zHK5_4 := HK5.out.frozen 4
    go_wp2_with fail
    with_reducible refine wp_region_plt (fun V => V.cell? ⟨w2.heap.size, 0, Option.none⟩ = some (.int .i64 o) ∧ V.cell? ⟨w2.heap.size, 1, Option.none⟩ = some (.int .i64 a) ∧ V.cell? ⟨w2.heap.size, 2, Option.none⟩ = some (.int .i64 b) ∧ V.cell? ⟨w2.heap.size, 3, Option.none⟩ = some (.int .i64 k) ∧ V.cell? ⟨w2.heap.size, 4, Option.none⟩ = some (.int .i64 e)) (Plt.pick 0 (Plt.pick 1 (Plt.one 2 (Plt.one 3 (Plt.nil))))) (by kernel_rfl) (by kernel_rfl) ?_ ?_
    · exact ⟨cHK5_0, cHK5_1, cHK5_2, cHK5_3, cHK5_4⟩
    (repeat (refine wpPlt_pick (fun J hJ => ?_); simp only [List.getD_cons_zero, List.getD_cons_succ]; first | (go_simp; refine hJ _ ?_; clear hJ J) | (go_simp; refine ⟨_, (fun w1 => by (repeat (intro hh; try simp only [hh, Result.andThen])); rfl), ?_⟩; refine hJ _ ?_; clear hJ J)))
    refine wpPlt_one (fun J hJ => ?_)
    simp only [List.getD_cons_zero, List.getD_cons_succ]
    go_wp2_with fail
    refine onward_S3 (by first | with_reducible exact ⟨cHK5_0, cHK5_1, cHK5_2, cHK5_3, cHK5_4⟩ | (refine ⟨?_, ?_, ?_, ?_, ?_⟩ <;> (go_simp; done))) (hJ _ _ ?_)
    clear hJ J
    refine wpPlt_one (fun J hJ => ?_)
    simp only [List.getD_cons_zero, List.getD_cons_succ]
    go_wp2_with fail
    refine onward_S3 (by first | with_reducible exact ⟨cHK5_0, cHK5_1, cHK5_2, cHK5_3, cHK5_4⟩ | (refine ⟨?_, ?_, ?_, ?_, ?_⟩ <;> (go_simp; done))) (hJ _ _ ?_)
    clear hJ J
    refine wpPlt_nil ?_
    go_wp2_with fail
    refine bodyPost_ret (v := .tuple #[.agg #[.int .i64 o, .int .i64 a, .int .i64 b, .int .i64 k, .int .i64 e], .agg #[.int .i64 o, .int .i64 a, .int .i64 b, .int .i64 k, .int .i64 e]]) (by first | (simp [results, Tryd.results13, go_sem, cHK2_0, cHK2_1, cHK2_2, cHK2_3, cHK2_4, cHK3_0, cHK3_1, cHK3_2, cHK3_3, cHK3_4]; done) | (simp [results, Tryd.results13, go_sem, *]; done)) rfl ?_
    refine ⟨.agg #[.int .i64 o, .int .i64 a, .int .i64 b, .int .i64 k, .int .i64 e], .agg #[.int .i64 o, .int .i64 a, .int .i64 b, .int .i64 k, .int .i64 e], rfl, ⟨o, a, b, k, e, rfl, ho, ha, hb, hk, he⟩, ⟨o, a, b, k, e, rfl, ho, ha, hb, hk, he⟩, ?_⟩
    exact later_of_below (by (repeat (first | with_reducible exact HBW.out | with_reducible refine Below.setCell ?_ (by first | (simp; done) | (simp; omega)) _ | with_reducible refine Below.drew ?_ | with_reducible refine Below.alloc ?_ (by first | (simp; done) | (simp; omega)) _)))
  · by_cases hs1 : s = 1
    · subst hs1
      have lHK2 : w.heap.size < w3.heap.size := HK2.out.lt
      have cHK2_0 := HK2.out.cell (i := 0) rfl
      have zHK2_0 := HK2.out.frozen 0
      have cHK2_1 := HK2.out.cell (i := 1) rfl
      have zHK2_1 := HK2.out.frozen 1
      have cHK2_2 := HK2.out.cell (i := 2) rfl
      have zHK2_2 := HK2.out.frozen 2
      have cHK2_3 := HK2.out.cell (i := 3) rfl
      have zHK2_3 := HK2.out.frozen 3
      have cHK2_4 := HK2.out.cell (i := 4) rfl
      have zHK2_4 := HK2.out.frozen 4
      have lHK3 : w.heap.size + 1 < w3.heap.size := HK3.out.lt
      have cHK3_0 := HK3.out.cell (i := 0) rfl
      have zHK3_0 := HK3.out.frozen 0
      have cHK3_1 := HK3.out.cell (i := 1) rfl
      have zHK3_1 := HK3.out.frozen 1
      have cHK3_2 := HK3.out.cell (i := 2) rfl
      have zHK3_2 := HK3.out.frozen 2
      have cHK3_3 := HK3.out.cell (i := 3) rfl
      have zHK3_3 := HK3.out.frozen 3
      have cHK3_4 := HK3.out.cell (i := 4) rfl
      have zHK3_4 := HK3.out.frozen 4
      have lHK5 : w2.heap.size < w3.heap.size := HK5.out.lt
      have cHK5_0 := HK5.out.cell (i := 0) rfl
      have zHK5_0 := HK5.out.frozen 0
      have cHK5_1 := HK5.out.cell (i := 1) rfl
      have zHK5_1 := HK5.out.frozen 1
      have cHK5_2 := HK5.out.cell (i := 2) rfl
      have zHK5_2 := HK5.out.frozen 2
      have cHK5_3 := HK5.out.cell (i := 3) rfl
      have zHK5_3 := HK5.out.frozen 3
      have cHK5_4 := HK5.out.cell (i := 4) rfl
      have zHK5_4 := HK5.out.frozen 4
      go_wp2_with fail
      refine calls_anchor (F := fun V => Cur g V ∧ Below w.heap.size w V ∧ Blk w.heap.size [.int .i64 0, .int .i64 0, .int .i64 0, .int .i64 0, .int .i64 0] 32 V ∧ Blk (w.heap.size + 1) [.int .i64 0, .int .i64 0, .int .i64 0, .int .i64 0, .int .i64 0] 32 V ∧ Blk w2.heap.size [.int .i64 o, .int .i64 a, .int .i64 b, .int .i64 k, .int .i64 e] 32 V ∧ Blk w3.heap.size [.int .i64 o, .int .i64 a, .int .i64 b, .int .i64 k, .int .i64 e] 32 V) ⟨HC.out.alloc _, HBW.out.alloc HBW.out.size _, HK2.out.alloc _, HK3.out.alloc _, HK5.out.alloc _, Blk.new _ _ [.int .i64 o, .int .i64 a, .int .i64 b, .int .i64 k, .int .i64 e] _ rfl⟩ (fun V hV => ?_)
      obtain ⟨hc4, hb4, q2, q3, q5, q6⟩ := hV
      have hw3 : w2.heap.size < w3.heap.size := lHK5
      clear lHK2 cHK2_0 zHK2_0 cHK2_1 zHK2_1 cHK2_2 zHK2_2 cHK2_3 zHK2_3 cHK2_4 zHK2_4 lHK3 cHK3_0 zHK3_0 cHK3_1 zHK3_1 cHK3_2 zHK3_2 cHK3_3 zHK3_3 cHK3_4 zHK3_4 lHK5 cHK5_0 zHK5_0 cHK5_1 zHK5_1 cHK5_2 zHK5_2 cHK5_3 zHK5_3 cHK5_4 zHK5_4
      clear HC HBW HK2 HK3 HK5
      have HC := Lib.hid hc4
      have HBW := Lib.hid hb4
      have HK2 := Lib.hid q2
      have HK3 := Lib.hid q3
      have HK5 := Lib.hid q5
      have HK6 := Lib.hid q6
      clear hc4 hb4 q2 q3 q5 q6
      refine (c_below g 40 _ HC.out (by unfold I64; omega)).mono ?_
      rintro _ w4 ⟨_, rfl, ⟨u, rfl, hu, hu2, hu3⟩, hc2, hg2⟩
      have hui : I64 u := i64_of_below hu hu2 hu3 (by unfold I64; omega)
      clear hu hu2 hu3
      have qHK2 := (HK2.out).grown hg2 (by simp; omega)
      have qHK3 := (HK3.out).grown hg2 (by simp; omega)
      have qHK5 := (HK5.out).grown hg2 (by simp; omega)
      have qHK6 := (HK6.out).grown hg2 (by simp; omega)
      have qB := below_drawn (HBW.out) hg2 (by omega) (by first | exact HBW.out.size | (have := HBW.out.size; simp; omega))
      clear HC HBW HK2 HK3 HK5 HK6
      have HC := Lib.hid hc2
      have HBW := Lib.hid qB
      clear hc2 hg2 qB
      have HK2 := Lib.hid qHK2
      clear qHK2
      have HK3 := Lib.hid qHK3
      clear qHK3
      have HK5 := Lib.hid qHK5
      clear qHK5
      have HK6 := Lib.hid qHK6
      clear qHK6
      have hsw4 : w.heap.size ≤ w4.heap.size := HBW.out.size
      have hgw4 : g < w4.heap.size := HC.out.lt
      have n5 : ¬ w3.heap.size = w.heap.size := by omega
      have n6 : ¬ w3.heap.size = w.heap.size + 1 := by omega
      have n7 : ¬ w.heap.size = w3.heap.size := by omega
      have n8 : ¬ w.heap.size + 1 = w3.heap.size := by omega
      have n9 : ¬ w2.heap.size = w3.heap.size := by omega
      have n10 : ¬ w3.heap.size = w2.heap.size := by omega
      have lHK2 : w.heap.size < w4.heap.size := HK2.out.lt
      have cHK2_0 := HK2.out.cell (i := 0) rfl
      have zHK2_0 := HK2.out.frozen 0
      have cHK2_1 := HK2.out.cell (i := 1) rfl
      have zHK2_1 := HK2.out.frozen 1
      have cHK2_2 := HK2.out.cell (i := 2) rfl
      have zHK2_2 := HK2.out.frozen 2
      have cHK2_3 := HK2.out.cell (i := 3) rfl
      have zHK2_3 := HK2.out.frozen 3
      have cHK2_4 := HK2.out.cell (i := 4) rfl
      have zHK2_4 := HK2.out.frozen 4
      have lHK3 : w.heap.size + 1 < w4.heap.size := HK3.out.lt
      have cHK3_0 := HK3.out.cell (i := 0) rfl
      have zHK3_0 := HK3.out.frozen 0
      have cHK3_1 := HK3.out.cell (i := 1) rfl
      have zHK3_1 := HK3.out.frozen 1
      have cHK3_2 := HK3.out.cell (i := 2) rfl
      have zHK3_2 := HK3.out.frozen 2
      have cHK3_3 := HK3.out.cell (i := 3) rfl
      have zHK3_3 := HK3.out.frozen 3
      have cHK3_4 := HK3.out.cell (i := 4) rfl
      have zHK3_4 := HK3.out.frozen 4
      have lHK5 : w2.heap.size < w4.heap.size := HK5.out.lt
      have cHK5_0 := HK5.out.cell (i := 0) rfl
      have zHK5_0 := HK5.out.frozen 0
      have cHK5_1 := HK5.out.cell (i := 1) rfl
      have zHK5_1 := HK5.out.frozen 1
      have cHK5_2 := HK5.out.cell (i := 2) rfl
      have zHK5_2 := HK5.out.frozen 2
      have cHK5_3 := HK5.out.cell (i := 3) rfl
      have zHK5_3 := HK5.out.frozen 3
      have cHK5_4 := HK5.out.cell (i := 4) rfl
      have zHK5_4 := HK5.out.frozen 4
      have lHK6 : w3.heap.size < w4.heap.size := HK6.out.lt
      have cHK6_0 := HK6.out.cell (i := 0) rfl
      have zHK6_0 := HK6.out.frozen 0
      have cHK6_1 := HK6.out.cell (i := 1) rfl
      have zHK6_1 := HK6.out.frozen 1
      have cHK6_2 := HK6.out.cell (i := 2) rfl
      have zHK6_2 := HK6.out.frozen 2
      have cHK6_3 := HK6.out.cell (i := 3) rfl
      have zHK6_3 := HK6.out.frozen 3
      have cHK6_4 := HK6.out.cell (i := 4) rfl
      have zHK6_4 := HK6.out.frozen 4
      go_wp2_with fail
      refine wp_anchor (F := fun V => Below w.heap.size w V ∧ Blk w.heap.size [.int .i64 0, .int .i64 0, .int .i64 0, .int .i64 0, .int .i64 0] 32 V ∧ Blk (w.heap.size + 1) [.int .i64 0, .int .i64 0, .int .i64 0, .int .i64 0, .int .i64 0] 32 V ∧ Blk w2.heap.size [.int .i64 o, .int .i64 a, .int .i64 b, .int .i64 k, .int .i64 e] 32 V ∧ Blk w3.heap.size [.int .i64 o, .int .i64 a, .int .i64 b, .int .i64 k, .int .i64 u] 32 V) ⟨Below.setCell HBW.out (by simp; omega) _, HK2.out.other n7 _, HK3.out.other n8 _, HK5.out.other n9 _, HK6.out.set 4 (.int .i64 u)⟩ (fun V hV => ?_)
      obtain ⟨hb4, q2, q3, q5, q6⟩ := hV
      clear lHK2 cHK2_0 zHK2_0 cHK2_1 zHK2_1 cHK2_2 zHK2_2 cHK2_3 zHK2_3 cHK2_4 zHK2_4 lHK3 cHK3_0 zHK3_0 cHK3_1 zHK3_1 cHK3_2 zHK3_2 cHK3_3 zHK3_3 cHK3_4 zHK3_4 lHK5 cHK5_0 zHK5_0 cHK5_1 zHK5_1 cHK5_2 zHK5_2 cHK5_3 zHK5_3 cHK5_4 zHK5_4 lHK6 cHK6_0 zHK6_0 cHK6_1 zHK6_1 cHK6_2 zHK6_2 cHK6_3 zHK6_3 cHK6_4 zHK6_4
      clear HBW HK2 HK3 HK5 HK6
      have HBW := Lib.hid hb4
      have HK2 := Lib.hid q2
      have HK3 := Lib.hid q3
      have HK5 := Lib.hid q5
      have HK6 := Lib.hid q6
      clear hb4 q2 q3 q5 q6
      have hsV := HBW.out.size
      have lHK2 : w.heap.size < V.heap.size := HK2.out.lt
      have cHK2_0 := HK2.out.cell (i := 0) rfl
      have zHK2_0 := HK2.out.frozen 0
      have cHK2_1 := HK2.out.cell (i := 1) rfl
      have zHK2_1 := HK2.out.frozen 1
      have cHK2_2 := HK2.out.cell (i := 2) rfl
      have zHK2_2 := HK2.out.frozen 2
      have cHK2_3 := HK2.out.cell (i := 3) rfl
      have zHK2_3 := HK2.out.frozen 3
      have cHK2_4 := HK2.out.cell (i := 4) rfl
      have zHK2_4 := HK2.out.frozen 4
      have lHK3 : w.heap.size + 1 < V.heap.size := HK3.out.lt
      have cHK3_0 := HK3.out.cell (i := 0) rfl
      have zHK3_0 := HK3.out.frozen 0
      have cHK3_1 := HK3.out.cell (i := 1) rfl
      have zHK3_1 := HK3.out.frozen 1
      have cHK3_2 := HK3.out.cell (i := 2) rfl
      have zHK3_2 := HK3.out.frozen 2
      have cHK3_3 := HK3.out.cell (i := 3) rfl
      have zHK3_3 := HK3.out.frozen 3
      have cHK3_4 := HK3.out.cell (i := 4) rfl
      have zHK3_4 := HK3.out.frozen 4
      have lHK5 : w2.heap.size < V.heap.size := HK5.out.lt
      have cHK5_0 := HK5.out.cell (i := 0) rfl
      have zHK5_0 := HK5.out.frozen 0
      have cHK5_1 := HK5.out.cell (i := 1) rfl
      have zHK5_1 := HK5.out.frozen 1
      have cHK5_2 := HK5.out.cell (i := 2) rfl
      have zHK5_2 := HK5.out.frozen 2
      have cHK5_3 := HK5.out.cell (i := 3) rfl
      have zHK5_3 := HK5.out.frozen 3
      have cHK5_4 := HK5.out.cell (i := 4) rfl
      have zHK5_4 := HK5.out.frozen 4
      have lHK6 : w3.heap.size < V.heap.size := HK6.out.lt
      have cHK6_0 := HK6.out.cell (i := 0) rfl
      have zHK6_0 := HK6.out.frozen 0
      have cHK6_1 := HK6.out.cell (i := 1) rfl
      have zHK6_1 := HK6.out.frozen 1
      have cHK6_2 := HK6.out.cell (i := 2) rfl
      have zHK6_2 := HK6.out.frozen 2
      have cHK6_3 := HK6.out.cell (i := 3) rfl
      have zHK6_3 := HK6.out.frozen 3
      have cHK6_4 := HK6.out.cell (i := 4) rfl
      have zHK6_4 := HK6.out.frozen 4
      with_reducible refine wp_region_plt (fun V => V.cell? ⟨w2.heap.size, 0, Option.none⟩ = some (.int .i64 o) ∧ V.cell? ⟨w2.heap.size, 1, Option.none⟩ = some (.int .i64 a) ∧ V.cell? ⟨w2.heap.size, 2, Option.none⟩ = some (.int .i64 b) ∧ V.cell? ⟨w2.heap.size, 3, Option.none⟩ = some (.int .i64 k) ∧ V.cell? ⟨w2.heap.size, 4, Option.none⟩ = some (.int .i64 e) ∧ V.cell? ⟨w3.heap.size, 0, Option.none⟩ = some (.int .i64 o) ∧ V.cell? ⟨w3.heap.size, 1, Option.none⟩ = some (.int .i64 a) ∧ V.cell? ⟨w3.heap.size, 2, Option.none⟩ = some (.int .i64 b) ∧ V.cell? ⟨w3.heap.size, 3, Option.none⟩ = some (.int .i64 k) ∧ V.cell? ⟨w3.heap.size, 4, Option.none⟩ = some (.int .i64 u)) (Plt.pick 0 (Plt.pick 1 (Plt.one 2 (Plt.one 3 (Plt.nil))))) (by kernel_rfl) (by kernel_rfl) ?_ ?_
      · exact ⟨cHK5_0, cHK5_1, cHK5_2, cHK5_3, cHK5_4, cHK6_0, cHK6_1, cHK6_2, cHK6_3, cHK6_4⟩
      (repeat (refine wpPlt_pick (fun J hJ => ?_); simp only [List.getD_cons_zero, List.getD_cons_succ]; first | (go_simp; refine hJ _ ?_; clear hJ J) | (go_simp; refine ⟨_, (fun w1 => by (repeat (intro hh; try simp only [hh, Result.andThen])); rfl), ?_⟩; refine hJ _ ?_; clear hJ J)))
      refine wpPlt_one (fun J hJ => ?_)
      simp only [List.getD_cons_zero, List.getD_cons_succ]
      go_wp2_with fail
      refine onward_S3 (by first | with_reducible exact ⟨cHK5_0, cHK5_1, cHK5_2, cHK5_3, cHK5_4, cHK6_0, cHK6_1, cHK6_2, cHK6_3, cHK6_4⟩ | (refine ⟨?_, ?_, ?_, ?_, ?_, ?_, ?_, ?_, ?_, ?_⟩ <;> (go_simp; done))) (hJ _ _ ?_)
      clear hJ J
      refine wpPlt_one (fun J hJ => ?_)
      simp only [List.getD_cons_zero, List.getD_cons_succ]
      go_wp2_with fail
      refine onward_S3 (by first | with_reducible exact ⟨cHK5_0, cHK5_1, cHK5_2, cHK5_3, cHK5_4, cHK6_0, cHK6_1, cHK6_2, cHK6_3, cHK6_4⟩ | (refine ⟨?_, ?_, ?_, ?_, ?_, ?_, ?_, ?_, ?_, ?_⟩ <;> (go_simp; done))) (hJ _ _ ?_)
      clear hJ J
      refine wpPlt_nil ?_
      go_wp2_with fail
      refine bodyPost_ret (v := .tuple #[.agg #[.int .i64 o, .int .i64 a, .int .i64 b, .int .i64 k, .int .i64 e], .agg #[.int .i64 o, .int .i64 a, .int .i64 b, .int .i64 k, .int .i64 u]]) (by first | (simp [results, Tryd.results13, go_sem, cHK2_0, cHK2_1, cHK2_2, cHK2_3, cHK2_4, cHK3_0, cHK3_1, cHK3_2, cHK3_3, cHK3_4]; done) | (simp [results, Tryd.results13, go_sem, *]; done)) rfl ?_
      refine ⟨.agg #[.int .i64 o, .int .i64 a, .int .i64 b, .int .i64 k, .int .i64 e], .agg #[.int .i64 o, .int .i64 a, .int .i64 b, .int .i64 k, .int .i64 u], rfl, ⟨o, a, b, k, e, rfl, ho, ha, hb, hk, he⟩, ⟨o, a, b, k, u, rfl, ho, ha, hb, hk, hui⟩, ?_⟩
      exact later_of_below (by (repeat (first | with_reducible exact HBW.out | with_reducible refine Below.setCell ?_ (by first | (simp; done) | (simp; omega)) _ | with_reducible refine Below.drew ?_ | with_reducible refine Below.alloc ?_ (by first | (simp; done) | (simp; omega)) _)))
    ·
      have hb0 : (s == 0) = false := by simpa using hs0
      have hb1 : (s == 1) = false := by simpa using hs1
      have lHK2 : w.heap.size < w3.heap.size := HK2.out.lt
      have cHK2_0 := HK2.out.cell (i := 0) rfl
      have zHK2_0 := HK2.out.frozen 0
      have cHK2_1 := HK2.out.cell (i := 1) rfl
      have zHK2_1 := HK2.out.frozen 1
      have cHK2_2 := HK2.out.cell (i := 2) rfl
      have zHK2_2 := HK2.out.frozen 2
      have cHK2_3 := HK2.out.cell (i := 3) rfl
      have zHK2_3 := HK2.out.frozen 3
      have cHK2_4 := HK2.out.cell (i := 4) rfl
      have zHK2_4 := HK2.out.frozen 4
      have lHK3 : w.heap.size + 1 < w3.heap.size := HK3.out.lt
      have cHK3_0 := HK3.out.cell (i := 0) rfl
      have zHK3_0 := HK3.out.frozen 0
      have cHK3_1 := HK3.out.cell (i := 1) rfl
      have zHK3_1 := HK3.out.frozen 1
      have cHK3_2 := HK3.out.cell (i := 2) rfl
      have zHK3_2 := HK3.out.frozen 2
      have cHK3_3 := HK3.out.cell (i := 3) rfl
      have zHK3_3 := HK3.out.frozen 3
      have cHK3_4 := HK3.out.cell (i := 4) rfl
      have zHK3_4 := HK3.out.frozen 4
      have lHK5 : w2.heap.size < w3.heap.size := HK5.out.lt
      have cHK5_0 := HK5.out.cell (i := 0) rfl
      have zHK5_0 := HK5.out.frozen 0
      have cHK5_1 := HK5.out.cell (i := 1) rfl
      have zHK5_1 := HK5.out.frozen 1
      have cHK5_2 := HK5.out.cell (i := 2) rfl
      have zHK5_2 := HK5.out.frozen 2
      have cHK5_3 := HK5.out.cell (i := 3) rfl
      have zHK5_3 := HK5.out.frozen 3
      have cHK5_4 := HK5.out.cell (i := 4) rfl
      have zHK5_4 := HK5.out.frozen 4
      go_wp2_with fail
      with_reducible refine wp_region_plt (fun V => V.cell? ⟨w2.heap.size, 0, Option.none⟩ = some (.int .i64 o) ∧ V.cell? ⟨w2.heap.size, 1, Option.none⟩ = some (.int .i64 a) ∧ V.cell? ⟨w2.heap.size, 2, Option.none⟩ = some (.int .i64 b) ∧ V.cell? ⟨w2.heap.size, 3, Option.none⟩ = some (.int .i64 k) ∧ V.cell? ⟨w2.heap.size, 4, Option.none⟩ = some (.int .i64 e)) (Plt.pick 0 (Plt.pick 1 (Plt.one 2 (Plt.one 3 (Plt.one 4 (Plt.nil)))))) (by kernel_rfl) (by kernel_rfl) ?_ ?_
      · exact ⟨cHK5_0, cHK5_1, cHK5_2, cHK5_3, cHK5_4⟩
      (repeat (refine wpPlt_pick (fun J hJ => ?_); simp only [List.getD_cons_zero, List.getD_cons_succ]; first | (go_simp; refine hJ _ ?_; clear hJ J) | (go_simp; refine ⟨_, (fun w1 => by (repeat (intro hh; try simp only [hh, Result.andThen])); rfl), ?_⟩; refine hJ _ ?_; clear hJ J)))
      refine wpPlt_one (fun J hJ => ?_)
      simp only [List.getD_cons_zero, List.getD_cons_succ]
      go_wp2_with fail
      refine (c_l05Any g _ (Cur.drew HC.out)).mono ?_
      rintro _ w4 ⟨_, rfl, ⟨o', a', b', k', e', rfl, ho', ha', hb', hk', he'⟩, hc2, hg2⟩
      clear lHK2 cHK2_0 zHK2_0 cHK2_1 zHK2_1 cHK2_2 zHK2_2 cHK2_3 zHK2_3 cHK2_4 zHK2_4 lHK3 cHK3_0 zHK3_0 cHK3_1 zHK3_1 cHK3_2 zHK3_2 cHK3_3 zHK3_3 cHK3_4 zHK3_4 lHK5 cHK5_0 zHK5_0 cHK5_1 zHK5_1 cHK5_2 zHK5_2 cHK5_3 zHK5_3 cHK5_4 zHK5_4
      have qHK2 := (HK2.out.drew).grown hg2 (by simp; omega)
      have qHK3 := (HK3.out.drew).grown hg2 (by simp; omega)
      have qHK5 := (HK5.out.drew).grown hg2 (by simp; omega)
      have qB := below_drawn (HBW.out.drew) hg2 (by omega) (by first | exact HBW.out.size | (have := HBW.out.size; simp; omega))
      clear HC HBW HK2 HK3 HK5
      have HC := Lib.hid hc2
      have HBW := Lib.hid qB
      clear hc2 hg2 qB
      have HK2 := Lib.hid qHK2
      clear qHK2
      have HK3 := Lib.hid qHK3
      clear qHK3
      have HK5 := Lib.hid qHK5
      clear qHK5
      have hsw4 : w.heap.size ≤ w4.heap.size := HBW.out.size
      have hgw4 : g < w4.heap.size := HC.out.lt
      have lHK2 : w.heap.size < w4.heap.size := HK2.out.lt
      have cHK2_0 := HK2.out.cell (i := 0) rfl
      have zHK2_0 := HK2.out.frozen 0
      have cHK2_1 := HK2.out.cell (i := 1) rfl
      have zHK2_1 := HK2.out.frozen 1
      have cHK2_2 := HK2.out.cell (i := 2) rfl
      have zHK2_2 := HK2.out.frozen 2
      have cHK2_3 := HK2.out.cell (i := 3) rfl
      have zHK2_3 := HK2.out.frozen 3
      have cHK2_4 := HK2.out.cell (i := 4) rfl
      have zHK2_4 := HK2.out.frozen 4
      have lHK3 : w.heap.size + 1 < w4.heap.size := HK3.out.lt
      have cHK3_0 := HK3.out.cell (i := 0) rfl
      have zHK3_0 := HK3.out.frozen 0
      have cHK3_1 := HK3.out.cell (i := 1) rfl
      have zHK3_1 := HK3.out.frozen 1
      have cHK3_2 := HK3.out.cell (i := 2) rfl
      have zHK3_2 := HK3.out.frozen 2
      have cHK3_3 := HK3.out.cell (i := 3) rfl
      have zHK3_3 := HK3.out.frozen 3
      have cHK3_4 := HK3.out.cell (i := 4) rfl
      have zHK3_4 := HK3.out.frozen 4
      have lHK5 : w2.heap.size < w4.heap.size := HK5.out.lt
      have cHK5_0 := HK5.out.cell (i := 0) rfl
      have zHK5_0 := HK5.out.frozen 0
      have cHK5_1 := HK5.out.cell (i := 1) rfl
      have zHK5_1 := HK5.out.frozen 1
      have cHK5_2 := HK5.out.cell (i := 2) rfl
      have zHK5_2 := HK5.out.frozen 2
      have cHK5_3 := HK5.out.cell (i := 3) rfl
      have zHK5_3 := HK5.out.frozen 3
      have cHK5_4 := HK5.out.cell (i := 4) rfl
      have zHK5_4 := HK5.out.frozen 4
      go_wp2_with fail
      refine onward_S3 (by first | with_reducible exact ⟨cHK5_0, cHK5_1, cHK5_2, cHK5_3, cHK5_4⟩ | (refine ⟨?_, ?_, ?_, ?_, ?_⟩ <;> (go_simp; done))) (hJ _ _ ?_)
      clear hJ J
      refine wpPlt_one (fun J hJ => ?_)
      simp only [List.getD_cons_zero, List.getD_cons_succ]
      go_wp2_with fail
      refine onward_S3 (by first | with_reducible exact ⟨cHK5_0, cHK5_1, cHK5_2, cHK5_3, cHK5_4⟩ | (refine ⟨?_, ?_, ?_, ?_, ?_⟩ <;> (go_simp; done))) (hJ _ _ ?_)
      clear hJ J
      refine wpPlt_one (fun J hJ => ?_)
      simp only [List.getD_cons_zero, List.getD_cons_succ]
      go_wp2_with fail
      refine onward_S3 (by first | with_reducible exact ⟨cHK5_0, cHK5_1, cHK5_2, cHK5_3, cHK5_4⟩ | (refine ⟨?_, ?_, ?_, ?_, ?_⟩ <;> (go_simp; done))) (hJ _ _ ?_)
      clear hJ J
      refine wpPlt_nil ?_
      go_wp2_with fail
      refine bodyPost_ret (v := .tuple #[.agg #[.int .i64 o, .int .i64 a, .int .i64 b, .int .i64 k, .int .i64 e], .agg #[.int .i64 o', .int .i64 a', .int .i64 b', .int .i64 k', .int .i64 e']]) (by first | (simp [results, Tryd.results13, go_sem, cHK2_0, cHK2_1, cHK2_2, cHK2_3, cHK2_4, cHK3_0, cHK3_1, cHK3_2, cHK3_3, cHK3_4]; done) | (simp [results, Tryd.results13, go_sem, *]; done)) rfl ?_
      refine ⟨.agg #[.int .i64 o, .int .i64 a, .int .i64 b, .int .i64 k, .int .i64 e], .agg #[.int .i64 o', .int .i64 a', .int .i64 b', .int .i64 k', .int .i64 e'], rfl, ⟨o, a, b, k, e, rfl, ho, ha, hb, hk, he⟩, ⟨o', a', b', k', e', rfl, ho', ha', hb', hk', he'⟩, ?_⟩
      exact later_of_below (by (repeat (first | with_reducible exact HBW.out | with_reducible refine Below.setCell ?_ (by first | (simp; done) | (simp; omega)) _ | with_reducible refine Below.drew ?_ | with_reducible refine Below.alloc ?_ (by first | (simp; done) | (simp; omega)) _)))
end Go.Proofs.YtcjdfecajlgcmaaDoor
