/-
  What the reference draws by name: tables of counts. Conditions: the bytes' number is at most 2^32.
-/
import Derived.Test.YthnemjaipdheoaaDrawC
import Derived.Test.YthnemjaipdheoaaDrawL2
namespace Go.Proofs.Ythnemjaipdheoaa
open Go.RowKit
set_option linter.unusedVariables false
theorem i64_neg (z : Int) : I64 (wrap64 (-z)) := i64_wrap _
theorem onward_S2 {S : World → Prop} {J : Act → World → Prop} {a : Act} {w : World} (hs : S w) (h : J a w) : onward S J .normal a w := ⟨rfl, hs, h⟩
/-- two tables -/
def TwoTabs (w : World) (e : Ending) (w' : World) : Prop := ∃ (A : Option Addr) (n c : Nat) (xs : List ((Int × Int) × Int)) (B : Option Addr) (m d : Nat) (ys : List ((Int × Int) × Int)), e = .returned (.tuple #[.slice A n c, .slice B m d]) ∧ xs.length = n ∧ ys.length = m ∧ n ≤ 6 ∧ m ≤ 6 ∧ Row encC 3 w' A xs ∧ Row encC 3 w' B ys ∧ ∃ p : Later, w' = later w p
set_option maxRecDepth 20000 in
set_option maxHeartbeats 3200000 in
theorem c_drawAddCounts (A : Option Addr) (n c : Nat) (xs : List UInt8) (w : World) (hn : xs.length = n) (hn2 : n ≤ 4294967296) (hr : Row encB 1 w A xs) : Calls Try.prog 11 #[.slice A n c] w (TwoTabs w) := by
  have HR := Lib.hid hr
  have HN := Lib.hid hn
  clear hr hn
  go_enter Try.func11, Try.ntmps11
  go_wp2_with fail
  refine (c_new _ _ _ xs _ HN.out hn2 HR.out).mono ?_
  rintro _ w1 ⟨g, rfl, hg, hc, p1, hp⟩
  have HC := Lib.hid hc
  have HBW := Lib.hid (show Below w.heap.size w w1 by rw [hp]; exact below_later _ _)
  have hgl := hc.lt
  clear hc hp
  go_wp2_with fail
  refine (c_l04Any g _ HC.out).mono ?_
  rintro _ w2 ⟨A1, n1, c1, xs1, rfl, hl1, hn1, hcap1, hmax1, -, hO1, hc2, hg2⟩
  have HB2 := Lib.hid (below_drawn HBW.out hg2 (by omega) HBW.out.size)
  have HNE := Lib.hid (hO1.ne_low hl1 hgl)
  have HO1 := Lib.hid hO1
  have HL1 := Lib.hid hl1
  clear HC HBW
  have HC := Lib.hid hc2
  clear hO1 hl1 hc2 hg2
  go_wp2_with fail
  refine (c_l04Any g _ HC.out).mono ?_
  rintro _ w4 ⟨A2, n2, c2, xs2, rfl, hl2, hn2', hcap2, hmax2, -, hO2, hc4, hg4⟩
  have HB4 := Lib.hid (below_drawn HB2.out hg4 (by omega) HB2.out.size)
  have HR4 := Lib.hid (HO1.out.row.grown_ne HL1.out hg4 HNE.out)
  have HL2 := Lib.hid hl2
  have HO2 := Lib.hid hO2
  clear hl2 hO2 hc4 hg4 HB2
  go_wp2_with fail
  go_ret2
  exact ⟨A1, n1, c1, xs1, A2, n2, c2, xs2, rfl, HL1.out, HL2.out, hn1, hn2', HR4.out, HO2.out.row, later_of_below HB4.out⟩
set_option maxRecDepth 20000 in
set_option maxHeartbeats 1600000 in
theorem c_drawEpochCount (A : Option Addr) (n c : Nat) (xs : List UInt8) (w : World) (hn : xs.length = n) (hn2 : n ≤ 4294967296) (hr : Row encB 1 w A xs) : Calls Try.prog 14 #[.slice A n c] w fun e w' => ∃ (A1 : Option Addr) (n1 c1 : Nat) (xs1 : List ((Int × Int) × Int)) (y : Int), e = .returned (.tuple #[.slice A1 n1 c1, .int .i64 y]) ∧ xs1.length = n1 ∧ n1 ≤ 6 ∧ Row encC 3 w' A1 xs1 ∧ -1 ≤ y ∧ y ≤ 4 ∧ ∃ p : Later, w' = later w p := by
  have HR := Lib.hid hr
  have HN := Lib.hid hn
  clear hr hn
  go_enter Try.func14, Try.ntmps14
  go_wp2_with fail
  refine (c_new _ _ _ xs _ HN.out hn2 HR.out).mono ?_
  rintro _ w1 ⟨g, rfl, hg, hc, p1, hp⟩
  have HC := Lib.hid hc
  have HBW := Lib.hid (show Below w.heap.size w w1 by rw [hp]; exact below_later _ _)
  have hgl := hc.lt
  clear hc hp
  go_wp2_with fail
  refine (c_l04Any g _ HC.out).mono ?_
  rintro _ w2 ⟨A1, n1, c1, xs1, rfl, hl1, hn1, hcap1, hmax1, -, hO1, hc2, hg2⟩
  have HB2 := Lib.hid (below_drawn HBW.out hg2 (by omega) HBW.out.size)
  have HNE := Lib.hid (hO1.ne_low hl1 hgl)
  have HO1 := Lib.hid hO1
  have HL1 := Lib.hid hl1
  clear HC HBW
  have HC := Lib.hid hc2
  clear hO1 hl1 hc2 hg2
  go_wp2_with fail
  refine (c_below _ 6 _ HC.out (by unfold I64; omega)).mono ?_
  rintro _ w3 ⟨_, rfl, ⟨x, rfl, hx, hx2, -⟩, hc2, hg2⟩
  have hx4 := hx2 (by omega)
  clear hx2
  have HB3 := Lib.hid (below_drawn HB2.out hg2 hg HB2.out.size)
  have HR3 := Lib.hid (HO1.out.row.grown_ne HL1.out hg2 HNE.out)
  clear hc2 hg2 HC
  go_wp2_with fail
  go_ret2
  exact ⟨A1, n1, c1, xs1, x - 1, rfl, HL1.out, hn1, HR3.out, by omega, by omega, later_of_below HB3.out⟩
set_option maxRecDepth 20000 in
set_option maxHeartbeats 6400000 in
theorem c_drawAdjust (A : Option Addr) (n c : Nat) (xs : List UInt8) (w : World) (hn : xs.length = n) (hn2 : n ≤ 4294967296) (hr : Row encB 1 w A xs) : Calls Try.prog 5 #[.slice A n c] w fun e w' => ∃ (A1 : Option Addr) (n1 c1 : Nat) (xs1 : List ((Int × Int) × Int)) (y z m : Int), e = .returned (.tuple #[.slice A1 n1 c1, .agg #[.int .i64 y, .int .i64 z], .int .i64 m]) ∧ xs1.length = n1 ∧ n1 ≤ 6 ∧ Row encC 3 w' A1 xs1 ∧ I64 m ∧ ∃ p : Later, w' = later w p := by
  have HR := Lib.hid hr
  have HN := Lib.hid hn
  clear hr hn
  go_enter Try.func5, Try.ntmps5
  go_wp2_with fail
  refine (c_new _ _ _ xs _ HN.out hn2 (HR.out.alloc _)).mono ?_
  rintro _ w1 ⟨g, rfl, hg, hc, p1, hp⟩
  have HC := Lib.hid hc
  have HBW := Lib.hid (show Below w.heap.size w w1 by rw [hp]; (repeat (first | with_reducible exact Below.refl _ _ | with_reducible assumption | with_reducible refine Below.drew ?_ | with_reducible refine below_drewN ?_ _ | with_reducible exact HQ.out | with_reducible exact HBW.out | with_reducible refine below_ext ?_ _ _ | with_reducible refine below_then_later ?_ (by first | with_reducible exact Nat.le_refl _ | with_reducible exact HBW.out.size | with_reducible exact HQ.out.size | omega | (simp; done) | (simp; omega) | (simp [later_size]; done) | (simp [later_size]; omega)) _ | with_reducible refine Below.setCell ?_ (by first | with_reducible exact Nat.le_refl _ | with_reducible exact HBW.out.size | with_reducible exact HQ.out.size | omega | (simp; done) | (simp; omega) | (simp [later_size]; done) | (simp [later_size]; omega)) _ | with_reducible refine Below.alloc ?_ (by first | with_reducible exact Nat.le_refl _ | with_reducible exact HBW.out.size | with_reducible exact HQ.out.size | omega | (simp; done) | (simp; omega) | (simp [later_size]; done) | (simp [later_size]; omega)) _)))
  have HK := Lib.hid (Blk.to hp (Blk.new w w.heap.size [.int .i64 0, .int .i64 0] 26 rfl))
  have hgl := hc.lt
  have hg' : w.heap.size < g := by simp at hg; omega
  clear hc hp
  go_wp2_with fail
  refine (c_l04Any g _ HC.out).mono ?_
  rintro _ w2 ⟨A1, n1, c1, xs1, rfl, hl1, hn1, hcap1, hmax1, -, hO1, hc2, hg2⟩
  have HB2 := Lib.hid (below_drawn HBW.out hg2 (by omega) HBW.out.size)
  have HNE := Lib.hid (hO1.ne_low hl1 hgl)
  have HNK := Lib.hid (hO1.ne_low (g := w.heap.size) hl1 (by omega))
  have HLT := Lib.hid (Lt.of_row lenC (by decide) hO1.row hl1)
  have HO1 := Lib.hid hO1
  have HL1 := Lib.hid hl1
  have HK2 := Lib.hid (HK.out.grown hg2 (by simp; omega))
  clear HK
  clear HC HBW
  have HC := Lib.hid hc2
  clear hO1 hl1 hc2 hg2
  have hs2 := HB2.out.size
  have hgw2 : g < w2.heap.size := HC.out.lt
  go_wp2_with fail
  refine (c_l02Any _ _ HC.out).mono ?_
  rintro _ w3 ⟨_, rfl, ⟨y, z, rfl, hy, hz⟩, hc2, hg2⟩
  have HB3 := Lib.hid (below_drawn HB2.out hg2 (by omega) HB2.out.size)
  have HR3 := Lib.hid (HO1.out.row.grown_ne HL1.out hg2 HNE.out)
  have HK3 := Lib.hid (HK2.out.grown hg2 (by simp; omega))
  have hw23 : w2.heap.size ≤ w3.heap.size := hg2.size
  clear HK2 HC HB2 HO1
  have HC := Lib.hid hc2
  clear hc2 hg2
  have hs3 := HB3.out.size
  have hgw3 : g < w3.heap.size := HC.out.lt
  have lk3 := HK3.out.lt
  -- the box of s has been laid behind
  by_cases h0 : n1 = 0
  · subst h0
    have hd0 : decide (0 > 0) = false := by decide
    go_wp2_with fail
    refine wp_anchor (F := fun V => Cur g V ∧ Below w.heap.size w V ∧ Row encC 3 V A1 xs1 ∧ Blk w.heap.size [.int .i64 0, .int .i64 0] 26 V ∧ Blk w3.heap.size [.int .i64 y, .int .i64 z] 26 V) ⟨HC.out.alloc _, HB3.out.alloc HB3.out.size _, HR3.out.alloc _, HK3.out.alloc _, Blk.new _ _ [.int .i64 y, .int .i64 z] _ rfl⟩ (fun V hV => ?_)
    obtain ⟨hc4, hb4, hr4, hk4, hk7⟩ := hV
    clear HC HB3 HR3 HK3 lk3
    have HC := Lib.hid hc4
    have HBX := Lib.hid hb4
    have HRX := Lib.hid hr4
    have HK3X := Lib.hid hk4
    have HK7X := Lib.hid hk7
    clear hc4 hb4 hr4 hk4 hk7
    have k70 := HK7X.out.cell (i := 0) rfl
    have k71 := HK7X.out.cell (i := 1) rfl
    have k30 := HK3X.out.cell (i := 0) rfl
    have k31 := HK3X.out.cell (i := 1) rfl
    have z30 := HK3X.out.frozen 0
    have z31 := HK3X.out.frozen 1
    have l7 := HK7X.out.lt
    have l3 := HK3X.out.lt
    have n37 : ¬ w.heap.size = w3.heap.size := by omega
    have n73 : ¬ w3.heap.size = w.heap.size := by omega
    with_reducible refine wp_region_plt (fun V => V.cell? ⟨w3.heap.size, 0, Option.none⟩ = some (.int .i64 y) ∧ V.cell? ⟨w3.heap.size, 1, Option.none⟩ = some (.int .i64 z)) (Plt.pick 0 (Plt.pick 1 (Plt.pick 2 (Plt.one 3 (Plt.one 4 (Plt.pick 5 (Plt.one 6 (Plt.pick 7 (Plt.nil))))))))) (by kernel_rfl) (by kernel_rfl) ?_ ?_
    · exact ⟨k70, k71⟩
    (repeat (refine wpPlt_pick (fun J hJ => ?_); simp only [List.getD_cons_zero, List.getD_cons_succ]; first | (go_simp; refine hJ _ ?_; clear hJ J) | (go_simp; refine ⟨_, (fun w1 => by (repeat (intro hh; try simp only [hh, Result.andThen])); rfl), ?_⟩; refine hJ _ ?_; clear hJ J)))
    refine wpPlt_one (fun J hJ => ?_)
    simp only [List.getD_cons_zero, List.getD_cons_succ]
    go_wp2_with fail
    refine onward_S2 (by first | exact ⟨k70, k71⟩ | (refine ⟨?_, ?_⟩ <;> (go_simp; done))) (hJ _ _ ?_)
    clear hJ J
    refine wpPlt_one (fun J hJ => ?_)
    simp only [List.getD_cons_zero, List.getD_cons_succ]
    go_wp2_with fail
    refine (c_pickInt g _ _ _ [1, -1, 3, 0, 1000000, 1000001, -1000001, 9223372036854775807, -9223372036854775808] _ ((Cur.drew HC.out).alloc _) rfl (by decide) (by decide) (by exact row_new encI 1 lenI _ _ _) (ne_new HC.out.lt)).mono ?_
    rintro _ w6 ⟨_, rfl, ⟨m, hm, rfl⟩, hc2, hg2⟩
    have HM := Lib.hid ((by decide : ∀ x ∈ ([1, -1, 3, 0, 1000000, 1000001, -1000001, 9223372036854775807, -9223372036854775808] : List Int), -9223372036854775808 ≤ x ∧ x ≤ 9223372036854775807) m hm)
    clear hm
    have c7 := ((Blk.drew HK7X.out).alloc _).grown hg2 (by simp; omega)
    have c3 := ((Blk.drew HK3X.out).alloc _).grown hg2 (by simp; omega)
    have cB := below_drawn ((Below.drew HBX.out).alloc HBX.out.size _) hg2 (by omega) (by have := HBX.out.size; simp; omega)
    have cR := (((Row.drew HRX.out)).alloc _).grown_ne HL1.out hg2 HNE.out
    clear k70 k71 k30 k31 z30 z31 l7 l3 n37 n73
    clear HC HBX HRX HK3X HK7X hc2 hg2
    have HK7X := Lib.hid c7
    have HK3X := Lib.hid c3
    have HBX := Lib.hid cB
    have HRX := Lib.hid cR
    clear c7 c3 cB cR
    have k70 := HK7X.out.cell (i := 0) rfl
    have k71 := HK7X.out.cell (i := 1) rfl
    have k30 := HK3X.out.cell (i := 0) rfl
    have k31 := HK3X.out.cell (i := 1) rfl
    have z30 := HK3X.out.frozen 0
    have z31 := HK3X.out.frozen 1
    have l7 := HK7X.out.lt
    have l3 := HK3X.out.lt
    have n37 : ¬ w.heap.size = w3.heap.size := by omega
    have n73 : ¬ w3.heap.size = w.heap.size := by omega
    have hs6 := HBX.out.size
    go_wp2_with fail
    refine onward_S2 (by first | exact ⟨k70, k71⟩ | (refine ⟨?_, ?_⟩ <;> (go_simp; done))) (hJ _ _ ?_)
    clear hJ J
    (repeat (refine wpPlt_pick (fun J hJ => ?_); simp only [List.getD_cons_zero, List.getD_cons_succ]; first | (go_simp; refine hJ _ ?_; clear hJ J) | (go_simp; refine ⟨_, (fun w1 => by (repeat (intro hh; try simp only [hh, Result.andThen])); rfl), ?_⟩; refine hJ _ ?_; clear hJ J)))
    refine wpPlt_one (fun J hJ => ?_)
    simp only [List.getD_cons_zero, List.getD_cons_succ]
    go_wp2_with fail
    refine onward_S2 (by first | exact ⟨k70, k71⟩ | (refine ⟨?_, ?_⟩ <;> (go_simp; done))) (hJ _ _ ?_)
    clear hJ J
    (repeat (refine wpPlt_pick (fun J hJ => ?_); simp only [List.getD_cons_zero, List.getD_cons_succ]; first | (go_simp; refine hJ _ ?_; clear hJ J) | (go_simp; refine ⟨_, (fun w1 => by (repeat (intro hh; try simp only [hh, Result.andThen])); rfl), ?_⟩; refine hJ _ ?_; clear hJ J)))
    refine wpPlt_nil ?_
    go_wp2_with fail
    refine bodyPost_ret (v := .tuple #[.slice A1 0 c1, .agg #[.int .i64 y, .int .i64 z], .int .i64 m]) (by first | (simp [results, Try.results5, go_sem]; done) | (simp [results, Try.results5, go_sem, *]; done)) rfl ?_
    exact ⟨A1, _, c1, xs1, y, z, m, rfl, HL1.out, by omega, (by (repeat (first | with_reducible exact HRX.out | with_reducible refine row_set2 ?_ HL1.out HNK.out _)); done), HM.out, later_of_below (by (repeat (first | with_reducible exact HBX.out | with_reducible refine Below.setCell ?_ (by simp) _)))⟩
  · have hd0 : decide (n1 > 0) = true := decide_eq_true (by omega)
    go_wp2_with fail
    refine calls_anchor (F := fun V => Cur g V ∧ Below w.heap.size w V ∧ Row encC 3 V A1 xs1 ∧ Blk w.heap.size [.int .i64 0, .int .i64 0] 26 V ∧ Blk w3.heap.size [.int .i64 y, .int .i64 z] 26 V) ⟨HC.out.alloc _, HB3.out.alloc HB3.out.size _, HR3.out.alloc _, HK3.out.alloc _, Blk.new _ _ [.int .i64 y, .int .i64 z] _ rfl⟩ (fun V hV => ?_)
    obtain ⟨hc4, hb4, hr4, hk4, hk7⟩ := hV
    clear HC HB3 HR3 HK3 lk3
    have HC := Lib.hid hc4
    have HBX := Lib.hid hb4
    have HRX := Lib.hid hr4
    have HK3X := Lib.hid hk4
    have HK7X := Lib.hid hk7
    clear hc4 hb4 hr4 hk4 hk7
    refine (c_once g 2 _ HC.out (by unfold I64; omega)).mono ?_
    rintro _ w5 ⟨_, rfl, ⟨bb, rfl⟩, hc2, hg2⟩
    have a1 := Lib.hid (below_drawn HBX.out hg2 (by omega) (by have := HBX.out.size; simp; omega))
    have a2 := Lib.hid ((HRX.out).grown_ne HL1.out hg2 HNE.out)
    have a3 := Lib.hid ((HK3X.out).grown hg2 (by simp; omega))
    have a7 := Lib.hid ((HK7X.out).grown hg2 (by simp; omega))
    clear HC HBX HRX HK3X HK7X
    have HC := Lib.hid hc2
    have HBX := a1
    have HRX := a2
    have HK3X := a3
    have HK7X := a7
    clear a1 a2 a3 a7 hc2 hg2
    have hs5 := HBX.out.size
    have hgw5 : g < w5.heap.size := HC.out.lt
    cases bb
    · go_wp2_with fail
      have k70 := HK7X.out.cell (i := 0) rfl
      have k71 := HK7X.out.cell (i := 1) rfl
      have k30 := HK3X.out.cell (i := 0) rfl
      have k31 := HK3X.out.cell (i := 1) rfl
      have z30 := HK3X.out.frozen 0
      have z31 := HK3X.out.frozen 1
      have l7 := HK7X.out.lt
      have l3 := HK3X.out.lt
      have n37 : ¬ w.heap.size = w3.heap.size := by omega
      have n73 : ¬ w3.heap.size = w.heap.size := by omega
      with_reducible refine wp_region_plt (fun V => V.cell? ⟨w3.heap.size, 0, Option.none⟩ = some (.int .i64 y) ∧ V.cell? ⟨w3.heap.size, 1, Option.none⟩ = some (.int .i64 z)) (Plt.pick 0 (Plt.pick 1 (Plt.pick 2 (Plt.one 3 (Plt.one 4 (Plt.pick 5 (Plt.one 6 (Plt.pick 7 (Plt.nil))))))))) (by kernel_rfl) (by kernel_rfl) ?_ ?_
      · exact ⟨k70, k71⟩
      (repeat (refine wpPlt_pick (fun J hJ => ?_); simp only [List.getD_cons_zero, List.getD_cons_succ]; first | (go_simp; refine hJ _ ?_; clear hJ J) | (go_simp; refine ⟨_, (fun w1 => by (repeat (intro hh; try simp only [hh, Result.andThen])); rfl), ?_⟩; refine hJ _ ?_; clear hJ J)))
      refine wpPlt_one (fun J hJ => ?_)
      simp only [List.getD_cons_zero, List.getD_cons_succ]
      go_wp2_with fail
      refine onward_S2 (by first | exact ⟨k70, k71⟩ | (refine ⟨?_, ?_⟩ <;> (go_simp; done))) (hJ _ _ ?_)
      clear hJ J
      refine wpPlt_one (fun J hJ => ?_)
      simp only [List.getD_cons_zero, List.getD_cons_succ]
      go_wp2_with fail
      refine (c_pickInt g _ _ _ [1, -1, 3, 0, 1000000, 1000001, -1000001, 9223372036854775807, -9223372036854775808] _ ((Cur.drew HC.out).alloc _) rfl (by decide) (by decide) (by exact row_new encI 1 lenI _ _ _) (ne_new HC.out.lt)).mono ?_
      rintro _ w6 ⟨_, rfl, ⟨m, hm, rfl⟩, hc2, hg2⟩
      have HM := Lib.hid ((by decide : ∀ x ∈ ([1, -1, 3, 0, 1000000, 1000001, -1000001, 9223372036854775807, -9223372036854775808] : List Int), -9223372036854775808 ≤ x ∧ x ≤ 9223372036854775807) m hm)
      clear hm
      have c7 := ((Blk.drew HK7X.out).alloc _).grown hg2 (by simp; omega)
      have c3 := ((Blk.drew HK3X.out).alloc _).grown hg2 (by simp; omega)
      have cB := below_drawn ((Below.drew HBX.out).alloc HBX.out.size _) hg2 (by omega) (by have := HBX.out.size; simp; omega)
      have cR := (((Row.drew HRX.out)).alloc _).grown_ne HL1.out hg2 HNE.out
      clear k70 k71 k30 k31 z30 z31 l7 l3 n37 n73
      clear HC HBX HRX HK3X HK7X hc2 hg2
      have HK7X := Lib.hid c7
      have HK3X := Lib.hid c3
      have HBX := Lib.hid cB
      have HRX := Lib.hid cR
      clear c7 c3 cB cR
      have k70 := HK7X.out.cell (i := 0) rfl
      have k71 := HK7X.out.cell (i := 1) rfl
      have k30 := HK3X.out.cell (i := 0) rfl
      have k31 := HK3X.out.cell (i := 1) rfl
      have z30 := HK3X.out.frozen 0
      have z31 := HK3X.out.frozen 1
      have l7 := HK7X.out.lt
      have l3 := HK3X.out.lt
      have n37 : ¬ w.heap.size = w3.heap.size := by omega
      have n73 : ¬ w3.heap.size = w.heap.size := by omega
      have hs6 := HBX.out.size
      go_wp2_with fail
      refine onward_S2 (by first | exact ⟨k70, k71⟩ | (refine ⟨?_, ?_⟩ <;> (go_simp; done))) (hJ _ _ ?_)
      clear hJ J
      (repeat (refine wpPlt_pick (fun J hJ => ?_); simp only [List.getD_cons_zero, List.getD_cons_succ]; first | (go_simp; refine hJ _ ?_; clear hJ J) | (go_simp; refine ⟨_, (fun w1 => by (repeat (intro hh; try simp only [hh, Result.andThen])); rfl), ?_⟩; refine hJ _ ?_; clear hJ J)))
      refine wpPlt_one (fun J hJ => ?_)
      simp only [List.getD_cons_zero, List.getD_cons_succ]
      go_wp2_with fail
      refine onward_S2 (by first | exact ⟨k70, k71⟩ | (refine ⟨?_, ?_⟩ <;> (go_simp; done))) (hJ _ _ ?_)
      clear hJ J
      (repeat (refine wpPlt_pick (fun J hJ => ?_); simp only [List.getD_cons_zero, List.getD_cons_succ]; first | (go_simp; refine hJ _ ?_; clear hJ J) | (go_simp; refine ⟨_, (fun w1 => by (repeat (intro hh; try simp only [hh, Result.andThen])); rfl), ?_⟩; refine hJ _ ?_; clear hJ J)))
      refine wpPlt_nil ?_
      go_wp2_with fail
      refine bodyPost_ret (v := .tuple #[.slice A1 n1 c1, .agg #[.int .i64 y, .int .i64 z], .int .i64 m]) (by first | (simp [results, Try.results5, go_sem]; done) | (simp [results, Try.results5, go_sem, *]; done)) rfl ?_
      exact ⟨A1, _, c1, xs1, y, z, m, rfl, HL1.out, by omega, (by (repeat (first | with_reducible exact HRX.out | with_reducible refine row_set2 ?_ HL1.out HNK.out _)); done), HM.out, later_of_below (by (repeat (first | with_reducible exact HBX.out | with_reducible refine Below.setCell ?_ (by simp) _)))⟩
    · go_wp2_with fail
      refine (c_below g _ _ HC.out (by unfold I64; omega)).mono ?_
      rintro _ w8 ⟨_, rfl, ⟨kk, rfl, hk0, hk1, -⟩, hc2, hg2⟩
      have hk2 := hk1 (by omega)
      clear hk1
      obtain ⟨k, rfl⟩ : ∃ k : Nat, kk = k := ⟨kk.toNat, by omega⟩
      have a1 := Lib.hid (below_drawn HBX.out hg2 (by omega) (by have := HBX.out.size; simp; omega))
      have a2 := Lib.hid ((HRX.out).grown_ne HL1.out hg2 HNE.out)
      have a3 := Lib.hid ((HK3X.out).grown hg2 (by simp; omega))
      have a7 := Lib.hid ((HK7X.out).grown hg2 (by simp; omega))
      clear HC HBX HRX HK3X HK7X
      have HC := Lib.hid hc2
      have HBX := a1
      have HRX := a2
      have HK3X := a3
      have HK7X := a7
      clear a1 a2 a3 a7 hc2 hg2
      have hs8 := HBX.out.size
      have hgw8 : g < w8.heap.size := HC.out.lt
      have hkn : k < n1 := by omega
      obtain ⟨x, hx⟩ : ∃ x, xs1[k]? = some x := ⟨_, List.getElem?_eq_getElem (by rw [HL1.out]; exact hkn)⟩
      obtain ⟨⟨e1, e2⟩, e3⟩ := x
      obtain ⟨b, off, rfl, cx⟩ := HRX.out.at_ hx
      have HXK := Lib.hid hx
      clear hx
      have hbg : ¬ b = g := fun e => HNE.out (by unfold ob; rw [if_neg (by omega), e]; rfl)
      have hb0 : ¬ b = w.heap.size := fun e => HNK.out (by unfold ob; rw [if_neg (by omega), e]; rfl)
      have hb0' : ¬ w.heap.size = b := fun e => hb0 e.symm
      have x0 := cx 0 _ rfl
      have x1 := cx 1 _ rfl
      have x2 := cx 2 _ rfl
      simp only [Nat.add_zero] at x0
      have hbl : b < w8.heap.size := World.block_lt_of_cell? _ _ x0
      have hbl' := Nat.le_of_lt hbl
      clear cx
      have k70 := HK7X.out.cell (i := 0) rfl
      have k71 := HK7X.out.cell (i := 1) rfl
      have k30 := HK3X.out.cell (i := 0) rfl
      have k31 := HK3X.out.cell (i := 1) rfl
      have z30 := HK3X.out.frozen 0
      have z31 := HK3X.out.frozen 1
      have l7 := HK7X.out.lt
      have l3 := HK3X.out.lt
      have n37 : ¬ w.heap.size = w3.heap.size := by omega
      have n73 : ¬ w3.heap.size = w.heap.size := by omega
      go_wp2_with fail
      with_reducible refine wp_region_plt (fun V => V.cell? ⟨b, off + k * 3, Option.none⟩ = some (.int .i64 e1) ∧ V.cell? ⟨b, off + k * 3 + 1, Option.none⟩ = some (.int .i64 e2) ∧ V.cell? ⟨b, off + k * 3 + 2, Option.none⟩ = some (.int .i64 e3)) (Plt.pick 0 (Plt.pick 1 (Plt.pick 2 (Plt.pick 3 (Plt.pick 4 (Plt.pick 5 (Plt.pick 6 (Plt.pick 7 (Plt.pick 8 (Plt.pick 9 (Plt.pick 10 (Plt.pick 11 (Plt.pick 12 (Plt.one 13 (Plt.one 14 (Plt.pick 15 (Plt.one 16 (Plt.pick 17 (Plt.nil))))))))))))))))))) (by kernel_rfl) (by kernel_rfl) ?_ ?_
      · exact ⟨x0, x1, x2⟩
      (repeat (refine wpPlt_pick (fun J hJ => ?_); simp only [List.getD_cons_zero, List.getD_cons_succ]; first | (go_simp; refine hJ _ ?_; clear hJ J) | (go_simp; refine ⟨_, (fun w1 => by (repeat (intro hh; try simp only [hh, Result.andThen])); rfl), ?_⟩; refine hJ _ ?_; clear hJ J)))
      refine wpPlt_one (fun J hJ => ?_)
      simp only [List.getD_cons_zero, List.getD_cons_succ]
      go_wp2_with fail
      refine onward_S2 (by first | exact ⟨x0, x1, x2⟩ | (refine ⟨?_, ?_, ?_⟩ <;> (go_simp; done))) (hJ _ _ ?_)
      clear hJ J
      refine wpPlt_one (fun J hJ => ?_)
      simp only [List.getD_cons_zero, List.getD_cons_succ]
      go_wp2_with fail
      refine (c_pickInt g _ _ _ [wrap64 (-e3), 1, -1, 999999] _ ((Cur.drew HC.out).alloc _) rfl (by simp) (by simp) (by exact row_new encI 1 lenI _ _ _) (ne_new HC.out.lt)).mono ?_
      rintro _ w6 ⟨_, rfl, ⟨m, hm, rfl⟩, hc2, hg2⟩
      have HM := Lib.hid (show I64 m by
        simp only [List.mem_cons, List.not_mem_nil, or_false] at hm
        rcases hm with rfl | rfl | rfl | rfl
        · exact i64_wrap _
        all_goals (unfold I64; omega))
      clear hm
      have c7 := ((Blk.drew HK7X.out).alloc _).grown hg2 (by simp; omega)
      have c3 := ((Blk.drew HK3X.out).alloc _).grown hg2 (by simp; omega)
      have cB := below_drawn ((Below.drew HBX.out).alloc HBX.out.size _) hg2 (by omega) (by have := HBX.out.size; simp; omega)
      have cR := (((Row.drew HRX.out)).alloc _).grown_ne HL1.out hg2 HNE.out
      clear k70 k71 k30 k31 z30 z31 l7 l3 n37 n73
      clear HC HBX HRX HK3X HK7X hc2 hg2 x0 x1 x2 hbl hbl'
      have HK7X := Lib.hid c7
      have HK3X := Lib.hid c3
      have HBX := Lib.hid cB
      have HRX := Lib.hid cR
      clear c7 c3 cB cR
      obtain ⟨b', off', eb, cx⟩ := HRX.out.at_ HXK.out
      cases eb
      have x0 := cx 0 _ rfl
      have x1 := cx 1 _ rfl
      have x2 := cx 2 _ rfl
      simp only [Nat.add_zero] at x0
      clear cx
      have hbl : b < w6.heap.size := World.block_lt_of_cell? _ _ x0
      have hbl' := Nat.le_of_lt hbl
      have k70 := HK7X.out.cell (i := 0) rfl
      have k71 := HK7X.out.cell (i := 1) rfl
      have k30 := HK3X.out.cell (i := 0) rfl
      have k31 := HK3X.out.cell (i := 1) rfl
      have z30 := HK3X.out.frozen 0
      have z31 := HK3X.out.frozen 1
      have l7 := HK7X.out.lt
      have l3 := HK3X.out.lt
      have n37 : ¬ w.heap.size = w3.heap.size := by omega
      have n73 : ¬ w3.heap.size = w.heap.size := by omega
      have hs6 := HBX.out.size
      go_wp2_with fail
      refine onward_S2 (by first | exact ⟨x0, x1, x2⟩ | (refine ⟨?_, ?_, ?_⟩ <;> (go_simp; done))) (hJ _ _ ?_)
      clear hJ J
      (repeat (refine wpPlt_pick (fun J hJ => ?_); simp only [List.getD_cons_zero, List.getD_cons_succ]; first | (go_simp; refine hJ _ ?_; clear hJ J) | (go_simp; refine ⟨_, (fun w1 => by (repeat (intro hh; try simp only [hh, Result.andThen])); rfl), ?_⟩; refine hJ _ ?_; clear hJ J)))
      refine wpPlt_one (fun J hJ => ?_)
      simp only [List.getD_cons_zero, List.getD_cons_succ]
      go_wp2_with fail
      refine onward_S2 (by first | exact ⟨x0, x1, x2⟩ | (refine ⟨?_, ?_, ?_⟩ <;> (go_simp; done))) (hJ _ _ ?_)
      clear hJ J
      (repeat (refine wpPlt_pick (fun J hJ => ?_); simp only [List.getD_cons_zero, List.getD_cons_succ]; first | (go_simp; refine hJ _ ?_; clear hJ J) | (go_simp; refine ⟨_, (fun w1 => by (repeat (intro hh; try simp only [hh, Result.andThen])); rfl), ?_⟩; refine hJ _ ?_; clear hJ J)))
      refine wpPlt_nil ?_
      go_wp2_with fail
      refine bodyPost_ret (v := .tuple #[.slice (some ⟨b, off, Option.none⟩) n1 c1, .agg #[.int .i64 e1, .int .i64 e2], .int .i64 m]) (by first | (simp [results, Try.results5, go_sem]; done) | (simp [results, Try.results5, go_sem, *]; done)) rfl ?_
      exact ⟨some ⟨b, off, Option.none⟩, _, c1, xs1, e1, e2, m, rfl, HL1.out, by omega, (by (repeat (first | with_reducible exact HRX.out | with_reducible refine row_set2 ?_ HL1.out HNK.out _)); done), HM.out, later_of_below (by (repeat (first | with_reducible exact HBX.out | with_reducible refine Below.setCell ?_ (by simp) _)))⟩
end Go.Proofs.Ythnemjaipdheoaa
