/-
  The law FnExactSendOn returns true for every input, and its arguments read afterwards as before. Conditions: none.
-/
import Derived.Test.YtljdinbpmakliaaAnchor
import Derived.Test.YtljdinbpmakliaaLOpen
import Derived.Test.YtljdinbpmakliaaLnkS
import Derived.Test.YtljdinbpmakliaaBlk
import Derived.Test.YtljdinbpmakliaaPlt
import Derived.Deep.DeepCutAuto
namespace Go.Proofs.Ytljdinbpmakliaa
open Go.ChangeShapes Go.WideShapes Go.ChangeAt Go.RowKit Go.Deep Go.Joins
set_option linter.unusedVariables false
theorem onward_K {S : World → Prop} {J : Act → World → Prop} {a : Act} {w : World} (hs : S w) (h : J a w) : onward S J .normal a w := ⟨rfl, hs, h⟩
theorem onward_anchor {S : World → Prop} {J : Act → World → Prop} {x : Exit} {a : Act} {w : World} {F : World → Prop} (hF : F w) (h : ∀ W, F W → onward S J x a W) : onward S J x a w := h w hF

set_option maxRecDepth 100000 in
set_option maxHeartbeats 6400000 in
theorem w_SendOn (cap0 cr0 bk0 st0 gt0 : Int) (A0 : Option Addr) (n0 c0 : Nat) (x0 : List (Int × (Int × Int) × Int × Int)) (hn0 : x0.length = n0) (hm0 : n0 ≤ 9223372036854775807) (x1 x2 x3 x4 x5 : Int) (hcr : I64 cr0) (hbk : I64 bk0) (hst : I64 st0) (hgt : I64 gt0) (w : World) (ha0 : Row encR 5 w A0 x0) : Calls Try.prog 6 #[.agg #[.int .i64 cap0, .slice A0 n0 c0, .int .i64 cr0, .int .i64 bk0, .int .i64 st0, .int .i64 gt0], .agg #[.int .i64 x1, .int .i64 x2, .int .i64 x3, .int .i64 x4, .int .i64 x5]] w (Gives (.bool true) w) := by
  have HA := Lib.hid ha0
  have HN := Lib.hid hn0
  clear ha0 hn0
  by_cases hle0 : n0 ≤ 1048576
  · obtain ⟨⟨cr', st', ys, z⟩, hz⟩ : ∃ q, sendOn cap0 cr0 bk0 st0 gt0 x0 (x1, (x2, x3), x4, x5) = q := ⟨_, rfl⟩
    have hyl : ys.length ≤ 1048580 := by
      have h1 := sendOn_len hz
      rw [HN.out] at h1
      omega
    have HZ := Lib.hid hz
    clear hz
    go_enter Try.func6, Try.ntmps6
    have HB := Lib.hid (below_self w)
    go_wp2_with fail
    refine calls_anchor (F := fun V => (∃ p : Later, V = later w p) ∧ Blk (w.heap.size) [.int .i64 cap0, .slice A0 n0 c0, .int .i64 cr0, .int .i64 bk0, .int .i64 st0, .int .i64 gt0] 31 V ∧ Blk (w.heap.size + 1) [.int .i64 x1, .int .i64 x2, .int .i64 x3, .int .i64 x4, .int .i64 x5] 45 V) ⟨later_of_below (by (repeat (first | with_reducible exact Below.refl _ _ | with_reducible refine Below.drew ?_ | with_reducible refine Below.alloc ?_ (by first | exact Nat.le_refl _ | (simp; done) | (simp; omega)) _))), (by (repeat (first | exact Blk.new _ _ [.int .i64 cap0, .slice A0 n0 c0, .int .i64 cr0, .int .i64 bk0, .int .i64 st0, .int .i64 gt0] _ (by first | rfl | (simp; done)) | with_reducible refine Blk.alloc ?_ _))), (by (repeat (first | exact Blk.new _ _ [.int .i64 x1, .int .i64 x2, .int .i64 x3, .int .i64 x4, .int .i64 x5] _ (by first | rfl | (simp; done)) | with_reducible refine Blk.alloc ?_ _)))⟩ (fun W1 hV => ?_)
    obtain ⟨⟨p, hp⟩, qHKa0, qHKr0⟩ := hV
    have qHB := Lib.hid (below_to hp HB.out)
    clear HB hp
    have HB := qHB
    clear qHB
    have hsW1 : w.heap.size ≤ W1.heap.size := HB.out.size
    have HKa := Lib.hid (qHKa0)
    have cHKa_0 := HKa.out.cell (i := 0) rfl
    have zHKa_0 := HKa.out.frozen 0
    have cHKa_1 := HKa.out.cell (i := 1) rfl
    have zHKa_1 := HKa.out.frozen 1
    have cHKa_2 := HKa.out.cell (i := 2) rfl
    have zHKa_2 := HKa.out.frozen 2
    have cHKa_3 := HKa.out.cell (i := 3) rfl
    have zHKa_3 := HKa.out.frozen 3
    have cHKa_4 := HKa.out.cell (i := 4) rfl
    have zHKa_4 := HKa.out.frozen 4
    have cHKa_5 := HKa.out.cell (i := 5) rfl
    have zHKa_5 := HKa.out.frozen 5
    have lHKa := HKa.out.lt
    have mHKa := Nat.le_of_lt lHKa
    clear qHKa0
    have HKr := Lib.hid (qHKr0)
    have cHKr_0 := HKr.out.cell (i := 0) rfl
    have zHKr_0 := HKr.out.frozen 0
    have cHKr_1 := HKr.out.cell (i := 1) rfl
    have zHKr_1 := HKr.out.frozen 1
    have cHKr_2 := HKr.out.cell (i := 2) rfl
    have zHKr_2 := HKr.out.frozen 2
    have cHKr_3 := HKr.out.cell (i := 3) rfl
    have zHKr_3 := HKr.out.frozen 3
    have cHKr_4 := HKr.out.cell (i := 4) rfl
    have zHKr_4 := HKr.out.frozen 4
    have lHKr := HKr.out.lt
    have mHKr := Nat.le_of_lt lHKr
    clear qHKr0
    refine (c_szLink_ok cap0 cr0 bk0 st0 gt0 _ _ _ _ _ (by omega) (by omega)).mono ?_
    rintro _ W2 ⟨rfl, p2, hp2⟩
    have qHB := Lib.hid (below_to hp2 HB.out)
    have qHKa := Lib.hid (Blk.to hp2 HKa.out)
    have qHKr := Lib.hid (Blk.to hp2 HKr.out)
    clear HB cHKa_0 zHKa_0 cHKa_1 zHKa_1 cHKa_2 zHKa_2 cHKa_3 zHKa_3 cHKa_4 zHKa_4 cHKa_5 zHKa_5 lHKa mHKa HKa cHKr_0 zHKr_0 cHKr_1 zHKr_1 cHKr_2 zHKr_2 cHKr_3 zHKr_3 cHKr_4 zHKr_4 lHKr mHKr HKr hp2
    have HB := qHB
    clear qHB
    have HKa := qHKa
    clear qHKa
    have cHKa_0 := HKa.out.cell (i := 0) rfl
    have zHKa_0 := HKa.out.frozen 0
    have cHKa_1 := HKa.out.cell (i := 1) rfl
    have zHKa_1 := HKa.out.frozen 1
    have cHKa_2 := HKa.out.cell (i := 2) rfl
    have zHKa_2 := HKa.out.frozen 2
    have cHKa_3 := HKa.out.cell (i := 3) rfl
    have zHKa_3 := HKa.out.frozen 3
    have cHKa_4 := HKa.out.cell (i := 4) rfl
    have zHKa_4 := HKa.out.frozen 4
    have cHKa_5 := HKa.out.cell (i := 5) rfl
    have zHKa_5 := HKa.out.frozen 5
    have lHKa := HKa.out.lt
    have mHKa := Nat.le_of_lt lHKa
    have HKr := qHKr
    clear qHKr
    have cHKr_0 := HKr.out.cell (i := 0) rfl
    have zHKr_0 := HKr.out.frozen 0
    have cHKr_1 := HKr.out.cell (i := 1) rfl
    have zHKr_1 := HKr.out.frozen 1
    have cHKr_2 := HKr.out.cell (i := 2) rfl
    have zHKr_2 := HKr.out.frozen 2
    have cHKr_3 := HKr.out.cell (i := 3) rfl
    have zHKr_3 := HKr.out.frozen 3
    have cHKr_4 := HKr.out.cell (i := 4) rfl
    have zHKr_4 := HKr.out.frozen 4
    have lHKr := HKr.out.lt
    have mHKr := Nat.le_of_lt lHKr
    have hsW2 : w.heap.size ≤ W2.heap.size := HB.out.size
    go_upto_region 5 with fail
    refine wp_anchor (F := fun V => ∃ p, V = later W2 p) (later_of_below (by (repeat (first | with_reducible exact Below.refl _ _ | with_reducible assumption | with_reducible refine Below.drew ?_ | with_reducible refine below_drewN ?_ _ | with_reducible exact HQ.out | with_reducible exact HBW.out | with_reducible refine below_ext ?_ _ _ | with_reducible refine below_then_later ?_ (by first | with_reducible exact Nat.le_refl _ | with_reducible exact HBW.out.size | with_reducible exact HQ.out.size | omega | (simp; done) | (simp; omega) | (simp [later_size]; done) | (simp [later_size]; omega)) _ | with_reducible refine Below.setCell ?_ (by first | with_reducible exact Nat.le_refl _ | with_reducible exact HBW.out.size | with_reducible exact HQ.out.size | omega | (simp; done) | (simp; omega) | (simp [later_size]; done) | (simp [later_size]; omega)) _ | with_reducible refine Below.alloc ?_ (by first | with_reducible exact Nat.le_refl _ | with_reducible exact HBW.out.size | with_reducible exact HQ.out.size | omega | (simp; done) | (simp; omega) | (simp [later_size]; done) | (simp [later_size]; omega)) _)))) (fun W3 hV => ?_)
    obtain ⟨p, hp⟩ := hV
    have qHB := Lib.hid (below_to hp HB.out)
    have qHKa := Lib.hid (Blk.to hp HKa.out)
    have qHKr := Lib.hid (Blk.to hp HKr.out)
    clear HB cHKa_0 zHKa_0 cHKa_1 zHKa_1 cHKa_2 zHKa_2 cHKa_3 zHKa_3 cHKa_4 zHKa_4 cHKa_5 zHKa_5 lHKa mHKa HKa cHKr_0 zHKr_0 cHKr_1 zHKr_1 cHKr_2 zHKr_2 cHKr_3 zHKr_3 cHKr_4 zHKr_4 lHKr mHKr HKr hp
    have HB := qHB
    clear qHB
    have HKa := qHKa
    clear qHKa
    have cHKa_0 := HKa.out.cell (i := 0) rfl
    have zHKa_0 := HKa.out.frozen 0
    have cHKa_1 := HKa.out.cell (i := 1) rfl
    have zHKa_1 := HKa.out.frozen 1
    have cHKa_2 := HKa.out.cell (i := 2) rfl
    have zHKa_2 := HKa.out.frozen 2
    have cHKa_3 := HKa.out.cell (i := 3) rfl
    have zHKa_3 := HKa.out.frozen 3
    have cHKa_4 := HKa.out.cell (i := 4) rfl
    have zHKa_4 := HKa.out.frozen 4
    have cHKa_5 := HKa.out.cell (i := 5) rfl
    have zHKa_5 := HKa.out.frozen 5
    have lHKa := HKa.out.lt
    have mHKa := Nat.le_of_lt lHKa
    have HKr := qHKr
    clear qHKr
    have cHKr_0 := HKr.out.cell (i := 0) rfl
    have zHKr_0 := HKr.out.frozen 0
    have cHKr_1 := HKr.out.cell (i := 1) rfl
    have zHKr_1 := HKr.out.frozen 1
    have cHKr_2 := HKr.out.cell (i := 2) rfl
    have zHKr_2 := HKr.out.frozen 2
    have cHKr_3 := HKr.out.cell (i := 3) rfl
    have zHKr_3 := HKr.out.frozen 3
    have cHKr_4 := HKr.out.cell (i := 4) rfl
    have zHKr_4 := HKr.out.frozen 4
    have lHKr := HKr.out.lt
    have mHKr := Nat.le_of_lt lHKr
    have hsW3 : w.heap.size ≤ W3.heap.size := HB.out.size
    go_cut [6, 7] (fun sa sb wx => ∃ (g : Nat) (A : Option Addr) (n c : Nat) (p : Later), sa = .pointer (some ⟨g, 0, Option.none⟩) ∧ sb = .bool z ∧ ys.length = n ∧ n ≤ 9223372036854775807 ∧ W3.heap.size ≤ g ∧ some g ≠ ob A n ∧ Own encR 5 W3.heap.size wx A ys ∧ Blk g [.int .i64 cap0, .slice A n c, .int .i64 cr', .int .i64 bk0, .int .i64 st', .int .i64 gt0] 35 wx ∧ wx = later W3 p)
    case first =>
      with_reducible refine wp_region_plt (fun V => V.cell? ⟨w.heap.size, 0, Option.none⟩ = some (.int .i64 cap0) ∧ V.cell? ⟨w.heap.size, 1, Option.none⟩ = some (.slice A0 n0 c0) ∧ V.cell? ⟨w.heap.size, 2, Option.none⟩ = some (.int .i64 cr0) ∧ V.cell? ⟨w.heap.size, 3, Option.none⟩ = some (.int .i64 bk0) ∧ V.cell? ⟨w.heap.size, 4, Option.none⟩ = some (.int .i64 st0) ∧ V.cell? ⟨w.heap.size, 5, Option.none⟩ = some (.int .i64 gt0) ∧ V.cell? ⟨w.heap.size + 1, 0, Option.none⟩ = some (.int .i64 x1) ∧ V.cell? ⟨w.heap.size + 1, 1, Option.none⟩ = some (.int .i64 x2) ∧ V.cell? ⟨w.heap.size + 1, 2, Option.none⟩ = some (.int .i64 x3) ∧ V.cell? ⟨w.heap.size + 1, 3, Option.none⟩ = some (.int .i64 x4) ∧ V.cell? ⟨w.heap.size + 1, 4, Option.none⟩ = some (.int .i64 x5)) (Plt.pick 0 (Plt.pick 2 (Plt.two 1 (Plt.two 3 (Plt.two 4 (Plt.pick 5 (Plt.pick 6 (Plt.pick 7 (Plt.one 8 (Plt.one 9 (Plt.pick 10 (Plt.nil))))))) 8 (Plt.one 4 (Plt.pick 5 (Plt.pick 6 (Plt.pick 7 (Plt.one 9 (Plt.pick 10 (Plt.nil)))))))) 8 (Plt.one 3 (Plt.one 4 (Plt.pick 5 (Plt.pick 6 (Plt.pick 7 (Plt.one 9 (Plt.pick 10 (Plt.nil))))))))) 8 (Plt.one 1 (Plt.one 3 (Plt.one 4 (Plt.pick 5 (Plt.pick 6 (Plt.pick 7 (Plt.one 9 (Plt.pick 10 (Plt.nil)))))))))))) (by kernel_rfl) (by kernel_rfl) ?_ ?_
      · exact ⟨cHKa_0, cHKa_1, cHKa_2, cHKa_3, cHKa_4, cHKa_5, cHKr_0, cHKr_1, cHKr_2, cHKr_3, cHKr_4⟩
      have v_HKa := lHKa
      have v_HKr := lHKr
      have HQ := Lib.hid (below_self W3)
      refine plt_anchor (F := fun V => ∃ p, V = later W3 p) (later_of_below (by (repeat (first | with_reducible exact Below.refl _ _ | with_reducible assumption | with_reducible refine Below.drew ?_ | with_reducible refine below_drewN ?_ _ | with_reducible exact HQ.out | with_reducible exact HBW.out | with_reducible refine below_ext ?_ _ _ | with_reducible refine below_then_later ?_ (by first | with_reducible exact Nat.le_refl _ | with_reducible exact HBW.out.size | with_reducible exact HQ.out.size | omega | (simp; done) | (simp; omega) | (simp [later_size]; done) | (simp [later_size]; omega)) _ | with_reducible refine Below.setCell ?_ (by first | with_reducible exact Nat.le_refl _ | with_reducible exact HBW.out.size | with_reducible exact HQ.out.size | omega | (simp; done) | (simp; omega) | (simp [later_size]; done) | (simp [later_size]; omega)) _ | with_reducible refine Below.alloc ?_ (by first | with_reducible exact Nat.le_refl _ | with_reducible exact HBW.out.size | with_reducible exact HQ.out.size | omega | (simp; done) | (simp; omega) | (simp [later_size]; done) | (simp [later_size]; omega)) _)))) (fun W4 hV => ?_)
      obtain ⟨p, hp⟩ := hV
      have qHB := Lib.hid (below_to hp HB.out)
      have qHKa := Lib.hid (Blk.to hp HKa.out)
      have qHKr := Lib.hid (Blk.to hp HKr.out)
      have qHQ := Lib.hid (below_to hp HQ.out)
      clear HB cHKa_0 zHKa_0 cHKa_1 zHKa_1 cHKa_2 zHKa_2 cHKa_3 zHKa_3 cHKa_4 zHKa_4 cHKa_5 zHKa_5 lHKa mHKa HKa cHKr_0 zHKr_0 cHKr_1 zHKr_1 cHKr_2 zHKr_2 cHKr_3 zHKr_3 cHKr_4 zHKr_4 lHKr mHKr HKr HQ hp
      have HB := qHB
      clear qHB
      have HKa := qHKa
      clear qHKa
      have cHKa_0 := HKa.out.cell (i := 0) rfl
      have zHKa_0 := HKa.out.frozen 0
      have cHKa_1 := HKa.out.cell (i := 1) rfl
      have zHKa_1 := HKa.out.frozen 1
      have cHKa_2 := HKa.out.cell (i := 2) rfl
      have zHKa_2 := HKa.out.frozen 2
      have cHKa_3 := HKa.out.cell (i := 3) rfl
      have zHKa_3 := HKa.out.frozen 3
      have cHKa_4 := HKa.out.cell (i := 4) rfl
      have zHKa_4 := HKa.out.frozen 4
      have cHKa_5 := HKa.out.cell (i := 5) rfl
      have zHKa_5 := HKa.out.frozen 5
      have lHKa := HKa.out.lt
      have mHKa := Nat.le_of_lt lHKa
      have HKr := qHKr
      clear qHKr
      have cHKr_0 := HKr.out.cell (i := 0) rfl
      have zHKr_0 := HKr.out.frozen 0
      have cHKr_1 := HKr.out.cell (i := 1) rfl
      have zHKr_1 := HKr.out.frozen 1
      have cHKr_2 := HKr.out.cell (i := 2) rfl
      have zHKr_2 := HKr.out.frozen 2
      have cHKr_3 := HKr.out.cell (i := 3) rfl
      have zHKr_3 := HKr.out.frozen 3
      have cHKr_4 := HKr.out.cell (i := 4) rfl
      have zHKr_4 := HKr.out.frozen 4
      have lHKr := HKr.out.lt
      have mHKr := Nat.le_of_lt lHKr
      have HQ := qHQ
      clear qHQ
      have hsW4 : w.heap.size ≤ W4.heap.size := HB.out.size
      (repeat (refine wpPlt_pick (fun J hJ => ?_); simp only [List.getD_cons_zero, List.getD_cons_succ]; first | (go_simp; refine hJ _ ?_; clear hJ J) | (go_simp; refine ⟨_, (fun w1 => by (repeat (intro hh; try simp only [hh, Result.andThen])); rfl), ?_⟩; refine hJ _ ?_; clear hJ J)))
      refine wpPlt_two (fun J hJ => ?_) (fun J hJ => ?_)
      · simp only [List.getD_cons_zero, List.getD_cons_succ]
        go_wp2_with fail
        have tHKa_s := lHKa
        have tHKr_s := lHKr
        have s_s : w.heap.size ≤ W4.heap.size := HB.out.size
        have u_s : _ ≤ W4.heap.size := HQ.out.size
        refine (c_toLink cap0 cr0 bk0 st0 gt0 A0 n0 _ x0 _ HN.out hle0 (HA.out.below HB.out)).mono ?_
        rintro _ W5 ⟨As, ns, cs, rfl, hls, hcs, hms, hOs, p5, hp5⟩
        have qHB := Lib.hid (below_to hp5 HB.out)
        have qHKa := Lib.hid (Blk.to hp5 HKa.out)
        have qHKr := Lib.hid (Blk.to hp5 HKr.out)
        have qHQ := Lib.hid (below_to hp5 HQ.out)
        clear HB cHKa_0 zHKa_0 cHKa_1 zHKa_1 cHKa_2 zHKa_2 cHKa_3 zHKa_3 cHKa_4 zHKa_4 cHKa_5 zHKa_5 lHKa mHKa HKa cHKr_0 zHKr_0 cHKr_1 zHKr_1 cHKr_2 zHKr_2 cHKr_3 zHKr_3 cHKr_4 zHKr_4 lHKr mHKr HKr HQ hp5
        have HB := qHB
        clear qHB
        have HKa := qHKa
        clear qHKa
        have cHKa_0 := HKa.out.cell (i := 0) rfl
        have zHKa_0 := HKa.out.frozen 0
        have cHKa_1 := HKa.out.cell (i := 1) rfl
        have zHKa_1 := HKa.out.frozen 1
        have cHKa_2 := HKa.out.cell (i := 2) rfl
        have zHKa_2 := HKa.out.frozen 2
        have cHKa_3 := HKa.out.cell (i := 3) rfl
        have zHKa_3 := HKa.out.frozen 3
        have cHKa_4 := HKa.out.cell (i := 4) rfl
        have zHKa_4 := HKa.out.frozen 4
        have cHKa_5 := HKa.out.cell (i := 5) rfl
        have zHKa_5 := HKa.out.frozen 5
        have lHKa := HKa.out.lt
        have mHKa := Nat.le_of_lt lHKa
        have HKr := qHKr
        clear qHKr
        have cHKr_0 := HKr.out.cell (i := 0) rfl
        have zHKr_0 := HKr.out.frozen 0
        have cHKr_1 := HKr.out.cell (i := 1) rfl
        have zHKr_1 := HKr.out.frozen 1
        have cHKr_2 := HKr.out.cell (i := 2) rfl
        have zHKr_2 := HKr.out.frozen 2
        have cHKr_3 := HKr.out.cell (i := 3) rfl
        have zHKr_3 := HKr.out.frozen 3
        have cHKr_4 := HKr.out.cell (i := 4) rfl
        have zHKr_4 := HKr.out.frozen 4
        have lHKr := HKr.out.lt
        have mHKr := Nat.le_of_lt lHKr
        have HQ := qHQ
        clear qHQ
        have hsW5 : w.heap.size ≤ W5.heap.size := HB.out.size
        have HOs := Lib.hid hOs
        have HLs := Lib.hid hls
        clear hOs hls
        unfold maxLen at hms
        have hbs : ns ≤ 1048576 := by rw [← HLs.out, HN.out]; exact hle0
        go_wp2_with fail
        refine onward_K ⟨cHKa_0, cHKa_1, cHKa_2, cHKa_3, cHKa_4, cHKa_5, cHKr_0, cHKr_1, cHKr_2, cHKr_3, cHKr_4⟩ (hJ _ _ ?_)
        clear hJ J
        refine wpPlt_two (fun J hJ => ?_) (fun J hJ => ?_)
        · simp only [List.getD_cons_zero, List.getD_cons_succ]
          go_wp2_with fail
          refine (c_toRecord _ _ _ _ _ _).mono ?_
          rintro _ W6 ⟨rfl, p6, hp6⟩
          have qHB := Lib.hid (below_to hp6 HB.out)
          have qHKa := Lib.hid (Blk.to hp6 HKa.out)
          have qHKr := Lib.hid (Blk.to hp6 HKr.out)
          have qHQ := Lib.hid (below_to hp6 HQ.out)
          have qHOs := Lib.hid (own_to hp6 HOs.out)
          clear HB cHKa_0 zHKa_0 cHKa_1 zHKa_1 cHKa_2 zHKa_2 cHKa_3 zHKa_3 cHKa_4 zHKa_4 cHKa_5 zHKa_5 lHKa mHKa HKa cHKr_0 zHKr_0 cHKr_1 zHKr_1 cHKr_2 zHKr_2 cHKr_3 zHKr_3 cHKr_4 zHKr_4 lHKr mHKr HKr HQ HOs hp6
          have HB := qHB
          clear qHB
          have HKa := qHKa
          clear qHKa
          have cHKa_0 := HKa.out.cell (i := 0) rfl
          have zHKa_0 := HKa.out.frozen 0
          have cHKa_1 := HKa.out.cell (i := 1) rfl
          have zHKa_1 := HKa.out.frozen 1
          have cHKa_2 := HKa.out.cell (i := 2) rfl
          have zHKa_2 := HKa.out.frozen 2
          have cHKa_3 := HKa.out.cell (i := 3) rfl
          have zHKa_3 := HKa.out.frozen 3
          have cHKa_4 := HKa.out.cell (i := 4) rfl
          have zHKa_4 := HKa.out.frozen 4
          have cHKa_5 := HKa.out.cell (i := 5) rfl
          have zHKa_5 := HKa.out.frozen 5
          have lHKa := HKa.out.lt
          have mHKa := Nat.le_of_lt lHKa
          have HKr := qHKr
          clear qHKr
          have cHKr_0 := HKr.out.cell (i := 0) rfl
          have zHKr_0 := HKr.out.frozen 0
          have cHKr_1 := HKr.out.cell (i := 1) rfl
          have zHKr_1 := HKr.out.frozen 1
          have cHKr_2 := HKr.out.cell (i := 2) rfl
          have zHKr_2 := HKr.out.frozen 2
          have cHKr_3 := HKr.out.cell (i := 3) rfl
          have zHKr_3 := HKr.out.frozen 3
          have cHKr_4 := HKr.out.cell (i := 4) rfl
          have zHKr_4 := HKr.out.frozen 4
          have lHKr := HKr.out.lt
          have mHKr := Nat.le_of_lt lHKr
          have HQ := qHQ
          clear qHQ
          have HOs := qHOs
          clear qHOs
          have hsW6 : w.heap.size ≤ W6.heap.size := HB.out.size
          go_wp2_with fail
          refine onward_K ⟨cHKa_0, cHKa_1, cHKa_2, cHKa_3, cHKa_4, cHKa_5, cHKr_0, cHKr_1, cHKr_2, cHKr_3, cHKr_4⟩ (hJ _ _ ?_)
          clear hJ J
          refine wpPlt_two (fun J hJ => ?_) (fun J hJ => ?_)
          · simp only [List.getD_cons_zero, List.getD_cons_succ]
            go_wp2_with fail
            have tHKa_w := lHKa
            have tHKr_w := lHKr
            have Hts_w := Lib.hid (Lt.of_row lenR (by decide) HOs.out.row HLs.out)
            have s_w : w.heap.size ≤ W6.heap.size := HB.out.size
            have u_w : _ ≤ W6.heap.size := HQ.out.size
            refine (c_sSendOn _ cr0 bk0 _ _ _ ns _ x0 x1 x2 x3 x4 x5 _ cr' st' ys z HLs.out (by omega) hcr hbk hst hgt (HOs.out).row HZ.out).mono ?_
            rintro _ W7 ⟨Aw, nw, cw, rfl, hlw, hcw, hmw, hOw, p7, hp7⟩
            have qHB := Lib.hid (below_to hp7 HB.out)
            have qHKa := Lib.hid (Blk.to hp7 HKa.out)
            have qHKr := Lib.hid (Blk.to hp7 HKr.out)
            have qHQ := Lib.hid (below_to hp7 HQ.out)
            have qHOs := Lib.hid (own_to hp7 HOs.out)
            clear HB cHKa_0 zHKa_0 cHKa_1 zHKa_1 cHKa_2 zHKa_2 cHKa_3 zHKa_3 cHKa_4 zHKa_4 cHKa_5 zHKa_5 lHKa mHKa HKa cHKr_0 zHKr_0 cHKr_1 zHKr_1 cHKr_2 zHKr_2 cHKr_3 zHKr_3 cHKr_4 zHKr_4 lHKr mHKr HKr HQ HOs hp7
            have HB := qHB
            clear qHB
            have HKa := qHKa
            clear qHKa
            have cHKa_0 := HKa.out.cell (i := 0) rfl
            have zHKa_0 := HKa.out.frozen 0
            have cHKa_1 := HKa.out.cell (i := 1) rfl
            have zHKa_1 := HKa.out.frozen 1
            have cHKa_2 := HKa.out.cell (i := 2) rfl
            have zHKa_2 := HKa.out.frozen 2
            have cHKa_3 := HKa.out.cell (i := 3) rfl
            have zHKa_3 := HKa.out.frozen 3
            have cHKa_4 := HKa.out.cell (i := 4) rfl
            have zHKa_4 := HKa.out.frozen 4
            have cHKa_5 := HKa.out.cell (i := 5) rfl
            have zHKa_5 := HKa.out.frozen 5
            have lHKa := HKa.out.lt
            have mHKa := Nat.le_of_lt lHKa
            have HKr := qHKr
            clear qHKr
            have cHKr_0 := HKr.out.cell (i := 0) rfl
            have zHKr_0 := HKr.out.frozen 0
            have cHKr_1 := HKr.out.cell (i := 1) rfl
            have zHKr_1 := HKr.out.frozen 1
            have cHKr_2 := HKr.out.cell (i := 2) rfl
            have zHKr_2 := HKr.out.frozen 2
            have cHKr_3 := HKr.out.cell (i := 3) rfl
            have zHKr_3 := HKr.out.frozen 3
            have cHKr_4 := HKr.out.cell (i := 4) rfl
            have zHKr_4 := HKr.out.frozen 4
            have lHKr := HKr.out.lt
            have mHKr := Nat.le_of_lt lHKr
            have HQ := qHQ
            clear qHQ
            have HOs := qHOs
            clear qHOs
            have hsW7 : w.heap.size ≤ W7.heap.size := HB.out.size
            have HOw := Lib.hid hOw
            have HLw := Lib.hid hlw
            clear hOw hlw
            unfold maxLen at hmw
            have hbw : nw ≤ 1048580 := by rw [← HLw.out]; exact hyl
            have hmw' : nw ≤ 9223372036854775807 := by omega
            go_wp2_with fail
            refine onward_K ⟨cHKa_0, cHKa_1, cHKa_2, cHKa_3, cHKa_4, cHKa_5, cHKr_0, cHKr_1, cHKr_2, cHKr_3, cHKr_4⟩ (hJ _ _ ?_)
            clear hJ J
            (repeat (refine wpPlt_pick (fun J hJ => ?_); simp only [List.getD_cons_zero, List.getD_cons_succ]; first | (go_simp; refine hJ _ ?_; clear hJ J) | (go_simp; refine ⟨_, (fun w1 => by (repeat (intro hh; try simp only [hh, Result.andThen])); rfl), ?_⟩; refine hJ _ ?_; clear hJ J)))
            refine wpPlt_one (fun J hJ => ?_)
            simp only [List.getD_cons_zero, List.getD_cons_succ]
            obtain ⟨gx, hgx⟩ : ∃ g, W7.heap.size = g := ⟨_, rfl⟩
            have hgl : W3.heap.size ≤ gx := by rw [← hgx]; exact HQ.out.size
            have hne : some gx ≠ ob Aw nw := fun e => by have := Lt.of_row lenR (by decide) HOw.out.row HLw.out _ e; omega
            go_wp2_with fail
            refine onward_K ⟨(HKa.out.alloc _).cell (i := 0) rfl, (HKa.out.alloc _).cell (i := 1) rfl, (HKa.out.alloc _).cell (i := 2) rfl, (HKa.out.alloc _).cell (i := 3) rfl, (HKa.out.alloc _).cell (i := 4) rfl, (HKa.out.alloc _).cell (i := 5) rfl, (HKr.out.alloc _).cell (i := 0) rfl, (HKr.out.alloc _).cell (i := 1) rfl, (HKr.out.alloc _).cell (i := 2) rfl, (HKr.out.alloc _).cell (i := 3) rfl, (HKr.out.alloc _).cell (i := 4) rfl⟩ (hJ _ _ ?_)
            clear hJ J
            refine plt_anchor (F := fun V => (∃ p : Later, V = later W7 p) ∧ Blk gx [.int .i64 0, .slice Option.none 0 0, .int .i64 0, .int .i64 0, .int .i64 0, .int .i64 0] 35 V) ⟨later_of_below ((Below.refl _ _).alloc (Nat.le_refl _) _), Blk.new _ _ [.int .i64 0, .slice Option.none 0 0, .int .i64 0, .int .i64 0, .int .i64 0, .int .i64 0] _ hgx.symm⟩ (fun W8 hV => ?_)
            obtain ⟨⟨p, hp⟩, qX⟩ := hV
            have qHB := Lib.hid (below_to hp HB.out)
            have qHKa := Lib.hid (Blk.to hp HKa.out)
            have qHKr := Lib.hid (Blk.to hp HKr.out)
            have qHQ := Lib.hid (below_to hp HQ.out)
            have qHOs := Lib.hid (own_to hp HOs.out)
            have qHOw := Lib.hid (own_to hp HOw.out)
            clear HB cHKa_0 zHKa_0 cHKa_1 zHKa_1 cHKa_2 zHKa_2 cHKa_3 zHKa_3 cHKa_4 zHKa_4 cHKa_5 zHKa_5 lHKa mHKa HKa cHKr_0 zHKr_0 cHKr_1 zHKr_1 cHKr_2 zHKr_2 cHKr_3 zHKr_3 cHKr_4 zHKr_4 lHKr mHKr HKr HQ HOs HOw hp
            have HB := qHB
            clear qHB
            have HKa := qHKa
            clear qHKa
            have cHKa_0 := HKa.out.cell (i := 0) rfl
            have zHKa_0 := HKa.out.frozen 0
            have cHKa_1 := HKa.out.cell (i := 1) rfl
            have zHKa_1 := HKa.out.frozen 1
            have cHKa_2 := HKa.out.cell (i := 2) rfl
            have zHKa_2 := HKa.out.frozen 2
            have cHKa_3 := HKa.out.cell (i := 3) rfl
            have zHKa_3 := HKa.out.frozen 3
            have cHKa_4 := HKa.out.cell (i := 4) rfl
            have zHKa_4 := HKa.out.frozen 4
            have cHKa_5 := HKa.out.cell (i := 5) rfl
            have zHKa_5 := HKa.out.frozen 5
            have lHKa := HKa.out.lt
            have mHKa := Nat.le_of_lt lHKa
            have HKr := qHKr
            clear qHKr
            have cHKr_0 := HKr.out.cell (i := 0) rfl
            have zHKr_0 := HKr.out.frozen 0
            have cHKr_1 := HKr.out.cell (i := 1) rfl
            have zHKr_1 := HKr.out.frozen 1
            have cHKr_2 := HKr.out.cell (i := 2) rfl
            have zHKr_2 := HKr.out.frozen 2
            have cHKr_3 := HKr.out.cell (i := 3) rfl
            have zHKr_3 := HKr.out.frozen 3
            have cHKr_4 := HKr.out.cell (i := 4) rfl
            have zHKr_4 := HKr.out.frozen 4
            have lHKr := HKr.out.lt
            have mHKr := Nat.le_of_lt lHKr
            have HQ := qHQ
            clear qHQ
            have HOs := qHOs
            clear qHOs
            have HOw := qHOw
            clear qHOw
            have hsW8 : w.heap.size ≤ W8.heap.size := HB.out.size
            clear hgx
            have HX := Lib.hid (qX)
            have cHX_0 := HX.out.cell (i := 0) rfl
            have zHX_0 := HX.out.frozen 0
            have cHX_1 := HX.out.cell (i := 1) rfl
            have zHX_1 := HX.out.frozen 1
            have cHX_2 := HX.out.cell (i := 2) rfl
            have zHX_2 := HX.out.frozen 2
            have cHX_3 := HX.out.cell (i := 3) rfl
            have zHX_3 := HX.out.frozen 3
            have cHX_4 := HX.out.cell (i := 4) rfl
            have zHX_4 := HX.out.frozen 4
            have cHX_5 := HX.out.cell (i := 5) rfl
            have zHX_5 := HX.out.frozen 5
            have lHX := HX.out.lt
            have mHX := Nat.le_of_lt lHX
            clear qX
            refine wpPlt_one (fun J hJ => ?_)
            simp only [List.getD_cons_zero, List.getD_cons_succ]
            go_wp2_with fail
            refine onward_anchor (F := fun V => Below W3.heap.size W3 V ∧ Own encR 5 W3.heap.size V Aw ys ∧ Blk gx [.int .i64 cap0, .slice Aw nw cw, .int .i64 cr', .int .i64 bk0, .int .i64 st', .int .i64 gt0] 35 V ∧ Blk (w.heap.size) [.int .i64 cap0, .slice A0 n0 c0, .int .i64 cr0, .int .i64 bk0, .int .i64 st0, .int .i64 gt0] 31 V ∧ Blk (w.heap.size + 1) [.int .i64 x1, .int .i64 x2, .int .i64 x3, .int .i64 x4, .int .i64 x5] 45 V) ⟨(by (repeat (first | with_reducible exact HQ.out | with_reducible refine Below.setCell ?_ (by dsimp only; omega) _)); done), (by (repeat (first | with_reducible exact HOw.out.mono (by omega) | with_reducible refine Own.set ?_ HLw.out _ _ hne)); done), (((((((HX.out.set 0 _).set 1 _).set 2 _).set 3 _).set 4 _).set 5 _).conv rfl), (by (repeat (first | with_reducible exact HKa.out | with_reducible refine Blk.other ?_ (by dsimp only; omega) _)); done), (by (repeat (first | with_reducible exact HKr.out | with_reducible refine Blk.other ?_ (by dsimp only; omega) _)); done)⟩ (fun W9 hV => ?_)
            obtain ⟨q1, q2, q3, rHKa, rHKr⟩ := hV
            refine onward_K ⟨rHKa.cell (i := 0) rfl, rHKa.cell (i := 1) rfl, rHKa.cell (i := 2) rfl, rHKa.cell (i := 3) rfl, rHKa.cell (i := 4) rfl, rHKa.cell (i := 5) rfl, rHKr.cell (i := 0) rfl, rHKr.cell (i := 1) rfl, rHKr.cell (i := 2) rfl, rHKr.cell (i := 3) rfl, rHKr.cell (i := 4) rfl⟩ (hJ _ _ ?_)
            clear hJ J
            (repeat (refine wpPlt_pick (fun J hJ => ?_); simp only [List.getD_cons_zero, List.getD_cons_succ]; first | (go_simp; refine hJ _ ?_; clear hJ J) | (go_simp; refine ⟨_, (fun w1 => by (repeat (intro hh; try simp only [hh, Result.andThen])); rfl), ?_⟩; refine hJ _ ?_; clear hJ J)))
            refine wpPlt_nil ?_
            go_wp2_with fail
            go_meet
            obtain ⟨p, hp⟩ := later_of_below q1
            exact ⟨gx, Aw, nw, cw, p, rfl, rfl, HLw.out, hmw', hgl, hne, q2, q3, hp⟩
          · simp only [List.getD_cons_zero, List.getD_cons_succ]
            obtain ⟨gx, hgx⟩ : ∃ g, W6.heap.size = g := ⟨_, rfl⟩
            have hgl : W3.heap.size ≤ gx := by rw [← hgx]; exact HQ.out.size
            go_wp2_with fail
            refine onward_K ⟨(HKa.out.alloc _).cell (i := 0) rfl, (HKa.out.alloc _).cell (i := 1) rfl, (HKa.out.alloc _).cell (i := 2) rfl, (HKa.out.alloc _).cell (i := 3) rfl, (HKa.out.alloc _).cell (i := 4) rfl, (HKa.out.alloc _).cell (i := 5) rfl, (HKr.out.alloc _).cell (i := 0) rfl, (HKr.out.alloc _).cell (i := 1) rfl, (HKr.out.alloc _).cell (i := 2) rfl, (HKr.out.alloc _).cell (i := 3) rfl, (HKr.out.alloc _).cell (i := 4) rfl⟩ (hJ _ _ ?_)
            clear hJ J
            refine plt_anchor (F := fun V => (∃ p : Later, V = later W6 p) ∧ Blk gx [.int .i64 0, .slice Option.none 0 0, .int .i64 0, .int .i64 0, .int .i64 0, .int .i64 0] 35 V) ⟨later_of_below ((Below.refl _ _).alloc (Nat.le_refl _) _), Blk.new _ _ [.int .i64 0, .slice Option.none 0 0, .int .i64 0, .int .i64 0, .int .i64 0, .int .i64 0] _ hgx.symm⟩ (fun W7 hV => ?_)
            obtain ⟨⟨p, hp⟩, qX⟩ := hV
            have qHB := Lib.hid (below_to hp HB.out)
            have qHKa := Lib.hid (Blk.to hp HKa.out)
            have qHKr := Lib.hid (Blk.to hp HKr.out)
            have qHQ := Lib.hid (below_to hp HQ.out)
            have qHOs := Lib.hid (own_to hp HOs.out)
            clear HB cHKa_0 zHKa_0 cHKa_1 zHKa_1 cHKa_2 zHKa_2 cHKa_3 zHKa_3 cHKa_4 zHKa_4 cHKa_5 zHKa_5 lHKa mHKa HKa cHKr_0 zHKr_0 cHKr_1 zHKr_1 cHKr_2 zHKr_2 cHKr_3 zHKr_3 cHKr_4 zHKr_4 lHKr mHKr HKr HQ HOs hp
            have HB := qHB
            clear qHB
            have HKa := qHKa
            clear qHKa
            have cHKa_0 := HKa.out.cell (i := 0) rfl
            have zHKa_0 := HKa.out.frozen 0
            have cHKa_1 := HKa.out.cell (i := 1) rfl
            have zHKa_1 := HKa.out.frozen 1
            have cHKa_2 := HKa.out.cell (i := 2) rfl
            have zHKa_2 := HKa.out.frozen 2
            have cHKa_3 := HKa.out.cell (i := 3) rfl
            have zHKa_3 := HKa.out.frozen 3
            have cHKa_4 := HKa.out.cell (i := 4) rfl
            have zHKa_4 := HKa.out.frozen 4
            have cHKa_5 := HKa.out.cell (i := 5) rfl
            have zHKa_5 := HKa.out.frozen 5
            have lHKa := HKa.out.lt
            have mHKa := Nat.le_of_lt lHKa
            have HKr := qHKr
            clear qHKr
            have cHKr_0 := HKr.out.cell (i := 0) rfl
            have zHKr_0 := HKr.out.frozen 0
            have cHKr_1 := HKr.out.cell (i := 1) rfl
            have zHKr_1 := HKr.out.frozen 1
            have cHKr_2 := HKr.out.cell (i := 2) rfl
            have zHKr_2 := HKr.out.frozen 2
            have cHKr_3 := HKr.out.cell (i := 3) rfl
            have zHKr_3 := HKr.out.frozen 3
            have cHKr_4 := HKr.out.cell (i := 4) rfl
            have zHKr_4 := HKr.out.frozen 4
            have lHKr := HKr.out.lt
            have mHKr := Nat.le_of_lt lHKr
            have HQ := qHQ
            clear qHQ
            have HOs := qHOs
            clear qHOs
            have hsW7 : w.heap.size ≤ W7.heap.size := HB.out.size
            clear hgx
            have HX := Lib.hid (qX)
            have cHX_0 := HX.out.cell (i := 0) rfl
            have zHX_0 := HX.out.frozen 0
            have cHX_1 := HX.out.cell (i := 1) rfl
            have zHX_1 := HX.out.frozen 1
            have cHX_2 := HX.out.cell (i := 2) rfl
            have zHX_2 := HX.out.frozen 2
            have cHX_3 := HX.out.cell (i := 3) rfl
            have zHX_3 := HX.out.frozen 3
            have cHX_4 := HX.out.cell (i := 4) rfl
            have zHX_4 := HX.out.frozen 4
            have cHX_5 := HX.out.cell (i := 5) rfl
            have zHX_5 := HX.out.frozen 5
            have lHX := HX.out.lt
            have mHX := Nat.le_of_lt lHX
            clear qX
            refine wpPlt_one (fun J hJ => ?_)
            simp only [List.getD_cons_zero, List.getD_cons_succ]
            go_wp2_with fail
            have tHKa_w := lHKa
            have tHKr_w := lHKr
            have Hts_w := Lib.hid (Lt.of_row lenR (by decide) HOs.out.row HLs.out)
            have tHX_w := lHX
            have s_w : w.heap.size ≤ W7.heap.size := HB.out.size
            have u_w : _ ≤ W7.heap.size := HQ.out.size
            refine (c_sSendOn _ cr0 bk0 _ _ _ ns _ x0 x1 x2 x3 x4 x5 _ cr' st' ys z HLs.out (by omega) hcr hbk hst hgt (HOs.out).row HZ.out).mono ?_
            rintro _ W8 ⟨Aw, nw, cw, rfl, hlw, hcw, hmw, hOw, p8, hp8⟩
            have qHB := Lib.hid (below_to hp8 HB.out)
            have qHKa := Lib.hid (Blk.to hp8 HKa.out)
            have qHKr := Lib.hid (Blk.to hp8 HKr.out)
            have qHQ := Lib.hid (below_to hp8 HQ.out)
            have qHOs := Lib.hid (own_to hp8 HOs.out)
            have qHX := Lib.hid (Blk.to hp8 HX.out)
            clear HB cHKa_0 zHKa_0 cHKa_1 zHKa_1 cHKa_2 zHKa_2 cHKa_3 zHKa_3 cHKa_4 zHKa_4 cHKa_5 zHKa_5 lHKa mHKa HKa cHKr_0 zHKr_0 cHKr_1 zHKr_1 cHKr_2 zHKr_2 cHKr_3 zHKr_3 cHKr_4 zHKr_4 lHKr mHKr HKr HQ HOs cHX_0 zHX_0 cHX_1 zHX_1 cHX_2 zHX_2 cHX_3 zHX_3 cHX_4 zHX_4 cHX_5 zHX_5 lHX mHX HX hp8
            have HB := qHB
            clear qHB
            have HKa := qHKa
            clear qHKa
            have cHKa_0 := HKa.out.cell (i := 0) rfl
            have zHKa_0 := HKa.out.frozen 0
            have cHKa_1 := HKa.out.cell (i := 1) rfl
            have zHKa_1 := HKa.out.frozen 1
            have cHKa_2 := HKa.out.cell (i := 2) rfl
            have zHKa_2 := HKa.out.frozen 2
            have cHKa_3 := HKa.out.cell (i := 3) rfl
            have zHKa_3 := HKa.out.frozen 3
            have cHKa_4 := HKa.out.cell (i := 4) rfl
            have zHKa_4 := HKa.out.frozen 4
            have cHKa_5 := HKa.out.cell (i := 5) rfl
            have zHKa_5 := HKa.out.frozen 5
            have lHKa := HKa.out.lt
            have mHKa := Nat.le_of_lt lHKa
            have HKr := qHKr
            clear qHKr
            have cHKr_0 := HKr.out.cell (i := 0) rfl
            have zHKr_0 := HKr.out.frozen 0
            have cHKr_1 := HKr.out.cell (i := 1) rfl
            have zHKr_1 := HKr.out.frozen 1
            have cHKr_2 := HKr.out.cell (i := 2) rfl
            have zHKr_2 := HKr.out.frozen 2
            have cHKr_3 := HKr.out.cell (i := 3) rfl
            have zHKr_3 := HKr.out.frozen 3
            have cHKr_4 := HKr.out.cell (i := 4) rfl
            have zHKr_4 := HKr.out.frozen 4
            have lHKr := HKr.out.lt
            have mHKr := Nat.le_of_lt lHKr
            have HQ := qHQ
            clear qHQ
            have HOs := qHOs
            clear qHOs
            have HX := qHX
            clear qHX
            have cHX_0 := HX.out.cell (i := 0) rfl
            have zHX_0 := HX.out.frozen 0
            have cHX_1 := HX.out.cell (i := 1) rfl
            have zHX_1 := HX.out.frozen 1
            have cHX_2 := HX.out.cell (i := 2) rfl
            have zHX_2 := HX.out.frozen 2
            have cHX_3 := HX.out.cell (i := 3) rfl
            have zHX_3 := HX.out.frozen 3
            have cHX_4 := HX.out.cell (i := 4) rfl
            have zHX_4 := HX.out.frozen 4
            have cHX_5 := HX.out.cell (i := 5) rfl
            have zHX_5 := HX.out.frozen 5
            have lHX := HX.out.lt
            have mHX := Nat.le_of_lt lHX
            have hsW8 : w.heap.size ≤ W8.heap.size := HB.out.size
            have HOw := Lib.hid hOw
            have HLw := Lib.hid hlw
            clear hOw hlw
            unfold maxLen at hmw
            have hbw : nw ≤ 1048580 := by rw [← HLw.out]; exact hyl
            have hmw' : nw ≤ 9223372036854775807 := by omega
            go_wp2_with fail
            refine onward_K ⟨cHKa_0, cHKa_1, cHKa_2, cHKa_3, cHKa_4, cHKa_5, cHKr_0, cHKr_1, cHKr_2, cHKr_3, cHKr_4⟩ (hJ _ _ ?_)
            clear hJ J
            (repeat (refine wpPlt_pick (fun J hJ => ?_); simp only [List.getD_cons_zero, List.getD_cons_succ]; first | (go_simp; refine hJ _ ?_; clear hJ J) | (go_simp; refine ⟨_, (fun w1 => by (repeat (intro hh; try simp only [hh, Result.andThen])); rfl), ?_⟩; refine hJ _ ?_; clear hJ J)))
            refine wpPlt_one (fun J hJ => ?_)
            simp only [List.getD_cons_zero, List.getD_cons_succ]
            go_wp2_with fail
            have hne : some gx ≠ ob Aw nw := fun e => by have := HOw.out.low HLw.out e; omega
            refine onward_anchor (F := fun V => Below W3.heap.size W3 V ∧ Own encR 5 W3.heap.size V Aw ys ∧ Blk gx [.int .i64 cap0, .slice Aw nw cw, .int .i64 cr', .int .i64 bk0, .int .i64 st', .int .i64 gt0] 35 V ∧ Blk (w.heap.size) [.int .i64 cap0, .slice A0 n0 c0, .int .i64 cr0, .int .i64 bk0, .int .i64 st0, .int .i64 gt0] 31 V ∧ Blk (w.heap.size + 1) [.int .i64 x1, .int .i64 x2, .int .i64 x3, .int .i64 x4, .int .i64 x5] 45 V) ⟨(by (repeat (first | with_reducible exact HQ.out | with_reducible refine Below.setCell ?_ (by dsimp only; omega) _)); done), (by (repeat (first | with_reducible exact HOw.out.mono (by omega) | with_reducible refine Own.set ?_ HLw.out _ _ hne)); done), (((((((HX.out.set 0 _).set 1 _).set 2 _).set 3 _).set 4 _).set 5 _).conv rfl), (by (repeat (first | with_reducible exact HKa.out | with_reducible refine Blk.other ?_ (by dsimp only; omega) _)); done), (by (repeat (first | with_reducible exact HKr.out | with_reducible refine Blk.other ?_ (by dsimp only; omega) _)); done)⟩ (fun W9 hV => ?_)
            obtain ⟨q1, q2, q3, rHKa, rHKr⟩ := hV
            refine onward_K ⟨rHKa.cell (i := 0) rfl, rHKa.cell (i := 1) rfl, rHKa.cell (i := 2) rfl, rHKa.cell (i := 3) rfl, rHKa.cell (i := 4) rfl, rHKa.cell (i := 5) rfl, rHKr.cell (i := 0) rfl, rHKr.cell (i := 1) rfl, rHKr.cell (i := 2) rfl, rHKr.cell (i := 3) rfl, rHKr.cell (i := 4) rfl⟩ (hJ _ _ ?_)
            clear hJ J
            (repeat (refine wpPlt_pick (fun J hJ => ?_); simp only [List.getD_cons_zero, List.getD_cons_succ]; first | (go_simp; refine hJ _ ?_; clear hJ J) | (go_simp; refine ⟨_, (fun w1 => by (repeat (intro hh; try simp only [hh, Result.andThen])); rfl), ?_⟩; refine hJ _ ?_; clear hJ J)))
            refine wpPlt_nil ?_
            go_wp2_with fail
            go_meet
            obtain ⟨p, hp⟩ := later_of_below q1
            exact ⟨gx, Aw, nw, cw, p, rfl, rfl, HLw.out, hmw', hgl, hne, q2, q3, hp⟩
        · simp only [List.getD_cons_zero, List.getD_cons_succ]
          obtain ⟨gx, hgx⟩ : ∃ g, W5.heap.size = g := ⟨_, rfl⟩
          have hgl : W3.heap.size ≤ gx := by rw [← hgx]; exact HQ.out.size
          go_wp2_with fail
          refine onward_K ⟨(HKa.out.alloc _).cell (i := 0) rfl, (HKa.out.alloc _).cell (i := 1) rfl, (HKa.out.alloc _).cell (i := 2) rfl, (HKa.out.alloc _).cell (i := 3) rfl, (HKa.out.alloc _).cell (i := 4) rfl, (HKa.out.alloc _).cell (i := 5) rfl, (HKr.out.alloc _).cell (i := 0) rfl, (HKr.out.alloc _).cell (i := 1) rfl, (HKr.out.alloc _).cell (i := 2) rfl, (HKr.out.alloc _).cell (i := 3) rfl, (HKr.out.alloc _).cell (i := 4) rfl⟩ (hJ _ _ ?_)
          clear hJ J
          refine plt_anchor (F := fun V => (∃ p : Later, V = later W5 p) ∧ Blk gx [.int .i64 0, .slice Option.none 0 0, .int .i64 0, .int .i64 0, .int .i64 0, .int .i64 0] 35 V) ⟨later_of_below ((Below.refl _ _).alloc (Nat.le_refl _) _), Blk.new _ _ [.int .i64 0, .slice Option.none 0 0, .int .i64 0, .int .i64 0, .int .i64 0, .int .i64 0] _ hgx.symm⟩ (fun W6 hV => ?_)
          obtain ⟨⟨p, hp⟩, qX⟩ := hV
          have qHB := Lib.hid (below_to hp HB.out)
          have qHKa := Lib.hid (Blk.to hp HKa.out)
          have qHKr := Lib.hid (Blk.to hp HKr.out)
          have qHQ := Lib.hid (below_to hp HQ.out)
          have qHOs := Lib.hid (own_to hp HOs.out)
          clear HB cHKa_0 zHKa_0 cHKa_1 zHKa_1 cHKa_2 zHKa_2 cHKa_3 zHKa_3 cHKa_4 zHKa_4 cHKa_5 zHKa_5 lHKa mHKa HKa cHKr_0 zHKr_0 cHKr_1 zHKr_1 cHKr_2 zHKr_2 cHKr_3 zHKr_3 cHKr_4 zHKr_4 lHKr mHKr HKr HQ HOs hp
          have HB := qHB
          clear qHB
          have HKa := qHKa
          clear qHKa
          have cHKa_0 := HKa.out.cell (i := 0) rfl
          have zHKa_0 := HKa.out.frozen 0
          have cHKa_1 := HKa.out.cell (i := 1) rfl
          have zHKa_1 := HKa.out.frozen 1
          have cHKa_2 := HKa.out.cell (i := 2) rfl
          have zHKa_2 := HKa.out.frozen 2
          have cHKa_3 := HKa.out.cell (i := 3) rfl
          have zHKa_3 := HKa.out.frozen 3
          have cHKa_4 := HKa.out.cell (i := 4) rfl
          have zHKa_4 := HKa.out.frozen 4
          have cHKa_5 := HKa.out.cell (i := 5) rfl
          have zHKa_5 := HKa.out.frozen 5
          have lHKa := HKa.out.lt
          have mHKa := Nat.le_of_lt lHKa
          have HKr := qHKr
          clear qHKr
          have cHKr_0 := HKr.out.cell (i := 0) rfl
          have zHKr_0 := HKr.out.frozen 0
          have cHKr_1 := HKr.out.cell (i := 1) rfl
          have zHKr_1 := HKr.out.frozen 1
          have cHKr_2 := HKr.out.cell (i := 2) rfl
          have zHKr_2 := HKr.out.frozen 2
          have cHKr_3 := HKr.out.cell (i := 3) rfl
          have zHKr_3 := HKr.out.frozen 3
          have cHKr_4 := HKr.out.cell (i := 4) rfl
          have zHKr_4 := HKr.out.frozen 4
          have lHKr := HKr.out.lt
          have mHKr := Nat.le_of_lt lHKr
          have HQ := qHQ
          clear qHQ
          have HOs := qHOs
          clear qHOs
          have hsW6 : w.heap.size ≤ W6.heap.size := HB.out.size
          clear hgx
          have HX := Lib.hid (qX)
          have cHX_0 := HX.out.cell (i := 0) rfl
          have zHX_0 := HX.out.frozen 0
          have cHX_1 := HX.out.cell (i := 1) rfl
          have zHX_1 := HX.out.frozen 1
          have cHX_2 := HX.out.cell (i := 2) rfl
          have zHX_2 := HX.out.frozen 2
          have cHX_3 := HX.out.cell (i := 3) rfl
          have zHX_3 := HX.out.frozen 3
          have cHX_4 := HX.out.cell (i := 4) rfl
          have zHX_4 := HX.out.frozen 4
          have cHX_5 := HX.out.cell (i := 5) rfl
          have zHX_5 := HX.out.frozen 5
          have lHX := HX.out.lt
          have mHX := Nat.le_of_lt lHX
          clear qX
          refine wpPlt_one (fun J hJ => ?_)
          simp only [List.getD_cons_zero, List.getD_cons_succ]
          go_wp2_with fail
          refine (c_toRecord _ _ _ _ _ _).mono ?_
          rintro _ W7 ⟨rfl, p7, hp7⟩
          have qHB := Lib.hid (below_to hp7 HB.out)
          have qHKa := Lib.hid (Blk.to hp7 HKa.out)
          have qHKr := Lib.hid (Blk.to hp7 HKr.out)
          have qHQ := Lib.hid (below_to hp7 HQ.out)
          have qHOs := Lib.hid (own_to hp7 HOs.out)
          have qHX := Lib.hid (Blk.to hp7 HX.out)
          clear HB cHKa_0 zHKa_0 cHKa_1 zHKa_1 cHKa_2 zHKa_2 cHKa_3 zHKa_3 cHKa_4 zHKa_4 cHKa_5 zHKa_5 lHKa mHKa HKa cHKr_0 zHKr_0 cHKr_1 zHKr_1 cHKr_2 zHKr_2 cHKr_3 zHKr_3 cHKr_4 zHKr_4 lHKr mHKr HKr HQ HOs cHX_0 zHX_0 cHX_1 zHX_1 cHX_2 zHX_2 cHX_3 zHX_3 cHX_4 zHX_4 cHX_5 zHX_5 lHX mHX HX hp7
          have HB := qHB
          clear qHB
          have HKa := qHKa
          clear qHKa
          have cHKa_0 := HKa.out.cell (i := 0) rfl
          have zHKa_0 := HKa.out.frozen 0
          have cHKa_1 := HKa.out.cell (i := 1) rfl
          have zHKa_1 := HKa.out.frozen 1
          have cHKa_2 := HKa.out.cell (i := 2) rfl
          have zHKa_2 := HKa.out.frozen 2
          have cHKa_3 := HKa.out.cell (i := 3) rfl
          have zHKa_3 := HKa.out.frozen 3
          have cHKa_4 := HKa.out.cell (i := 4) rfl
          have zHKa_4 := HKa.out.frozen 4
          have cHKa_5 := HKa.out.cell (i := 5) rfl
          have zHKa_5 := HKa.out.frozen 5
          have lHKa := HKa.out.lt
          have mHKa := Nat.le_of_lt lHKa
          have HKr := qHKr
          clear qHKr
          have cHKr_0 := HKr.out.cell (i := 0) rfl
          have zHKr_0 := HKr.out.frozen 0
          have cHKr_1 := HKr.out.cell (i := 1) rfl
          have zHKr_1 := HKr.out.frozen 1
          have cHKr_2 := HKr.out.cell (i := 2) rfl
          have zHKr_2 := HKr.out.frozen 2
          have cHKr_3 := HKr.out.cell (i := 3) rfl
          have zHKr_3 := HKr.out.frozen 3
          have cHKr_4 := HKr.out.cell (i := 4) rfl
          have zHKr_4 := HKr.out.frozen 4
          have lHKr := HKr.out.lt
          have mHKr := Nat.le_of_lt lHKr
          have HQ := qHQ
          clear qHQ
          have HOs := qHOs
          clear qHOs
          have HX := qHX
          clear qHX
          have cHX_0 := HX.out.cell (i := 0) rfl
          have zHX_0 := HX.out.frozen 0
          have cHX_1 := HX.out.cell (i := 1) rfl
          have zHX_1 := HX.out.frozen 1
          have cHX_2 := HX.out.cell (i := 2) rfl
          have zHX_2 := HX.out.frozen 2
          have cHX_3 := HX.out.cell (i := 3) rfl
          have zHX_3 := HX.out.frozen 3
          have cHX_4 := HX.out.cell (i := 4) rfl
          have zHX_4 := HX.out.frozen 4
          have cHX_5 := HX.out.cell (i := 5) rfl
          have zHX_5 := HX.out.frozen 5
          have lHX := HX.out.lt
          have mHX := Nat.le_of_lt lHX
          have hsW7 : w.heap.size ≤ W7.heap.size := HB.out.size
          go_wp2_with fail
          refine onward_K ⟨cHKa_0, cHKa_1, cHKa_2, cHKa_3, cHKa_4, cHKa_5, cHKr_0, cHKr_1, cHKr_2, cHKr_3, cHKr_4⟩ (hJ _ _ ?_)
          clear hJ J
          refine wpPlt_one (fun J hJ => ?_)
          simp only [List.getD_cons_zero, List.getD_cons_succ]
          go_wp2_with fail
          have tHKa_w := lHKa
          have tHKr_w := lHKr
          have Hts_w := Lib.hid (Lt.of_row lenR (by decide) HOs.out.row HLs.out)
          have tHX_w := lHX
          have s_w : w.heap.size ≤ W7.heap.size := HB.out.size
          have u_w : _ ≤ W7.heap.size := HQ.out.size
          refine (c_sSendOn _ cr0 bk0 _ _ _ ns _ x0 x1 x2 x3 x4 x5 _ cr' st' ys z HLs.out (by omega) hcr hbk hst hgt (HOs.out).row HZ.out).mono ?_
          rintro _ W8 ⟨Aw, nw, cw, rfl, hlw, hcw, hmw, hOw, p8, hp8⟩
          have qHB := Lib.hid (below_to hp8 HB.out)
          have qHKa := Lib.hid (Blk.to hp8 HKa.out)
          have qHKr := Lib.hid (Blk.to hp8 HKr.out)
          have qHQ := Lib.hid (below_to hp8 HQ.out)
          have qHOs := Lib.hid (own_to hp8 HOs.out)
          have qHX := Lib.hid (Blk.to hp8 HX.out)
          clear HB cHKa_0 zHKa_0 cHKa_1 zHKa_1 cHKa_2 zHKa_2 cHKa_3 zHKa_3 cHKa_4 zHKa_4 cHKa_5 zHKa_5 lHKa mHKa HKa cHKr_0 zHKr_0 cHKr_1 zHKr_1 cHKr_2 zHKr_2 cHKr_3 zHKr_3 cHKr_4 zHKr_4 lHKr mHKr HKr HQ HOs cHX_0 zHX_0 cHX_1 zHX_1 cHX_2 zHX_2 cHX_3 zHX_3 cHX_4 zHX_4 cHX_5 zHX_5 lHX mHX HX hp8
          have HB := qHB
          clear qHB
          have HKa := qHKa
          clear qHKa
          have cHKa_0 := HKa.out.cell (i := 0) rfl
          have zHKa_0 := HKa.out.frozen 0
          have cHKa_1 := HKa.out.cell (i := 1) rfl
          have zHKa_1 := HKa.out.frozen 1
          have cHKa_2 := HKa.out.cell (i := 2) rfl
          have zHKa_2 := HKa.out.frozen 2
          have cHKa_3 := HKa.out.cell (i := 3) rfl
          have zHKa_3 := HKa.out.frozen 3
          have cHKa_4 := HKa.out.cell (i := 4) rfl
          have zHKa_4 := HKa.out.frozen 4
          have cHKa_5 := HKa.out.cell (i := 5) rfl
          have zHKa_5 := HKa.out.frozen 5
          have lHKa := HKa.out.lt
          have mHKa := Nat.le_of_lt lHKa
          have HKr := qHKr
          clear qHKr
          have cHKr_0 := HKr.out.cell (i := 0) rfl
          have zHKr_0 := HKr.out.frozen 0
          have cHKr_1 := HKr.out.cell (i := 1) rfl
          have zHKr_1 := HKr.out.frozen 1
          have cHKr_2 := HKr.out.cell (i := 2) rfl
          have zHKr_2 := HKr.out.frozen 2
          have cHKr_3 := HKr.out.cell (i := 3) rfl
          have zHKr_3 := HKr.out.frozen 3
          have cHKr_4 := HKr.out.cell (i := 4) rfl
          have zHKr_4 := HKr.out.frozen 4
          have lHKr := HKr.out.lt
          have mHKr := Nat.le_of_lt lHKr
          have HQ := qHQ
          clear qHQ
          have HOs := qHOs
          clear qHOs
          have HX := qHX
          clear qHX
          have cHX_0 := HX.out.cell (i := 0) rfl
          have zHX_0 := HX.out.frozen 0
          have cHX_1 := HX.out.cell (i := 1) rfl
          have zHX_1 := HX.out.frozen 1
          have cHX_2 := HX.out.cell (i := 2) rfl
          have zHX_2 := HX.out.frozen 2
          have cHX_3 := HX.out.cell (i := 3) rfl
          have zHX_3 := HX.out.frozen 3
          have cHX_4 := HX.out.cell (i := 4) rfl
          have zHX_4 := HX.out.frozen 4
          have cHX_5 := HX.out.cell (i := 5) rfl
          have zHX_5 := HX.out.frozen 5
          have lHX := HX.out.lt
          have mHX := Nat.le_of_lt lHX
          have hsW8 : w.heap.size ≤ W8.heap.size := HB.out.size
          have HOw := Lib.hid hOw
          have HLw := Lib.hid hlw
          clear hOw hlw
          unfold maxLen at hmw
          have hbw : nw ≤ 1048580 := by rw [← HLw.out]; exact hyl
          have hmw' : nw ≤ 9223372036854775807 := by omega
          go_wp2_with fail
          refine onward_K ⟨cHKa_0, cHKa_1, cHKa_2, cHKa_3, cHKa_4, cHKa_5, cHKr_0, cHKr_1, cHKr_2, cHKr_3, cHKr_4⟩ (hJ _ _ ?_)
          clear hJ J
          (repeat (refine wpPlt_pick (fun J hJ => ?_); simp only [List.getD_cons_zero, List.getD_cons_succ]; first | (go_simp; refine hJ _ ?_; clear hJ J) | (go_simp; refine ⟨_, (fun w1 => by (repeat (intro hh; try simp only [hh, Result.andThen])); rfl), ?_⟩; refine hJ _ ?_; clear hJ J)))
          refine wpPlt_one (fun J hJ => ?_)
          simp only [List.getD_cons_zero, List.getD_cons_succ]
          go_wp2_with fail
          have hne : some gx ≠ ob Aw nw := fun e => by have := HOw.out.low HLw.out e; omega
          refine onward_anchor (F := fun V => Below W3.heap.size W3 V ∧ Own encR 5 W3.heap.size V Aw ys ∧ Blk gx [.int .i64 cap0, .slice Aw nw cw, .int .i64 cr', .int .i64 bk0, .int .i64 st', .int .i64 gt0] 35 V ∧ Blk (w.heap.size) [.int .i64 cap0, .slice A0 n0 c0, .int .i64 cr0, .int .i64 bk0, .int .i64 st0, .int .i64 gt0] 31 V ∧ Blk (w.heap.size + 1) [.int .i64 x1, .int .i64 x2, .int .i64 x3, .int .i64 x4, .int .i64 x5] 45 V) ⟨(by (repeat (first | with_reducible exact HQ.out | with_reducible refine Below.setCell ?_ (by dsimp only; omega) _)); done), (by (repeat (first | with_reducible exact HOw.out.mono (by omega) | with_reducible refine Own.set ?_ HLw.out _ _ hne)); done), (((((((HX.out.set 0 _).set 1 _).set 2 _).set 3 _).set 4 _).set 5 _).conv rfl), (by (repeat (first | with_reducible exact HKa.out | with_reducible refine Blk.other ?_ (by dsimp only; omega) _)); done), (by (repeat (first | with_reducible exact HKr.out | with_reducible refine Blk.other ?_ (by dsimp only; omega) _)); done)⟩ (fun W9 hV => ?_)
          obtain ⟨q1, q2, q3, rHKa, rHKr⟩ := hV
          refine onward_K ⟨rHKa.cell (i := 0) rfl, rHKa.cell (i := 1) rfl, rHKa.cell (i := 2) rfl, rHKa.cell (i := 3) rfl, rHKa.cell (i := 4) rfl, rHKa.cell (i := 5) rfl, rHKr.cell (i := 0) rfl, rHKr.cell (i := 1) rfl, rHKr.cell (i := 2) rfl, rHKr.cell (i := 3) rfl, rHKr.cell (i := 4) rfl⟩ (hJ _ _ ?_)
          clear hJ J
          (repeat (refine wpPlt_pick (fun J hJ => ?_); simp only [List.getD_cons_zero, List.getD_cons_succ]; first | (go_simp; refine hJ _ ?_; clear hJ J) | (go_simp; refine ⟨_, (fun w1 => by (repeat (intro hh; try simp only [hh, Result.andThen])); rfl), ?_⟩; refine hJ _ ?_; clear hJ J)))
          refine wpPlt_nil ?_
          go_wp2_with fail
          go_meet
          obtain ⟨p, hp⟩ := later_of_below q1
          exact ⟨gx, Aw, nw, cw, p, rfl, rfl, HLw.out, hmw', hgl, hne, q2, q3, hp⟩
      · simp only [List.getD_cons_zero, List.getD_cons_succ]
        obtain ⟨gx, hgx⟩ : ∃ g, W4.heap.size = g := ⟨_, rfl⟩
        have hgl : W3.heap.size ≤ gx := by rw [← hgx]; exact HQ.out.size
        go_wp2_with fail
        refine onward_K ⟨(HKa.out.alloc _).cell (i := 0) rfl, (HKa.out.alloc _).cell (i := 1) rfl, (HKa.out.alloc _).cell (i := 2) rfl, (HKa.out.alloc _).cell (i := 3) rfl, (HKa.out.alloc _).cell (i := 4) rfl, (HKa.out.alloc _).cell (i := 5) rfl, (HKr.out.alloc _).cell (i := 0) rfl, (HKr.out.alloc _).cell (i := 1) rfl, (HKr.out.alloc _).cell (i := 2) rfl, (HKr.out.alloc _).cell (i := 3) rfl, (HKr.out.alloc _).cell (i := 4) rfl⟩ (hJ _ _ ?_)
        clear hJ J
        refine plt_anchor (F := fun V => (∃ p : Later, V = later W4 p) ∧ Blk gx [.int .i64 0, .slice Option.none 0 0, .int .i64 0, .int .i64 0, .int .i64 0, .int .i64 0] 35 V) ⟨later_of_below ((Below.refl _ _).alloc (Nat.le_refl _) _), Blk.new _ _ [.int .i64 0, .slice Option.none 0 0, .int .i64 0, .int .i64 0, .int .i64 0, .int .i64 0] _ hgx.symm⟩ (fun W5 hV => ?_)
        obtain ⟨⟨p, hp⟩, qX⟩ := hV
        have qHB := Lib.hid (below_to hp HB.out)
        have qHKa := Lib.hid (Blk.to hp HKa.out)
        have qHKr := Lib.hid (Blk.to hp HKr.out)
        have qHQ := Lib.hid (below_to hp HQ.out)
        clear HB cHKa_0 zHKa_0 cHKa_1 zHKa_1 cHKa_2 zHKa_2 cHKa_3 zHKa_3 cHKa_4 zHKa_4 cHKa_5 zHKa_5 lHKa mHKa HKa cHKr_0 zHKr_0 cHKr_1 zHKr_1 cHKr_2 zHKr_2 cHKr_3 zHKr_3 cHKr_4 zHKr_4 lHKr mHKr HKr HQ hp
        have HB := qHB
        clear qHB
        have HKa := qHKa
        clear qHKa
        have cHKa_0 := HKa.out.cell (i := 0) rfl
        have zHKa_0 := HKa.out.frozen 0
        have cHKa_1 := HKa.out.cell (i := 1) rfl
        have zHKa_1 := HKa.out.frozen 1
        have cHKa_2 := HKa.out.cell (i := 2) rfl
        have zHKa_2 := HKa.out.frozen 2
        have cHKa_3 := HKa.out.cell (i := 3) rfl
        have zHKa_3 := HKa.out.frozen 3
        have cHKa_4 := HKa.out.cell (i := 4) rfl
        have zHKa_4 := HKa.out.frozen 4
        have cHKa_5 := HKa.out.cell (i := 5) rfl
        have zHKa_5 := HKa.out.frozen 5
        have lHKa := HKa.out.lt
        have mHKa := Nat.le_of_lt lHKa
        have HKr := qHKr
        clear qHKr
        have cHKr_0 := HKr.out.cell (i := 0) rfl
        have zHKr_0 := HKr.out.frozen 0
        have cHKr_1 := HKr.out.cell (i := 1) rfl
        have zHKr_1 := HKr.out.frozen 1
        have cHKr_2 := HKr.out.cell (i := 2) rfl
        have zHKr_2 := HKr.out.frozen 2
        have cHKr_3 := HKr.out.cell (i := 3) rfl
        have zHKr_3 := HKr.out.frozen 3
        have cHKr_4 := HKr.out.cell (i := 4) rfl
        have zHKr_4 := HKr.out.frozen 4
        have lHKr := HKr.out.lt
        have mHKr := Nat.le_of_lt lHKr
        have HQ := qHQ
        clear qHQ
        have hsW5 : w.heap.size ≤ W5.heap.size := HB.out.size
        clear hgx
        have HX := Lib.hid (qX)
        have cHX_0 := HX.out.cell (i := 0) rfl
        have zHX_0 := HX.out.frozen 0
        have cHX_1 := HX.out.cell (i := 1) rfl
        have zHX_1 := HX.out.frozen 1
        have cHX_2 := HX.out.cell (i := 2) rfl
        have zHX_2 := HX.out.frozen 2
        have cHX_3 := HX.out.cell (i := 3) rfl
        have zHX_3 := HX.out.frozen 3
        have cHX_4 := HX.out.cell (i := 4) rfl
        have zHX_4 := HX.out.frozen 4
        have cHX_5 := HX.out.cell (i := 5) rfl
        have zHX_5 := HX.out.frozen 5
        have lHX := HX.out.lt
        have mHX := Nat.le_of_lt lHX
        clear qX
        refine wpPlt_one (fun J hJ => ?_)
        simp only [List.getD_cons_zero, List.getD_cons_succ]
        go_wp2_with fail
        have tHKa_s := lHKa
        have tHKr_s := lHKr
        have tHX_s := lHX
        have s_s : w.heap.size ≤ W5.heap.size := HB.out.size
        have u_s : _ ≤ W5.heap.size := HQ.out.size
        refine (c_toLink cap0 cr0 bk0 st0 gt0 A0 n0 _ x0 _ HN.out hle0 (HA.out.below HB.out)).mono ?_
        rintro _ W6 ⟨As, ns, cs, rfl, hls, hcs, hms, hOs, p6, hp6⟩
        have qHB := Lib.hid (below_to hp6 HB.out)
        have qHKa := Lib.hid (Blk.to hp6 HKa.out)
        have qHKr := Lib.hid (Blk.to hp6 HKr.out)
        have qHQ := Lib.hid (below_to hp6 HQ.out)
        have qHX := Lib.hid (Blk.to hp6 HX.out)
        clear HB cHKa_0 zHKa_0 cHKa_1 zHKa_1 cHKa_2 zHKa_2 cHKa_3 zHKa_3 cHKa_4 zHKa_4 cHKa_5 zHKa_5 lHKa mHKa HKa cHKr_0 zHKr_0 cHKr_1 zHKr_1 cHKr_2 zHKr_2 cHKr_3 zHKr_3 cHKr_4 zHKr_4 lHKr mHKr HKr HQ cHX_0 zHX_0 cHX_1 zHX_1 cHX_2 zHX_2 cHX_3 zHX_3 cHX_4 zHX_4 cHX_5 zHX_5 lHX mHX HX hp6
        have HB := qHB
        clear qHB
        have HKa := qHKa
        clear qHKa
        have cHKa_0 := HKa.out.cell (i := 0) rfl
        have zHKa_0 := HKa.out.frozen 0
        have cHKa_1 := HKa.out.cell (i := 1) rfl
        have zHKa_1 := HKa.out.frozen 1
        have cHKa_2 := HKa.out.cell (i := 2) rfl
        have zHKa_2 := HKa.out.frozen 2
        have cHKa_3 := HKa.out.cell (i := 3) rfl
        have zHKa_3 := HKa.out.frozen 3
        have cHKa_4 := HKa.out.cell (i := 4) rfl
        have zHKa_4 := HKa.out.frozen 4
        have cHKa_5 := HKa.out.cell (i := 5) rfl
        have zHKa_5 := HKa.out.frozen 5
        have lHKa := HKa.out.lt
        have mHKa := Nat.le_of_lt lHKa
        have HKr := qHKr
        clear qHKr
        have cHKr_0 := HKr.out.cell (i := 0) rfl
        have zHKr_0 := HKr.out.frozen 0
        have cHKr_1 := HKr.out.cell (i := 1) rfl
        have zHKr_1 := HKr.out.frozen 1
        have cHKr_2 := HKr.out.cell (i := 2) rfl
        have zHKr_2 := HKr.out.frozen 2
        have cHKr_3 := HKr.out.cell (i := 3) rfl
        have zHKr_3 := HKr.out.frozen 3
        have cHKr_4 := HKr.out.cell (i := 4) rfl
        have zHKr_4 := HKr.out.frozen 4
        have lHKr := HKr.out.lt
        have mHKr := Nat.le_of_lt lHKr
        have HQ := qHQ
        clear qHQ
        have HX := qHX
        clear qHX
        have cHX_0 := HX.out.cell (i := 0) rfl
        have zHX_0 := HX.out.frozen 0
        have cHX_1 := HX.out.cell (i := 1) rfl
        have zHX_1 := HX.out.frozen 1
        have cHX_2 := HX.out.cell (i := 2) rfl
        have zHX_2 := HX.out.frozen 2
        have cHX_3 := HX.out.cell (i := 3) rfl
        have zHX_3 := HX.out.frozen 3
        have cHX_4 := HX.out.cell (i := 4) rfl
        have zHX_4 := HX.out.frozen 4
        have cHX_5 := HX.out.cell (i := 5) rfl
        have zHX_5 := HX.out.frozen 5
        have lHX := HX.out.lt
        have mHX := Nat.le_of_lt lHX
        have hsW6 : w.heap.size ≤ W6.heap.size := HB.out.size
        have HOs := Lib.hid hOs
        have HLs := Lib.hid hls
        clear hOs hls
        unfold maxLen at hms
        have hbs : ns ≤ 1048576 := by rw [← HLs.out, HN.out]; exact hle0
        go_wp2_with fail
        refine onward_K ⟨cHKa_0, cHKa_1, cHKa_2, cHKa_3, cHKa_4, cHKa_5, cHKr_0, cHKr_1, cHKr_2, cHKr_3, cHKr_4⟩ (hJ _ _ ?_)
        clear hJ J
        refine wpPlt_one (fun J hJ => ?_)
        simp only [List.getD_cons_zero, List.getD_cons_succ]
        go_wp2_with fail
        refine (c_toRecord _ _ _ _ _ _).mono ?_
        rintro _ W7 ⟨rfl, p7, hp7⟩
        have qHB := Lib.hid (below_to hp7 HB.out)
        have qHKa := Lib.hid (Blk.to hp7 HKa.out)
        have qHKr := Lib.hid (Blk.to hp7 HKr.out)
        have qHQ := Lib.hid (below_to hp7 HQ.out)
        have qHX := Lib.hid (Blk.to hp7 HX.out)
        have qHOs := Lib.hid (own_to hp7 HOs.out)
        clear HB cHKa_0 zHKa_0 cHKa_1 zHKa_1 cHKa_2 zHKa_2 cHKa_3 zHKa_3 cHKa_4 zHKa_4 cHKa_5 zHKa_5 lHKa mHKa HKa cHKr_0 zHKr_0 cHKr_1 zHKr_1 cHKr_2 zHKr_2 cHKr_3 zHKr_3 cHKr_4 zHKr_4 lHKr mHKr HKr HQ cHX_0 zHX_0 cHX_1 zHX_1 cHX_2 zHX_2 cHX_3 zHX_3 cHX_4 zHX_4 cHX_5 zHX_5 lHX mHX HX HOs hp7
        have HB := qHB
        clear qHB
        have HKa := qHKa
        clear qHKa
        have cHKa_0 := HKa.out.cell (i := 0) rfl
        have zHKa_0 := HKa.out.frozen 0
        have cHKa_1 := HKa.out.cell (i := 1) rfl
        have zHKa_1 := HKa.out.frozen 1
        have cHKa_2 := HKa.out.cell (i := 2) rfl
        have zHKa_2 := HKa.out.frozen 2
        have cHKa_3 := HKa.out.cell (i := 3) rfl
        have zHKa_3 := HKa.out.frozen 3
        have cHKa_4 := HKa.out.cell (i := 4) rfl
        have zHKa_4 := HKa.out.frozen 4
        have cHKa_5 := HKa.out.cell (i := 5) rfl
        have zHKa_5 := HKa.out.frozen 5
        have lHKa := HKa.out.lt
        have mHKa := Nat.le_of_lt lHKa
        have HKr := qHKr
        clear qHKr
        have cHKr_0 := HKr.out.cell (i := 0) rfl
        have zHKr_0 := HKr.out.frozen 0
        have cHKr_1 := HKr.out.cell (i := 1) rfl
        have zHKr_1 := HKr.out.frozen 1
        have cHKr_2 := HKr.out.cell (i := 2) rfl
        have zHKr_2 := HKr.out.frozen 2
        have cHKr_3 := HKr.out.cell (i := 3) rfl
        have zHKr_3 := HKr.out.frozen 3
        have cHKr_4 := HKr.out.cell (i := 4) rfl
        have zHKr_4 := HKr.out.frozen 4
        have lHKr := HKr.out.lt
        have mHKr := Nat.le_of_lt lHKr
        have HQ := qHQ
        clear qHQ
        have HX := qHX
        clear qHX
        have cHX_0 := HX.out.cell (i := 0) rfl
        have zHX_0 := HX.out.frozen 0
        have cHX_1 := HX.out.cell (i := 1) rfl
        have zHX_1 := HX.out.frozen 1
        have cHX_2 := HX.out.cell (i := 2) rfl
        have zHX_2 := HX.out.frozen 2
        have cHX_3 := HX.out.cell (i := 3) rfl
        have zHX_3 := HX.out.frozen 3
        have cHX_4 := HX.out.cell (i := 4) rfl
        have zHX_4 := HX.out.frozen 4
        have cHX_5 := HX.out.cell (i := 5) rfl
        have zHX_5 := HX.out.frozen 5
        have lHX := HX.out.lt
        have mHX := Nat.le_of_lt lHX
        have HOs := qHOs
        clear qHOs
        have hsW7 : w.heap.size ≤ W7.heap.size := HB.out.size
        go_wp2_with fail
        refine onward_K ⟨cHKa_0, cHKa_1, cHKa_2, cHKa_3, cHKa_4, cHKa_5, cHKr_0, cHKr_1, cHKr_2, cHKr_3, cHKr_4⟩ (hJ _ _ ?_)
        clear hJ J
        refine wpPlt_one (fun J hJ => ?_)
        simp only [List.getD_cons_zero, List.getD_cons_succ]
        go_wp2_with fail
        have tHKa_w := lHKa
        have tHKr_w := lHKr
        have tHX_w := lHX
        have Hts_w := Lib.hid (Lt.of_row lenR (by decide) HOs.out.row HLs.out)
        have s_w : w.heap.size ≤ W7.heap.size := HB.out.size
        have u_w : _ ≤ W7.heap.size := HQ.out.size
        refine (c_sSendOn _ cr0 bk0 _ _ _ ns _ x0 x1 x2 x3 x4 x5 _ cr' st' ys z HLs.out (by omega) hcr hbk hst hgt (HOs.out).row HZ.out).mono ?_
        rintro _ W8 ⟨Aw, nw, cw, rfl, hlw, hcw, hmw, hOw, p8, hp8⟩
        have qHB := Lib.hid (below_to hp8 HB.out)
        have qHKa := Lib.hid (Blk.to hp8 HKa.out)
        have qHKr := Lib.hid (Blk.to hp8 HKr.out)
        have qHQ := Lib.hid (below_to hp8 HQ.out)
        have qHX := Lib.hid (Blk.to hp8 HX.out)
        have qHOs := Lib.hid (own_to hp8 HOs.out)
        clear HB cHKa_0 zHKa_0 cHKa_1 zHKa_1 cHKa_2 zHKa_2 cHKa_3 zHKa_3 cHKa_4 zHKa_4 cHKa_5 zHKa_5 lHKa mHKa HKa cHKr_0 zHKr_0 cHKr_1 zHKr_1 cHKr_2 zHKr_2 cHKr_3 zHKr_3 cHKr_4 zHKr_4 lHKr mHKr HKr HQ cHX_0 zHX_0 cHX_1 zHX_1 cHX_2 zHX_2 cHX_3 zHX_3 cHX_4 zHX_4 cHX_5 zHX_5 lHX mHX HX HOs hp8
        have HB := qHB
        clear qHB
        have HKa := qHKa
        clear qHKa
        have cHKa_0 := HKa.out.cell (i := 0) rfl
        have zHKa_0 := HKa.out.frozen 0
        have cHKa_1 := HKa.out.cell (i := 1) rfl
        have zHKa_1 := HKa.out.frozen 1
        have cHKa_2 := HKa.out.cell (i := 2) rfl
        have zHKa_2 := HKa.out.frozen 2
        have cHKa_3 := HKa.out.cell (i := 3) rfl
        have zHKa_3 := HKa.out.frozen 3
        have cHKa_4 := HKa.out.cell (i := 4) rfl
        have zHKa_4 := HKa.out.frozen 4
        have cHKa_5 := HKa.out.cell (i := 5) rfl
        have zHKa_5 := HKa.out.frozen 5
        have lHKa := HKa.out.lt
        have mHKa := Nat.le_of_lt lHKa
        have HKr := qHKr
        clear qHKr
        have cHKr_0 := HKr.out.cell (i := 0) rfl
        have zHKr_0 := HKr.out.frozen 0
        have cHKr_1 := HKr.out.cell (i := 1) rfl
        have zHKr_1 := HKr.out.frozen 1
        have cHKr_2 := HKr.out.cell (i := 2) rfl
        have zHKr_2 := HKr.out.frozen 2
        have cHKr_3 := HKr.out.cell (i := 3) rfl
        have zHKr_3 := HKr.out.frozen 3
        have cHKr_4 := HKr.out.cell (i := 4) rfl
        have zHKr_4 := HKr.out.frozen 4
        have lHKr := HKr.out.lt
        have mHKr := Nat.le_of_lt lHKr
        have HQ := qHQ
        clear qHQ
        have HX := qHX
        clear qHX
        have cHX_0 := HX.out.cell (i := 0) rfl
        have zHX_0 := HX.out.frozen 0
        have cHX_1 := HX.out.cell (i := 1) rfl
        have zHX_1 := HX.out.frozen 1
        have cHX_2 := HX.out.cell (i := 2) rfl
        have zHX_2 := HX.out.frozen 2
        have cHX_3 := HX.out.cell (i := 3) rfl
        have zHX_3 := HX.out.frozen 3
        have cHX_4 := HX.out.cell (i := 4) rfl
        have zHX_4 := HX.out.frozen 4
        have cHX_5 := HX.out.cell (i := 5) rfl
        have zHX_5 := HX.out.frozen 5
        have lHX := HX.out.lt
        have mHX := Nat.le_of_lt lHX
        have HOs := qHOs
        clear qHOs
        have hsW8 : w.heap.size ≤ W8.heap.size := HB.out.size
        have HOw := Lib.hid hOw
        have HLw := Lib.hid hlw
        clear hOw hlw
        unfold maxLen at hmw
        have hbw : nw ≤ 1048580 := by rw [← HLw.out]; exact hyl
        have hmw' : nw ≤ 9223372036854775807 := by omega
        go_wp2_with fail
        refine onward_K ⟨cHKa_0, cHKa_1, cHKa_2, cHKa_3, cHKa_4, cHKa_5, cHKr_0, cHKr_1, cHKr_2, cHKr_3, cHKr_4⟩ (hJ _ _ ?_)
        clear hJ J
        (repeat (refine wpPlt_pick (fun J hJ => ?_); simp only [List.getD_cons_zero, List.getD_cons_succ]; first | (go_simp; refine hJ _ ?_; clear hJ J) | (go_simp; refine ⟨_, (fun w1 => by (repeat (intro hh; try simp only [hh, Result.andThen])); rfl), ?_⟩; refine hJ _ ?_; clear hJ J)))
        refine wpPlt_one (fun J hJ => ?_)
        simp only [List.getD_cons_zero, List.getD_cons_succ]
        go_wp2_with fail
        have hne : some gx ≠ ob Aw nw := fun e => by have := HOw.out.low HLw.out e; omega
        refine onward_anchor (F := fun V => Below W3.heap.size W3 V ∧ Own encR 5 W3.heap.size V Aw ys ∧ Blk gx [.int .i64 cap0, .slice Aw nw cw, .int .i64 cr', .int .i64 bk0, .int .i64 st', .int .i64 gt0] 35 V ∧ Blk (w.heap.size) [.int .i64 cap0, .slice A0 n0 c0, .int .i64 cr0, .int .i64 bk0, .int .i64 st0, .int .i64 gt0] 31 V ∧ Blk (w.heap.size + 1) [.int .i64 x1, .int .i64 x2, .int .i64 x3, .int .i64 x4, .int .i64 x5] 45 V) ⟨(by (repeat (first | with_reducible exact HQ.out | with_reducible refine Below.setCell ?_ (by dsimp only; omega) _)); done), (by (repeat (first | with_reducible exact HOw.out.mono (by omega) | with_reducible refine Own.set ?_ HLw.out _ _ hne)); done), (((((((HX.out.set 0 _).set 1 _).set 2 _).set 3 _).set 4 _).set 5 _).conv rfl), (by (repeat (first | with_reducible exact HKa.out | with_reducible refine Blk.other ?_ (by dsimp only; omega) _)); done), (by (repeat (first | with_reducible exact HKr.out | with_reducible refine Blk.other ?_ (by dsimp only; omega) _)); done)⟩ (fun W9 hV => ?_)
        obtain ⟨q1, q2, q3, rHKa, rHKr⟩ := hV
        refine onward_K ⟨rHKa.cell (i := 0) rfl, rHKa.cell (i := 1) rfl, rHKa.cell (i := 2) rfl, rHKa.cell (i := 3) rfl, rHKa.cell (i := 4) rfl, rHKa.cell (i := 5) rfl, rHKr.cell (i := 0) rfl, rHKr.cell (i := 1) rfl, rHKr.cell (i := 2) rfl, rHKr.cell (i := 3) rfl, rHKr.cell (i := 4) rfl⟩ (hJ _ _ ?_)
        clear hJ J
        (repeat (refine wpPlt_pick (fun J hJ => ?_); simp only [List.getD_cons_zero, List.getD_cons_succ]; first | (go_simp; refine hJ _ ?_; clear hJ J) | (go_simp; refine ⟨_, (fun w1 => by (repeat (intro hh; try simp only [hh, Result.andThen])); rfl), ?_⟩; refine hJ _ ?_; clear hJ J)))
        refine wpPlt_nil ?_
        go_wp2_with fail
        go_meet
        obtain ⟨p, hp⟩ := later_of_below q1
        exact ⟨gx, Aw, nw, cw, p, rfl, rfl, HLw.out, hmw', hgl, hne, q2, q3, hp⟩
    obtain ⟨gw, Aw, nw, cw, p, rfl, rfl, hlw, hmw', hloww, hnew, hOw, hKw, hp⟩ := hcut
    obtain ⟨W63, hV⟩ : ∃ V, V = wc := ⟨_, rfl⟩
    subst hV
    have tHKa_w := lHKa
    have tHKr_w := lHKr
    have s_w : w.heap.size ≤ W3.heap.size := HB.out.size
    have qHB := Lib.hid (below_to hp HB.out)
    have qHKa := Lib.hid (Blk.to hp HKa.out)
    have qHKr := Lib.hid (Blk.to hp HKr.out)
    clear HB cHKa_0 zHKa_0 cHKa_1 zHKa_1 cHKa_2 zHKa_2 cHKa_3 zHKa_3 cHKa_4 zHKa_4 cHKa_5 zHKa_5 lHKa mHKa HKa cHKr_0 zHKr_0 cHKr_1 zHKr_1 cHKr_2 zHKr_2 cHKr_3 zHKr_3 cHKr_4 zHKr_4 lHKr mHKr HKr hp
    have HB := qHB
    clear qHB
    have HKa := qHKa
    clear qHKa
    have cHKa_0 := HKa.out.cell (i := 0) rfl
    have zHKa_0 := HKa.out.frozen 0
    have cHKa_1 := HKa.out.cell (i := 1) rfl
    have zHKa_1 := HKa.out.frozen 1
    have cHKa_2 := HKa.out.cell (i := 2) rfl
    have zHKa_2 := HKa.out.frozen 2
    have cHKa_3 := HKa.out.cell (i := 3) rfl
    have zHKa_3 := HKa.out.frozen 3
    have cHKa_4 := HKa.out.cell (i := 4) rfl
    have zHKa_4 := HKa.out.frozen 4
    have cHKa_5 := HKa.out.cell (i := 5) rfl
    have zHKa_5 := HKa.out.frozen 5
    have lHKa := HKa.out.lt
    have mHKa := Nat.le_of_lt lHKa
    have HKr := qHKr
    clear qHKr
    have cHKr_0 := HKr.out.cell (i := 0) rfl
    have zHKr_0 := HKr.out.frozen 0
    have cHKr_1 := HKr.out.cell (i := 1) rfl
    have zHKr_1 := HKr.out.frozen 1
    have cHKr_2 := HKr.out.cell (i := 2) rfl
    have zHKr_2 := HKr.out.frozen 2
    have cHKr_3 := HKr.out.cell (i := 3) rfl
    have zHKr_3 := HKr.out.frozen 3
    have cHKr_4 := HKr.out.cell (i := 4) rfl
    have zHKr_4 := HKr.out.frozen 4
    have lHKr := HKr.out.lt
    have mHKr := Nat.le_of_lt lHKr
    have hsW63 : w.heap.size ≤ W63.heap.size := HB.out.size
    have HOw := Lib.hid hOw
    have HLw := Lib.hid hlw
    have HNw := Lib.hid hnew
    have HKw := Lib.hid (hKw)
    have cHKw_0 := HKw.out.cell (i := 0) rfl
    have zHKw_0 := HKw.out.frozen 0
    have cHKw_1 := HKw.out.cell (i := 1) rfl
    have zHKw_1 := HKw.out.frozen 1
    have cHKw_2 := HKw.out.cell (i := 2) rfl
    have zHKw_2 := HKw.out.frozen 2
    have cHKw_3 := HKw.out.cell (i := 3) rfl
    have zHKw_3 := HKw.out.frozen 3
    have cHKw_4 := HKw.out.cell (i := 4) rfl
    have zHKw_4 := HKw.out.frozen 4
    have cHKw_5 := HKw.out.cell (i := 5) rfl
    have zHKw_5 := HKw.out.frozen 5
    have lHKw := HKw.out.lt
    have mHKw := Nat.le_of_lt lHKw
    clear hOw hlw hKw hnew
    have hbw : nw ≤ 1048580 := by rw [← HLw.out]; exact hyl
    go_wp2_with fail
    have tHKa_x := lHKa
    have tHKr_x := lHKr
    have Htw_x := Lib.hid (Lt.of_row lenR (by decide) HOw.out.row HLw.out)
    have tHKw_x := lHKw
    have s_x : w.heap.size ≤ W63.heap.size := HB.out.size
    refine (c_toLink cap0 cr0 bk0 st0 gt0 A0 n0 _ x0 _ HN.out hle0 (HA.out.below HB.out)).mono ?_
    rintro _ W64 ⟨Ax, nx, cx, rfl, hlx, hcx, hmx, hOx, p64, hp64⟩
    have qHB := Lib.hid (below_to hp64 HB.out)
    have qHKa := Lib.hid (Blk.to hp64 HKa.out)
    have qHKr := Lib.hid (Blk.to hp64 HKr.out)
    have qHOw := Lib.hid (own_to hp64 HOw.out)
    have qHKw := Lib.hid (Blk.to hp64 HKw.out)
    clear HB cHKa_0 zHKa_0 cHKa_1 zHKa_1 cHKa_2 zHKa_2 cHKa_3 zHKa_3 cHKa_4 zHKa_4 cHKa_5 zHKa_5 lHKa mHKa HKa cHKr_0 zHKr_0 cHKr_1 zHKr_1 cHKr_2 zHKr_2 cHKr_3 zHKr_3 cHKr_4 zHKr_4 lHKr mHKr HKr HOw cHKw_0 zHKw_0 cHKw_1 zHKw_1 cHKw_2 zHKw_2 cHKw_3 zHKw_3 cHKw_4 zHKw_4 cHKw_5 zHKw_5 lHKw mHKw HKw hp64
    have HB := qHB
    clear qHB
    have HKa := qHKa
    clear qHKa
    have cHKa_0 := HKa.out.cell (i := 0) rfl
    have zHKa_0 := HKa.out.frozen 0
    have cHKa_1 := HKa.out.cell (i := 1) rfl
    have zHKa_1 := HKa.out.frozen 1
    have cHKa_2 := HKa.out.cell (i := 2) rfl
    have zHKa_2 := HKa.out.frozen 2
    have cHKa_3 := HKa.out.cell (i := 3) rfl
    have zHKa_3 := HKa.out.frozen 3
    have cHKa_4 := HKa.out.cell (i := 4) rfl
    have zHKa_4 := HKa.out.frozen 4
    have cHKa_5 := HKa.out.cell (i := 5) rfl
    have zHKa_5 := HKa.out.frozen 5
    have lHKa := HKa.out.lt
    have mHKa := Nat.le_of_lt lHKa
    have HKr := qHKr
    clear qHKr
    have cHKr_0 := HKr.out.cell (i := 0) rfl
    have zHKr_0 := HKr.out.frozen 0
    have cHKr_1 := HKr.out.cell (i := 1) rfl
    have zHKr_1 := HKr.out.frozen 1
    have cHKr_2 := HKr.out.cell (i := 2) rfl
    have zHKr_2 := HKr.out.frozen 2
    have cHKr_3 := HKr.out.cell (i := 3) rfl
    have zHKr_3 := HKr.out.frozen 3
    have cHKr_4 := HKr.out.cell (i := 4) rfl
    have zHKr_4 := HKr.out.frozen 4
    have lHKr := HKr.out.lt
    have mHKr := Nat.le_of_lt lHKr
    have HOw := qHOw
    clear qHOw
    have HKw := qHKw
    clear qHKw
    have cHKw_0 := HKw.out.cell (i := 0) rfl
    have zHKw_0 := HKw.out.frozen 0
    have cHKw_1 := HKw.out.cell (i := 1) rfl
    have zHKw_1 := HKw.out.frozen 1
    have cHKw_2 := HKw.out.cell (i := 2) rfl
    have zHKw_2 := HKw.out.frozen 2
    have cHKw_3 := HKw.out.cell (i := 3) rfl
    have zHKw_3 := HKw.out.frozen 3
    have cHKw_4 := HKw.out.cell (i := 4) rfl
    have zHKw_4 := HKw.out.frozen 4
    have cHKw_5 := HKw.out.cell (i := 5) rfl
    have zHKw_5 := HKw.out.frozen 5
    have lHKw := HKw.out.lt
    have mHKw := Nat.le_of_lt lHKw
    have hsW64 : w.heap.size ≤ W64.heap.size := HB.out.size
    have HOx := Lib.hid hOx
    have HLx := Lib.hid hlx
    clear hOx hlx
    unfold maxLen at hmx
    have hbx : nx ≤ 1048576 := by rw [← HLx.out, HN.out]; exact hle0
    go_upto_region 7 with fail
    have htx : True := trivial
    obtain ⟨gx0, hgx0⟩ : ∃ g, W64.heap.size = g := ⟨_, rfl⟩
    have Htx_box := Lib.hid (Lt.of_row lenR (by decide) HOx.out.row HLx.out)
    refine wp_anchor (F := fun V => (∃ p : Later, V = later W64 p) ∧ Blk (W64.heap.size) [.int .i64 cap0, .slice Ax nx cx, .int .i64 cr0, .int .i64 bk0, .int .i64 st0, .int .i64 gt0] 35 V) ⟨later_of_below (by (repeat (first | with_reducible exact Below.refl _ _ | with_reducible refine Below.drew ?_ | with_reducible refine Below.alloc ?_ (by first | exact Nat.le_refl _ | (simp; done) | (simp; omega)) _))), (by (repeat (first | exact Blk.new _ _ [.int .i64 cap0, .slice Ax nx cx, .int .i64 cr0, .int .i64 bk0, .int .i64 st0, .int .i64 gt0] _ (by first | rfl | (simp; done)) | with_reducible refine Blk.alloc ?_ _)))⟩ (fun W65 hV => ?_)
    obtain ⟨⟨p, hp⟩, qHKx0⟩ := hV
    have qHB := Lib.hid (below_to hp HB.out)
    have qHKa := Lib.hid (Blk.to hp HKa.out)
    have qHKr := Lib.hid (Blk.to hp HKr.out)
    have qHOw := Lib.hid (own_to hp HOw.out)
    have qHKw := Lib.hid (Blk.to hp HKw.out)
    have qHOx := Lib.hid (own_to hp HOx.out)
    clear HB cHKa_0 zHKa_0 cHKa_1 zHKa_1 cHKa_2 zHKa_2 cHKa_3 zHKa_3 cHKa_4 zHKa_4 cHKa_5 zHKa_5 lHKa mHKa HKa cHKr_0 zHKr_0 cHKr_1 zHKr_1 cHKr_2 zHKr_2 cHKr_3 zHKr_3 cHKr_4 zHKr_4 lHKr mHKr HKr HOw cHKw_0 zHKw_0 cHKw_1 zHKw_1 cHKw_2 zHKw_2 cHKw_3 zHKw_3 cHKw_4 zHKw_4 cHKw_5 zHKw_5 lHKw mHKw HKw HOx hp
    have HB := qHB
    clear qHB
    have HKa := qHKa
    clear qHKa
    have cHKa_0 := HKa.out.cell (i := 0) rfl
    have zHKa_0 := HKa.out.frozen 0
    have cHKa_1 := HKa.out.cell (i := 1) rfl
    have zHKa_1 := HKa.out.frozen 1
    have cHKa_2 := HKa.out.cell (i := 2) rfl
    have zHKa_2 := HKa.out.frozen 2
    have cHKa_3 := HKa.out.cell (i := 3) rfl
    have zHKa_3 := HKa.out.frozen 3
    have cHKa_4 := HKa.out.cell (i := 4) rfl
    have zHKa_4 := HKa.out.frozen 4
    have cHKa_5 := HKa.out.cell (i := 5) rfl
    have zHKa_5 := HKa.out.frozen 5
    have lHKa := HKa.out.lt
    have mHKa := Nat.le_of_lt lHKa
    have HKr := qHKr
    clear qHKr
    have cHKr_0 := HKr.out.cell (i := 0) rfl
    have zHKr_0 := HKr.out.frozen 0
    have cHKr_1 := HKr.out.cell (i := 1) rfl
    have zHKr_1 := HKr.out.frozen 1
    have cHKr_2 := HKr.out.cell (i := 2) rfl
    have zHKr_2 := HKr.out.frozen 2
    have cHKr_3 := HKr.out.cell (i := 3) rfl
    have zHKr_3 := HKr.out.frozen 3
    have cHKr_4 := HKr.out.cell (i := 4) rfl
    have zHKr_4 := HKr.out.frozen 4
    have lHKr := HKr.out.lt
    have mHKr := Nat.le_of_lt lHKr
    have HOw := qHOw
    clear qHOw
    have HKw := qHKw
    clear qHKw
    have cHKw_0 := HKw.out.cell (i := 0) rfl
    have zHKw_0 := HKw.out.frozen 0
    have cHKw_1 := HKw.out.cell (i := 1) rfl
    have zHKw_1 := HKw.out.frozen 1
    have cHKw_2 := HKw.out.cell (i := 2) rfl
    have zHKw_2 := HKw.out.frozen 2
    have cHKw_3 := HKw.out.cell (i := 3) rfl
    have zHKw_3 := HKw.out.frozen 3
    have cHKw_4 := HKw.out.cell (i := 4) rfl
    have zHKw_4 := HKw.out.frozen 4
    have cHKw_5 := HKw.out.cell (i := 5) rfl
    have zHKw_5 := HKw.out.frozen 5
    have lHKw := HKw.out.lt
    have mHKw := Nat.le_of_lt lHKw
    have HOx := qHOx
    clear qHOx
    have hsW65 : w.heap.size ≤ W65.heap.size := HB.out.size
    have HKx := Lib.hid (qHKx0)
    have cHKx_0 := HKx.out.cell (i := 0) rfl
    have zHKx_0 := HKx.out.frozen 0
    have cHKx_1 := HKx.out.cell (i := 1) rfl
    have zHKx_1 := HKx.out.frozen 1
    have cHKx_2 := HKx.out.cell (i := 2) rfl
    have zHKx_2 := HKx.out.frozen 2
    have cHKx_3 := HKx.out.cell (i := 3) rfl
    have zHKx_3 := HKx.out.frozen 3
    have cHKx_4 := HKx.out.cell (i := 4) rfl
    have zHKx_4 := HKx.out.frozen 4
    have cHKx_5 := HKx.out.cell (i := 5) rfl
    have zHKx_5 := HKx.out.frozen 5
    have lHKx := HKx.out.lt
    have mHKx := Nat.le_of_lt lHKx
    clear qHKx0
    clear hgx0
    go_upto_region 7 with fail
    refine wp_anchor (F := fun V => ∃ p, V = later W65 p) (later_of_below (by (repeat (first | with_reducible exact Below.refl _ _ | with_reducible assumption | with_reducible refine Below.drew ?_ | with_reducible refine below_drewN ?_ _ | with_reducible exact HQ.out | with_reducible exact HBW.out | with_reducible refine below_ext ?_ _ _ | with_reducible refine below_then_later ?_ (by first | with_reducible exact Nat.le_refl _ | with_reducible exact HBW.out.size | with_reducible exact HQ.out.size | omega | (simp; done) | (simp; omega) | (simp [later_size]; done) | (simp [later_size]; omega)) _ | with_reducible refine Below.setCell ?_ (by first | with_reducible exact Nat.le_refl _ | with_reducible exact HBW.out.size | with_reducible exact HQ.out.size | omega | (simp; done) | (simp; omega) | (simp [later_size]; done) | (simp [later_size]; omega)) _ | with_reducible refine Below.alloc ?_ (by first | with_reducible exact Nat.le_refl _ | with_reducible exact HBW.out.size | with_reducible exact HQ.out.size | omega | (simp; done) | (simp; omega) | (simp [later_size]; done) | (simp [later_size]; omega)) _)))) (fun W66 hV => ?_)
    obtain ⟨p, hp⟩ := hV
    have qHB := Lib.hid (below_to hp HB.out)
    have qHKa := Lib.hid (Blk.to hp HKa.out)
    have qHKr := Lib.hid (Blk.to hp HKr.out)
    have qHOw := Lib.hid (own_to hp HOw.out)
    have qHKw := Lib.hid (Blk.to hp HKw.out)
    have qHOx := Lib.hid (own_to hp HOx.out)
    have qHKx := Lib.hid (Blk.to hp HKx.out)
    clear HB cHKa_0 zHKa_0 cHKa_1 zHKa_1 cHKa_2 zHKa_2 cHKa_3 zHKa_3 cHKa_4 zHKa_4 cHKa_5 zHKa_5 lHKa mHKa HKa cHKr_0 zHKr_0 cHKr_1 zHKr_1 cHKr_2 zHKr_2 cHKr_3 zHKr_3 cHKr_4 zHKr_4 lHKr mHKr HKr HOw cHKw_0 zHKw_0 cHKw_1 zHKw_1 cHKw_2 zHKw_2 cHKw_3 zHKw_3 cHKw_4 zHKw_4 cHKw_5 zHKw_5 lHKw mHKw HKw HOx cHKx_0 zHKx_0 cHKx_1 zHKx_1 cHKx_2 zHKx_2 cHKx_3 zHKx_3 cHKx_4 zHKx_4 cHKx_5 zHKx_5 lHKx mHKx HKx hp
    have HB := qHB
    clear qHB
    have HKa := qHKa
    clear qHKa
    have cHKa_0 := HKa.out.cell (i := 0) rfl
    have zHKa_0 := HKa.out.frozen 0
    have cHKa_1 := HKa.out.cell (i := 1) rfl
    have zHKa_1 := HKa.out.frozen 1
    have cHKa_2 := HKa.out.cell (i := 2) rfl
    have zHKa_2 := HKa.out.frozen 2
    have cHKa_3 := HKa.out.cell (i := 3) rfl
    have zHKa_3 := HKa.out.frozen 3
    have cHKa_4 := HKa.out.cell (i := 4) rfl
    have zHKa_4 := HKa.out.frozen 4
    have cHKa_5 := HKa.out.cell (i := 5) rfl
    have zHKa_5 := HKa.out.frozen 5
    have lHKa := HKa.out.lt
    have mHKa := Nat.le_of_lt lHKa
    have HKr := qHKr
    clear qHKr
    have cHKr_0 := HKr.out.cell (i := 0) rfl
    have zHKr_0 := HKr.out.frozen 0
    have cHKr_1 := HKr.out.cell (i := 1) rfl
    have zHKr_1 := HKr.out.frozen 1
    have cHKr_2 := HKr.out.cell (i := 2) rfl
    have zHKr_2 := HKr.out.frozen 2
    have cHKr_3 := HKr.out.cell (i := 3) rfl
    have zHKr_3 := HKr.out.frozen 3
    have cHKr_4 := HKr.out.cell (i := 4) rfl
    have zHKr_4 := HKr.out.frozen 4
    have lHKr := HKr.out.lt
    have mHKr := Nat.le_of_lt lHKr
    have HOw := qHOw
    clear qHOw
    have HKw := qHKw
    clear qHKw
    have cHKw_0 := HKw.out.cell (i := 0) rfl
    have zHKw_0 := HKw.out.frozen 0
    have cHKw_1 := HKw.out.cell (i := 1) rfl
    have zHKw_1 := HKw.out.frozen 1
    have cHKw_2 := HKw.out.cell (i := 2) rfl
    have zHKw_2 := HKw.out.frozen 2
    have cHKw_3 := HKw.out.cell (i := 3) rfl
    have zHKw_3 := HKw.out.frozen 3
    have cHKw_4 := HKw.out.cell (i := 4) rfl
    have zHKw_4 := HKw.out.frozen 4
    have cHKw_5 := HKw.out.cell (i := 5) rfl
    have zHKw_5 := HKw.out.frozen 5
    have lHKw := HKw.out.lt
    have mHKw := Nat.le_of_lt lHKw
    have HOx := qHOx
    clear qHOx
    have HKx := qHKx
    clear qHKx
    have cHKx_0 := HKx.out.cell (i := 0) rfl
    have zHKx_0 := HKx.out.frozen 0
    have cHKx_1 := HKx.out.cell (i := 1) rfl
    have zHKx_1 := HKx.out.frozen 1
    have cHKx_2 := HKx.out.cell (i := 2) rfl
    have zHKx_2 := HKx.out.frozen 2
    have cHKx_3 := HKx.out.cell (i := 3) rfl
    have zHKx_3 := HKx.out.frozen 3
    have cHKx_4 := HKx.out.cell (i := 4) rfl
    have zHKx_4 := HKx.out.frozen 4
    have cHKx_5 := HKx.out.cell (i := 5) rfl
    have zHKx_5 := HKx.out.frozen 5
    have lHKx := HKx.out.lt
    have mHKx := Nat.le_of_lt lHKx
    have hsW66 : w.heap.size ≤ W66.heap.size := HB.out.size
    go_cut [9, 10] (fun sa sb wx => ∃ (g : Nat) (A : Option Addr) (n c : Nat) (p : Later), sa = .pointer (some ⟨g, 0, Option.none⟩) ∧ sb = .bool z ∧ ys.length = n ∧ n ≤ 9223372036854775807 ∧ W66.heap.size ≤ g ∧ some g ≠ ob A n ∧ Own encR 5 W66.heap.size wx A ys ∧ Blk g [.int .i64 cap0, .slice A n c, .int .i64 cr', .int .i64 bk0, .int .i64 st', .int .i64 gt0] 35 wx ∧ wx = later W66 p)
    case first =>
      with_reducible refine wp_region_plt (fun V => V.cell? ⟨W64.heap.size, 0, Option.none⟩ = some (.int .i64 cap0) ∧ V.cell? ⟨W64.heap.size, 1, Option.none⟩ = some (.slice Ax nx cx) ∧ V.cell? ⟨W64.heap.size, 2, Option.none⟩ = some (.int .i64 cr0) ∧ V.cell? ⟨W64.heap.size, 3, Option.none⟩ = some (.int .i64 bk0) ∧ V.cell? ⟨W64.heap.size, 4, Option.none⟩ = some (.int .i64 st0) ∧ V.cell? ⟨W64.heap.size, 5, Option.none⟩ = some (.int .i64 gt0) ∧ V.cell? ⟨w.heap.size + 1, 0, Option.none⟩ = some (.int .i64 x1) ∧ V.cell? ⟨w.heap.size + 1, 1, Option.none⟩ = some (.int .i64 x2) ∧ V.cell? ⟨w.heap.size + 1, 2, Option.none⟩ = some (.int .i64 x3) ∧ V.cell? ⟨w.heap.size + 1, 3, Option.none⟩ = some (.int .i64 x4) ∧ V.cell? ⟨w.heap.size + 1, 4, Option.none⟩ = some (.int .i64 x5)) (Plt.pick 0 (Plt.pick 1 (Plt.two 2 (Plt.two 3 (Plt.pick 4 (Plt.pick 5 (Plt.pick 6 (Plt.one 7 (Plt.one 8 (Plt.pick 9 (Plt.nil))))))) 7 (Plt.one 3 (Plt.pick 4 (Plt.pick 5 (Plt.pick 6 (Plt.one 8 (Plt.pick 9 (Plt.nil)))))))) 7 (Plt.one 2 (Plt.one 3 (Plt.pick 4 (Plt.pick 5 (Plt.pick 6 (Plt.one 8 (Plt.pick 9 (Plt.nil))))))))))) (by kernel_rfl) (by kernel_rfl) ?_ ?_
      · exact ⟨cHKx_0, cHKx_1, cHKx_2, cHKx_3, cHKx_4, cHKx_5, cHKr_0, cHKr_1, cHKr_2, cHKr_3, cHKr_4⟩
      have v_HKx := lHKx
      have v_HKr := lHKr
      have HQ := Lib.hid (below_self W66)
      refine plt_anchor (F := fun V => ∃ p, V = later W66 p) (later_of_below (by (repeat (first | with_reducible exact Below.refl _ _ | with_reducible assumption | with_reducible refine Below.drew ?_ | with_reducible refine below_drewN ?_ _ | with_reducible exact HQ.out | with_reducible exact HBW.out | with_reducible refine below_ext ?_ _ _ | with_reducible refine below_then_later ?_ (by first | with_reducible exact Nat.le_refl _ | with_reducible exact HBW.out.size | with_reducible exact HQ.out.size | omega | (simp; done) | (simp; omega) | (simp [later_size]; done) | (simp [later_size]; omega)) _ | with_reducible refine Below.setCell ?_ (by first | with_reducible exact Nat.le_refl _ | with_reducible exact HBW.out.size | with_reducible exact HQ.out.size | omega | (simp; done) | (simp; omega) | (simp [later_size]; done) | (simp [later_size]; omega)) _ | with_reducible refine Below.alloc ?_ (by first | with_reducible exact Nat.le_refl _ | with_reducible exact HBW.out.size | with_reducible exact HQ.out.size | omega | (simp; done) | (simp; omega) | (simp [later_size]; done) | (simp [later_size]; omega)) _)))) (fun W67 hV => ?_)
      obtain ⟨p, hp⟩ := hV
      have qHB := Lib.hid (below_to hp HB.out)
      have qHKa := Lib.hid (Blk.to hp HKa.out)
      have qHKr := Lib.hid (Blk.to hp HKr.out)
      have qHOw := Lib.hid (own_to hp HOw.out)
      have qHKw := Lib.hid (Blk.to hp HKw.out)
      have qHOx := Lib.hid (own_to hp HOx.out)
      have qHKx := Lib.hid (Blk.to hp HKx.out)
      have qHQ := Lib.hid (below_to hp HQ.out)
      clear HB cHKa_0 zHKa_0 cHKa_1 zHKa_1 cHKa_2 zHKa_2 cHKa_3 zHKa_3 cHKa_4 zHKa_4 cHKa_5 zHKa_5 lHKa mHKa HKa cHKr_0 zHKr_0 cHKr_1 zHKr_1 cHKr_2 zHKr_2 cHKr_3 zHKr_3 cHKr_4 zHKr_4 lHKr mHKr HKr HOw cHKw_0 zHKw_0 cHKw_1 zHKw_1 cHKw_2 zHKw_2 cHKw_3 zHKw_3 cHKw_4 zHKw_4 cHKw_5 zHKw_5 lHKw mHKw HKw HOx cHKx_0 zHKx_0 cHKx_1 zHKx_1 cHKx_2 zHKx_2 cHKx_3 zHKx_3 cHKx_4 zHKx_4 cHKx_5 zHKx_5 lHKx mHKx HKx HQ hp
      have HB := qHB
      clear qHB
      have HKa := qHKa
      clear qHKa
      have cHKa_0 := HKa.out.cell (i := 0) rfl
      have zHKa_0 := HKa.out.frozen 0
      have cHKa_1 := HKa.out.cell (i := 1) rfl
      have zHKa_1 := HKa.out.frozen 1
      have cHKa_2 := HKa.out.cell (i := 2) rfl
      have zHKa_2 := HKa.out.frozen 2
      have cHKa_3 := HKa.out.cell (i := 3) rfl
      have zHKa_3 := HKa.out.frozen 3
      have cHKa_4 := HKa.out.cell (i := 4) rfl
      have zHKa_4 := HKa.out.frozen 4
      have cHKa_5 := HKa.out.cell (i := 5) rfl
      have zHKa_5 := HKa.out.frozen 5
      have lHKa := HKa.out.lt
      have mHKa := Nat.le_of_lt lHKa
      have HKr := qHKr
      clear qHKr
      have cHKr_0 := HKr.out.cell (i := 0) rfl
      have zHKr_0 := HKr.out.frozen 0
      have cHKr_1 := HKr.out.cell (i := 1) rfl
      have zHKr_1 := HKr.out.frozen 1
      have cHKr_2 := HKr.out.cell (i := 2) rfl
      have zHKr_2 := HKr.out.frozen 2
      have cHKr_3 := HKr.out.cell (i := 3) rfl
      have zHKr_3 := HKr.out.frozen 3
      have cHKr_4 := HKr.out.cell (i := 4) rfl
      have zHKr_4 := HKr.out.frozen 4
      have lHKr := HKr.out.lt
      have mHKr := Nat.le_of_lt lHKr
      have HOw := qHOw
      clear qHOw
      have HKw := qHKw
      clear qHKw
      have cHKw_0 := HKw.out.cell (i := 0) rfl
      have zHKw_0 := HKw.out.frozen 0
      have cHKw_1 := HKw.out.cell (i := 1) rfl
      have zHKw_1 := HKw.out.frozen 1
      have cHKw_2 := HKw.out.cell (i := 2) rfl
      have zHKw_2 := HKw.out.frozen 2
      have cHKw_3 := HKw.out.cell (i := 3) rfl
      have zHKw_3 := HKw.out.frozen 3
      have cHKw_4 := HKw.out.cell (i := 4) rfl
      have zHKw_4 := HKw.out.frozen 4
      have cHKw_5 := HKw.out.cell (i := 5) rfl
      have zHKw_5 := HKw.out.frozen 5
      have lHKw := HKw.out.lt
      have mHKw := Nat.le_of_lt lHKw
      have HOx := qHOx
      clear qHOx
      have HKx := qHKx
      clear qHKx
      have cHKx_0 := HKx.out.cell (i := 0) rfl
      have zHKx_0 := HKx.out.frozen 0
      have cHKx_1 := HKx.out.cell (i := 1) rfl
      have zHKx_1 := HKx.out.frozen 1
      have cHKx_2 := HKx.out.cell (i := 2) rfl
      have zHKx_2 := HKx.out.frozen 2
      have cHKx_3 := HKx.out.cell (i := 3) rfl
      have zHKx_3 := HKx.out.frozen 3
      have cHKx_4 := HKx.out.cell (i := 4) rfl
      have zHKx_4 := HKx.out.frozen 4
      have cHKx_5 := HKx.out.cell (i := 5) rfl
      have zHKx_5 := HKx.out.frozen 5
      have lHKx := HKx.out.lt
      have mHKx := Nat.le_of_lt lHKx
      have HQ := qHQ
      clear qHQ
      have hsW67 : w.heap.size ≤ W67.heap.size := HB.out.size
      (repeat (refine wpPlt_pick (fun J hJ => ?_); simp only [List.getD_cons_zero, List.getD_cons_succ]; first | (go_simp; refine hJ _ ?_; clear hJ J) | (go_simp; refine ⟨_, (fun w1 => by (repeat (intro hh; try simp only [hh, Result.andThen])); rfl), ?_⟩; refine hJ _ ?_; clear hJ J)))
      refine wpPlt_two (fun J hJ => ?_) (fun J hJ => ?_)
      · simp only [List.getD_cons_zero, List.getD_cons_succ]
        go_wp2_with fail
        refine (c_toRecord _ _ _ _ _ _).mono ?_
        rintro _ W68 ⟨rfl, p68, hp68⟩
        have qHB := Lib.hid (below_to hp68 HB.out)
        have qHKa := Lib.hid (Blk.to hp68 HKa.out)
        have qHKr := Lib.hid (Blk.to hp68 HKr.out)
        have qHOw := Lib.hid (own_to hp68 HOw.out)
        have qHKw := Lib.hid (Blk.to hp68 HKw.out)
        have qHOx := Lib.hid (own_to hp68 HOx.out)
        have qHKx := Lib.hid (Blk.to hp68 HKx.out)
        have qHQ := Lib.hid (below_to hp68 HQ.out)
        clear HB cHKa_0 zHKa_0 cHKa_1 zHKa_1 cHKa_2 zHKa_2 cHKa_3 zHKa_3 cHKa_4 zHKa_4 cHKa_5 zHKa_5 lHKa mHKa HKa cHKr_0 zHKr_0 cHKr_1 zHKr_1 cHKr_2 zHKr_2 cHKr_3 zHKr_3 cHKr_4 zHKr_4 lHKr mHKr HKr HOw cHKw_0 zHKw_0 cHKw_1 zHKw_1 cHKw_2 zHKw_2 cHKw_3 zHKw_3 cHKw_4 zHKw_4 cHKw_5 zHKw_5 lHKw mHKw HKw HOx cHKx_0 zHKx_0 cHKx_1 zHKx_1 cHKx_2 zHKx_2 cHKx_3 zHKx_3 cHKx_4 zHKx_4 cHKx_5 zHKx_5 lHKx mHKx HKx HQ hp68
        have HB := qHB
        clear qHB
        have HKa := qHKa
        clear qHKa
        have cHKa_0 := HKa.out.cell (i := 0) rfl
        have zHKa_0 := HKa.out.frozen 0
        have cHKa_1 := HKa.out.cell (i := 1) rfl
        have zHKa_1 := HKa.out.frozen 1
        have cHKa_2 := HKa.out.cell (i := 2) rfl
        have zHKa_2 := HKa.out.frozen 2
        have cHKa_3 := HKa.out.cell (i := 3) rfl
        have zHKa_3 := HKa.out.frozen 3
        have cHKa_4 := HKa.out.cell (i := 4) rfl
        have zHKa_4 := HKa.out.frozen 4
        have cHKa_5 := HKa.out.cell (i := 5) rfl
        have zHKa_5 := HKa.out.frozen 5
        have lHKa := HKa.out.lt
        have mHKa := Nat.le_of_lt lHKa
        have HKr := qHKr
        clear qHKr
        have cHKr_0 := HKr.out.cell (i := 0) rfl
        have zHKr_0 := HKr.out.frozen 0
        have cHKr_1 := HKr.out.cell (i := 1) rfl
        have zHKr_1 := HKr.out.frozen 1
        have cHKr_2 := HKr.out.cell (i := 2) rfl
        have zHKr_2 := HKr.out.frozen 2
        have cHKr_3 := HKr.out.cell (i := 3) rfl
        have zHKr_3 := HKr.out.frozen 3
        have cHKr_4 := HKr.out.cell (i := 4) rfl
        have zHKr_4 := HKr.out.frozen 4
        have lHKr := HKr.out.lt
        have mHKr := Nat.le_of_lt lHKr
        have HOw := qHOw
        clear qHOw
        have HKw := qHKw
        clear qHKw
        have cHKw_0 := HKw.out.cell (i := 0) rfl
        have zHKw_0 := HKw.out.frozen 0
        have cHKw_1 := HKw.out.cell (i := 1) rfl
        have zHKw_1 := HKw.out.frozen 1
        have cHKw_2 := HKw.out.cell (i := 2) rfl
        have zHKw_2 := HKw.out.frozen 2
        have cHKw_3 := HKw.out.cell (i := 3) rfl
        have zHKw_3 := HKw.out.frozen 3
        have cHKw_4 := HKw.out.cell (i := 4) rfl
        have zHKw_4 := HKw.out.frozen 4
        have cHKw_5 := HKw.out.cell (i := 5) rfl
        have zHKw_5 := HKw.out.frozen 5
        have lHKw := HKw.out.lt
        have mHKw := Nat.le_of_lt lHKw
        have HOx := qHOx
        clear qHOx
        have HKx := qHKx
        clear qHKx
        have cHKx_0 := HKx.out.cell (i := 0) rfl
        have zHKx_0 := HKx.out.frozen 0
        have cHKx_1 := HKx.out.cell (i := 1) rfl
        have zHKx_1 := HKx.out.frozen 1
        have cHKx_2 := HKx.out.cell (i := 2) rfl
        have zHKx_2 := HKx.out.frozen 2
        have cHKx_3 := HKx.out.cell (i := 3) rfl
        have zHKx_3 := HKx.out.frozen 3
        have cHKx_4 := HKx.out.cell (i := 4) rfl
        have zHKx_4 := HKx.out.frozen 4
        have cHKx_5 := HKx.out.cell (i := 5) rfl
        have zHKx_5 := HKx.out.frozen 5
        have lHKx := HKx.out.lt
        have mHKx := Nat.le_of_lt lHKx
        have HQ := qHQ
        clear qHQ
        have hsW68 : w.heap.size ≤ W68.heap.size := HB.out.size
        go_wp2_with fail
        refine onward_K ⟨cHKx_0, cHKx_1, cHKx_2, cHKx_3, cHKx_4, cHKx_5, cHKr_0, cHKr_1, cHKr_2, cHKr_3, cHKr_4⟩ (hJ _ _ ?_)
        clear hJ J
        refine wpPlt_two (fun J hJ => ?_) (fun J hJ => ?_)
        · simp only [List.getD_cons_zero, List.getD_cons_succ]
          go_wp2_with fail
          have tHKa_g := lHKa
          have tHKr_g := lHKr
          have Htw_g := Lib.hid (Lt.of_row lenR (by decide) HOw.out.row HLw.out)
          have tHKw_g := lHKw
          have Htx_g := Lib.hid (Lt.of_row lenR (by decide) HOx.out.row HLx.out)
          have tHKx_g := lHKx
          have s_g : w.heap.size ≤ W68.heap.size := HB.out.size
          have u_g : _ ≤ W68.heap.size := HQ.out.size
          refine (c_iSendOn _ cr0 bk0 _ _ _ nx _ x0 x1 x2 x3 x4 x5 _ cr' st' ys z HLx.out (by omega) hcr hbk hst hgt (HOx.out).row HZ.out).mono ?_
          rintro _ W69 ⟨Ag, ng, cg, rfl, hlg, hcg, hmg, hOg, p69, hp69⟩
          have qHB := Lib.hid (below_to hp69 HB.out)
          have qHKa := Lib.hid (Blk.to hp69 HKa.out)
          have qHKr := Lib.hid (Blk.to hp69 HKr.out)
          have qHOw := Lib.hid (own_to hp69 HOw.out)
          have qHKw := Lib.hid (Blk.to hp69 HKw.out)
          have qHOx := Lib.hid (own_to hp69 HOx.out)
          have qHKx := Lib.hid (Blk.to hp69 HKx.out)
          have qHQ := Lib.hid (below_to hp69 HQ.out)
          clear HB cHKa_0 zHKa_0 cHKa_1 zHKa_1 cHKa_2 zHKa_2 cHKa_3 zHKa_3 cHKa_4 zHKa_4 cHKa_5 zHKa_5 lHKa mHKa HKa cHKr_0 zHKr_0 cHKr_1 zHKr_1 cHKr_2 zHKr_2 cHKr_3 zHKr_3 cHKr_4 zHKr_4 lHKr mHKr HKr HOw cHKw_0 zHKw_0 cHKw_1 zHKw_1 cHKw_2 zHKw_2 cHKw_3 zHKw_3 cHKw_4 zHKw_4 cHKw_5 zHKw_5 lHKw mHKw HKw HOx cHKx_0 zHKx_0 cHKx_1 zHKx_1 cHKx_2 zHKx_2 cHKx_3 zHKx_3 cHKx_4 zHKx_4 cHKx_5 zHKx_5 lHKx mHKx HKx HQ hp69
          have HB := qHB
          clear qHB
          have HKa := qHKa
          clear qHKa
          have cHKa_0 := HKa.out.cell (i := 0) rfl
          have zHKa_0 := HKa.out.frozen 0
          have cHKa_1 := HKa.out.cell (i := 1) rfl
          have zHKa_1 := HKa.out.frozen 1
          have cHKa_2 := HKa.out.cell (i := 2) rfl
          have zHKa_2 := HKa.out.frozen 2
          have cHKa_3 := HKa.out.cell (i := 3) rfl
          have zHKa_3 := HKa.out.frozen 3
          have cHKa_4 := HKa.out.cell (i := 4) rfl
          have zHKa_4 := HKa.out.frozen 4
          have cHKa_5 := HKa.out.cell (i := 5) rfl
          have zHKa_5 := HKa.out.frozen 5
          have lHKa := HKa.out.lt
          have mHKa := Nat.le_of_lt lHKa
          have HKr := qHKr
          clear qHKr
          have cHKr_0 := HKr.out.cell (i := 0) rfl
          have zHKr_0 := HKr.out.frozen 0
          have cHKr_1 := HKr.out.cell (i := 1) rfl
          have zHKr_1 := HKr.out.frozen 1
          have cHKr_2 := HKr.out.cell (i := 2) rfl
          have zHKr_2 := HKr.out.frozen 2
          have cHKr_3 := HKr.out.cell (i := 3) rfl
          have zHKr_3 := HKr.out.frozen 3
          have cHKr_4 := HKr.out.cell (i := 4) rfl
          have zHKr_4 := HKr.out.frozen 4
          have lHKr := HKr.out.lt
          have mHKr := Nat.le_of_lt lHKr
          have HOw := qHOw
          clear qHOw
          have HKw := qHKw
          clear qHKw
          have cHKw_0 := HKw.out.cell (i := 0) rfl
          have zHKw_0 := HKw.out.frozen 0
          have cHKw_1 := HKw.out.cell (i := 1) rfl
          have zHKw_1 := HKw.out.frozen 1
          have cHKw_2 := HKw.out.cell (i := 2) rfl
          have zHKw_2 := HKw.out.frozen 2
          have cHKw_3 := HKw.out.cell (i := 3) rfl
          have zHKw_3 := HKw.out.frozen 3
          have cHKw_4 := HKw.out.cell (i := 4) rfl
          have zHKw_4 := HKw.out.frozen 4
          have cHKw_5 := HKw.out.cell (i := 5) rfl
          have zHKw_5 := HKw.out.frozen 5
          have lHKw := HKw.out.lt
          have mHKw := Nat.le_of_lt lHKw
          have HOx := qHOx
          clear qHOx
          have HKx := qHKx
          clear qHKx
          have cHKx_0 := HKx.out.cell (i := 0) rfl
          have zHKx_0 := HKx.out.frozen 0
          have cHKx_1 := HKx.out.cell (i := 1) rfl
          have zHKx_1 := HKx.out.frozen 1
          have cHKx_2 := HKx.out.cell (i := 2) rfl
          have zHKx_2 := HKx.out.frozen 2
          have cHKx_3 := HKx.out.cell (i := 3) rfl
          have zHKx_3 := HKx.out.frozen 3
          have cHKx_4 := HKx.out.cell (i := 4) rfl
          have zHKx_4 := HKx.out.frozen 4
          have cHKx_5 := HKx.out.cell (i := 5) rfl
          have zHKx_5 := HKx.out.frozen 5
          have lHKx := HKx.out.lt
          have mHKx := Nat.le_of_lt lHKx
          have HQ := qHQ
          clear qHQ
          have hsW69 : w.heap.size ≤ W69.heap.size := HB.out.size
          have HOg := Lib.hid hOg
          have HLg := Lib.hid hlg
          clear hOg hlg
          unfold maxLen at hmg
          have hbg : ng ≤ 1048580 := by rw [← HLg.out]; exact hyl
          have hmg' : ng ≤ 9223372036854775807 := by omega
          go_wp2_with fail
          refine onward_K ⟨cHKx_0, cHKx_1, cHKx_2, cHKx_3, cHKx_4, cHKx_5, cHKr_0, cHKr_1, cHKr_2, cHKr_3, cHKr_4⟩ (hJ _ _ ?_)
          clear hJ J
          (repeat (refine wpPlt_pick (fun J hJ => ?_); simp only [List.getD_cons_zero, List.getD_cons_succ]; first | (go_simp; refine hJ _ ?_; clear hJ J) | (go_simp; refine ⟨_, (fun w1 => by (repeat (intro hh; try simp only [hh, Result.andThen])); rfl), ?_⟩; refine hJ _ ?_; clear hJ J)))
          refine wpPlt_one (fun J hJ => ?_)
          simp only [List.getD_cons_zero, List.getD_cons_succ]
          obtain ⟨gx, hgx⟩ : ∃ g, W69.heap.size = g := ⟨_, rfl⟩
          have hgl : W66.heap.size ≤ gx := by rw [← hgx]; exact HQ.out.size
          have hne : some gx ≠ ob Ag ng := fun e => by have := Lt.of_row lenR (by decide) HOg.out.row HLg.out _ e; omega
          go_wp2_with fail
          refine onward_K ⟨(HKx.out.alloc _).cell (i := 0) rfl, (HKx.out.alloc _).cell (i := 1) rfl, (HKx.out.alloc _).cell (i := 2) rfl, (HKx.out.alloc _).cell (i := 3) rfl, (HKx.out.alloc _).cell (i := 4) rfl, (HKx.out.alloc _).cell (i := 5) rfl, (HKr.out.alloc _).cell (i := 0) rfl, (HKr.out.alloc _).cell (i := 1) rfl, (HKr.out.alloc _).cell (i := 2) rfl, (HKr.out.alloc _).cell (i := 3) rfl, (HKr.out.alloc _).cell (i := 4) rfl⟩ (hJ _ _ ?_)
          clear hJ J
          refine plt_anchor (F := fun V => (∃ p : Later, V = later W69 p) ∧ Blk gx [.int .i64 0, .slice Option.none 0 0, .int .i64 0, .int .i64 0, .int .i64 0, .int .i64 0] 35 V) ⟨later_of_below ((Below.refl _ _).alloc (Nat.le_refl _) _), Blk.new _ _ [.int .i64 0, .slice Option.none 0 0, .int .i64 0, .int .i64 0, .int .i64 0, .int .i64 0] _ hgx.symm⟩ (fun W70 hV => ?_)
          obtain ⟨⟨p, hp⟩, qX⟩ := hV
          have qHB := Lib.hid (below_to hp HB.out)
          have qHKa := Lib.hid (Blk.to hp HKa.out)
          have qHKr := Lib.hid (Blk.to hp HKr.out)
          have qHOw := Lib.hid (own_to hp HOw.out)
          have qHKw := Lib.hid (Blk.to hp HKw.out)
          have qHOx := Lib.hid (own_to hp HOx.out)
          have qHKx := Lib.hid (Blk.to hp HKx.out)
          have qHQ := Lib.hid (below_to hp HQ.out)
          have qHOg := Lib.hid (own_to hp HOg.out)
          clear HB cHKa_0 zHKa_0 cHKa_1 zHKa_1 cHKa_2 zHKa_2 cHKa_3 zHKa_3 cHKa_4 zHKa_4 cHKa_5 zHKa_5 lHKa mHKa HKa cHKr_0 zHKr_0 cHKr_1 zHKr_1 cHKr_2 zHKr_2 cHKr_3 zHKr_3 cHKr_4 zHKr_4 lHKr mHKr HKr HOw cHKw_0 zHKw_0 cHKw_1 zHKw_1 cHKw_2 zHKw_2 cHKw_3 zHKw_3 cHKw_4 zHKw_4 cHKw_5 zHKw_5 lHKw mHKw HKw HOx cHKx_0 zHKx_0 cHKx_1 zHKx_1 cHKx_2 zHKx_2 cHKx_3 zHKx_3 cHKx_4 zHKx_4 cHKx_5 zHKx_5 lHKx mHKx HKx HQ HOg hp
          have HB := qHB
          clear qHB
          have HKa := qHKa
          clear qHKa
          have cHKa_0 := HKa.out.cell (i := 0) rfl
          have zHKa_0 := HKa.out.frozen 0
          have cHKa_1 := HKa.out.cell (i := 1) rfl
          have zHKa_1 := HKa.out.frozen 1
          have cHKa_2 := HKa.out.cell (i := 2) rfl
          have zHKa_2 := HKa.out.frozen 2
          have cHKa_3 := HKa.out.cell (i := 3) rfl
          have zHKa_3 := HKa.out.frozen 3
          have cHKa_4 := HKa.out.cell (i := 4) rfl
          have zHKa_4 := HKa.out.frozen 4
          have cHKa_5 := HKa.out.cell (i := 5) rfl
          have zHKa_5 := HKa.out.frozen 5
          have lHKa := HKa.out.lt
          have mHKa := Nat.le_of_lt lHKa
          have HKr := qHKr
          clear qHKr
          have cHKr_0 := HKr.out.cell (i := 0) rfl
          have zHKr_0 := HKr.out.frozen 0
          have cHKr_1 := HKr.out.cell (i := 1) rfl
          have zHKr_1 := HKr.out.frozen 1
          have cHKr_2 := HKr.out.cell (i := 2) rfl
          have zHKr_2 := HKr.out.frozen 2
          have cHKr_3 := HKr.out.cell (i := 3) rfl
          have zHKr_3 := HKr.out.frozen 3
          have cHKr_4 := HKr.out.cell (i := 4) rfl
          have zHKr_4 := HKr.out.frozen 4
          have lHKr := HKr.out.lt
          have mHKr := Nat.le_of_lt lHKr
          have HOw := qHOw
          clear qHOw
          have HKw := qHKw
          clear qHKw
          have cHKw_0 := HKw.out.cell (i := 0) rfl
          have zHKw_0 := HKw.out.frozen 0
          have cHKw_1 := HKw.out.cell (i := 1) rfl
          have zHKw_1 := HKw.out.frozen 1
          have cHKw_2 := HKw.out.cell (i := 2) rfl
          have zHKw_2 := HKw.out.frozen 2
          have cHKw_3 := HKw.out.cell (i := 3) rfl
          have zHKw_3 := HKw.out.frozen 3
          have cHKw_4 := HKw.out.cell (i := 4) rfl
          have zHKw_4 := HKw.out.frozen 4
          have cHKw_5 := HKw.out.cell (i := 5) rfl
          have zHKw_5 := HKw.out.frozen 5
          have lHKw := HKw.out.lt
          have mHKw := Nat.le_of_lt lHKw
          have HOx := qHOx
          clear qHOx
          have HKx := qHKx
          clear qHKx
          have cHKx_0 := HKx.out.cell (i := 0) rfl
          have zHKx_0 := HKx.out.frozen 0
          have cHKx_1 := HKx.out.cell (i := 1) rfl
          have zHKx_1 := HKx.out.frozen 1
          have cHKx_2 := HKx.out.cell (i := 2) rfl
          have zHKx_2 := HKx.out.frozen 2
          have cHKx_3 := HKx.out.cell (i := 3) rfl
          have zHKx_3 := HKx.out.frozen 3
          have cHKx_4 := HKx.out.cell (i := 4) rfl
          have zHKx_4 := HKx.out.frozen 4
          have cHKx_5 := HKx.out.cell (i := 5) rfl
          have zHKx_5 := HKx.out.frozen 5
          have lHKx := HKx.out.lt
          have mHKx := Nat.le_of_lt lHKx
          have HQ := qHQ
          clear qHQ
          have HOg := qHOg
          clear qHOg
          have hsW70 : w.heap.size ≤ W70.heap.size := HB.out.size
          clear hgx
          have HX := Lib.hid (qX)
          have cHX_0 := HX.out.cell (i := 0) rfl
          have zHX_0 := HX.out.frozen 0
          have cHX_1 := HX.out.cell (i := 1) rfl
          have zHX_1 := HX.out.frozen 1
          have cHX_2 := HX.out.cell (i := 2) rfl
          have zHX_2 := HX.out.frozen 2
          have cHX_3 := HX.out.cell (i := 3) rfl
          have zHX_3 := HX.out.frozen 3
          have cHX_4 := HX.out.cell (i := 4) rfl
          have zHX_4 := HX.out.frozen 4
          have cHX_5 := HX.out.cell (i := 5) rfl
          have zHX_5 := HX.out.frozen 5
          have lHX := HX.out.lt
          have mHX := Nat.le_of_lt lHX
          clear qX
          refine wpPlt_one (fun J hJ => ?_)
          simp only [List.getD_cons_zero, List.getD_cons_succ]
          go_wp2_with fail
          refine onward_anchor (F := fun V => Below W66.heap.size W66 V ∧ Own encR 5 W66.heap.size V Ag ys ∧ Blk gx [.int .i64 cap0, .slice Ag ng cg, .int .i64 cr', .int .i64 bk0, .int .i64 st', .int .i64 gt0] 35 V ∧ Blk (W64.heap.size) [.int .i64 cap0, .slice Ax nx cx, .int .i64 cr0, .int .i64 bk0, .int .i64 st0, .int .i64 gt0] 35 V ∧ Blk (w.heap.size + 1) [.int .i64 x1, .int .i64 x2, .int .i64 x3, .int .i64 x4, .int .i64 x5] 45 V) ⟨(by (repeat (first | with_reducible exact HQ.out | with_reducible refine Below.setCell ?_ (by dsimp only; omega) _)); done), (by (repeat (first | with_reducible exact HOg.out.mono (by omega) | with_reducible refine Own.set ?_ HLg.out _ _ hne)); done), (((((((HX.out.set 0 _).set 1 _).set 2 _).set 3 _).set 4 _).set 5 _).conv rfl), (by (repeat (first | with_reducible exact HKx.out | with_reducible refine Blk.other ?_ (by dsimp only; omega) _)); done), (by (repeat (first | with_reducible exact HKr.out | with_reducible refine Blk.other ?_ (by dsimp only; omega) _)); done)⟩ (fun W71 hV => ?_)
          obtain ⟨q1, q2, q3, rHKx, rHKr⟩ := hV
          refine onward_K ⟨rHKx.cell (i := 0) rfl, rHKx.cell (i := 1) rfl, rHKx.cell (i := 2) rfl, rHKx.cell (i := 3) rfl, rHKx.cell (i := 4) rfl, rHKx.cell (i := 5) rfl, rHKr.cell (i := 0) rfl, rHKr.cell (i := 1) rfl, rHKr.cell (i := 2) rfl, rHKr.cell (i := 3) rfl, rHKr.cell (i := 4) rfl⟩ (hJ _ _ ?_)
          clear hJ J
          (repeat (refine wpPlt_pick (fun J hJ => ?_); simp only [List.getD_cons_zero, List.getD_cons_succ]; first | (go_simp; refine hJ _ ?_; clear hJ J) | (go_simp; refine ⟨_, (fun w1 => by (repeat (intro hh; try simp only [hh, Result.andThen])); rfl), ?_⟩; refine hJ _ ?_; clear hJ J)))
          refine wpPlt_nil ?_
          go_wp2_with fail
          go_meet
          obtain ⟨p, hp⟩ := later_of_below q1
          exact ⟨gx, Ag, ng, cg, p, rfl, rfl, HLg.out, hmg', hgl, hne, q2, q3, hp⟩
        · simp only [List.getD_cons_zero, List.getD_cons_succ]
          obtain ⟨gx, hgx⟩ : ∃ g, W68.heap.size = g := ⟨_, rfl⟩
          have hgl : W66.heap.size ≤ gx := by rw [← hgx]; exact HQ.out.size
          go_wp2_with fail
          refine onward_K ⟨(HKx.out.alloc _).cell (i := 0) rfl, (HKx.out.alloc _).cell (i := 1) rfl, (HKx.out.alloc _).cell (i := 2) rfl, (HKx.out.alloc _).cell (i := 3) rfl, (HKx.out.alloc _).cell (i := 4) rfl, (HKx.out.alloc _).cell (i := 5) rfl, (HKr.out.alloc _).cell (i := 0) rfl, (HKr.out.alloc _).cell (i := 1) rfl, (HKr.out.alloc _).cell (i := 2) rfl, (HKr.out.alloc _).cell (i := 3) rfl, (HKr.out.alloc _).cell (i := 4) rfl⟩ (hJ _ _ ?_)
          clear hJ J
          refine plt_anchor (F := fun V => (∃ p : Later, V = later W68 p) ∧ Blk gx [.int .i64 0, .slice Option.none 0 0, .int .i64 0, .int .i64 0, .int .i64 0, .int .i64 0] 35 V) ⟨later_of_below ((Below.refl _ _).alloc (Nat.le_refl _) _), Blk.new _ _ [.int .i64 0, .slice Option.none 0 0, .int .i64 0, .int .i64 0, .int .i64 0, .int .i64 0] _ hgx.symm⟩ (fun W69 hV => ?_)
          obtain ⟨⟨p, hp⟩, qX⟩ := hV
          have qHB := Lib.hid (below_to hp HB.out)
          have qHKa := Lib.hid (Blk.to hp HKa.out)
          have qHKr := Lib.hid (Blk.to hp HKr.out)
          have qHOw := Lib.hid (own_to hp HOw.out)
          have qHKw := Lib.hid (Blk.to hp HKw.out)
          have qHOx := Lib.hid (own_to hp HOx.out)
          have qHKx := Lib.hid (Blk.to hp HKx.out)
          have qHQ := Lib.hid (below_to hp HQ.out)
          clear HB cHKa_0 zHKa_0 cHKa_1 zHKa_1 cHKa_2 zHKa_2 cHKa_3 zHKa_3 cHKa_4 zHKa_4 cHKa_5 zHKa_5 lHKa mHKa HKa cHKr_0 zHKr_0 cHKr_1 zHKr_1 cHKr_2 zHKr_2 cHKr_3 zHKr_3 cHKr_4 zHKr_4 lHKr mHKr HKr HOw cHKw_0 zHKw_0 cHKw_1 zHKw_1 cHKw_2 zHKw_2 cHKw_3 zHKw_3 cHKw_4 zHKw_4 cHKw_5 zHKw_5 lHKw mHKw HKw HOx cHKx_0 zHKx_0 cHKx_1 zHKx_1 cHKx_2 zHKx_2 cHKx_3 zHKx_3 cHKx_4 zHKx_4 cHKx_5 zHKx_5 lHKx mHKx HKx HQ hp
          have HB := qHB
          clear qHB
          have HKa := qHKa
          clear qHKa
          have cHKa_0 := HKa.out.cell (i := 0) rfl
          have zHKa_0 := HKa.out.frozen 0
          have cHKa_1 := HKa.out.cell (i := 1) rfl
          have zHKa_1 := HKa.out.frozen 1
          have cHKa_2 := HKa.out.cell (i := 2) rfl
          have zHKa_2 := HKa.out.frozen 2
          have cHKa_3 := HKa.out.cell (i := 3) rfl
          have zHKa_3 := HKa.out.frozen 3
          have cHKa_4 := HKa.out.cell (i := 4) rfl
          have zHKa_4 := HKa.out.frozen 4
          have cHKa_5 := HKa.out.cell (i := 5) rfl
          have zHKa_5 := HKa.out.frozen 5
          have lHKa := HKa.out.lt
          have mHKa := Nat.le_of_lt lHKa
          have HKr := qHKr
          clear qHKr
          have cHKr_0 := HKr.out.cell (i := 0) rfl
          have zHKr_0 := HKr.out.frozen 0
          have cHKr_1 := HKr.out.cell (i := 1) rfl
          have zHKr_1 := HKr.out.frozen 1
          have cHKr_2 := HKr.out.cell (i := 2) rfl
          have zHKr_2 := HKr.out.frozen 2
          have cHKr_3 := HKr.out.cell (i := 3) rfl
          have zHKr_3 := HKr.out.frozen 3
          have cHKr_4 := HKr.out.cell (i := 4) rfl
          have zHKr_4 := HKr.out.frozen 4
          have lHKr := HKr.out.lt
          have mHKr := Nat.le_of_lt lHKr
          have HOw := qHOw
          clear qHOw
          have HKw := qHKw
          clear qHKw
          have cHKw_0 := HKw.out.cell (i := 0) rfl
          have zHKw_0 := HKw.out.frozen 0
          have cHKw_1 := HKw.out.cell (i := 1) rfl
          have zHKw_1 := HKw.out.frozen 1
          have cHKw_2 := HKw.out.cell (i := 2) rfl
          have zHKw_2 := HKw.out.frozen 2
          have cHKw_3 := HKw.out.cell (i := 3) rfl
          have zHKw_3 := HKw.out.frozen 3
          have cHKw_4 := HKw.out.cell (i := 4) rfl
          have zHKw_4 := HKw.out.frozen 4
          have cHKw_5 := HKw.out.cell (i := 5) rfl
          have zHKw_5 := HKw.out.frozen 5
          have lHKw := HKw.out.lt
          have mHKw := Nat.le_of_lt lHKw
          have HOx := qHOx
          clear qHOx
          have HKx := qHKx
          clear qHKx
          have cHKx_0 := HKx.out.cell (i := 0) rfl
          have zHKx_0 := HKx.out.frozen 0
          have cHKx_1 := HKx.out.cell (i := 1) rfl
          have zHKx_1 := HKx.out.frozen 1
          have cHKx_2 := HKx.out.cell (i := 2) rfl
          have zHKx_2 := HKx.out.frozen 2
          have cHKx_3 := HKx.out.cell (i := 3) rfl
          have zHKx_3 := HKx.out.frozen 3
          have cHKx_4 := HKx.out.cell (i := 4) rfl
          have zHKx_4 := HKx.out.frozen 4
          have cHKx_5 := HKx.out.cell (i := 5) rfl
          have zHKx_5 := HKx.out.frozen 5
          have lHKx := HKx.out.lt
          have mHKx := Nat.le_of_lt lHKx
          have HQ := qHQ
          clear qHQ
          have hsW69 : w.heap.size ≤ W69.heap.size := HB.out.size
          clear hgx
          have HX := Lib.hid (qX)
          have cHX_0 := HX.out.cell (i := 0) rfl
          have zHX_0 := HX.out.frozen 0
          have cHX_1 := HX.out.cell (i := 1) rfl
          have zHX_1 := HX.out.frozen 1
          have cHX_2 := HX.out.cell (i := 2) rfl
          have zHX_2 := HX.out.frozen 2
          have cHX_3 := HX.out.cell (i := 3) rfl
          have zHX_3 := HX.out.frozen 3
          have cHX_4 := HX.out.cell (i := 4) rfl
          have zHX_4 := HX.out.frozen 4
          have cHX_5 := HX.out.cell (i := 5) rfl
          have zHX_5 := HX.out.frozen 5
          have lHX := HX.out.lt
          have mHX := Nat.le_of_lt lHX
          clear qX
          refine wpPlt_one (fun J hJ => ?_)
          simp only [List.getD_cons_zero, List.getD_cons_succ]
          go_wp2_with fail
          have tHKa_g := lHKa
          have tHKr_g := lHKr
          have Htw_g := Lib.hid (Lt.of_row lenR (by decide) HOw.out.row HLw.out)
          have tHKw_g := lHKw
          have Htx_g := Lib.hid (Lt.of_row lenR (by decide) HOx.out.row HLx.out)
          have tHKx_g := lHKx
          have tHX_g := lHX
          have s_g : w.heap.size ≤ W69.heap.size := HB.out.size
          have u_g : _ ≤ W69.heap.size := HQ.out.size
          refine (c_iSendOn _ cr0 bk0 _ _ _ nx _ x0 x1 x2 x3 x4 x5 _ cr' st' ys z HLx.out (by omega) hcr hbk hst hgt (HOx.out).row HZ.out).mono ?_
          rintro _ W70 ⟨Ag, ng, cg, rfl, hlg, hcg, hmg, hOg, p70, hp70⟩
          have qHB := Lib.hid (below_to hp70 HB.out)
          have qHKa := Lib.hid (Blk.to hp70 HKa.out)
          have qHKr := Lib.hid (Blk.to hp70 HKr.out)
          have qHOw := Lib.hid (own_to hp70 HOw.out)
          have qHKw := Lib.hid (Blk.to hp70 HKw.out)
          have qHOx := Lib.hid (own_to hp70 HOx.out)
          have qHKx := Lib.hid (Blk.to hp70 HKx.out)
          have qHQ := Lib.hid (below_to hp70 HQ.out)
          have qHX := Lib.hid (Blk.to hp70 HX.out)
          clear HB cHKa_0 zHKa_0 cHKa_1 zHKa_1 cHKa_2 zHKa_2 cHKa_3 zHKa_3 cHKa_4 zHKa_4 cHKa_5 zHKa_5 lHKa mHKa HKa cHKr_0 zHKr_0 cHKr_1 zHKr_1 cHKr_2 zHKr_2 cHKr_3 zHKr_3 cHKr_4 zHKr_4 lHKr mHKr HKr HOw cHKw_0 zHKw_0 cHKw_1 zHKw_1 cHKw_2 zHKw_2 cHKw_3 zHKw_3 cHKw_4 zHKw_4 cHKw_5 zHKw_5 lHKw mHKw HKw HOx cHKx_0 zHKx_0 cHKx_1 zHKx_1 cHKx_2 zHKx_2 cHKx_3 zHKx_3 cHKx_4 zHKx_4 cHKx_5 zHKx_5 lHKx mHKx HKx HQ cHX_0 zHX_0 cHX_1 zHX_1 cHX_2 zHX_2 cHX_3 zHX_3 cHX_4 zHX_4 cHX_5 zHX_5 lHX mHX HX hp70
          have HB := qHB
          clear qHB
          have HKa := qHKa
          clear qHKa
          have cHKa_0 := HKa.out.cell (i := 0) rfl
          have zHKa_0 := HKa.out.frozen 0
          have cHKa_1 := HKa.out.cell (i := 1) rfl
          have zHKa_1 := HKa.out.frozen 1
          have cHKa_2 := HKa.out.cell (i := 2) rfl
          have zHKa_2 := HKa.out.frozen 2
          have cHKa_3 := HKa.out.cell (i := 3) rfl
          have zHKa_3 := HKa.out.frozen 3
          have cHKa_4 := HKa.out.cell (i := 4) rfl
          have zHKa_4 := HKa.out.frozen 4
          have cHKa_5 := HKa.out.cell (i := 5) rfl
          have zHKa_5 := HKa.out.frozen 5
          have lHKa := HKa.out.lt
          have mHKa := Nat.le_of_lt lHKa
          have HKr := qHKr
          clear qHKr
          have cHKr_0 := HKr.out.cell (i := 0) rfl
          have zHKr_0 := HKr.out.frozen 0
          have cHKr_1 := HKr.out.cell (i := 1) rfl
          have zHKr_1 := HKr.out.frozen 1
          have cHKr_2 := HKr.out.cell (i := 2) rfl
          have zHKr_2 := HKr.out.frozen 2
          have cHKr_3 := HKr.out.cell (i := 3) rfl
          have zHKr_3 := HKr.out.frozen 3
          have cHKr_4 := HKr.out.cell (i := 4) rfl
          have zHKr_4 := HKr.out.frozen 4
          have lHKr := HKr.out.lt
          have mHKr := Nat.le_of_lt lHKr
          have HOw := qHOw
          clear qHOw
          have HKw := qHKw
          clear qHKw
          have cHKw_0 := HKw.out.cell (i := 0) rfl
          have zHKw_0 := HKw.out.frozen 0
          have cHKw_1 := HKw.out.cell (i := 1) rfl
          have zHKw_1 := HKw.out.frozen 1
          have cHKw_2 := HKw.out.cell (i := 2) rfl
          have zHKw_2 := HKw.out.frozen 2
          have cHKw_3 := HKw.out.cell (i := 3) rfl
          have zHKw_3 := HKw.out.frozen 3
          have cHKw_4 := HKw.out.cell (i := 4) rfl
          have zHKw_4 := HKw.out.frozen 4
          have cHKw_5 := HKw.out.cell (i := 5) rfl
          have zHKw_5 := HKw.out.frozen 5
          have lHKw := HKw.out.lt
          have mHKw := Nat.le_of_lt lHKw
          have HOx := qHOx
          clear qHOx
          have HKx := qHKx
          clear qHKx
          have cHKx_0 := HKx.out.cell (i := 0) rfl
          have zHKx_0 := HKx.out.frozen 0
          have cHKx_1 := HKx.out.cell (i := 1) rfl
          have zHKx_1 := HKx.out.frozen 1
          have cHKx_2 := HKx.out.cell (i := 2) rfl
          have zHKx_2 := HKx.out.frozen 2
          have cHKx_3 := HKx.out.cell (i := 3) rfl
          have zHKx_3 := HKx.out.frozen 3
          have cHKx_4 := HKx.out.cell (i := 4) rfl
          have zHKx_4 := HKx.out.frozen 4
          have cHKx_5 := HKx.out.cell (i := 5) rfl
          have zHKx_5 := HKx.out.frozen 5
          have lHKx := HKx.out.lt
          have mHKx := Nat.le_of_lt lHKx
          have HQ := qHQ
          clear qHQ
          have HX := qHX
          clear qHX
          have cHX_0 := HX.out.cell (i := 0) rfl
          have zHX_0 := HX.out.frozen 0
          have cHX_1 := HX.out.cell (i := 1) rfl
          have zHX_1 := HX.out.frozen 1
          have cHX_2 := HX.out.cell (i := 2) rfl
          have zHX_2 := HX.out.frozen 2
          have cHX_3 := HX.out.cell (i := 3) rfl
          have zHX_3 := HX.out.frozen 3
          have cHX_4 := HX.out.cell (i := 4) rfl
          have zHX_4 := HX.out.frozen 4
          have cHX_5 := HX.out.cell (i := 5) rfl
          have zHX_5 := HX.out.frozen 5
          have lHX := HX.out.lt
          have mHX := Nat.le_of_lt lHX
          have hsW70 : w.heap.size ≤ W70.heap.size := HB.out.size
          have HOg := Lib.hid hOg
          have HLg := Lib.hid hlg
          clear hOg hlg
          unfold maxLen at hmg
          have hbg : ng ≤ 1048580 := by rw [← HLg.out]; exact hyl
          have hmg' : ng ≤ 9223372036854775807 := by omega
          go_wp2_with fail
          refine onward_K ⟨cHKx_0, cHKx_1, cHKx_2, cHKx_3, cHKx_4, cHKx_5, cHKr_0, cHKr_1, cHKr_2, cHKr_3, cHKr_4⟩ (hJ _ _ ?_)
          clear hJ J
          (repeat (refine wpPlt_pick (fun J hJ => ?_); simp only [List.getD_cons_zero, List.getD_cons_succ]; first | (go_simp; refine hJ _ ?_; clear hJ J) | (go_simp; refine ⟨_, (fun w1 => by (repeat (intro hh; try simp only [hh, Result.andThen])); rfl), ?_⟩; refine hJ _ ?_; clear hJ J)))
          refine wpPlt_one (fun J hJ => ?_)
          simp only [List.getD_cons_zero, List.getD_cons_succ]
          go_wp2_with fail
          have hne : some gx ≠ ob Ag ng := fun e => by have := HOg.out.low HLg.out e; omega
          refine onward_anchor (F := fun V => Below W66.heap.size W66 V ∧ Own encR 5 W66.heap.size V Ag ys ∧ Blk gx [.int .i64 cap0, .slice Ag ng cg, .int .i64 cr', .int .i64 bk0, .int .i64 st', .int .i64 gt0] 35 V ∧ Blk (W64.heap.size) [.int .i64 cap0, .slice Ax nx cx, .int .i64 cr0, .int .i64 bk0, .int .i64 st0, .int .i64 gt0] 35 V ∧ Blk (w.heap.size + 1) [.int .i64 x1, .int .i64 x2, .int .i64 x3, .int .i64 x4, .int .i64 x5] 45 V) ⟨(by (repeat (first | with_reducible exact HQ.out | with_reducible refine Below.setCell ?_ (by dsimp only; omega) _)); done), (by (repeat (first | with_reducible exact HOg.out.mono (by omega) | with_reducible refine Own.set ?_ HLg.out _ _ hne)); done), (((((((HX.out.set 0 _).set 1 _).set 2 _).set 3 _).set 4 _).set 5 _).conv rfl), (by (repeat (first | with_reducible exact HKx.out | with_reducible refine Blk.other ?_ (by dsimp only; omega) _)); done), (by (repeat (first | with_reducible exact HKr.out | with_reducible refine Blk.other ?_ (by dsimp only; omega) _)); done)⟩ (fun W71 hV => ?_)
          obtain ⟨q1, q2, q3, rHKx, rHKr⟩ := hV
          refine onward_K ⟨rHKx.cell (i := 0) rfl, rHKx.cell (i := 1) rfl, rHKx.cell (i := 2) rfl, rHKx.cell (i := 3) rfl, rHKx.cell (i := 4) rfl, rHKx.cell (i := 5) rfl, rHKr.cell (i := 0) rfl, rHKr.cell (i := 1) rfl, rHKr.cell (i := 2) rfl, rHKr.cell (i := 3) rfl, rHKr.cell (i := 4) rfl⟩ (hJ _ _ ?_)
          clear hJ J
          (repeat (refine wpPlt_pick (fun J hJ => ?_); simp only [List.getD_cons_zero, List.getD_cons_succ]; first | (go_simp; refine hJ _ ?_; clear hJ J) | (go_simp; refine ⟨_, (fun w1 => by (repeat (intro hh; try simp only [hh, Result.andThen])); rfl), ?_⟩; refine hJ _ ?_; clear hJ J)))
          refine wpPlt_nil ?_
          go_wp2_with fail
          go_meet
          obtain ⟨p, hp⟩ := later_of_below q1
          exact ⟨gx, Ag, ng, cg, p, rfl, rfl, HLg.out, hmg', hgl, hne, q2, q3, hp⟩
      · simp only [List.getD_cons_zero, List.getD_cons_succ]
        obtain ⟨gx, hgx⟩ : ∃ g, W67.heap.size = g := ⟨_, rfl⟩
        have hgl : W66.heap.size ≤ gx := by rw [← hgx]; exact HQ.out.size
        go_wp2_with fail
        refine onward_K ⟨(HKx.out.alloc _).cell (i := 0) rfl, (HKx.out.alloc _).cell (i := 1) rfl, (HKx.out.alloc _).cell (i := 2) rfl, (HKx.out.alloc _).cell (i := 3) rfl, (HKx.out.alloc _).cell (i := 4) rfl, (HKx.out.alloc _).cell (i := 5) rfl, (HKr.out.alloc _).cell (i := 0) rfl, (HKr.out.alloc _).cell (i := 1) rfl, (HKr.out.alloc _).cell (i := 2) rfl, (HKr.out.alloc _).cell (i := 3) rfl, (HKr.out.alloc _).cell (i := 4) rfl⟩ (hJ _ _ ?_)
        clear hJ J
        refine plt_anchor (F := fun V => (∃ p : Later, V = later W67 p) ∧ Blk gx [.int .i64 0, .slice Option.none 0 0, .int .i64 0, .int .i64 0, .int .i64 0, .int .i64 0] 35 V) ⟨later_of_below ((Below.refl _ _).alloc (Nat.le_refl _) _), Blk.new _ _ [.int .i64 0, .slice Option.none 0 0, .int .i64 0, .int .i64 0, .int .i64 0, .int .i64 0] _ hgx.symm⟩ (fun W68 hV => ?_)
        obtain ⟨⟨p, hp⟩, qX⟩ := hV
        have qHB := Lib.hid (below_to hp HB.out)
        have qHKa := Lib.hid (Blk.to hp HKa.out)
        have qHKr := Lib.hid (Blk.to hp HKr.out)
        have qHOw := Lib.hid (own_to hp HOw.out)
        have qHKw := Lib.hid (Blk.to hp HKw.out)
        have qHOx := Lib.hid (own_to hp HOx.out)
        have qHKx := Lib.hid (Blk.to hp HKx.out)
        have qHQ := Lib.hid (below_to hp HQ.out)
        clear HB cHKa_0 zHKa_0 cHKa_1 zHKa_1 cHKa_2 zHKa_2 cHKa_3 zHKa_3 cHKa_4 zHKa_4 cHKa_5 zHKa_5 lHKa mHKa HKa cHKr_0 zHKr_0 cHKr_1 zHKr_1 cHKr_2 zHKr_2 cHKr_3 zHKr_3 cHKr_4 zHKr_4 lHKr mHKr HKr HOw cHKw_0 zHKw_0 cHKw_1 zHKw_1 cHKw_2 zHKw_2 cHKw_3 zHKw_3 cHKw_4 zHKw_4 cHKw_5 zHKw_5 lHKw mHKw HKw HOx cHKx_0 zHKx_0 cHKx_1 zHKx_1 cHKx_2 zHKx_2 cHKx_3 zHKx_3 cHKx_4 zHKx_4 cHKx_5 zHKx_5 lHKx mHKx HKx HQ hp
        have HB := qHB
        clear qHB
        have HKa := qHKa
        clear qHKa
        have cHKa_0 := HKa.out.cell (i := 0) rfl
        have zHKa_0 := HKa.out.frozen 0
        have cHKa_1 := HKa.out.cell (i := 1) rfl
        have zHKa_1 := HKa.out.frozen 1
        have cHKa_2 := HKa.out.cell (i := 2) rfl
        have zHKa_2 := HKa.out.frozen 2
        have cHKa_3 := HKa.out.cell (i := 3) rfl
        have zHKa_3 := HKa.out.frozen 3
        have cHKa_4 := HKa.out.cell (i := 4) rfl
        have zHKa_4 := HKa.out.frozen 4
        have cHKa_5 := HKa.out.cell (i := 5) rfl
        have zHKa_5 := HKa.out.frozen 5
        have lHKa := HKa.out.lt
        have mHKa := Nat.le_of_lt lHKa
        have HKr := qHKr
        clear qHKr
        have cHKr_0 := HKr.out.cell (i := 0) rfl
        have zHKr_0 := HKr.out.frozen 0
        have cHKr_1 := HKr.out.cell (i := 1) rfl
        have zHKr_1 := HKr.out.frozen 1
        have cHKr_2 := HKr.out.cell (i := 2) rfl
        have zHKr_2 := HKr.out.frozen 2
        have cHKr_3 := HKr.out.cell (i := 3) rfl
        have zHKr_3 := HKr.out.frozen 3
        have cHKr_4 := HKr.out.cell (i := 4) rfl
        have zHKr_4 := HKr.out.frozen 4
        have lHKr := HKr.out.lt
        have mHKr := Nat.le_of_lt lHKr
        have HOw := qHOw
        clear qHOw
        have HKw := qHKw
        clear qHKw
        have cHKw_0 := HKw.out.cell (i := 0) rfl
        have zHKw_0 := HKw.out.frozen 0
        have cHKw_1 := HKw.out.cell (i := 1) rfl
        have zHKw_1 := HKw.out.frozen 1
        have cHKw_2 := HKw.out.cell (i := 2) rfl
        have zHKw_2 := HKw.out.frozen 2
        have cHKw_3 := HKw.out.cell (i := 3) rfl
        have zHKw_3 := HKw.out.frozen 3
        have cHKw_4 := HKw.out.cell (i := 4) rfl
        have zHKw_4 := HKw.out.frozen 4
        have cHKw_5 := HKw.out.cell (i := 5) rfl
        have zHKw_5 := HKw.out.frozen 5
        have lHKw := HKw.out.lt
        have mHKw := Nat.le_of_lt lHKw
        have HOx := qHOx
        clear qHOx
        have HKx := qHKx
        clear qHKx
        have cHKx_0 := HKx.out.cell (i := 0) rfl
        have zHKx_0 := HKx.out.frozen 0
        have cHKx_1 := HKx.out.cell (i := 1) rfl
        have zHKx_1 := HKx.out.frozen 1
        have cHKx_2 := HKx.out.cell (i := 2) rfl
        have zHKx_2 := HKx.out.frozen 2
        have cHKx_3 := HKx.out.cell (i := 3) rfl
        have zHKx_3 := HKx.out.frozen 3
        have cHKx_4 := HKx.out.cell (i := 4) rfl
        have zHKx_4 := HKx.out.frozen 4
        have cHKx_5 := HKx.out.cell (i := 5) rfl
        have zHKx_5 := HKx.out.frozen 5
        have lHKx := HKx.out.lt
        have mHKx := Nat.le_of_lt lHKx
        have HQ := qHQ
        clear qHQ
        have hsW68 : w.heap.size ≤ W68.heap.size := HB.out.size
        clear hgx
        have HX := Lib.hid (qX)
        have cHX_0 := HX.out.cell (i := 0) rfl
        have zHX_0 := HX.out.frozen 0
        have cHX_1 := HX.out.cell (i := 1) rfl
        have zHX_1 := HX.out.frozen 1
        have cHX_2 := HX.out.cell (i := 2) rfl
        have zHX_2 := HX.out.frozen 2
        have cHX_3 := HX.out.cell (i := 3) rfl
        have zHX_3 := HX.out.frozen 3
        have cHX_4 := HX.out.cell (i := 4) rfl
        have zHX_4 := HX.out.frozen 4
        have cHX_5 := HX.out.cell (i := 5) rfl
        have zHX_5 := HX.out.frozen 5
        have lHX := HX.out.lt
        have mHX := Nat.le_of_lt lHX
        clear qX
        refine wpPlt_one (fun J hJ => ?_)
        simp only [List.getD_cons_zero, List.getD_cons_succ]
        go_wp2_with fail
        refine (c_toRecord _ _ _ _ _ _).mono ?_
        rintro _ W69 ⟨rfl, p69, hp69⟩
        have qHB := Lib.hid (below_to hp69 HB.out)
        have qHKa := Lib.hid (Blk.to hp69 HKa.out)
        have qHKr := Lib.hid (Blk.to hp69 HKr.out)
        have qHOw := Lib.hid (own_to hp69 HOw.out)
        have qHKw := Lib.hid (Blk.to hp69 HKw.out)
        have qHOx := Lib.hid (own_to hp69 HOx.out)
        have qHKx := Lib.hid (Blk.to hp69 HKx.out)
        have qHQ := Lib.hid (below_to hp69 HQ.out)
        have qHX := Lib.hid (Blk.to hp69 HX.out)
        clear HB cHKa_0 zHKa_0 cHKa_1 zHKa_1 cHKa_2 zHKa_2 cHKa_3 zHKa_3 cHKa_4 zHKa_4 cHKa_5 zHKa_5 lHKa mHKa HKa cHKr_0 zHKr_0 cHKr_1 zHKr_1 cHKr_2 zHKr_2 cHKr_3 zHKr_3 cHKr_4 zHKr_4 lHKr mHKr HKr HOw cHKw_0 zHKw_0 cHKw_1 zHKw_1 cHKw_2 zHKw_2 cHKw_3 zHKw_3 cHKw_4 zHKw_4 cHKw_5 zHKw_5 lHKw mHKw HKw HOx cHKx_0 zHKx_0 cHKx_1 zHKx_1 cHKx_2 zHKx_2 cHKx_3 zHKx_3 cHKx_4 zHKx_4 cHKx_5 zHKx_5 lHKx mHKx HKx HQ cHX_0 zHX_0 cHX_1 zHX_1 cHX_2 zHX_2 cHX_3 zHX_3 cHX_4 zHX_4 cHX_5 zHX_5 lHX mHX HX hp69
        have HB := qHB
        clear qHB
        have HKa := qHKa
        clear qHKa
        have cHKa_0 := HKa.out.cell (i := 0) rfl
        have zHKa_0 := HKa.out.frozen 0
        have cHKa_1 := HKa.out.cell (i := 1) rfl
        have zHKa_1 := HKa.out.frozen 1
        have cHKa_2 := HKa.out.cell (i := 2) rfl
        have zHKa_2 := HKa.out.frozen 2
        have cHKa_3 := HKa.out.cell (i := 3) rfl
        have zHKa_3 := HKa.out.frozen 3
        have cHKa_4 := HKa.out.cell (i := 4) rfl
        have zHKa_4 := HKa.out.frozen 4
        have cHKa_5 := HKa.out.cell (i := 5) rfl
        have zHKa_5 := HKa.out.frozen 5
        have lHKa := HKa.out.lt
        have mHKa := Nat.le_of_lt lHKa
        have HKr := qHKr
        clear qHKr
        have cHKr_0 := HKr.out.cell (i := 0) rfl
        have zHKr_0 := HKr.out.frozen 0
        have cHKr_1 := HKr.out.cell (i := 1) rfl
        have zHKr_1 := HKr.out.frozen 1
        have cHKr_2 := HKr.out.cell (i := 2) rfl
        have zHKr_2 := HKr.out.frozen 2
        have cHKr_3 := HKr.out.cell (i := 3) rfl
        have zHKr_3 := HKr.out.frozen 3
        have cHKr_4 := HKr.out.cell (i := 4) rfl
        have zHKr_4 := HKr.out.frozen 4
        have lHKr := HKr.out.lt
        have mHKr := Nat.le_of_lt lHKr
        have HOw := qHOw
        clear qHOw
        have HKw := qHKw
        clear qHKw
        have cHKw_0 := HKw.out.cell (i := 0) rfl
        have zHKw_0 := HKw.out.frozen 0
        have cHKw_1 := HKw.out.cell (i := 1) rfl
        have zHKw_1 := HKw.out.frozen 1
        have cHKw_2 := HKw.out.cell (i := 2) rfl
        have zHKw_2 := HKw.out.frozen 2
        have cHKw_3 := HKw.out.cell (i := 3) rfl
        have zHKw_3 := HKw.out.frozen 3
        have cHKw_4 := HKw.out.cell (i := 4) rfl
        have zHKw_4 := HKw.out.frozen 4
        have cHKw_5 := HKw.out.cell (i := 5) rfl
        have zHKw_5 := HKw.out.frozen 5
        have lHKw := HKw.out.lt
        have mHKw := Nat.le_of_lt lHKw
        have HOx := qHOx
        clear qHOx
        have HKx := qHKx
        clear qHKx
        have cHKx_0 := HKx.out.cell (i := 0) rfl
        have zHKx_0 := HKx.out.frozen 0
        have cHKx_1 := HKx.out.cell (i := 1) rfl
        have zHKx_1 := HKx.out.frozen 1
        have cHKx_2 := HKx.out.cell (i := 2) rfl
        have zHKx_2 := HKx.out.frozen 2
        have cHKx_3 := HKx.out.cell (i := 3) rfl
        have zHKx_3 := HKx.out.frozen 3
        have cHKx_4 := HKx.out.cell (i := 4) rfl
        have zHKx_4 := HKx.out.frozen 4
        have cHKx_5 := HKx.out.cell (i := 5) rfl
        have zHKx_5 := HKx.out.frozen 5
        have lHKx := HKx.out.lt
        have mHKx := Nat.le_of_lt lHKx
        have HQ := qHQ
        clear qHQ
        have HX := qHX
        clear qHX
        have cHX_0 := HX.out.cell (i := 0) rfl
        have zHX_0 := HX.out.frozen 0
        have cHX_1 := HX.out.cell (i := 1) rfl
        have zHX_1 := HX.out.frozen 1
        have cHX_2 := HX.out.cell (i := 2) rfl
        have zHX_2 := HX.out.frozen 2
        have cHX_3 := HX.out.cell (i := 3) rfl
        have zHX_3 := HX.out.frozen 3
        have cHX_4 := HX.out.cell (i := 4) rfl
        have zHX_4 := HX.out.frozen 4
        have cHX_5 := HX.out.cell (i := 5) rfl
        have zHX_5 := HX.out.frozen 5
        have lHX := HX.out.lt
        have mHX := Nat.le_of_lt lHX
        have hsW69 : w.heap.size ≤ W69.heap.size := HB.out.size
        go_wp2_with fail
        refine onward_K ⟨cHKx_0, cHKx_1, cHKx_2, cHKx_3, cHKx_4, cHKx_5, cHKr_0, cHKr_1, cHKr_2, cHKr_3, cHKr_4⟩ (hJ _ _ ?_)
        clear hJ J
        refine wpPlt_one (fun J hJ => ?_)
        simp only [List.getD_cons_zero, List.getD_cons_succ]
        go_wp2_with fail
        have tHKa_g := lHKa
        have tHKr_g := lHKr
        have Htw_g := Lib.hid (Lt.of_row lenR (by decide) HOw.out.row HLw.out)
        have tHKw_g := lHKw
        have Htx_g := Lib.hid (Lt.of_row lenR (by decide) HOx.out.row HLx.out)
        have tHKx_g := lHKx
        have tHX_g := lHX
        have s_g : w.heap.size ≤ W69.heap.size := HB.out.size
        have u_g : _ ≤ W69.heap.size := HQ.out.size
        refine (c_iSendOn _ cr0 bk0 _ _ _ nx _ x0 x1 x2 x3 x4 x5 _ cr' st' ys z HLx.out (by omega) hcr hbk hst hgt (HOx.out).row HZ.out).mono ?_
        rintro _ W70 ⟨Ag, ng, cg, rfl, hlg, hcg, hmg, hOg, p70, hp70⟩
        have qHB := Lib.hid (below_to hp70 HB.out)
        have qHKa := Lib.hid (Blk.to hp70 HKa.out)
        have qHKr := Lib.hid (Blk.to hp70 HKr.out)
        have qHOw := Lib.hid (own_to hp70 HOw.out)
        have qHKw := Lib.hid (Blk.to hp70 HKw.out)
        have qHOx := Lib.hid (own_to hp70 HOx.out)
        have qHKx := Lib.hid (Blk.to hp70 HKx.out)
        have qHQ := Lib.hid (below_to hp70 HQ.out)
        have qHX := Lib.hid (Blk.to hp70 HX.out)
        clear HB cHKa_0 zHKa_0 cHKa_1 zHKa_1 cHKa_2 zHKa_2 cHKa_3 zHKa_3 cHKa_4 zHKa_4 cHKa_5 zHKa_5 lHKa mHKa HKa cHKr_0 zHKr_0 cHKr_1 zHKr_1 cHKr_2 zHKr_2 cHKr_3 zHKr_3 cHKr_4 zHKr_4 lHKr mHKr HKr HOw cHKw_0 zHKw_0 cHKw_1 zHKw_1 cHKw_2 zHKw_2 cHKw_3 zHKw_3 cHKw_4 zHKw_4 cHKw_5 zHKw_5 lHKw mHKw HKw HOx cHKx_0 zHKx_0 cHKx_1 zHKx_1 cHKx_2 zHKx_2 cHKx_3 zHKx_3 cHKx_4 zHKx_4 cHKx_5 zHKx_5 lHKx mHKx HKx HQ cHX_0 zHX_0 cHX_1 zHX_1 cHX_2 zHX_2 cHX_3 zHX_3 cHX_4 zHX_4 cHX_5 zHX_5 lHX mHX HX hp70
        have HB := qHB
        clear qHB
        have HKa := qHKa
        clear qHKa
        have cHKa_0 := HKa.out.cell (i := 0) rfl
        have zHKa_0 := HKa.out.frozen 0
        have cHKa_1 := HKa.out.cell (i := 1) rfl
        have zHKa_1 := HKa.out.frozen 1
        have cHKa_2 := HKa.out.cell (i := 2) rfl
        have zHKa_2 := HKa.out.frozen 2
        have cHKa_3 := HKa.out.cell (i := 3) rfl
        have zHKa_3 := HKa.out.frozen 3
        have cHKa_4 := HKa.out.cell (i := 4) rfl
        have zHKa_4 := HKa.out.frozen 4
        have cHKa_5 := HKa.out.cell (i := 5) rfl
        have zHKa_5 := HKa.out.frozen 5
        have lHKa := HKa.out.lt
        have mHKa := Nat.le_of_lt lHKa
        have HKr := qHKr
        clear qHKr
        have cHKr_0 := HKr.out.cell (i := 0) rfl
        have zHKr_0 := HKr.out.frozen 0
        have cHKr_1 := HKr.out.cell (i := 1) rfl
        have zHKr_1 := HKr.out.frozen 1
        have cHKr_2 := HKr.out.cell (i := 2) rfl
        have zHKr_2 := HKr.out.frozen 2
        have cHKr_3 := HKr.out.cell (i := 3) rfl
        have zHKr_3 := HKr.out.frozen 3
        have cHKr_4 := HKr.out.cell (i := 4) rfl
        have zHKr_4 := HKr.out.frozen 4
        have lHKr := HKr.out.lt
        have mHKr := Nat.le_of_lt lHKr
        have HOw := qHOw
        clear qHOw
        have HKw := qHKw
        clear qHKw
        have cHKw_0 := HKw.out.cell (i := 0) rfl
        have zHKw_0 := HKw.out.frozen 0
        have cHKw_1 := HKw.out.cell (i := 1) rfl
        have zHKw_1 := HKw.out.frozen 1
        have cHKw_2 := HKw.out.cell (i := 2) rfl
        have zHKw_2 := HKw.out.frozen 2
        have cHKw_3 := HKw.out.cell (i := 3) rfl
        have zHKw_3 := HKw.out.frozen 3
        have cHKw_4 := HKw.out.cell (i := 4) rfl
        have zHKw_4 := HKw.out.frozen 4
        have cHKw_5 := HKw.out.cell (i := 5) rfl
        have zHKw_5 := HKw.out.frozen 5
        have lHKw := HKw.out.lt
        have mHKw := Nat.le_of_lt lHKw
        have HOx := qHOx
        clear qHOx
        have HKx := qHKx
        clear qHKx
        have cHKx_0 := HKx.out.cell (i := 0) rfl
        have zHKx_0 := HKx.out.frozen 0
        have cHKx_1 := HKx.out.cell (i := 1) rfl
        have zHKx_1 := HKx.out.frozen 1
        have cHKx_2 := HKx.out.cell (i := 2) rfl
        have zHKx_2 := HKx.out.frozen 2
        have cHKx_3 := HKx.out.cell (i := 3) rfl
        have zHKx_3 := HKx.out.frozen 3
        have cHKx_4 := HKx.out.cell (i := 4) rfl
        have zHKx_4 := HKx.out.frozen 4
        have cHKx_5 := HKx.out.cell (i := 5) rfl
        have zHKx_5 := HKx.out.frozen 5
        have lHKx := HKx.out.lt
        have mHKx := Nat.le_of_lt lHKx
        have HQ := qHQ
        clear qHQ
        have HX := qHX
        clear qHX
        have cHX_0 := HX.out.cell (i := 0) rfl
        have zHX_0 := HX.out.frozen 0
        have cHX_1 := HX.out.cell (i := 1) rfl
        have zHX_1 := HX.out.frozen 1
        have cHX_2 := HX.out.cell (i := 2) rfl
        have zHX_2 := HX.out.frozen 2
        have cHX_3 := HX.out.cell (i := 3) rfl
        have zHX_3 := HX.out.frozen 3
        have cHX_4 := HX.out.cell (i := 4) rfl
        have zHX_4 := HX.out.frozen 4
        have cHX_5 := HX.out.cell (i := 5) rfl
        have zHX_5 := HX.out.frozen 5
        have lHX := HX.out.lt
        have mHX := Nat.le_of_lt lHX
        have hsW70 : w.heap.size ≤ W70.heap.size := HB.out.size
        have HOg := Lib.hid hOg
        have HLg := Lib.hid hlg
        clear hOg hlg
        unfold maxLen at hmg
        have hbg : ng ≤ 1048580 := by rw [← HLg.out]; exact hyl
        have hmg' : ng ≤ 9223372036854775807 := by omega
        go_wp2_with fail
        refine onward_K ⟨cHKx_0, cHKx_1, cHKx_2, cHKx_3, cHKx_4, cHKx_5, cHKr_0, cHKr_1, cHKr_2, cHKr_3, cHKr_4⟩ (hJ _ _ ?_)
        clear hJ J
        (repeat (refine wpPlt_pick (fun J hJ => ?_); simp only [List.getD_cons_zero, List.getD_cons_succ]; first | (go_simp; refine hJ _ ?_; clear hJ J) | (go_simp; refine ⟨_, (fun w1 => by (repeat (intro hh; try simp only [hh, Result.andThen])); rfl), ?_⟩; refine hJ _ ?_; clear hJ J)))
        refine wpPlt_one (fun J hJ => ?_)
        simp only [List.getD_cons_zero, List.getD_cons_succ]
        go_wp2_with fail
        have hne : some gx ≠ ob Ag ng := fun e => by have := HOg.out.low HLg.out e; omega
        refine onward_anchor (F := fun V => Below W66.heap.size W66 V ∧ Own encR 5 W66.heap.size V Ag ys ∧ Blk gx [.int .i64 cap0, .slice Ag ng cg, .int .i64 cr', .int .i64 bk0, .int .i64 st', .int .i64 gt0] 35 V ∧ Blk (W64.heap.size) [.int .i64 cap0, .slice Ax nx cx, .int .i64 cr0, .int .i64 bk0, .int .i64 st0, .int .i64 gt0] 35 V ∧ Blk (w.heap.size + 1) [.int .i64 x1, .int .i64 x2, .int .i64 x3, .int .i64 x4, .int .i64 x5] 45 V) ⟨(by (repeat (first | with_reducible exact HQ.out | with_reducible refine Below.setCell ?_ (by dsimp only; omega) _)); done), (by (repeat (first | with_reducible exact HOg.out.mono (by omega) | with_reducible refine Own.set ?_ HLg.out _ _ hne)); done), (((((((HX.out.set 0 _).set 1 _).set 2 _).set 3 _).set 4 _).set 5 _).conv rfl), (by (repeat (first | with_reducible exact HKx.out | with_reducible refine Blk.other ?_ (by dsimp only; omega) _)); done), (by (repeat (first | with_reducible exact HKr.out | with_reducible refine Blk.other ?_ (by dsimp only; omega) _)); done)⟩ (fun W71 hV => ?_)
        obtain ⟨q1, q2, q3, rHKx, rHKr⟩ := hV
        refine onward_K ⟨rHKx.cell (i := 0) rfl, rHKx.cell (i := 1) rfl, rHKx.cell (i := 2) rfl, rHKx.cell (i := 3) rfl, rHKx.cell (i := 4) rfl, rHKx.cell (i := 5) rfl, rHKr.cell (i := 0) rfl, rHKr.cell (i := 1) rfl, rHKr.cell (i := 2) rfl, rHKr.cell (i := 3) rfl, rHKr.cell (i := 4) rfl⟩ (hJ _ _ ?_)
        clear hJ J
        (repeat (refine wpPlt_pick (fun J hJ => ?_); simp only [List.getD_cons_zero, List.getD_cons_succ]; first | (go_simp; refine hJ _ ?_; clear hJ J) | (go_simp; refine ⟨_, (fun w1 => by (repeat (intro hh; try simp only [hh, Result.andThen])); rfl), ?_⟩; refine hJ _ ?_; clear hJ J)))
        refine wpPlt_nil ?_
        go_wp2_with fail
        go_meet
        obtain ⟨p, hp⟩ := later_of_below q1
        exact ⟨gx, Ag, ng, cg, p, rfl, rfl, HLg.out, hmg', hgl, hne, q2, q3, hp⟩
    obtain ⟨gg, Ag, ng, cg, p, rfl, rfl, hlg, hmg', hlowg, hneg, hOg, hKg, hp⟩ := hcut
    obtain ⟨W126, hV⟩ : ∃ V, V = wc := ⟨_, rfl⟩
    subst hV
    have tHKa_g := lHKa
    have tHKr_g := lHKr
    have Htw_g := Lib.hid (Lt.of_row lenR (by decide) HOw.out.row HLw.out)
    have tHKw_g := lHKw
    have Htx_g := Lib.hid (Lt.of_row lenR (by decide) HOx.out.row HLx.out)
    have tHKx_g := lHKx
    have s_g : w.heap.size ≤ W66.heap.size := HB.out.size
    have qHB := Lib.hid (below_to hp HB.out)
    have qHKa := Lib.hid (Blk.to hp HKa.out)
    have qHKr := Lib.hid (Blk.to hp HKr.out)
    have qHOw := Lib.hid (own_to hp HOw.out)
    have qHKw := Lib.hid (Blk.to hp HKw.out)
    have qHOx := Lib.hid (own_to hp HOx.out)
    have qHKx := Lib.hid (Blk.to hp HKx.out)
    clear HB cHKa_0 zHKa_0 cHKa_1 zHKa_1 cHKa_2 zHKa_2 cHKa_3 zHKa_3 cHKa_4 zHKa_4 cHKa_5 zHKa_5 lHKa mHKa HKa cHKr_0 zHKr_0 cHKr_1 zHKr_1 cHKr_2 zHKr_2 cHKr_3 zHKr_3 cHKr_4 zHKr_4 lHKr mHKr HKr HOw cHKw_0 zHKw_0 cHKw_1 zHKw_1 cHKw_2 zHKw_2 cHKw_3 zHKw_3 cHKw_4 zHKw_4 cHKw_5 zHKw_5 lHKw mHKw HKw HOx cHKx_0 zHKx_0 cHKx_1 zHKx_1 cHKx_2 zHKx_2 cHKx_3 zHKx_3 cHKx_4 zHKx_4 cHKx_5 zHKx_5 lHKx mHKx HKx hp
    have HB := qHB
    clear qHB
    have HKa := qHKa
    clear qHKa
    have cHKa_0 := HKa.out.cell (i := 0) rfl
    have zHKa_0 := HKa.out.frozen 0
    have cHKa_1 := HKa.out.cell (i := 1) rfl
    have zHKa_1 := HKa.out.frozen 1
    have cHKa_2 := HKa.out.cell (i := 2) rfl
    have zHKa_2 := HKa.out.frozen 2
    have cHKa_3 := HKa.out.cell (i := 3) rfl
    have zHKa_3 := HKa.out.frozen 3
    have cHKa_4 := HKa.out.cell (i := 4) rfl
    have zHKa_4 := HKa.out.frozen 4
    have cHKa_5 := HKa.out.cell (i := 5) rfl
    have zHKa_5 := HKa.out.frozen 5
    have lHKa := HKa.out.lt
    have mHKa := Nat.le_of_lt lHKa
    have HKr := qHKr
    clear qHKr
    have cHKr_0 := HKr.out.cell (i := 0) rfl
    have zHKr_0 := HKr.out.frozen 0
    have cHKr_1 := HKr.out.cell (i := 1) rfl
    have zHKr_1 := HKr.out.frozen 1
    have cHKr_2 := HKr.out.cell (i := 2) rfl
    have zHKr_2 := HKr.out.frozen 2
    have cHKr_3 := HKr.out.cell (i := 3) rfl
    have zHKr_3 := HKr.out.frozen 3
    have cHKr_4 := HKr.out.cell (i := 4) rfl
    have zHKr_4 := HKr.out.frozen 4
    have lHKr := HKr.out.lt
    have mHKr := Nat.le_of_lt lHKr
    have HOw := qHOw
    clear qHOw
    have HKw := qHKw
    clear qHKw
    have cHKw_0 := HKw.out.cell (i := 0) rfl
    have zHKw_0 := HKw.out.frozen 0
    have cHKw_1 := HKw.out.cell (i := 1) rfl
    have zHKw_1 := HKw.out.frozen 1
    have cHKw_2 := HKw.out.cell (i := 2) rfl
    have zHKw_2 := HKw.out.frozen 2
    have cHKw_3 := HKw.out.cell (i := 3) rfl
    have zHKw_3 := HKw.out.frozen 3
    have cHKw_4 := HKw.out.cell (i := 4) rfl
    have zHKw_4 := HKw.out.frozen 4
    have cHKw_5 := HKw.out.cell (i := 5) rfl
    have zHKw_5 := HKw.out.frozen 5
    have lHKw := HKw.out.lt
    have mHKw := Nat.le_of_lt lHKw
    have HOx := qHOx
    clear qHOx
    have HKx := qHKx
    clear qHKx
    have cHKx_0 := HKx.out.cell (i := 0) rfl
    have zHKx_0 := HKx.out.frozen 0
    have cHKx_1 := HKx.out.cell (i := 1) rfl
    have zHKx_1 := HKx.out.frozen 1
    have cHKx_2 := HKx.out.cell (i := 2) rfl
    have zHKx_2 := HKx.out.frozen 2
    have cHKx_3 := HKx.out.cell (i := 3) rfl
    have zHKx_3 := HKx.out.frozen 3
    have cHKx_4 := HKx.out.cell (i := 4) rfl
    have zHKx_4 := HKx.out.frozen 4
    have cHKx_5 := HKx.out.cell (i := 5) rfl
    have zHKx_5 := HKx.out.frozen 5
    have lHKx := HKx.out.lt
    have mHKx := Nat.le_of_lt lHKx
    have hsW126 : w.heap.size ≤ W126.heap.size := HB.out.size
    have HOg := Lib.hid hOg
    have HLg := Lib.hid hlg
    have HNg := Lib.hid hneg
    have HKg := Lib.hid (hKg)
    have cHKg_0 := HKg.out.cell (i := 0) rfl
    have zHKg_0 := HKg.out.frozen 0
    have cHKg_1 := HKg.out.cell (i := 1) rfl
    have zHKg_1 := HKg.out.frozen 1
    have cHKg_2 := HKg.out.cell (i := 2) rfl
    have zHKg_2 := HKg.out.frozen 2
    have cHKg_3 := HKg.out.cell (i := 3) rfl
    have zHKg_3 := HKg.out.frozen 3
    have cHKg_4 := HKg.out.cell (i := 4) rfl
    have zHKg_4 := HKg.out.frozen 4
    have cHKg_5 := HKg.out.cell (i := 5) rfl
    have zHKg_5 := HKg.out.frozen 5
    have lHKg := HKg.out.lt
    have mHKg := Nat.le_of_lt lHKg
    clear hOg hlg hKg hneg
    have hbg : ng ≤ 1048580 := by rw [← HLg.out]; exact hyl
    go_wp2_with fail
    refine (c_eqLink cap0 cr' bk0 st' gt0 cap0 cr' bk0 st' gt0 _ _ _ _ _ _ _ _ _ true HLg.out HLw.out (by omega) (by omega) (HOg.out).row (HOw.out).row (by simp)).mono ?_
    rintro _ W127 ⟨rfl, p127, hp127⟩
    have qHB := Lib.hid (below_to hp127 HB.out)
    have qHKa := Lib.hid (Blk.to hp127 HKa.out)
    have qHKr := Lib.hid (Blk.to hp127 HKr.out)
    have qHOw := Lib.hid (own_to hp127 HOw.out)
    have qHKw := Lib.hid (Blk.to hp127 HKw.out)
    have qHOx := Lib.hid (own_to hp127 HOx.out)
    have qHKx := Lib.hid (Blk.to hp127 HKx.out)
    have qHOg := Lib.hid (own_to hp127 HOg.out)
    have qHKg := Lib.hid (Blk.to hp127 HKg.out)
    clear HB cHKa_0 zHKa_0 cHKa_1 zHKa_1 cHKa_2 zHKa_2 cHKa_3 zHKa_3 cHKa_4 zHKa_4 cHKa_5 zHKa_5 lHKa mHKa HKa cHKr_0 zHKr_0 cHKr_1 zHKr_1 cHKr_2 zHKr_2 cHKr_3 zHKr_3 cHKr_4 zHKr_4 lHKr mHKr HKr HOw cHKw_0 zHKw_0 cHKw_1 zHKw_1 cHKw_2 zHKw_2 cHKw_3 zHKw_3 cHKw_4 zHKw_4 cHKw_5 zHKw_5 lHKw mHKw HKw HOx cHKx_0 zHKx_0 cHKx_1 zHKx_1 cHKx_2 zHKx_2 cHKx_3 zHKx_3 cHKx_4 zHKx_4 cHKx_5 zHKx_5 lHKx mHKx HKx HOg cHKg_0 zHKg_0 cHKg_1 zHKg_1 cHKg_2 zHKg_2 cHKg_3 zHKg_3 cHKg_4 zHKg_4 cHKg_5 zHKg_5 lHKg mHKg HKg hp127
    have HB := qHB
    clear qHB
    have HKa := qHKa
    clear qHKa
    have cHKa_0 := HKa.out.cell (i := 0) rfl
    have zHKa_0 := HKa.out.frozen 0
    have cHKa_1 := HKa.out.cell (i := 1) rfl
    have zHKa_1 := HKa.out.frozen 1
    have cHKa_2 := HKa.out.cell (i := 2) rfl
    have zHKa_2 := HKa.out.frozen 2
    have cHKa_3 := HKa.out.cell (i := 3) rfl
    have zHKa_3 := HKa.out.frozen 3
    have cHKa_4 := HKa.out.cell (i := 4) rfl
    have zHKa_4 := HKa.out.frozen 4
    have cHKa_5 := HKa.out.cell (i := 5) rfl
    have zHKa_5 := HKa.out.frozen 5
    have lHKa := HKa.out.lt
    have mHKa := Nat.le_of_lt lHKa
    have HKr := qHKr
    clear qHKr
    have cHKr_0 := HKr.out.cell (i := 0) rfl
    have zHKr_0 := HKr.out.frozen 0
    have cHKr_1 := HKr.out.cell (i := 1) rfl
    have zHKr_1 := HKr.out.frozen 1
    have cHKr_2 := HKr.out.cell (i := 2) rfl
    have zHKr_2 := HKr.out.frozen 2
    have cHKr_3 := HKr.out.cell (i := 3) rfl
    have zHKr_3 := HKr.out.frozen 3
    have cHKr_4 := HKr.out.cell (i := 4) rfl
    have zHKr_4 := HKr.out.frozen 4
    have lHKr := HKr.out.lt
    have mHKr := Nat.le_of_lt lHKr
    have HOw := qHOw
    clear qHOw
    have HKw := qHKw
    clear qHKw
    have cHKw_0 := HKw.out.cell (i := 0) rfl
    have zHKw_0 := HKw.out.frozen 0
    have cHKw_1 := HKw.out.cell (i := 1) rfl
    have zHKw_1 := HKw.out.frozen 1
    have cHKw_2 := HKw.out.cell (i := 2) rfl
    have zHKw_2 := HKw.out.frozen 2
    have cHKw_3 := HKw.out.cell (i := 3) rfl
    have zHKw_3 := HKw.out.frozen 3
    have cHKw_4 := HKw.out.cell (i := 4) rfl
    have zHKw_4 := HKw.out.frozen 4
    have cHKw_5 := HKw.out.cell (i := 5) rfl
    have zHKw_5 := HKw.out.frozen 5
    have lHKw := HKw.out.lt
    have mHKw := Nat.le_of_lt lHKw
    have HOx := qHOx
    clear qHOx
    have HKx := qHKx
    clear qHKx
    have cHKx_0 := HKx.out.cell (i := 0) rfl
    have zHKx_0 := HKx.out.frozen 0
    have cHKx_1 := HKx.out.cell (i := 1) rfl
    have zHKx_1 := HKx.out.frozen 1
    have cHKx_2 := HKx.out.cell (i := 2) rfl
    have zHKx_2 := HKx.out.frozen 2
    have cHKx_3 := HKx.out.cell (i := 3) rfl
    have zHKx_3 := HKx.out.frozen 3
    have cHKx_4 := HKx.out.cell (i := 4) rfl
    have zHKx_4 := HKx.out.frozen 4
    have cHKx_5 := HKx.out.cell (i := 5) rfl
    have zHKx_5 := HKx.out.frozen 5
    have lHKx := HKx.out.lt
    have mHKx := Nat.le_of_lt lHKx
    have HOg := qHOg
    clear qHOg
    have HKg := qHKg
    clear qHKg
    have cHKg_0 := HKg.out.cell (i := 0) rfl
    have zHKg_0 := HKg.out.frozen 0
    have cHKg_1 := HKg.out.cell (i := 1) rfl
    have zHKg_1 := HKg.out.frozen 1
    have cHKg_2 := HKg.out.cell (i := 2) rfl
    have zHKg_2 := HKg.out.frozen 2
    have cHKg_3 := HKg.out.cell (i := 3) rfl
    have zHKg_3 := HKg.out.frozen 3
    have cHKg_4 := HKg.out.cell (i := 4) rfl
    have zHKg_4 := HKg.out.frozen 4
    have cHKg_5 := HKg.out.cell (i := 5) rfl
    have zHKg_5 := HKg.out.frozen 5
    have lHKg := HKg.out.lt
    have mHKg := Nat.le_of_lt lHKg
    have hsW127 : w.heap.size ≤ W127.heap.size := HB.out.size
    go_upto_region 10 with fail
    with_reducible refine wp_region_plan [(true, 0), (true, 1), (false, 2), (false, 3), (true, 4)] (by kernel_rfl) (by kernel_rfl) ?_
    rintro W128 ⟨p, hp⟩
    have HQ := Lib.hid (below_self W127)
    have bHKa_0 := cHKa_0
    have bHKa_1 := cHKa_1
    have bHKa_2 := cHKa_2
    have bHKa_3 := cHKa_3
    have bHKa_4 := cHKa_4
    have bHKa_5 := cHKa_5
    have blHKa := lHKa
    have bHKr_0 := cHKr_0
    have bHKr_1 := cHKr_1
    have bHKr_2 := cHKr_2
    have bHKr_3 := cHKr_3
    have bHKr_4 := cHKr_4
    have blHKr := lHKr
    have bHKw_0 := cHKw_0
    have bHKw_1 := cHKw_1
    have bHKw_2 := cHKw_2
    have bHKw_3 := cHKw_3
    have bHKw_4 := cHKw_4
    have bHKw_5 := cHKw_5
    have blHKw := lHKw
    have bHKx_0 := cHKx_0
    have bHKx_1 := cHKx_1
    have bHKx_2 := cHKx_2
    have bHKx_3 := cHKx_3
    have bHKx_4 := cHKx_4
    have bHKx_5 := cHKx_5
    have blHKx := lHKx
    have bHKg_0 := cHKg_0
    have bHKg_1 := cHKg_1
    have bHKg_2 := cHKg_2
    have bHKg_3 := cHKg_3
    have bHKg_4 := cHKg_4
    have bHKg_5 := cHKg_5
    have blHKg := lHKg
    have qHB := Lib.hid (below_to hp HB.out)
    have qHKa := Lib.hid (Blk.to hp HKa.out)
    have qHKr := Lib.hid (Blk.to hp HKr.out)
    have qHOw := Lib.hid (own_to hp HOw.out)
    have qHKw := Lib.hid (Blk.to hp HKw.out)
    have qHOx := Lib.hid (own_to hp HOx.out)
    have qHKx := Lib.hid (Blk.to hp HKx.out)
    have qHOg := Lib.hid (own_to hp HOg.out)
    have qHKg := Lib.hid (Blk.to hp HKg.out)
    have qHQ := Lib.hid (below_to hp HQ.out)
    clear HB cHKa_0 zHKa_0 cHKa_1 zHKa_1 cHKa_2 zHKa_2 cHKa_3 zHKa_3 cHKa_4 zHKa_4 cHKa_5 zHKa_5 lHKa mHKa HKa cHKr_0 zHKr_0 cHKr_1 zHKr_1 cHKr_2 zHKr_2 cHKr_3 zHKr_3 cHKr_4 zHKr_4 lHKr mHKr HKr HOw cHKw_0 zHKw_0 cHKw_1 zHKw_1 cHKw_2 zHKw_2 cHKw_3 zHKw_3 cHKw_4 zHKw_4 cHKw_5 zHKw_5 lHKw mHKw HKw HOx cHKx_0 zHKx_0 cHKx_1 zHKx_1 cHKx_2 zHKx_2 cHKx_3 zHKx_3 cHKx_4 zHKx_4 cHKx_5 zHKx_5 lHKx mHKx HKx HOg cHKg_0 zHKg_0 cHKg_1 zHKg_1 cHKg_2 zHKg_2 cHKg_3 zHKg_3 cHKg_4 zHKg_4 cHKg_5 zHKg_5 lHKg mHKg HKg HQ hp
    have HB := qHB
    clear qHB
    have HKa := qHKa
    clear qHKa
    have cHKa_0 := HKa.out.cell (i := 0) rfl
    have zHKa_0 := HKa.out.frozen 0
    have cHKa_1 := HKa.out.cell (i := 1) rfl
    have zHKa_1 := HKa.out.frozen 1
    have cHKa_2 := HKa.out.cell (i := 2) rfl
    have zHKa_2 := HKa.out.frozen 2
    have cHKa_3 := HKa.out.cell (i := 3) rfl
    have zHKa_3 := HKa.out.frozen 3
    have cHKa_4 := HKa.out.cell (i := 4) rfl
    have zHKa_4 := HKa.out.frozen 4
    have cHKa_5 := HKa.out.cell (i := 5) rfl
    have zHKa_5 := HKa.out.frozen 5
    have lHKa := HKa.out.lt
    have mHKa := Nat.le_of_lt lHKa
    have HKr := qHKr
    clear qHKr
    have cHKr_0 := HKr.out.cell (i := 0) rfl
    have zHKr_0 := HKr.out.frozen 0
    have cHKr_1 := HKr.out.cell (i := 1) rfl
    have zHKr_1 := HKr.out.frozen 1
    have cHKr_2 := HKr.out.cell (i := 2) rfl
    have zHKr_2 := HKr.out.frozen 2
    have cHKr_3 := HKr.out.cell (i := 3) rfl
    have zHKr_3 := HKr.out.frozen 3
    have cHKr_4 := HKr.out.cell (i := 4) rfl
    have zHKr_4 := HKr.out.frozen 4
    have lHKr := HKr.out.lt
    have mHKr := Nat.le_of_lt lHKr
    have HOw := qHOw
    clear qHOw
    have HKw := qHKw
    clear qHKw
    have cHKw_0 := HKw.out.cell (i := 0) rfl
    have zHKw_0 := HKw.out.frozen 0
    have cHKw_1 := HKw.out.cell (i := 1) rfl
    have zHKw_1 := HKw.out.frozen 1
    have cHKw_2 := HKw.out.cell (i := 2) rfl
    have zHKw_2 := HKw.out.frozen 2
    have cHKw_3 := HKw.out.cell (i := 3) rfl
    have zHKw_3 := HKw.out.frozen 3
    have cHKw_4 := HKw.out.cell (i := 4) rfl
    have zHKw_4 := HKw.out.frozen 4
    have cHKw_5 := HKw.out.cell (i := 5) rfl
    have zHKw_5 := HKw.out.frozen 5
    have lHKw := HKw.out.lt
    have mHKw := Nat.le_of_lt lHKw
    have HOx := qHOx
    clear qHOx
    have HKx := qHKx
    clear qHKx
    have cHKx_0 := HKx.out.cell (i := 0) rfl
    have zHKx_0 := HKx.out.frozen 0
    have cHKx_1 := HKx.out.cell (i := 1) rfl
    have zHKx_1 := HKx.out.frozen 1
    have cHKx_2 := HKx.out.cell (i := 2) rfl
    have zHKx_2 := HKx.out.frozen 2
    have cHKx_3 := HKx.out.cell (i := 3) rfl
    have zHKx_3 := HKx.out.frozen 3
    have cHKx_4 := HKx.out.cell (i := 4) rfl
    have zHKx_4 := HKx.out.frozen 4
    have cHKx_5 := HKx.out.cell (i := 5) rfl
    have zHKx_5 := HKx.out.frozen 5
    have lHKx := HKx.out.lt
    have mHKx := Nat.le_of_lt lHKx
    have HOg := qHOg
    clear qHOg
    have HKg := qHKg
    clear qHKg
    have cHKg_0 := HKg.out.cell (i := 0) rfl
    have zHKg_0 := HKg.out.frozen 0
    have cHKg_1 := HKg.out.cell (i := 1) rfl
    have zHKg_1 := HKg.out.frozen 1
    have cHKg_2 := HKg.out.cell (i := 2) rfl
    have zHKg_2 := HKg.out.frozen 2
    have cHKg_3 := HKg.out.cell (i := 3) rfl
    have zHKg_3 := HKg.out.frozen 3
    have cHKg_4 := HKg.out.cell (i := 4) rfl
    have zHKg_4 := HKg.out.frozen 4
    have cHKg_5 := HKg.out.cell (i := 5) rfl
    have zHKg_5 := HKg.out.frozen 5
    have lHKg := HKg.out.lt
    have mHKg := Nat.le_of_lt lHKg
    have HQ := qHQ
    clear qHQ
    have hsW128 : w.heap.size ≤ W128.heap.size := HB.out.size
    simp only [List.map_cons, List.map_nil, List.getD_cons_zero, List.getD_cons_succ]
    (repeat (refine wpPlan_pick (fun J hJ => ?_); go_simp; refine hJ _ ?_; clear hJ J))
    refine wpPlan_seq (fun J hJ => ?_)
    go_wp2_with fail
    have tHKa_t := lHKa
    have tHKr_t := lHKr
    have Htw_t := Lib.hid (Lt.of_row lenR (by decide) HOw.out.row HLw.out)
    have tHKw_t := lHKw
    have Htx_t := Lib.hid (Lt.of_row lenR (by decide) HOx.out.row HLx.out)
    have tHKx_t := lHKx
    have Htg_t := Lib.hid (Lt.of_row lenR (by decide) HOg.out.row HLg.out)
    have tHKg_t := lHKg
    have s_t : w.heap.size ≤ W128.heap.size := HB.out.size
    have u_t : _ ≤ W128.heap.size := HQ.out.size
    refine (c_toLink cap0 cr0 bk0 st0 gt0 A0 n0 _ x0 _ HN.out hle0 (HA.out.below HB.out)).mono ?_
    rintro _ W129 ⟨At, nt, ct, rfl, hlt, hct, hmt, hOt, p129, hp129⟩
    have qHB := Lib.hid (below_to hp129 HB.out)
    have qHKa := Lib.hid (Blk.to hp129 HKa.out)
    have qHKr := Lib.hid (Blk.to hp129 HKr.out)
    have qHOw := Lib.hid (own_to hp129 HOw.out)
    have qHKw := Lib.hid (Blk.to hp129 HKw.out)
    have qHOx := Lib.hid (own_to hp129 HOx.out)
    have qHKx := Lib.hid (Blk.to hp129 HKx.out)
    have qHOg := Lib.hid (own_to hp129 HOg.out)
    have qHKg := Lib.hid (Blk.to hp129 HKg.out)
    have qHQ := Lib.hid (below_to hp129 HQ.out)
    clear HB cHKa_0 zHKa_0 cHKa_1 zHKa_1 cHKa_2 zHKa_2 cHKa_3 zHKa_3 cHKa_4 zHKa_4 cHKa_5 zHKa_5 lHKa mHKa HKa cHKr_0 zHKr_0 cHKr_1 zHKr_1 cHKr_2 zHKr_2 cHKr_3 zHKr_3 cHKr_4 zHKr_4 lHKr mHKr HKr HOw cHKw_0 zHKw_0 cHKw_1 zHKw_1 cHKw_2 zHKw_2 cHKw_3 zHKw_3 cHKw_4 zHKw_4 cHKw_5 zHKw_5 lHKw mHKw HKw HOx cHKx_0 zHKx_0 cHKx_1 zHKx_1 cHKx_2 zHKx_2 cHKx_3 zHKx_3 cHKx_4 zHKx_4 cHKx_5 zHKx_5 lHKx mHKx HKx HOg cHKg_0 zHKg_0 cHKg_1 zHKg_1 cHKg_2 zHKg_2 cHKg_3 zHKg_3 cHKg_4 zHKg_4 cHKg_5 zHKg_5 lHKg mHKg HKg HQ hp129
    have HB := qHB
    clear qHB
    have HKa := qHKa
    clear qHKa
    have cHKa_0 := HKa.out.cell (i := 0) rfl
    have zHKa_0 := HKa.out.frozen 0
    have cHKa_1 := HKa.out.cell (i := 1) rfl
    have zHKa_1 := HKa.out.frozen 1
    have cHKa_2 := HKa.out.cell (i := 2) rfl
    have zHKa_2 := HKa.out.frozen 2
    have cHKa_3 := HKa.out.cell (i := 3) rfl
    have zHKa_3 := HKa.out.frozen 3
    have cHKa_4 := HKa.out.cell (i := 4) rfl
    have zHKa_4 := HKa.out.frozen 4
    have cHKa_5 := HKa.out.cell (i := 5) rfl
    have zHKa_5 := HKa.out.frozen 5
    have lHKa := HKa.out.lt
    have mHKa := Nat.le_of_lt lHKa
    have HKr := qHKr
    clear qHKr
    have cHKr_0 := HKr.out.cell (i := 0) rfl
    have zHKr_0 := HKr.out.frozen 0
    have cHKr_1 := HKr.out.cell (i := 1) rfl
    have zHKr_1 := HKr.out.frozen 1
    have cHKr_2 := HKr.out.cell (i := 2) rfl
    have zHKr_2 := HKr.out.frozen 2
    have cHKr_3 := HKr.out.cell (i := 3) rfl
    have zHKr_3 := HKr.out.frozen 3
    have cHKr_4 := HKr.out.cell (i := 4) rfl
    have zHKr_4 := HKr.out.frozen 4
    have lHKr := HKr.out.lt
    have mHKr := Nat.le_of_lt lHKr
    have HOw := qHOw
    clear qHOw
    have HKw := qHKw
    clear qHKw
    have cHKw_0 := HKw.out.cell (i := 0) rfl
    have zHKw_0 := HKw.out.frozen 0
    have cHKw_1 := HKw.out.cell (i := 1) rfl
    have zHKw_1 := HKw.out.frozen 1
    have cHKw_2 := HKw.out.cell (i := 2) rfl
    have zHKw_2 := HKw.out.frozen 2
    have cHKw_3 := HKw.out.cell (i := 3) rfl
    have zHKw_3 := HKw.out.frozen 3
    have cHKw_4 := HKw.out.cell (i := 4) rfl
    have zHKw_4 := HKw.out.frozen 4
    have cHKw_5 := HKw.out.cell (i := 5) rfl
    have zHKw_5 := HKw.out.frozen 5
    have lHKw := HKw.out.lt
    have mHKw := Nat.le_of_lt lHKw
    have HOx := qHOx
    clear qHOx
    have HKx := qHKx
    clear qHKx
    have cHKx_0 := HKx.out.cell (i := 0) rfl
    have zHKx_0 := HKx.out.frozen 0
    have cHKx_1 := HKx.out.cell (i := 1) rfl
    have zHKx_1 := HKx.out.frozen 1
    have cHKx_2 := HKx.out.cell (i := 2) rfl
    have zHKx_2 := HKx.out.frozen 2
    have cHKx_3 := HKx.out.cell (i := 3) rfl
    have zHKx_3 := HKx.out.frozen 3
    have cHKx_4 := HKx.out.cell (i := 4) rfl
    have zHKx_4 := HKx.out.frozen 4
    have cHKx_5 := HKx.out.cell (i := 5) rfl
    have zHKx_5 := HKx.out.frozen 5
    have lHKx := HKx.out.lt
    have mHKx := Nat.le_of_lt lHKx
    have HOg := qHOg
    clear qHOg
    have HKg := qHKg
    clear qHKg
    have cHKg_0 := HKg.out.cell (i := 0) rfl
    have zHKg_0 := HKg.out.frozen 0
    have cHKg_1 := HKg.out.cell (i := 1) rfl
    have zHKg_1 := HKg.out.frozen 1
    have cHKg_2 := HKg.out.cell (i := 2) rfl
    have zHKg_2 := HKg.out.frozen 2
    have cHKg_3 := HKg.out.cell (i := 3) rfl
    have zHKg_3 := HKg.out.frozen 3
    have cHKg_4 := HKg.out.cell (i := 4) rfl
    have zHKg_4 := HKg.out.frozen 4
    have cHKg_5 := HKg.out.cell (i := 5) rfl
    have zHKg_5 := HKg.out.frozen 5
    have lHKg := HKg.out.lt
    have mHKg := Nat.le_of_lt lHKg
    have HQ := qHQ
    clear qHQ
    have hsW129 : w.heap.size ≤ W129.heap.size := HB.out.size
    have HOt := Lib.hid hOt
    have HLt := Lib.hid hlt
    clear hOt hlt
    unfold maxLen at hmt
    have hbt : nt ≤ 1048576 := by rw [← HLt.out, HN.out]; exact hle0
    go_wp2_with fail
    refine onward_mk HQ.out (hJ _ _ ?_)
    clear hJ J
    refine wpPlan_seq (fun J hJ => ?_)
    go_wp2_with fail
    refine (c_eqLink cap0 cr0 bk0 st0 gt0 cap0 cr0 bk0 st0 gt0 _ _ _ _ _ _ _ _ _ true HLx.out HLt.out (by omega) (by omega) (HOx.out).row (HOt.out).row (by simp)).mono ?_
    rintro _ W130 ⟨rfl, p130, hp130⟩
    have qHB := Lib.hid (below_to hp130 HB.out)
    have qHKa := Lib.hid (Blk.to hp130 HKa.out)
    have qHKr := Lib.hid (Blk.to hp130 HKr.out)
    have qHOw := Lib.hid (own_to hp130 HOw.out)
    have qHKw := Lib.hid (Blk.to hp130 HKw.out)
    have qHOx := Lib.hid (own_to hp130 HOx.out)
    have qHKx := Lib.hid (Blk.to hp130 HKx.out)
    have qHOg := Lib.hid (own_to hp130 HOg.out)
    have qHKg := Lib.hid (Blk.to hp130 HKg.out)
    have qHQ := Lib.hid (below_to hp130 HQ.out)
    have qHOt := Lib.hid (own_to hp130 HOt.out)
    clear HB cHKa_0 zHKa_0 cHKa_1 zHKa_1 cHKa_2 zHKa_2 cHKa_3 zHKa_3 cHKa_4 zHKa_4 cHKa_5 zHKa_5 lHKa mHKa HKa cHKr_0 zHKr_0 cHKr_1 zHKr_1 cHKr_2 zHKr_2 cHKr_3 zHKr_3 cHKr_4 zHKr_4 lHKr mHKr HKr HOw cHKw_0 zHKw_0 cHKw_1 zHKw_1 cHKw_2 zHKw_2 cHKw_3 zHKw_3 cHKw_4 zHKw_4 cHKw_5 zHKw_5 lHKw mHKw HKw HOx cHKx_0 zHKx_0 cHKx_1 zHKx_1 cHKx_2 zHKx_2 cHKx_3 zHKx_3 cHKx_4 zHKx_4 cHKx_5 zHKx_5 lHKx mHKx HKx HOg cHKg_0 zHKg_0 cHKg_1 zHKg_1 cHKg_2 zHKg_2 cHKg_3 zHKg_3 cHKg_4 zHKg_4 cHKg_5 zHKg_5 lHKg mHKg HKg HQ HOt hp130
    have HB := qHB
    clear qHB
    have HKa := qHKa
    clear qHKa
    have cHKa_0 := HKa.out.cell (i := 0) rfl
    have zHKa_0 := HKa.out.frozen 0
    have cHKa_1 := HKa.out.cell (i := 1) rfl
    have zHKa_1 := HKa.out.frozen 1
    have cHKa_2 := HKa.out.cell (i := 2) rfl
    have zHKa_2 := HKa.out.frozen 2
    have cHKa_3 := HKa.out.cell (i := 3) rfl
    have zHKa_3 := HKa.out.frozen 3
    have cHKa_4 := HKa.out.cell (i := 4) rfl
    have zHKa_4 := HKa.out.frozen 4
    have cHKa_5 := HKa.out.cell (i := 5) rfl
    have zHKa_5 := HKa.out.frozen 5
    have lHKa := HKa.out.lt
    have mHKa := Nat.le_of_lt lHKa
    have HKr := qHKr
    clear qHKr
    have cHKr_0 := HKr.out.cell (i := 0) rfl
    have zHKr_0 := HKr.out.frozen 0
    have cHKr_1 := HKr.out.cell (i := 1) rfl
    have zHKr_1 := HKr.out.frozen 1
    have cHKr_2 := HKr.out.cell (i := 2) rfl
    have zHKr_2 := HKr.out.frozen 2
    have cHKr_3 := HKr.out.cell (i := 3) rfl
    have zHKr_3 := HKr.out.frozen 3
    have cHKr_4 := HKr.out.cell (i := 4) rfl
    have zHKr_4 := HKr.out.frozen 4
    have lHKr := HKr.out.lt
    have mHKr := Nat.le_of_lt lHKr
    have HOw := qHOw
    clear qHOw
    have HKw := qHKw
    clear qHKw
    have cHKw_0 := HKw.out.cell (i := 0) rfl
    have zHKw_0 := HKw.out.frozen 0
    have cHKw_1 := HKw.out.cell (i := 1) rfl
    have zHKw_1 := HKw.out.frozen 1
    have cHKw_2 := HKw.out.cell (i := 2) rfl
    have zHKw_2 := HKw.out.frozen 2
    have cHKw_3 := HKw.out.cell (i := 3) rfl
    have zHKw_3 := HKw.out.frozen 3
    have cHKw_4 := HKw.out.cell (i := 4) rfl
    have zHKw_4 := HKw.out.frozen 4
    have cHKw_5 := HKw.out.cell (i := 5) rfl
    have zHKw_5 := HKw.out.frozen 5
    have lHKw := HKw.out.lt
    have mHKw := Nat.le_of_lt lHKw
    have HOx := qHOx
    clear qHOx
    have HKx := qHKx
    clear qHKx
    have cHKx_0 := HKx.out.cell (i := 0) rfl
    have zHKx_0 := HKx.out.frozen 0
    have cHKx_1 := HKx.out.cell (i := 1) rfl
    have zHKx_1 := HKx.out.frozen 1
    have cHKx_2 := HKx.out.cell (i := 2) rfl
    have zHKx_2 := HKx.out.frozen 2
    have cHKx_3 := HKx.out.cell (i := 3) rfl
    have zHKx_3 := HKx.out.frozen 3
    have cHKx_4 := HKx.out.cell (i := 4) rfl
    have zHKx_4 := HKx.out.frozen 4
    have cHKx_5 := HKx.out.cell (i := 5) rfl
    have zHKx_5 := HKx.out.frozen 5
    have lHKx := HKx.out.lt
    have mHKx := Nat.le_of_lt lHKx
    have HOg := qHOg
    clear qHOg
    have HKg := qHKg
    clear qHKg
    have cHKg_0 := HKg.out.cell (i := 0) rfl
    have zHKg_0 := HKg.out.frozen 0
    have cHKg_1 := HKg.out.cell (i := 1) rfl
    have zHKg_1 := HKg.out.frozen 1
    have cHKg_2 := HKg.out.cell (i := 2) rfl
    have zHKg_2 := HKg.out.frozen 2
    have cHKg_3 := HKg.out.cell (i := 3) rfl
    have zHKg_3 := HKg.out.frozen 3
    have cHKg_4 := HKg.out.cell (i := 4) rfl
    have zHKg_4 := HKg.out.frozen 4
    have cHKg_5 := HKg.out.cell (i := 5) rfl
    have zHKg_5 := HKg.out.frozen 5
    have lHKg := HKg.out.lt
    have mHKg := Nat.le_of_lt lHKg
    have HQ := qHQ
    clear qHQ
    have HOt := qHOt
    clear qHOt
    have hsW130 : w.heap.size ≤ W130.heap.size := HB.out.size
    go_wp2_with fail
    refine onward_mk HQ.out (hJ _ _ ?_)
    clear hJ J
    (repeat (refine wpPlan_pick (fun J hJ => ?_); go_simp; refine hJ _ ?_; clear hJ J))
    refine wpPlan_nil ?_
    clear bHKa_0 bHKa_1 bHKa_2 bHKa_3 bHKa_4 bHKa_5 blHKa bHKr_0 bHKr_1 bHKr_2 bHKr_3 bHKr_4 blHKr bHKw_0 bHKw_1 bHKw_2 bHKw_3 bHKw_4 bHKw_5 blHKw bHKx_0 bHKx_1 bHKx_2 bHKx_3 bHKx_4 bHKx_5 blHKx bHKg_0 bHKg_1 bHKg_2 bHKg_3 bHKg_4 bHKg_5 blHKg
    clear HQ HOt
    go_wp2_with fail
    refine (c_markLink _ _ _ _ _ _ _ _ _ _ _ HLx.out (by omega) (by omega) (by omega) HOx.out).mono ?_
    rintro _ W131 ⟨rfl, hg, hM⟩
    have qHB := Lib.hid (below_marked HB.out HOx.out HLx.out s_x hg)
    have qHKa := Lib.hid (Blk.grown HKa.out hg (fun e => by have := HOx.out.low HLx.out e; omega))
    have qHKr := Lib.hid (Blk.grown HKr.out hg (fun e => by have := HOx.out.low HLx.out e; omega))
    have qHOw := Lib.hid (Own.stay_under HOw.out HLw.out Htw_x.out HOx.out HLx.out hg)
    have qHKw := Lib.hid (Blk.grown HKw.out hg (fun e => by have := HOx.out.low HLx.out e; omega))
    have qHKx := Lib.hid (Blk.grown HKx.out hg (fun e => by have := Htx_box.out _ e; omega))
    have qHOg := Lib.hid (Own.stay_above HOg.out Htx_g.out hg)
    have qHKg := Lib.hid (Blk.grown HKg.out hg (fun e => by have := Htx_g.out _ e; omega))
    clear hg hM HB cHKa_0 zHKa_0 cHKa_1 zHKa_1 cHKa_2 zHKa_2 cHKa_3 zHKa_3 cHKa_4 zHKa_4 cHKa_5 zHKa_5 lHKa mHKa HKa cHKr_0 zHKr_0 cHKr_1 zHKr_1 cHKr_2 zHKr_2 cHKr_3 zHKr_3 cHKr_4 zHKr_4 lHKr mHKr HKr HOw cHKw_0 zHKw_0 cHKw_1 zHKw_1 cHKw_2 zHKw_2 cHKw_3 zHKw_3 cHKw_4 zHKw_4 cHKw_5 zHKw_5 lHKw mHKw HKw HOx cHKx_0 zHKx_0 cHKx_1 zHKx_1 cHKx_2 zHKx_2 cHKx_3 zHKx_3 cHKx_4 zHKx_4 cHKx_5 zHKx_5 lHKx mHKx HKx HOg cHKg_0 zHKg_0 cHKg_1 zHKg_1 cHKg_2 zHKg_2 cHKg_3 zHKg_3 cHKg_4 zHKg_4 cHKg_5 zHKg_5 lHKg mHKg HKg
    have HB := qHB
    clear qHB
    have HKa := qHKa
    clear qHKa
    have cHKa_0 := HKa.out.cell (i := 0) rfl
    have zHKa_0 := HKa.out.frozen 0
    have cHKa_1 := HKa.out.cell (i := 1) rfl
    have zHKa_1 := HKa.out.frozen 1
    have cHKa_2 := HKa.out.cell (i := 2) rfl
    have zHKa_2 := HKa.out.frozen 2
    have cHKa_3 := HKa.out.cell (i := 3) rfl
    have zHKa_3 := HKa.out.frozen 3
    have cHKa_4 := HKa.out.cell (i := 4) rfl
    have zHKa_4 := HKa.out.frozen 4
    have cHKa_5 := HKa.out.cell (i := 5) rfl
    have zHKa_5 := HKa.out.frozen 5
    have lHKa := HKa.out.lt
    have mHKa := Nat.le_of_lt lHKa
    have HKr := qHKr
    clear qHKr
    have cHKr_0 := HKr.out.cell (i := 0) rfl
    have zHKr_0 := HKr.out.frozen 0
    have cHKr_1 := HKr.out.cell (i := 1) rfl
    have zHKr_1 := HKr.out.frozen 1
    have cHKr_2 := HKr.out.cell (i := 2) rfl
    have zHKr_2 := HKr.out.frozen 2
    have cHKr_3 := HKr.out.cell (i := 3) rfl
    have zHKr_3 := HKr.out.frozen 3
    have cHKr_4 := HKr.out.cell (i := 4) rfl
    have zHKr_4 := HKr.out.frozen 4
    have lHKr := HKr.out.lt
    have mHKr := Nat.le_of_lt lHKr
    have HOw := qHOw
    clear qHOw
    have HKw := qHKw
    clear qHKw
    have cHKw_0 := HKw.out.cell (i := 0) rfl
    have zHKw_0 := HKw.out.frozen 0
    have cHKw_1 := HKw.out.cell (i := 1) rfl
    have zHKw_1 := HKw.out.frozen 1
    have cHKw_2 := HKw.out.cell (i := 2) rfl
    have zHKw_2 := HKw.out.frozen 2
    have cHKw_3 := HKw.out.cell (i := 3) rfl
    have zHKw_3 := HKw.out.frozen 3
    have cHKw_4 := HKw.out.cell (i := 4) rfl
    have zHKw_4 := HKw.out.frozen 4
    have cHKw_5 := HKw.out.cell (i := 5) rfl
    have zHKw_5 := HKw.out.frozen 5
    have lHKw := HKw.out.lt
    have mHKw := Nat.le_of_lt lHKw
    have HKx := qHKx
    clear qHKx
    have cHKx_0 := HKx.out.cell (i := 0) rfl
    have zHKx_0 := HKx.out.frozen 0
    have cHKx_1 := HKx.out.cell (i := 1) rfl
    have zHKx_1 := HKx.out.frozen 1
    have cHKx_2 := HKx.out.cell (i := 2) rfl
    have zHKx_2 := HKx.out.frozen 2
    have cHKx_3 := HKx.out.cell (i := 3) rfl
    have zHKx_3 := HKx.out.frozen 3
    have cHKx_4 := HKx.out.cell (i := 4) rfl
    have zHKx_4 := HKx.out.frozen 4
    have cHKx_5 := HKx.out.cell (i := 5) rfl
    have zHKx_5 := HKx.out.frozen 5
    have lHKx := HKx.out.lt
    have mHKx := Nat.le_of_lt lHKx
    have HOg := qHOg
    clear qHOg
    have HKg := qHKg
    clear qHKg
    have cHKg_0 := HKg.out.cell (i := 0) rfl
    have zHKg_0 := HKg.out.frozen 0
    have cHKg_1 := HKg.out.cell (i := 1) rfl
    have zHKg_1 := HKg.out.frozen 1
    have cHKg_2 := HKg.out.cell (i := 2) rfl
    have zHKg_2 := HKg.out.frozen 2
    have cHKg_3 := HKg.out.cell (i := 3) rfl
    have zHKg_3 := HKg.out.frozen 3
    have cHKg_4 := HKg.out.cell (i := 4) rfl
    have zHKg_4 := HKg.out.frozen 4
    have cHKg_5 := HKg.out.cell (i := 5) rfl
    have zHKg_5 := HKg.out.frozen 5
    have lHKg := HKg.out.lt
    have mHKg := Nat.le_of_lt lHKg
    have hsW131 : w.heap.size ≤ W131.heap.size := HB.out.size
    clear cHKx_0 zHKx_0 cHKx_1 zHKx_1 cHKx_2 zHKx_2 cHKx_3 zHKx_3 cHKx_4 zHKx_4 cHKx_5 zHKx_5 lHKx mHKx
    clear HKx
    have e1 : decide ((1:Int) + ((nx * 5 : Nat) : Int) < 0) = false := decide_eq_false (by omega)
    have e2 : decide ((1:Int) + (nx : Int) * 5 < 0) = false := decide_eq_false (by omega)
    go_wp2_with fail
    refine (c_eqLink cap0 cr' bk0 st' gt0 cap0 cr' bk0 st' gt0 _ _ _ _ _ _ _ _ _ true HLg.out HLw.out (by omega) (by omega) (HOg.out).row (HOw.out).row (by simp)).mono ?_
    rintro _ W132 ⟨rfl, p132, hp132⟩
    have qHB := Lib.hid (below_to hp132 HB.out)
    have qHKa := Lib.hid (Blk.to hp132 HKa.out)
    have qHKr := Lib.hid (Blk.to hp132 HKr.out)
    have qHOw := Lib.hid (own_to hp132 HOw.out)
    have qHKw := Lib.hid (Blk.to hp132 HKw.out)
    have qHOg := Lib.hid (own_to hp132 HOg.out)
    have qHKg := Lib.hid (Blk.to hp132 HKg.out)
    clear HB cHKa_0 zHKa_0 cHKa_1 zHKa_1 cHKa_2 zHKa_2 cHKa_3 zHKa_3 cHKa_4 zHKa_4 cHKa_5 zHKa_5 lHKa mHKa HKa cHKr_0 zHKr_0 cHKr_1 zHKr_1 cHKr_2 zHKr_2 cHKr_3 zHKr_3 cHKr_4 zHKr_4 lHKr mHKr HKr HOw cHKw_0 zHKw_0 cHKw_1 zHKw_1 cHKw_2 zHKw_2 cHKw_3 zHKw_3 cHKw_4 zHKw_4 cHKw_5 zHKw_5 lHKw mHKw HKw HOg cHKg_0 zHKg_0 cHKg_1 zHKg_1 cHKg_2 zHKg_2 cHKg_3 zHKg_3 cHKg_4 zHKg_4 cHKg_5 zHKg_5 lHKg mHKg HKg hp132
    have HB := qHB
    clear qHB
    have HKa := qHKa
    clear qHKa
    have cHKa_0 := HKa.out.cell (i := 0) rfl
    have zHKa_0 := HKa.out.frozen 0
    have cHKa_1 := HKa.out.cell (i := 1) rfl
    have zHKa_1 := HKa.out.frozen 1
    have cHKa_2 := HKa.out.cell (i := 2) rfl
    have zHKa_2 := HKa.out.frozen 2
    have cHKa_3 := HKa.out.cell (i := 3) rfl
    have zHKa_3 := HKa.out.frozen 3
    have cHKa_4 := HKa.out.cell (i := 4) rfl
    have zHKa_4 := HKa.out.frozen 4
    have cHKa_5 := HKa.out.cell (i := 5) rfl
    have zHKa_5 := HKa.out.frozen 5
    have lHKa := HKa.out.lt
    have mHKa := Nat.le_of_lt lHKa
    have HKr := qHKr
    clear qHKr
    have cHKr_0 := HKr.out.cell (i := 0) rfl
    have zHKr_0 := HKr.out.frozen 0
    have cHKr_1 := HKr.out.cell (i := 1) rfl
    have zHKr_1 := HKr.out.frozen 1
    have cHKr_2 := HKr.out.cell (i := 2) rfl
    have zHKr_2 := HKr.out.frozen 2
    have cHKr_3 := HKr.out.cell (i := 3) rfl
    have zHKr_3 := HKr.out.frozen 3
    have cHKr_4 := HKr.out.cell (i := 4) rfl
    have zHKr_4 := HKr.out.frozen 4
    have lHKr := HKr.out.lt
    have mHKr := Nat.le_of_lt lHKr
    have HOw := qHOw
    clear qHOw
    have HKw := qHKw
    clear qHKw
    have cHKw_0 := HKw.out.cell (i := 0) rfl
    have zHKw_0 := HKw.out.frozen 0
    have cHKw_1 := HKw.out.cell (i := 1) rfl
    have zHKw_1 := HKw.out.frozen 1
    have cHKw_2 := HKw.out.cell (i := 2) rfl
    have zHKw_2 := HKw.out.frozen 2
    have cHKw_3 := HKw.out.cell (i := 3) rfl
    have zHKw_3 := HKw.out.frozen 3
    have cHKw_4 := HKw.out.cell (i := 4) rfl
    have zHKw_4 := HKw.out.frozen 4
    have cHKw_5 := HKw.out.cell (i := 5) rfl
    have zHKw_5 := HKw.out.frozen 5
    have lHKw := HKw.out.lt
    have mHKw := Nat.le_of_lt lHKw
    have HOg := qHOg
    clear qHOg
    have HKg := qHKg
    clear qHKg
    have cHKg_0 := HKg.out.cell (i := 0) rfl
    have zHKg_0 := HKg.out.frozen 0
    have cHKg_1 := HKg.out.cell (i := 1) rfl
    have zHKg_1 := HKg.out.frozen 1
    have cHKg_2 := HKg.out.cell (i := 2) rfl
    have zHKg_2 := HKg.out.frozen 2
    have cHKg_3 := HKg.out.cell (i := 3) rfl
    have zHKg_3 := HKg.out.frozen 3
    have cHKg_4 := HKg.out.cell (i := 4) rfl
    have zHKg_4 := HKg.out.frozen 4
    have cHKg_5 := HKg.out.cell (i := 5) rfl
    have zHKg_5 := HKg.out.frozen 5
    have lHKg := HKg.out.lt
    have mHKg := Nat.le_of_lt lHKg
    have hsW132 : w.heap.size ≤ W132.heap.size := HB.out.size
    clear e1 e2
    go_wp2_with fail
    refine (c_markLink _ _ _ _ _ _ _ _ _ _ _ HLg.out (by omega) (by omega) (by omega) HOg.out).mono ?_
    rintro _ W133 ⟨rfl, hg, hM⟩
    have qHB := Lib.hid (below_marked HB.out HOg.out HLg.out s_g hg)
    have qHKa := Lib.hid (Blk.grown HKa.out hg (fun e => by have := HOg.out.low HLg.out e; omega))
    have qHKr := Lib.hid (Blk.grown HKr.out hg (fun e => by have := HOg.out.low HLg.out e; omega))
    have qHOw := Lib.hid (Own.stay_under HOw.out HLw.out Htw_g.out HOg.out HLg.out hg)
    have qHKw := Lib.hid (Blk.grown HKw.out hg (fun e => by have := HOg.out.low HLg.out e; omega))
    have qHKg := Lib.hid (Blk.grown HKg.out hg (HNg.out))
    have qMg := Lib.hid hM
    clear hg hM HB cHKa_0 zHKa_0 cHKa_1 zHKa_1 cHKa_2 zHKa_2 cHKa_3 zHKa_3 cHKa_4 zHKa_4 cHKa_5 zHKa_5 lHKa mHKa HKa cHKr_0 zHKr_0 cHKr_1 zHKr_1 cHKr_2 zHKr_2 cHKr_3 zHKr_3 cHKr_4 zHKr_4 lHKr mHKr HKr HOw cHKw_0 zHKw_0 cHKw_1 zHKw_1 cHKw_2 zHKw_2 cHKw_3 zHKw_3 cHKw_4 zHKw_4 cHKw_5 zHKw_5 lHKw mHKw HKw HOg cHKg_0 zHKg_0 cHKg_1 zHKg_1 cHKg_2 zHKg_2 cHKg_3 zHKg_3 cHKg_4 zHKg_4 cHKg_5 zHKg_5 lHKg mHKg HKg
    have HB := qHB
    clear qHB
    have HKa := qHKa
    clear qHKa
    have cHKa_0 := HKa.out.cell (i := 0) rfl
    have zHKa_0 := HKa.out.frozen 0
    have cHKa_1 := HKa.out.cell (i := 1) rfl
    have zHKa_1 := HKa.out.frozen 1
    have cHKa_2 := HKa.out.cell (i := 2) rfl
    have zHKa_2 := HKa.out.frozen 2
    have cHKa_3 := HKa.out.cell (i := 3) rfl
    have zHKa_3 := HKa.out.frozen 3
    have cHKa_4 := HKa.out.cell (i := 4) rfl
    have zHKa_4 := HKa.out.frozen 4
    have cHKa_5 := HKa.out.cell (i := 5) rfl
    have zHKa_5 := HKa.out.frozen 5
    have lHKa := HKa.out.lt
    have mHKa := Nat.le_of_lt lHKa
    have HKr := qHKr
    clear qHKr
    have cHKr_0 := HKr.out.cell (i := 0) rfl
    have zHKr_0 := HKr.out.frozen 0
    have cHKr_1 := HKr.out.cell (i := 1) rfl
    have zHKr_1 := HKr.out.frozen 1
    have cHKr_2 := HKr.out.cell (i := 2) rfl
    have zHKr_2 := HKr.out.frozen 2
    have cHKr_3 := HKr.out.cell (i := 3) rfl
    have zHKr_3 := HKr.out.frozen 3
    have cHKr_4 := HKr.out.cell (i := 4) rfl
    have zHKr_4 := HKr.out.frozen 4
    have lHKr := HKr.out.lt
    have mHKr := Nat.le_of_lt lHKr
    have HOw := qHOw
    clear qHOw
    have HKw := qHKw
    clear qHKw
    have cHKw_0 := HKw.out.cell (i := 0) rfl
    have zHKw_0 := HKw.out.frozen 0
    have cHKw_1 := HKw.out.cell (i := 1) rfl
    have zHKw_1 := HKw.out.frozen 1
    have cHKw_2 := HKw.out.cell (i := 2) rfl
    have zHKw_2 := HKw.out.frozen 2
    have cHKw_3 := HKw.out.cell (i := 3) rfl
    have zHKw_3 := HKw.out.frozen 3
    have cHKw_4 := HKw.out.cell (i := 4) rfl
    have zHKw_4 := HKw.out.frozen 4
    have cHKw_5 := HKw.out.cell (i := 5) rfl
    have zHKw_5 := HKw.out.frozen 5
    have lHKw := HKw.out.lt
    have mHKw := Nat.le_of_lt lHKw
    have HKg := qHKg
    clear qHKg
    have cHKg_0 := HKg.out.cell (i := 0) rfl
    have zHKg_0 := HKg.out.frozen 0
    have cHKg_1 := HKg.out.cell (i := 1) rfl
    have zHKg_1 := HKg.out.frozen 1
    have cHKg_2 := HKg.out.cell (i := 2) rfl
    have zHKg_2 := HKg.out.frozen 2
    have cHKg_3 := HKg.out.cell (i := 3) rfl
    have zHKg_3 := HKg.out.frozen 3
    have cHKg_4 := HKg.out.cell (i := 4) rfl
    have zHKg_4 := HKg.out.frozen 4
    have cHKg_5 := HKg.out.cell (i := 5) rfl
    have zHKg_5 := HKg.out.frozen 5
    have lHKg := HKg.out.lt
    have mHKg := Nat.le_of_lt lHKg
    have Mg := qMg
    clear qMg
    have hsW133 : w.heap.size ≤ W133.heap.size := HB.out.size
    go_wp2_with fail
    refine (h_heldLink _ _ _ _ _ _ _ _ _ _ (by omega) (by omega) (by omega) Mg.out).mono ?_
    rintro _ W134 ⟨rfl, p134, hp134⟩
    have qHB := Lib.hid (below_to hp134 HB.out)
    have qHKa := Lib.hid (Blk.to hp134 HKa.out)
    have qHKr := Lib.hid (Blk.to hp134 HKr.out)
    have qHOw := Lib.hid (own_to hp134 HOw.out)
    have qHKw := Lib.hid (Blk.to hp134 HKw.out)
    have qHKg := Lib.hid (Blk.to hp134 HKg.out)
    have qMg := Lib.hid (row_to hp134 Mg.out)
    clear HB cHKa_0 zHKa_0 cHKa_1 zHKa_1 cHKa_2 zHKa_2 cHKa_3 zHKa_3 cHKa_4 zHKa_4 cHKa_5 zHKa_5 lHKa mHKa HKa cHKr_0 zHKr_0 cHKr_1 zHKr_1 cHKr_2 zHKr_2 cHKr_3 zHKr_3 cHKr_4 zHKr_4 lHKr mHKr HKr HOw cHKw_0 zHKw_0 cHKw_1 zHKw_1 cHKw_2 zHKw_2 cHKw_3 zHKw_3 cHKw_4 zHKw_4 cHKw_5 zHKw_5 lHKw mHKw HKw cHKg_0 zHKg_0 cHKg_1 zHKg_1 cHKg_2 zHKg_2 cHKg_3 zHKg_3 cHKg_4 zHKg_4 cHKg_5 zHKg_5 lHKg mHKg HKg Mg hp134
    have HB := qHB
    clear qHB
    have HKa := qHKa
    clear qHKa
    have cHKa_0 := HKa.out.cell (i := 0) rfl
    have zHKa_0 := HKa.out.frozen 0
    have cHKa_1 := HKa.out.cell (i := 1) rfl
    have zHKa_1 := HKa.out.frozen 1
    have cHKa_2 := HKa.out.cell (i := 2) rfl
    have zHKa_2 := HKa.out.frozen 2
    have cHKa_3 := HKa.out.cell (i := 3) rfl
    have zHKa_3 := HKa.out.frozen 3
    have cHKa_4 := HKa.out.cell (i := 4) rfl
    have zHKa_4 := HKa.out.frozen 4
    have cHKa_5 := HKa.out.cell (i := 5) rfl
    have zHKa_5 := HKa.out.frozen 5
    have lHKa := HKa.out.lt
    have mHKa := Nat.le_of_lt lHKa
    have HKr := qHKr
    clear qHKr
    have cHKr_0 := HKr.out.cell (i := 0) rfl
    have zHKr_0 := HKr.out.frozen 0
    have cHKr_1 := HKr.out.cell (i := 1) rfl
    have zHKr_1 := HKr.out.frozen 1
    have cHKr_2 := HKr.out.cell (i := 2) rfl
    have zHKr_2 := HKr.out.frozen 2
    have cHKr_3 := HKr.out.cell (i := 3) rfl
    have zHKr_3 := HKr.out.frozen 3
    have cHKr_4 := HKr.out.cell (i := 4) rfl
    have zHKr_4 := HKr.out.frozen 4
    have lHKr := HKr.out.lt
    have mHKr := Nat.le_of_lt lHKr
    have HOw := qHOw
    clear qHOw
    have HKw := qHKw
    clear qHKw
    have cHKw_0 := HKw.out.cell (i := 0) rfl
    have zHKw_0 := HKw.out.frozen 0
    have cHKw_1 := HKw.out.cell (i := 1) rfl
    have zHKw_1 := HKw.out.frozen 1
    have cHKw_2 := HKw.out.cell (i := 2) rfl
    have zHKw_2 := HKw.out.frozen 2
    have cHKw_3 := HKw.out.cell (i := 3) rfl
    have zHKw_3 := HKw.out.frozen 3
    have cHKw_4 := HKw.out.cell (i := 4) rfl
    have zHKw_4 := HKw.out.frozen 4
    have cHKw_5 := HKw.out.cell (i := 5) rfl
    have zHKw_5 := HKw.out.frozen 5
    have lHKw := HKw.out.lt
    have mHKw := Nat.le_of_lt lHKw
    have HKg := qHKg
    clear qHKg
    have cHKg_0 := HKg.out.cell (i := 0) rfl
    have zHKg_0 := HKg.out.frozen 0
    have cHKg_1 := HKg.out.cell (i := 1) rfl
    have zHKg_1 := HKg.out.frozen 1
    have cHKg_2 := HKg.out.cell (i := 2) rfl
    have zHKg_2 := HKg.out.frozen 2
    have cHKg_3 := HKg.out.cell (i := 3) rfl
    have zHKg_3 := HKg.out.frozen 3
    have cHKg_4 := HKg.out.cell (i := 4) rfl
    have zHKg_4 := HKg.out.frozen 4
    have cHKg_5 := HKg.out.cell (i := 5) rfl
    have zHKg_5 := HKg.out.frozen 5
    have lHKg := HKg.out.lt
    have mHKg := Nat.le_of_lt lHKg
    have Mg := qMg
    clear qMg
    have hsW134 : w.heap.size ≤ W134.heap.size := HB.out.size
    go_upto_region 24 with fail
    refine wp_anchor (F := fun V => ∃ p, V = later W134 p) (later_of_below (by (repeat (first | with_reducible exact Below.refl _ _ | with_reducible assumption | with_reducible refine Below.drew ?_ | with_reducible refine below_drewN ?_ _ | with_reducible exact HQ.out | with_reducible exact HBW.out | with_reducible refine below_ext ?_ _ _ | with_reducible refine below_then_later ?_ (by first | with_reducible exact Nat.le_refl _ | with_reducible exact HBW.out.size | with_reducible exact HQ.out.size | omega | (simp; done) | (simp; omega) | (simp [later_size]; done) | (simp [later_size]; omega)) _ | with_reducible refine Below.setCell ?_ (by first | with_reducible exact Nat.le_refl _ | with_reducible exact HBW.out.size | with_reducible exact HQ.out.size | omega | (simp; done) | (simp; omega) | (simp [later_size]; done) | (simp [later_size]; omega)) _ | with_reducible refine Below.alloc ?_ (by first | with_reducible exact Nat.le_refl _ | with_reducible exact HBW.out.size | with_reducible exact HQ.out.size | omega | (simp; done) | (simp; omega) | (simp [later_size]; done) | (simp [later_size]; omega)) _)))) (fun W135 hV => ?_)
    obtain ⟨p, hp⟩ := hV
    have qHB := Lib.hid (below_to hp HB.out)
    have qHKa := Lib.hid (Blk.to hp HKa.out)
    have qHKr := Lib.hid (Blk.to hp HKr.out)
    have qHOw := Lib.hid (own_to hp HOw.out)
    have qHKw := Lib.hid (Blk.to hp HKw.out)
    have qHKg := Lib.hid (Blk.to hp HKg.out)
    have qMg := Lib.hid (row_to hp Mg.out)
    clear HB cHKa_0 zHKa_0 cHKa_1 zHKa_1 cHKa_2 zHKa_2 cHKa_3 zHKa_3 cHKa_4 zHKa_4 cHKa_5 zHKa_5 lHKa mHKa HKa cHKr_0 zHKr_0 cHKr_1 zHKr_1 cHKr_2 zHKr_2 cHKr_3 zHKr_3 cHKr_4 zHKr_4 lHKr mHKr HKr HOw cHKw_0 zHKw_0 cHKw_1 zHKw_1 cHKw_2 zHKw_2 cHKw_3 zHKw_3 cHKw_4 zHKw_4 cHKw_5 zHKw_5 lHKw mHKw HKw cHKg_0 zHKg_0 cHKg_1 zHKg_1 cHKg_2 zHKg_2 cHKg_3 zHKg_3 cHKg_4 zHKg_4 cHKg_5 zHKg_5 lHKg mHKg HKg Mg hp
    have HB := qHB
    clear qHB
    have HKa := qHKa
    clear qHKa
    have cHKa_0 := HKa.out.cell (i := 0) rfl
    have zHKa_0 := HKa.out.frozen 0
    have cHKa_1 := HKa.out.cell (i := 1) rfl
    have zHKa_1 := HKa.out.frozen 1
    have cHKa_2 := HKa.out.cell (i := 2) rfl
    have zHKa_2 := HKa.out.frozen 2
    have cHKa_3 := HKa.out.cell (i := 3) rfl
    have zHKa_3 := HKa.out.frozen 3
    have cHKa_4 := HKa.out.cell (i := 4) rfl
    have zHKa_4 := HKa.out.frozen 4
    have cHKa_5 := HKa.out.cell (i := 5) rfl
    have zHKa_5 := HKa.out.frozen 5
    have lHKa := HKa.out.lt
    have mHKa := Nat.le_of_lt lHKa
    have HKr := qHKr
    clear qHKr
    have cHKr_0 := HKr.out.cell (i := 0) rfl
    have zHKr_0 := HKr.out.frozen 0
    have cHKr_1 := HKr.out.cell (i := 1) rfl
    have zHKr_1 := HKr.out.frozen 1
    have cHKr_2 := HKr.out.cell (i := 2) rfl
    have zHKr_2 := HKr.out.frozen 2
    have cHKr_3 := HKr.out.cell (i := 3) rfl
    have zHKr_3 := HKr.out.frozen 3
    have cHKr_4 := HKr.out.cell (i := 4) rfl
    have zHKr_4 := HKr.out.frozen 4
    have lHKr := HKr.out.lt
    have mHKr := Nat.le_of_lt lHKr
    have HOw := qHOw
    clear qHOw
    have HKw := qHKw
    clear qHKw
    have cHKw_0 := HKw.out.cell (i := 0) rfl
    have zHKw_0 := HKw.out.frozen 0
    have cHKw_1 := HKw.out.cell (i := 1) rfl
    have zHKw_1 := HKw.out.frozen 1
    have cHKw_2 := HKw.out.cell (i := 2) rfl
    have zHKw_2 := HKw.out.frozen 2
    have cHKw_3 := HKw.out.cell (i := 3) rfl
    have zHKw_3 := HKw.out.frozen 3
    have cHKw_4 := HKw.out.cell (i := 4) rfl
    have zHKw_4 := HKw.out.frozen 4
    have cHKw_5 := HKw.out.cell (i := 5) rfl
    have zHKw_5 := HKw.out.frozen 5
    have lHKw := HKw.out.lt
    have mHKw := Nat.le_of_lt lHKw
    have HKg := qHKg
    clear qHKg
    have cHKg_0 := HKg.out.cell (i := 0) rfl
    have zHKg_0 := HKg.out.frozen 0
    have cHKg_1 := HKg.out.cell (i := 1) rfl
    have zHKg_1 := HKg.out.frozen 1
    have cHKg_2 := HKg.out.cell (i := 2) rfl
    have zHKg_2 := HKg.out.frozen 2
    have cHKg_3 := HKg.out.cell (i := 3) rfl
    have zHKg_3 := HKg.out.frozen 3
    have cHKg_4 := HKg.out.cell (i := 4) rfl
    have zHKg_4 := HKg.out.frozen 4
    have cHKg_5 := HKg.out.cell (i := 5) rfl
    have zHKg_5 := HKg.out.frozen 5
    have lHKg := HKg.out.lt
    have mHKg := Nat.le_of_lt lHKg
    have Mg := qMg
    clear qMg
    have hsW135 : w.heap.size ≤ W135.heap.size := HB.out.size
    go_cut [14, 15] (fun sa sb wx => ∃ (g : Nat) (A : Option Addr) (n c : Nat) (p : Later), sa = .pointer (some ⟨g, 0, Option.none⟩) ∧ sb = .bool z ∧ ys.length = n ∧ n ≤ 9223372036854775807 ∧ W135.heap.size ≤ g ∧ some g ≠ ob A n ∧ Own encR 5 W135.heap.size wx A ys ∧ Blk g [.int .i64 cap0, .slice A n c, .int .i64 cr', .int .i64 bk0, .int .i64 st', .int .i64 gt0] 35 wx ∧ wx = later W135 p)
    case first =>
      with_reducible refine wp_region_plt (fun V => V.cell? ⟨w.heap.size, 0, Option.none⟩ = some (.int .i64 cap0) ∧ V.cell? ⟨w.heap.size, 1, Option.none⟩ = some (.slice A0 n0 c0) ∧ V.cell? ⟨w.heap.size, 2, Option.none⟩ = some (.int .i64 cr0) ∧ V.cell? ⟨w.heap.size, 3, Option.none⟩ = some (.int .i64 bk0) ∧ V.cell? ⟨w.heap.size, 4, Option.none⟩ = some (.int .i64 st0) ∧ V.cell? ⟨w.heap.size, 5, Option.none⟩ = some (.int .i64 gt0) ∧ V.cell? ⟨w.heap.size + 1, 0, Option.none⟩ = some (.int .i64 x1) ∧ V.cell? ⟨w.heap.size + 1, 1, Option.none⟩ = some (.int .i64 x2) ∧ V.cell? ⟨w.heap.size + 1, 2, Option.none⟩ = some (.int .i64 x3) ∧ V.cell? ⟨w.heap.size + 1, 3, Option.none⟩ = some (.int .i64 x4) ∧ V.cell? ⟨w.heap.size + 1, 4, Option.none⟩ = some (.int .i64 x5)) (Plt.pick 0 (Plt.pick 2 (Plt.two 1 (Plt.two 3 (Plt.two 4 (Plt.pick 5 (Plt.pick 6 (Plt.pick 7 (Plt.one 8 (Plt.one 9 (Plt.pick 10 (Plt.nil))))))) 8 (Plt.one 4 (Plt.pick 5 (Plt.pick 6 (Plt.pick 7 (Plt.one 9 (Plt.pick 10 (Plt.nil)))))))) 8 (Plt.one 3 (Plt.one 4 (Plt.pick 5 (Plt.pick 6 (Plt.pick 7 (Plt.one 9 (Plt.pick 10 (Plt.nil))))))))) 8 (Plt.one 1 (Plt.one 3 (Plt.one 4 (Plt.pick 5 (Plt.pick 6 (Plt.pick 7 (Plt.one 9 (Plt.pick 10 (Plt.nil)))))))))))) (by kernel_rfl) (by kernel_rfl) ?_ ?_
      · exact ⟨cHKa_0, cHKa_1, cHKa_2, cHKa_3, cHKa_4, cHKa_5, cHKr_0, cHKr_1, cHKr_2, cHKr_3, cHKr_4⟩
      have v_HKa := lHKa
      have v_HKr := lHKr
      have HQ := Lib.hid (below_self W135)
      refine plt_anchor (F := fun V => ∃ p, V = later W135 p) (later_of_below (by (repeat (first | with_reducible exact Below.refl _ _ | with_reducible assumption | with_reducible refine Below.drew ?_ | with_reducible refine below_drewN ?_ _ | with_reducible exact HQ.out | with_reducible exact HBW.out | with_reducible refine below_ext ?_ _ _ | with_reducible refine below_then_later ?_ (by first | with_reducible exact Nat.le_refl _ | with_reducible exact HBW.out.size | with_reducible exact HQ.out.size | omega | (simp; done) | (simp; omega) | (simp [later_size]; done) | (simp [later_size]; omega)) _ | with_reducible refine Below.setCell ?_ (by first | with_reducible exact Nat.le_refl _ | with_reducible exact HBW.out.size | with_reducible exact HQ.out.size | omega | (simp; done) | (simp; omega) | (simp [later_size]; done) | (simp [later_size]; omega)) _ | with_reducible refine Below.alloc ?_ (by first | with_reducible exact Nat.le_refl _ | with_reducible exact HBW.out.size | with_reducible exact HQ.out.size | omega | (simp; done) | (simp; omega) | (simp [later_size]; done) | (simp [later_size]; omega)) _)))) (fun W136 hV => ?_)
      obtain ⟨p, hp⟩ := hV
      have qHB := Lib.hid (below_to hp HB.out)
      have qHKa := Lib.hid (Blk.to hp HKa.out)
      have qHKr := Lib.hid (Blk.to hp HKr.out)
      have qHOw := Lib.hid (own_to hp HOw.out)
      have qHKw := Lib.hid (Blk.to hp HKw.out)
      have qHKg := Lib.hid (Blk.to hp HKg.out)
      have qMg := Lib.hid (row_to hp Mg.out)
      have qHQ := Lib.hid (below_to hp HQ.out)
      clear HB cHKa_0 zHKa_0 cHKa_1 zHKa_1 cHKa_2 zHKa_2 cHKa_3 zHKa_3 cHKa_4 zHKa_4 cHKa_5 zHKa_5 lHKa mHKa HKa cHKr_0 zHKr_0 cHKr_1 zHKr_1 cHKr_2 zHKr_2 cHKr_3 zHKr_3 cHKr_4 zHKr_4 lHKr mHKr HKr HOw cHKw_0 zHKw_0 cHKw_1 zHKw_1 cHKw_2 zHKw_2 cHKw_3 zHKw_3 cHKw_4 zHKw_4 cHKw_5 zHKw_5 lHKw mHKw HKw cHKg_0 zHKg_0 cHKg_1 zHKg_1 cHKg_2 zHKg_2 cHKg_3 zHKg_3 cHKg_4 zHKg_4 cHKg_5 zHKg_5 lHKg mHKg HKg Mg HQ hp
      have HB := qHB
      clear qHB
      have HKa := qHKa
      clear qHKa
      have cHKa_0 := HKa.out.cell (i := 0) rfl
      have zHKa_0 := HKa.out.frozen 0
      have cHKa_1 := HKa.out.cell (i := 1) rfl
      have zHKa_1 := HKa.out.frozen 1
      have cHKa_2 := HKa.out.cell (i := 2) rfl
      have zHKa_2 := HKa.out.frozen 2
      have cHKa_3 := HKa.out.cell (i := 3) rfl
      have zHKa_3 := HKa.out.frozen 3
      have cHKa_4 := HKa.out.cell (i := 4) rfl
      have zHKa_4 := HKa.out.frozen 4
      have cHKa_5 := HKa.out.cell (i := 5) rfl
      have zHKa_5 := HKa.out.frozen 5
      have lHKa := HKa.out.lt
      have mHKa := Nat.le_of_lt lHKa
      have HKr := qHKr
      clear qHKr
      have cHKr_0 := HKr.out.cell (i := 0) rfl
      have zHKr_0 := HKr.out.frozen 0
      have cHKr_1 := HKr.out.cell (i := 1) rfl
      have zHKr_1 := HKr.out.frozen 1
      have cHKr_2 := HKr.out.cell (i := 2) rfl
      have zHKr_2 := HKr.out.frozen 2
      have cHKr_3 := HKr.out.cell (i := 3) rfl
      have zHKr_3 := HKr.out.frozen 3
      have cHKr_4 := HKr.out.cell (i := 4) rfl
      have zHKr_4 := HKr.out.frozen 4
      have lHKr := HKr.out.lt
      have mHKr := Nat.le_of_lt lHKr
      have HOw := qHOw
      clear qHOw
      have HKw := qHKw
      clear qHKw
      have cHKw_0 := HKw.out.cell (i := 0) rfl
      have zHKw_0 := HKw.out.frozen 0
      have cHKw_1 := HKw.out.cell (i := 1) rfl
      have zHKw_1 := HKw.out.frozen 1
      have cHKw_2 := HKw.out.cell (i := 2) rfl
      have zHKw_2 := HKw.out.frozen 2
      have cHKw_3 := HKw.out.cell (i := 3) rfl
      have zHKw_3 := HKw.out.frozen 3
      have cHKw_4 := HKw.out.cell (i := 4) rfl
      have zHKw_4 := HKw.out.frozen 4
      have cHKw_5 := HKw.out.cell (i := 5) rfl
      have zHKw_5 := HKw.out.frozen 5
      have lHKw := HKw.out.lt
      have mHKw := Nat.le_of_lt lHKw
      have HKg := qHKg
      clear qHKg
      have cHKg_0 := HKg.out.cell (i := 0) rfl
      have zHKg_0 := HKg.out.frozen 0
      have cHKg_1 := HKg.out.cell (i := 1) rfl
      have zHKg_1 := HKg.out.frozen 1
      have cHKg_2 := HKg.out.cell (i := 2) rfl
      have zHKg_2 := HKg.out.frozen 2
      have cHKg_3 := HKg.out.cell (i := 3) rfl
      have zHKg_3 := HKg.out.frozen 3
      have cHKg_4 := HKg.out.cell (i := 4) rfl
      have zHKg_4 := HKg.out.frozen 4
      have cHKg_5 := HKg.out.cell (i := 5) rfl
      have zHKg_5 := HKg.out.frozen 5
      have lHKg := HKg.out.lt
      have mHKg := Nat.le_of_lt lHKg
      have Mg := qMg
      clear qMg
      have HQ := qHQ
      clear qHQ
      have hsW136 : w.heap.size ≤ W136.heap.size := HB.out.size
      (repeat (refine wpPlt_pick (fun J hJ => ?_); simp only [List.getD_cons_zero, List.getD_cons_succ]; first | (go_simp; refine hJ _ ?_; clear hJ J) | (go_simp; refine ⟨_, (fun w1 => by (repeat (intro hh; try simp only [hh, Result.andThen])); rfl), ?_⟩; refine hJ _ ?_; clear hJ J)))
      refine wpPlt_two (fun J hJ => ?_) (fun J hJ => ?_)
      · simp only [List.getD_cons_zero, List.getD_cons_succ]
        go_wp2_with fail
        have tHKa_y := lHKa
        have tHKr_y := lHKr
        have Htw_y := Lib.hid (Lt.of_row lenR (by decide) HOw.out.row HLw.out)
        have tHKw_y := lHKw
        have tHKg_y := lHKg
        have s_y : w.heap.size ≤ W136.heap.size := HB.out.size
        have u_y : _ ≤ W136.heap.size := HQ.out.size
        refine (c_toLink cap0 cr0 bk0 st0 gt0 A0 n0 _ x0 _ HN.out hle0 (HA.out.below HB.out)).mono ?_
        rintro _ W137 ⟨Ay, ny, cy, rfl, hly, hcy, hmy, hOy, p137, hp137⟩
        have qHB := Lib.hid (below_to hp137 HB.out)
        have qHKa := Lib.hid (Blk.to hp137 HKa.out)
        have qHKr := Lib.hid (Blk.to hp137 HKr.out)
        have qHOw := Lib.hid (own_to hp137 HOw.out)
        have qHKw := Lib.hid (Blk.to hp137 HKw.out)
        have qHKg := Lib.hid (Blk.to hp137 HKg.out)
        have qMg := Lib.hid (row_to hp137 Mg.out)
        have qHQ := Lib.hid (below_to hp137 HQ.out)
        clear HB cHKa_0 zHKa_0 cHKa_1 zHKa_1 cHKa_2 zHKa_2 cHKa_3 zHKa_3 cHKa_4 zHKa_4 cHKa_5 zHKa_5 lHKa mHKa HKa cHKr_0 zHKr_0 cHKr_1 zHKr_1 cHKr_2 zHKr_2 cHKr_3 zHKr_3 cHKr_4 zHKr_4 lHKr mHKr HKr HOw cHKw_0 zHKw_0 cHKw_1 zHKw_1 cHKw_2 zHKw_2 cHKw_3 zHKw_3 cHKw_4 zHKw_4 cHKw_5 zHKw_5 lHKw mHKw HKw cHKg_0 zHKg_0 cHKg_1 zHKg_1 cHKg_2 zHKg_2 cHKg_3 zHKg_3 cHKg_4 zHKg_4 cHKg_5 zHKg_5 lHKg mHKg HKg Mg HQ hp137
        have HB := qHB
        clear qHB
        have HKa := qHKa
        clear qHKa
        have cHKa_0 := HKa.out.cell (i := 0) rfl
        have zHKa_0 := HKa.out.frozen 0
        have cHKa_1 := HKa.out.cell (i := 1) rfl
        have zHKa_1 := HKa.out.frozen 1
        have cHKa_2 := HKa.out.cell (i := 2) rfl
        have zHKa_2 := HKa.out.frozen 2
        have cHKa_3 := HKa.out.cell (i := 3) rfl
        have zHKa_3 := HKa.out.frozen 3
        have cHKa_4 := HKa.out.cell (i := 4) rfl
        have zHKa_4 := HKa.out.frozen 4
        have cHKa_5 := HKa.out.cell (i := 5) rfl
        have zHKa_5 := HKa.out.frozen 5
        have lHKa := HKa.out.lt
        have mHKa := Nat.le_of_lt lHKa
        have HKr := qHKr
        clear qHKr
        have cHKr_0 := HKr.out.cell (i := 0) rfl
        have zHKr_0 := HKr.out.frozen 0
        have cHKr_1 := HKr.out.cell (i := 1) rfl
        have zHKr_1 := HKr.out.frozen 1
        have cHKr_2 := HKr.out.cell (i := 2) rfl
        have zHKr_2 := HKr.out.frozen 2
        have cHKr_3 := HKr.out.cell (i := 3) rfl
        have zHKr_3 := HKr.out.frozen 3
        have cHKr_4 := HKr.out.cell (i := 4) rfl
        have zHKr_4 := HKr.out.frozen 4
        have lHKr := HKr.out.lt
        have mHKr := Nat.le_of_lt lHKr
        have HOw := qHOw
        clear qHOw
        have HKw := qHKw
        clear qHKw
        have cHKw_0 := HKw.out.cell (i := 0) rfl
        have zHKw_0 := HKw.out.frozen 0
        have cHKw_1 := HKw.out.cell (i := 1) rfl
        have zHKw_1 := HKw.out.frozen 1
        have cHKw_2 := HKw.out.cell (i := 2) rfl
        have zHKw_2 := HKw.out.frozen 2
        have cHKw_3 := HKw.out.cell (i := 3) rfl
        have zHKw_3 := HKw.out.frozen 3
        have cHKw_4 := HKw.out.cell (i := 4) rfl
        have zHKw_4 := HKw.out.frozen 4
        have cHKw_5 := HKw.out.cell (i := 5) rfl
        have zHKw_5 := HKw.out.frozen 5
        have lHKw := HKw.out.lt
        have mHKw := Nat.le_of_lt lHKw
        have HKg := qHKg
        clear qHKg
        have cHKg_0 := HKg.out.cell (i := 0) rfl
        have zHKg_0 := HKg.out.frozen 0
        have cHKg_1 := HKg.out.cell (i := 1) rfl
        have zHKg_1 := HKg.out.frozen 1
        have cHKg_2 := HKg.out.cell (i := 2) rfl
        have zHKg_2 := HKg.out.frozen 2
        have cHKg_3 := HKg.out.cell (i := 3) rfl
        have zHKg_3 := HKg.out.frozen 3
        have cHKg_4 := HKg.out.cell (i := 4) rfl
        have zHKg_4 := HKg.out.frozen 4
        have cHKg_5 := HKg.out.cell (i := 5) rfl
        have zHKg_5 := HKg.out.frozen 5
        have lHKg := HKg.out.lt
        have mHKg := Nat.le_of_lt lHKg
        have Mg := qMg
        clear qMg
        have HQ := qHQ
        clear qHQ
        have hsW137 : w.heap.size ≤ W137.heap.size := HB.out.size
        have HOy := Lib.hid hOy
        have HLy := Lib.hid hly
        clear hOy hly
        unfold maxLen at hmy
        have hby : ny ≤ 1048576 := by rw [← HLy.out, HN.out]; exact hle0
        go_wp2_with fail
        refine onward_K ⟨cHKa_0, cHKa_1, cHKa_2, cHKa_3, cHKa_4, cHKa_5, cHKr_0, cHKr_1, cHKr_2, cHKr_3, cHKr_4⟩ (hJ _ _ ?_)
        clear hJ J
        refine wpPlt_two (fun J hJ => ?_) (fun J hJ => ?_)
        · simp only [List.getD_cons_zero, List.getD_cons_succ]
          go_wp2_with fail
          refine (c_toRecord _ _ _ _ _ _).mono ?_
          rintro _ W138 ⟨rfl, p138, hp138⟩
          have qHB := Lib.hid (below_to hp138 HB.out)
          have qHKa := Lib.hid (Blk.to hp138 HKa.out)
          have qHKr := Lib.hid (Blk.to hp138 HKr.out)
          have qHOw := Lib.hid (own_to hp138 HOw.out)
          have qHKw := Lib.hid (Blk.to hp138 HKw.out)
          have qHKg := Lib.hid (Blk.to hp138 HKg.out)
          have qMg := Lib.hid (row_to hp138 Mg.out)
          have qHQ := Lib.hid (below_to hp138 HQ.out)
          have qHOy := Lib.hid (own_to hp138 HOy.out)
          clear HB cHKa_0 zHKa_0 cHKa_1 zHKa_1 cHKa_2 zHKa_2 cHKa_3 zHKa_3 cHKa_4 zHKa_4 cHKa_5 zHKa_5 lHKa mHKa HKa cHKr_0 zHKr_0 cHKr_1 zHKr_1 cHKr_2 zHKr_2 cHKr_3 zHKr_3 cHKr_4 zHKr_4 lHKr mHKr HKr HOw cHKw_0 zHKw_0 cHKw_1 zHKw_1 cHKw_2 zHKw_2 cHKw_3 zHKw_3 cHKw_4 zHKw_4 cHKw_5 zHKw_5 lHKw mHKw HKw cHKg_0 zHKg_0 cHKg_1 zHKg_1 cHKg_2 zHKg_2 cHKg_3 zHKg_3 cHKg_4 zHKg_4 cHKg_5 zHKg_5 lHKg mHKg HKg Mg HQ HOy hp138
          have HB := qHB
          clear qHB
          have HKa := qHKa
          clear qHKa
          have cHKa_0 := HKa.out.cell (i := 0) rfl
          have zHKa_0 := HKa.out.frozen 0
          have cHKa_1 := HKa.out.cell (i := 1) rfl
          have zHKa_1 := HKa.out.frozen 1
          have cHKa_2 := HKa.out.cell (i := 2) rfl
          have zHKa_2 := HKa.out.frozen 2
          have cHKa_3 := HKa.out.cell (i := 3) rfl
          have zHKa_3 := HKa.out.frozen 3
          have cHKa_4 := HKa.out.cell (i := 4) rfl
          have zHKa_4 := HKa.out.frozen 4
          have cHKa_5 := HKa.out.cell (i := 5) rfl
          have zHKa_5 := HKa.out.frozen 5
          have lHKa := HKa.out.lt
          have mHKa := Nat.le_of_lt lHKa
          have HKr := qHKr
          clear qHKr
          have cHKr_0 := HKr.out.cell (i := 0) rfl
          have zHKr_0 := HKr.out.frozen 0
          have cHKr_1 := HKr.out.cell (i := 1) rfl
          have zHKr_1 := HKr.out.frozen 1
          have cHKr_2 := HKr.out.cell (i := 2) rfl
          have zHKr_2 := HKr.out.frozen 2
          have cHKr_3 := HKr.out.cell (i := 3) rfl
          have zHKr_3 := HKr.out.frozen 3
          have cHKr_4 := HKr.out.cell (i := 4) rfl
          have zHKr_4 := HKr.out.frozen 4
          have lHKr := HKr.out.lt
          have mHKr := Nat.le_of_lt lHKr
          have HOw := qHOw
          clear qHOw
          have HKw := qHKw
          clear qHKw
          have cHKw_0 := HKw.out.cell (i := 0) rfl
          have zHKw_0 := HKw.out.frozen 0
          have cHKw_1 := HKw.out.cell (i := 1) rfl
          have zHKw_1 := HKw.out.frozen 1
          have cHKw_2 := HKw.out.cell (i := 2) rfl
          have zHKw_2 := HKw.out.frozen 2
          have cHKw_3 := HKw.out.cell (i := 3) rfl
          have zHKw_3 := HKw.out.frozen 3
          have cHKw_4 := HKw.out.cell (i := 4) rfl
          have zHKw_4 := HKw.out.frozen 4
          have cHKw_5 := HKw.out.cell (i := 5) rfl
          have zHKw_5 := HKw.out.frozen 5
          have lHKw := HKw.out.lt
          have mHKw := Nat.le_of_lt lHKw
          have HKg := qHKg
          clear qHKg
          have cHKg_0 := HKg.out.cell (i := 0) rfl
          have zHKg_0 := HKg.out.frozen 0
          have cHKg_1 := HKg.out.cell (i := 1) rfl
          have zHKg_1 := HKg.out.frozen 1
          have cHKg_2 := HKg.out.cell (i := 2) rfl
          have zHKg_2 := HKg.out.frozen 2
          have cHKg_3 := HKg.out.cell (i := 3) rfl
          have zHKg_3 := HKg.out.frozen 3
          have cHKg_4 := HKg.out.cell (i := 4) rfl
          have zHKg_4 := HKg.out.frozen 4
          have cHKg_5 := HKg.out.cell (i := 5) rfl
          have zHKg_5 := HKg.out.frozen 5
          have lHKg := HKg.out.lt
          have mHKg := Nat.le_of_lt lHKg
          have Mg := qMg
          clear qMg
          have HQ := qHQ
          clear qHQ
          have HOy := qHOy
          clear qHOy
          have hsW138 : w.heap.size ≤ W138.heap.size := HB.out.size
          go_wp2_with fail
          refine onward_K ⟨cHKa_0, cHKa_1, cHKa_2, cHKa_3, cHKa_4, cHKa_5, cHKr_0, cHKr_1, cHKr_2, cHKr_3, cHKr_4⟩ (hJ _ _ ?_)
          clear hJ J
          refine wpPlt_two (fun J hJ => ?_) (fun J hJ => ?_)
          · simp only [List.getD_cons_zero, List.getD_cons_succ]
            go_wp2_with fail
            have tHKa_h := lHKa
            have tHKr_h := lHKr
            have Htw_h := Lib.hid (Lt.of_row lenR (by decide) HOw.out.row HLw.out)
            have tHKw_h := lHKw
            have tHKg_h := lHKg
            have Hty_h := Lib.hid (Lt.of_row lenR (by decide) HOy.out.row HLy.out)
            have s_h : w.heap.size ≤ W138.heap.size := HB.out.size
            have u_h : _ ≤ W138.heap.size := HQ.out.size
            refine (c_iSendOn _ cr0 bk0 _ _ _ ny _ x0 x1 x2 x3 x4 x5 _ cr' st' ys z HLy.out (by omega) hcr hbk hst hgt (HOy.out).row HZ.out).mono ?_
            rintro _ W139 ⟨Ah, nh, ch, rfl, hlh, hch, hmh, hOh, p139, hp139⟩
            have qHB := Lib.hid (below_to hp139 HB.out)
            have qHKa := Lib.hid (Blk.to hp139 HKa.out)
            have qHKr := Lib.hid (Blk.to hp139 HKr.out)
            have qHOw := Lib.hid (own_to hp139 HOw.out)
            have qHKw := Lib.hid (Blk.to hp139 HKw.out)
            have qHKg := Lib.hid (Blk.to hp139 HKg.out)
            have qMg := Lib.hid (row_to hp139 Mg.out)
            have qHQ := Lib.hid (below_to hp139 HQ.out)
            have qHOy := Lib.hid (own_to hp139 HOy.out)
            clear HB cHKa_0 zHKa_0 cHKa_1 zHKa_1 cHKa_2 zHKa_2 cHKa_3 zHKa_3 cHKa_4 zHKa_4 cHKa_5 zHKa_5 lHKa mHKa HKa cHKr_0 zHKr_0 cHKr_1 zHKr_1 cHKr_2 zHKr_2 cHKr_3 zHKr_3 cHKr_4 zHKr_4 lHKr mHKr HKr HOw cHKw_0 zHKw_0 cHKw_1 zHKw_1 cHKw_2 zHKw_2 cHKw_3 zHKw_3 cHKw_4 zHKw_4 cHKw_5 zHKw_5 lHKw mHKw HKw cHKg_0 zHKg_0 cHKg_1 zHKg_1 cHKg_2 zHKg_2 cHKg_3 zHKg_3 cHKg_4 zHKg_4 cHKg_5 zHKg_5 lHKg mHKg HKg Mg HQ HOy hp139
            have HB := qHB
            clear qHB
            have HKa := qHKa
            clear qHKa
            have cHKa_0 := HKa.out.cell (i := 0) rfl
            have zHKa_0 := HKa.out.frozen 0
            have cHKa_1 := HKa.out.cell (i := 1) rfl
            have zHKa_1 := HKa.out.frozen 1
            have cHKa_2 := HKa.out.cell (i := 2) rfl
            have zHKa_2 := HKa.out.frozen 2
            have cHKa_3 := HKa.out.cell (i := 3) rfl
            have zHKa_3 := HKa.out.frozen 3
            have cHKa_4 := HKa.out.cell (i := 4) rfl
            have zHKa_4 := HKa.out.frozen 4
            have cHKa_5 := HKa.out.cell (i := 5) rfl
            have zHKa_5 := HKa.out.frozen 5
            have lHKa := HKa.out.lt
            have mHKa := Nat.le_of_lt lHKa
            have HKr := qHKr
            clear qHKr
            have cHKr_0 := HKr.out.cell (i := 0) rfl
            have zHKr_0 := HKr.out.frozen 0
            have cHKr_1 := HKr.out.cell (i := 1) rfl
            have zHKr_1 := HKr.out.frozen 1
            have cHKr_2 := HKr.out.cell (i := 2) rfl
            have zHKr_2 := HKr.out.frozen 2
            have cHKr_3 := HKr.out.cell (i := 3) rfl
            have zHKr_3 := HKr.out.frozen 3
            have cHKr_4 := HKr.out.cell (i := 4) rfl
            have zHKr_4 := HKr.out.frozen 4
            have lHKr := HKr.out.lt
            have mHKr := Nat.le_of_lt lHKr
            have HOw := qHOw
            clear qHOw
            have HKw := qHKw
            clear qHKw
            have cHKw_0 := HKw.out.cell (i := 0) rfl
            have zHKw_0 := HKw.out.frozen 0
            have cHKw_1 := HKw.out.cell (i := 1) rfl
            have zHKw_1 := HKw.out.frozen 1
            have cHKw_2 := HKw.out.cell (i := 2) rfl
            have zHKw_2 := HKw.out.frozen 2
            have cHKw_3 := HKw.out.cell (i := 3) rfl
            have zHKw_3 := HKw.out.frozen 3
            have cHKw_4 := HKw.out.cell (i := 4) rfl
            have zHKw_4 := HKw.out.frozen 4
            have cHKw_5 := HKw.out.cell (i := 5) rfl
            have zHKw_5 := HKw.out.frozen 5
            have lHKw := HKw.out.lt
            have mHKw := Nat.le_of_lt lHKw
            have HKg := qHKg
            clear qHKg
            have cHKg_0 := HKg.out.cell (i := 0) rfl
            have zHKg_0 := HKg.out.frozen 0
            have cHKg_1 := HKg.out.cell (i := 1) rfl
            have zHKg_1 := HKg.out.frozen 1
            have cHKg_2 := HKg.out.cell (i := 2) rfl
            have zHKg_2 := HKg.out.frozen 2
            have cHKg_3 := HKg.out.cell (i := 3) rfl
            have zHKg_3 := HKg.out.frozen 3
            have cHKg_4 := HKg.out.cell (i := 4) rfl
            have zHKg_4 := HKg.out.frozen 4
            have cHKg_5 := HKg.out.cell (i := 5) rfl
            have zHKg_5 := HKg.out.frozen 5
            have lHKg := HKg.out.lt
            have mHKg := Nat.le_of_lt lHKg
            have Mg := qMg
            clear qMg
            have HQ := qHQ
            clear qHQ
            have HOy := qHOy
            clear qHOy
            have hsW139 : w.heap.size ≤ W139.heap.size := HB.out.size
            have HOh := Lib.hid hOh
            have HLh := Lib.hid hlh
            clear hOh hlh
            unfold maxLen at hmh
            have hbh : nh ≤ 1048580 := by rw [← HLh.out]; exact hyl
            have hmh' : nh ≤ 9223372036854775807 := by omega
            go_wp2_with fail
            refine onward_K ⟨cHKa_0, cHKa_1, cHKa_2, cHKa_3, cHKa_4, cHKa_5, cHKr_0, cHKr_1, cHKr_2, cHKr_3, cHKr_4⟩ (hJ _ _ ?_)
            clear hJ J
            (repeat (refine wpPlt_pick (fun J hJ => ?_); simp only [List.getD_cons_zero, List.getD_cons_succ]; first | (go_simp; refine hJ _ ?_; clear hJ J) | (go_simp; refine ⟨_, (fun w1 => by (repeat (intro hh; try simp only [hh, Result.andThen])); rfl), ?_⟩; refine hJ _ ?_; clear hJ J)))
            refine wpPlt_one (fun J hJ => ?_)
            simp only [List.getD_cons_zero, List.getD_cons_succ]
            obtain ⟨gx, hgx⟩ : ∃ g, W139.heap.size = g := ⟨_, rfl⟩
            have hgl : W135.heap.size ≤ gx := by rw [← hgx]; exact HQ.out.size
            have hne : some gx ≠ ob Ah nh := fun e => by have := Lt.of_row lenR (by decide) HOh.out.row HLh.out _ e; omega
            go_wp2_with fail
            refine onward_K ⟨(HKa.out.alloc _).cell (i := 0) rfl, (HKa.out.alloc _).cell (i := 1) rfl, (HKa.out.alloc _).cell (i := 2) rfl, (HKa.out.alloc _).cell (i := 3) rfl, (HKa.out.alloc _).cell (i := 4) rfl, (HKa.out.alloc _).cell (i := 5) rfl, (HKr.out.alloc _).cell (i := 0) rfl, (HKr.out.alloc _).cell (i := 1) rfl, (HKr.out.alloc _).cell (i := 2) rfl, (HKr.out.alloc _).cell (i := 3) rfl, (HKr.out.alloc _).cell (i := 4) rfl⟩ (hJ _ _ ?_)
            clear hJ J
            refine plt_anchor (F := fun V => (∃ p : Later, V = later W139 p) ∧ Blk gx [.int .i64 0, .slice Option.none 0 0, .int .i64 0, .int .i64 0, .int .i64 0, .int .i64 0] 35 V) ⟨later_of_below ((Below.refl _ _).alloc (Nat.le_refl _) _), Blk.new _ _ [.int .i64 0, .slice Option.none 0 0, .int .i64 0, .int .i64 0, .int .i64 0, .int .i64 0] _ hgx.symm⟩ (fun W140 hV => ?_)
            obtain ⟨⟨p, hp⟩, qX⟩ := hV
            have qHB := Lib.hid (below_to hp HB.out)
            have qHKa := Lib.hid (Blk.to hp HKa.out)
            have qHKr := Lib.hid (Blk.to hp HKr.out)
            have qHOw := Lib.hid (own_to hp HOw.out)
            have qHKw := Lib.hid (Blk.to hp HKw.out)
            have qHKg := Lib.hid (Blk.to hp HKg.out)
            have qMg := Lib.hid (row_to hp Mg.out)
            have qHQ := Lib.hid (below_to hp HQ.out)
            have qHOy := Lib.hid (own_to hp HOy.out)
            have qHOh := Lib.hid (own_to hp HOh.out)
            clear HB cHKa_0 zHKa_0 cHKa_1 zHKa_1 cHKa_2 zHKa_2 cHKa_3 zHKa_3 cHKa_4 zHKa_4 cHKa_5 zHKa_5 lHKa mHKa HKa cHKr_0 zHKr_0 cHKr_1 zHKr_1 cHKr_2 zHKr_2 cHKr_3 zHKr_3 cHKr_4 zHKr_4 lHKr mHKr HKr HOw cHKw_0 zHKw_0 cHKw_1 zHKw_1 cHKw_2 zHKw_2 cHKw_3 zHKw_3 cHKw_4 zHKw_4 cHKw_5 zHKw_5 lHKw mHKw HKw cHKg_0 zHKg_0 cHKg_1 zHKg_1 cHKg_2 zHKg_2 cHKg_3 zHKg_3 cHKg_4 zHKg_4 cHKg_5 zHKg_5 lHKg mHKg HKg Mg HQ HOy HOh hp
            have HB := qHB
            clear qHB
            have HKa := qHKa
            clear qHKa
            have cHKa_0 := HKa.out.cell (i := 0) rfl
            have zHKa_0 := HKa.out.frozen 0
            have cHKa_1 := HKa.out.cell (i := 1) rfl
            have zHKa_1 := HKa.out.frozen 1
            have cHKa_2 := HKa.out.cell (i := 2) rfl
            have zHKa_2 := HKa.out.frozen 2
            have cHKa_3 := HKa.out.cell (i := 3) rfl
            have zHKa_3 := HKa.out.frozen 3
            have cHKa_4 := HKa.out.cell (i := 4) rfl
            have zHKa_4 := HKa.out.frozen 4
            have cHKa_5 := HKa.out.cell (i := 5) rfl
            have zHKa_5 := HKa.out.frozen 5
            have lHKa := HKa.out.lt
            have mHKa := Nat.le_of_lt lHKa
            have HKr := qHKr
            clear qHKr
            have cHKr_0 := HKr.out.cell (i := 0) rfl
            have zHKr_0 := HKr.out.frozen 0
            have cHKr_1 := HKr.out.cell (i := 1) rfl
            have zHKr_1 := HKr.out.frozen 1
            have cHKr_2 := HKr.out.cell (i := 2) rfl
            have zHKr_2 := HKr.out.frozen 2
            have cHKr_3 := HKr.out.cell (i := 3) rfl
            have zHKr_3 := HKr.out.frozen 3
            have cHKr_4 := HKr.out.cell (i := 4) rfl
            have zHKr_4 := HKr.out.frozen 4
            have lHKr := HKr.out.lt
            have mHKr := Nat.le_of_lt lHKr
            have HOw := qHOw
            clear qHOw
            have HKw := qHKw
            clear qHKw
            have cHKw_0 := HKw.out.cell (i := 0) rfl
            have zHKw_0 := HKw.out.frozen 0
            have cHKw_1 := HKw.out.cell (i := 1) rfl
            have zHKw_1 := HKw.out.frozen 1
            have cHKw_2 := HKw.out.cell (i := 2) rfl
            have zHKw_2 := HKw.out.frozen 2
            have cHKw_3 := HKw.out.cell (i := 3) rfl
            have zHKw_3 := HKw.out.frozen 3
            have cHKw_4 := HKw.out.cell (i := 4) rfl
            have zHKw_4 := HKw.out.frozen 4
            have cHKw_5 := HKw.out.cell (i := 5) rfl
            have zHKw_5 := HKw.out.frozen 5
            have lHKw := HKw.out.lt
            have mHKw := Nat.le_of_lt lHKw
            have HKg := qHKg
            clear qHKg
            have cHKg_0 := HKg.out.cell (i := 0) rfl
            have zHKg_0 := HKg.out.frozen 0
            have cHKg_1 := HKg.out.cell (i := 1) rfl
            have zHKg_1 := HKg.out.frozen 1
            have cHKg_2 := HKg.out.cell (i := 2) rfl
            have zHKg_2 := HKg.out.frozen 2
            have cHKg_3 := HKg.out.cell (i := 3) rfl
            have zHKg_3 := HKg.out.frozen 3
            have cHKg_4 := HKg.out.cell (i := 4) rfl
            have zHKg_4 := HKg.out.frozen 4
            have cHKg_5 := HKg.out.cell (i := 5) rfl
            have zHKg_5 := HKg.out.frozen 5
            have lHKg := HKg.out.lt
            have mHKg := Nat.le_of_lt lHKg
            have Mg := qMg
            clear qMg
            have HQ := qHQ
            clear qHQ
            have HOy := qHOy
            clear qHOy
            have HOh := qHOh
            clear qHOh
            have hsW140 : w.heap.size ≤ W140.heap.size := HB.out.size
            clear hgx
            have HX := Lib.hid (qX)
            have cHX_0 := HX.out.cell (i := 0) rfl
            have zHX_0 := HX.out.frozen 0
            have cHX_1 := HX.out.cell (i := 1) rfl
            have zHX_1 := HX.out.frozen 1
            have cHX_2 := HX.out.cell (i := 2) rfl
            have zHX_2 := HX.out.frozen 2
            have cHX_3 := HX.out.cell (i := 3) rfl
            have zHX_3 := HX.out.frozen 3
            have cHX_4 := HX.out.cell (i := 4) rfl
            have zHX_4 := HX.out.frozen 4
            have cHX_5 := HX.out.cell (i := 5) rfl
            have zHX_5 := HX.out.frozen 5
            have lHX := HX.out.lt
            have mHX := Nat.le_of_lt lHX
            clear qX
            refine wpPlt_one (fun J hJ => ?_)
            simp only [List.getD_cons_zero, List.getD_cons_succ]
            go_wp2_with fail
            refine onward_anchor (F := fun V => Below W135.heap.size W135 V ∧ Own encR 5 W135.heap.size V Ah ys ∧ Blk gx [.int .i64 cap0, .slice Ah nh ch, .int .i64 cr', .int .i64 bk0, .int .i64 st', .int .i64 gt0] 35 V ∧ Blk (w.heap.size) [.int .i64 cap0, .slice A0 n0 c0, .int .i64 cr0, .int .i64 bk0, .int .i64 st0, .int .i64 gt0] 31 V ∧ Blk (w.heap.size + 1) [.int .i64 x1, .int .i64 x2, .int .i64 x3, .int .i64 x4, .int .i64 x5] 45 V) ⟨(by (repeat (first | with_reducible exact HQ.out | with_reducible refine Below.setCell ?_ (by dsimp only; omega) _)); done), (by (repeat (first | with_reducible exact HOh.out.mono (by omega) | with_reducible refine Own.set ?_ HLh.out _ _ hne)); done), (((((((HX.out.set 0 _).set 1 _).set 2 _).set 3 _).set 4 _).set 5 _).conv rfl), (by (repeat (first | with_reducible exact HKa.out | with_reducible refine Blk.other ?_ (by dsimp only; omega) _)); done), (by (repeat (first | with_reducible exact HKr.out | with_reducible refine Blk.other ?_ (by dsimp only; omega) _)); done)⟩ (fun W141 hV => ?_)
            obtain ⟨q1, q2, q3, rHKa, rHKr⟩ := hV
            refine onward_K ⟨rHKa.cell (i := 0) rfl, rHKa.cell (i := 1) rfl, rHKa.cell (i := 2) rfl, rHKa.cell (i := 3) rfl, rHKa.cell (i := 4) rfl, rHKa.cell (i := 5) rfl, rHKr.cell (i := 0) rfl, rHKr.cell (i := 1) rfl, rHKr.cell (i := 2) rfl, rHKr.cell (i := 3) rfl, rHKr.cell (i := 4) rfl⟩ (hJ _ _ ?_)
            clear hJ J
            (repeat (refine wpPlt_pick (fun J hJ => ?_); simp only [List.getD_cons_zero, List.getD_cons_succ]; first | (go_simp; refine hJ _ ?_; clear hJ J) | (go_simp; refine ⟨_, (fun w1 => by (repeat (intro hh; try simp only [hh, Result.andThen])); rfl), ?_⟩; refine hJ _ ?_; clear hJ J)))
            refine wpPlt_nil ?_
            go_wp2_with fail
            go_meet
            obtain ⟨p, hp⟩ := later_of_below q1
            exact ⟨gx, Ah, nh, ch, p, rfl, rfl, HLh.out, hmh', hgl, hne, q2, q3, hp⟩
          · simp only [List.getD_cons_zero, List.getD_cons_succ]
            obtain ⟨gx, hgx⟩ : ∃ g, W138.heap.size = g := ⟨_, rfl⟩
            have hgl : W135.heap.size ≤ gx := by rw [← hgx]; exact HQ.out.size
            go_wp2_with fail
            refine onward_K ⟨(HKa.out.alloc _).cell (i := 0) rfl, (HKa.out.alloc _).cell (i := 1) rfl, (HKa.out.alloc _).cell (i := 2) rfl, (HKa.out.alloc _).cell (i := 3) rfl, (HKa.out.alloc _).cell (i := 4) rfl, (HKa.out.alloc _).cell (i := 5) rfl, (HKr.out.alloc _).cell (i := 0) rfl, (HKr.out.alloc _).cell (i := 1) rfl, (HKr.out.alloc _).cell (i := 2) rfl, (HKr.out.alloc _).cell (i := 3) rfl, (HKr.out.alloc _).cell (i := 4) rfl⟩ (hJ _ _ ?_)
            clear hJ J
            refine plt_anchor (F := fun V => (∃ p : Later, V = later W138 p) ∧ Blk gx [.int .i64 0, .slice Option.none 0 0, .int .i64 0, .int .i64 0, .int .i64 0, .int .i64 0] 35 V) ⟨later_of_below ((Below.refl _ _).alloc (Nat.le_refl _) _), Blk.new _ _ [.int .i64 0, .slice Option.none 0 0, .int .i64 0, .int .i64 0, .int .i64 0, .int .i64 0] _ hgx.symm⟩ (fun W139 hV => ?_)
            obtain ⟨⟨p, hp⟩, qX⟩ := hV
            have qHB := Lib.hid (below_to hp HB.out)
            have qHKa := Lib.hid (Blk.to hp HKa.out)
            have qHKr := Lib.hid (Blk.to hp HKr.out)
            have qHOw := Lib.hid (own_to hp HOw.out)
            have qHKw := Lib.hid (Blk.to hp HKw.out)
            have qHKg := Lib.hid (Blk.to hp HKg.out)
            have qMg := Lib.hid (row_to hp Mg.out)
            have qHQ := Lib.hid (below_to hp HQ.out)
            have qHOy := Lib.hid (own_to hp HOy.out)
            clear HB cHKa_0 zHKa_0 cHKa_1 zHKa_1 cHKa_2 zHKa_2 cHKa_3 zHKa_3 cHKa_4 zHKa_4 cHKa_5 zHKa_5 lHKa mHKa HKa cHKr_0 zHKr_0 cHKr_1 zHKr_1 cHKr_2 zHKr_2 cHKr_3 zHKr_3 cHKr_4 zHKr_4 lHKr mHKr HKr HOw cHKw_0 zHKw_0 cHKw_1 zHKw_1 cHKw_2 zHKw_2 cHKw_3 zHKw_3 cHKw_4 zHKw_4 cHKw_5 zHKw_5 lHKw mHKw HKw cHKg_0 zHKg_0 cHKg_1 zHKg_1 cHKg_2 zHKg_2 cHKg_3 zHKg_3 cHKg_4 zHKg_4 cHKg_5 zHKg_5 lHKg mHKg HKg Mg HQ HOy hp
            have HB := qHB
            clear qHB
            have HKa := qHKa
            clear qHKa
            have cHKa_0 := HKa.out.cell (i := 0) rfl
            have zHKa_0 := HKa.out.frozen 0
            have cHKa_1 := HKa.out.cell (i := 1) rfl
            have zHKa_1 := HKa.out.frozen 1
            have cHKa_2 := HKa.out.cell (i := 2) rfl
            have zHKa_2 := HKa.out.frozen 2
            have cHKa_3 := HKa.out.cell (i := 3) rfl
            have zHKa_3 := HKa.out.frozen 3
            have cHKa_4 := HKa.out.cell (i := 4) rfl
            have zHKa_4 := HKa.out.frozen 4
            have cHKa_5 := HKa.out.cell (i := 5) rfl
            have zHKa_5 := HKa.out.frozen 5
            have lHKa := HKa.out.lt
            have mHKa := Nat.le_of_lt lHKa
            have HKr := qHKr
            clear qHKr
            have cHKr_0 := HKr.out.cell (i := 0) rfl
            have zHKr_0 := HKr.out.frozen 0
            have cHKr_1 := HKr.out.cell (i := 1) rfl
            have zHKr_1 := HKr.out.frozen 1
            have cHKr_2 := HKr.out.cell (i := 2) rfl
            have zHKr_2 := HKr.out.frozen 2
            have cHKr_3 := HKr.out.cell (i := 3) rfl
            have zHKr_3 := HKr.out.frozen 3
            have cHKr_4 := HKr.out.cell (i := 4) rfl
            have zHKr_4 := HKr.out.frozen 4
            have lHKr := HKr.out.lt
            have mHKr := Nat.le_of_lt lHKr
            have HOw := qHOw
            clear qHOw
            have HKw := qHKw
            clear qHKw
            have cHKw_0 := HKw.out.cell (i := 0) rfl
            have zHKw_0 := HKw.out.frozen 0
            have cHKw_1 := HKw.out.cell (i := 1) rfl
            have zHKw_1 := HKw.out.frozen 1
            have cHKw_2 := HKw.out.cell (i := 2) rfl
            have zHKw_2 := HKw.out.frozen 2
            have cHKw_3 := HKw.out.cell (i := 3) rfl
            have zHKw_3 := HKw.out.frozen 3
            have cHKw_4 := HKw.out.cell (i := 4) rfl
            have zHKw_4 := HKw.out.frozen 4
            have cHKw_5 := HKw.out.cell (i := 5) rfl
            have zHKw_5 := HKw.out.frozen 5
            have lHKw := HKw.out.lt
            have mHKw := Nat.le_of_lt lHKw
            have HKg := qHKg
            clear qHKg
            have cHKg_0 := HKg.out.cell (i := 0) rfl
            have zHKg_0 := HKg.out.frozen 0
            have cHKg_1 := HKg.out.cell (i := 1) rfl
            have zHKg_1 := HKg.out.frozen 1
            have cHKg_2 := HKg.out.cell (i := 2) rfl
            have zHKg_2 := HKg.out.frozen 2
            have cHKg_3 := HKg.out.cell (i := 3) rfl
            have zHKg_3 := HKg.out.frozen 3
            have cHKg_4 := HKg.out.cell (i := 4) rfl
            have zHKg_4 := HKg.out.frozen 4
            have cHKg_5 := HKg.out.cell (i := 5) rfl
            have zHKg_5 := HKg.out.frozen 5
            have lHKg := HKg.out.lt
            have mHKg := Nat.le_of_lt lHKg
            have Mg := qMg
            clear qMg
            have HQ := qHQ
            clear qHQ
            have HOy := qHOy
            clear qHOy
            have hsW139 : w.heap.size ≤ W139.heap.size := HB.out.size
            clear hgx
            have HX := Lib.hid (qX)
            have cHX_0 := HX.out.cell (i := 0) rfl
            have zHX_0 := HX.out.frozen 0
            have cHX_1 := HX.out.cell (i := 1) rfl
            have zHX_1 := HX.out.frozen 1
            have cHX_2 := HX.out.cell (i := 2) rfl
            have zHX_2 := HX.out.frozen 2
            have cHX_3 := HX.out.cell (i := 3) rfl
            have zHX_3 := HX.out.frozen 3
            have cHX_4 := HX.out.cell (i := 4) rfl
            have zHX_4 := HX.out.frozen 4
            have cHX_5 := HX.out.cell (i := 5) rfl
            have zHX_5 := HX.out.frozen 5
            have lHX := HX.out.lt
            have mHX := Nat.le_of_lt lHX
            clear qX
            refine wpPlt_one (fun J hJ => ?_)
            simp only [List.getD_cons_zero, List.getD_cons_succ]
            go_wp2_with fail
            have tHKa_h := lHKa
            have tHKr_h := lHKr
            have Htw_h := Lib.hid (Lt.of_row lenR (by decide) HOw.out.row HLw.out)
            have tHKw_h := lHKw
            have tHKg_h := lHKg
            have Hty_h := Lib.hid (Lt.of_row lenR (by decide) HOy.out.row HLy.out)
            have tHX_h := lHX
            have s_h : w.heap.size ≤ W139.heap.size := HB.out.size
            have u_h : _ ≤ W139.heap.size := HQ.out.size
            refine (c_iSendOn _ cr0 bk0 _ _ _ ny _ x0 x1 x2 x3 x4 x5 _ cr' st' ys z HLy.out (by omega) hcr hbk hst hgt (HOy.out).row HZ.out).mono ?_
            rintro _ W140 ⟨Ah, nh, ch, rfl, hlh, hch, hmh, hOh, p140, hp140⟩
            have qHB := Lib.hid (below_to hp140 HB.out)
            have qHKa := Lib.hid (Blk.to hp140 HKa.out)
            have qHKr := Lib.hid (Blk.to hp140 HKr.out)
            have qHOw := Lib.hid (own_to hp140 HOw.out)
            have qHKw := Lib.hid (Blk.to hp140 HKw.out)
            have qHKg := Lib.hid (Blk.to hp140 HKg.out)
            have qMg := Lib.hid (row_to hp140 Mg.out)
            have qHQ := Lib.hid (below_to hp140 HQ.out)
            have qHOy := Lib.hid (own_to hp140 HOy.out)
            have qHX := Lib.hid (Blk.to hp140 HX.out)
            clear HB cHKa_0 zHKa_0 cHKa_1 zHKa_1 cHKa_2 zHKa_2 cHKa_3 zHKa_3 cHKa_4 zHKa_4 cHKa_5 zHKa_5 lHKa mHKa HKa cHKr_0 zHKr_0 cHKr_1 zHKr_1 cHKr_2 zHKr_2 cHKr_3 zHKr_3 cHKr_4 zHKr_4 lHKr mHKr HKr HOw cHKw_0 zHKw_0 cHKw_1 zHKw_1 cHKw_2 zHKw_2 cHKw_3 zHKw_3 cHKw_4 zHKw_4 cHKw_5 zHKw_5 lHKw mHKw HKw cHKg_0 zHKg_0 cHKg_1 zHKg_1 cHKg_2 zHKg_2 cHKg_3 zHKg_3 cHKg_4 zHKg_4 cHKg_5 zHKg_5 lHKg mHKg HKg Mg HQ HOy cHX_0 zHX_0 cHX_1 zHX_1 cHX_2 zHX_2 cHX_3 zHX_3 cHX_4 zHX_4 cHX_5 zHX_5 lHX mHX HX hp140
            have HB := qHB
            clear qHB
            have HKa := qHKa
            clear qHKa
            have cHKa_0 := HKa.out.cell (i := 0) rfl
            have zHKa_0 := HKa.out.frozen 0
            have cHKa_1 := HKa.out.cell (i := 1) rfl
            have zHKa_1 := HKa.out.frozen 1
            have cHKa_2 := HKa.out.cell (i := 2) rfl
            have zHKa_2 := HKa.out.frozen 2
            have cHKa_3 := HKa.out.cell (i := 3) rfl
            have zHKa_3 := HKa.out.frozen 3
            have cHKa_4 := HKa.out.cell (i := 4) rfl
            have zHKa_4 := HKa.out.frozen 4
            have cHKa_5 := HKa.out.cell (i := 5) rfl
            have zHKa_5 := HKa.out.frozen 5
            have lHKa := HKa.out.lt
            have mHKa := Nat.le_of_lt lHKa
            have HKr := qHKr
            clear qHKr
            have cHKr_0 := HKr.out.cell (i := 0) rfl
            have zHKr_0 := HKr.out.frozen 0
            have cHKr_1 := HKr.out.cell (i := 1) rfl
            have zHKr_1 := HKr.out.frozen 1
            have cHKr_2 := HKr.out.cell (i := 2) rfl
            have zHKr_2 := HKr.out.frozen 2
            have cHKr_3 := HKr.out.cell (i := 3) rfl
            have zHKr_3 := HKr.out.frozen 3
            have cHKr_4 := HKr.out.cell (i := 4) rfl
            have zHKr_4 := HKr.out.frozen 4
            have lHKr := HKr.out.lt
            have mHKr := Nat.le_of_lt lHKr
            have HOw := qHOw
            clear qHOw
            have HKw := qHKw
            clear qHKw
            have cHKw_0 := HKw.out.cell (i := 0) rfl
            have zHKw_0 := HKw.out.frozen 0
            have cHKw_1 := HKw.out.cell (i := 1) rfl
            have zHKw_1 := HKw.out.frozen 1
            have cHKw_2 := HKw.out.cell (i := 2) rfl
            have zHKw_2 := HKw.out.frozen 2
            have cHKw_3 := HKw.out.cell (i := 3) rfl
            have zHKw_3 := HKw.out.frozen 3
            have cHKw_4 := HKw.out.cell (i := 4) rfl
            have zHKw_4 := HKw.out.frozen 4
            have cHKw_5 := HKw.out.cell (i := 5) rfl
            have zHKw_5 := HKw.out.frozen 5
            have lHKw := HKw.out.lt
            have mHKw := Nat.le_of_lt lHKw
            have HKg := qHKg
            clear qHKg
            have cHKg_0 := HKg.out.cell (i := 0) rfl
            have zHKg_0 := HKg.out.frozen 0
            have cHKg_1 := HKg.out.cell (i := 1) rfl
            have zHKg_1 := HKg.out.frozen 1
            have cHKg_2 := HKg.out.cell (i := 2) rfl
            have zHKg_2 := HKg.out.frozen 2
            have cHKg_3 := HKg.out.cell (i := 3) rfl
            have zHKg_3 := HKg.out.frozen 3
            have cHKg_4 := HKg.out.cell (i := 4) rfl
            have zHKg_4 := HKg.out.frozen 4
            have cHKg_5 := HKg.out.cell (i := 5) rfl
            have zHKg_5 := HKg.out.frozen 5
            have lHKg := HKg.out.lt
            have mHKg := Nat.le_of_lt lHKg
            have Mg := qMg
            clear qMg
            have HQ := qHQ
            clear qHQ
            have HOy := qHOy
            clear qHOy
            have HX := qHX
            clear qHX
            have cHX_0 := HX.out.cell (i := 0) rfl
            have zHX_0 := HX.out.frozen 0
            have cHX_1 := HX.out.cell (i := 1) rfl
            have zHX_1 := HX.out.frozen 1
            have cHX_2 := HX.out.cell (i := 2) rfl
            have zHX_2 := HX.out.frozen 2
            have cHX_3 := HX.out.cell (i := 3) rfl
            have zHX_3 := HX.out.frozen 3
            have cHX_4 := HX.out.cell (i := 4) rfl
            have zHX_4 := HX.out.frozen 4
            have cHX_5 := HX.out.cell (i := 5) rfl
            have zHX_5 := HX.out.frozen 5
            have lHX := HX.out.lt
            have mHX := Nat.le_of_lt lHX
            have hsW140 : w.heap.size ≤ W140.heap.size := HB.out.size
            have HOh := Lib.hid hOh
            have HLh := Lib.hid hlh
            clear hOh hlh
            unfold maxLen at hmh
            have hbh : nh ≤ 1048580 := by rw [← HLh.out]; exact hyl
            have hmh' : nh ≤ 9223372036854775807 := by omega
            go_wp2_with fail
            refine onward_K ⟨cHKa_0, cHKa_1, cHKa_2, cHKa_3, cHKa_4, cHKa_5, cHKr_0, cHKr_1, cHKr_2, cHKr_3, cHKr_4⟩ (hJ _ _ ?_)
            clear hJ J
            (repeat (refine wpPlt_pick (fun J hJ => ?_); simp only [List.getD_cons_zero, List.getD_cons_succ]; first | (go_simp; refine hJ _ ?_; clear hJ J) | (go_simp; refine ⟨_, (fun w1 => by (repeat (intro hh; try simp only [hh, Result.andThen])); rfl), ?_⟩; refine hJ _ ?_; clear hJ J)))
            refine wpPlt_one (fun J hJ => ?_)
            simp only [List.getD_cons_zero, List.getD_cons_succ]
            go_wp2_with fail
            have hne : some gx ≠ ob Ah nh := fun e => by have := HOh.out.low HLh.out e; omega
            refine onward_anchor (F := fun V => Below W135.heap.size W135 V ∧ Own encR 5 W135.heap.size V Ah ys ∧ Blk gx [.int .i64 cap0, .slice Ah nh ch, .int .i64 cr', .int .i64 bk0, .int .i64 st', .int .i64 gt0] 35 V ∧ Blk (w.heap.size) [.int .i64 cap0, .slice A0 n0 c0, .int .i64 cr0, .int .i64 bk0, .int .i64 st0, .int .i64 gt0] 31 V ∧ Blk (w.heap.size + 1) [.int .i64 x1, .int .i64 x2, .int .i64 x3, .int .i64 x4, .int .i64 x5] 45 V) ⟨(by (repeat (first | with_reducible exact HQ.out | with_reducible refine Below.setCell ?_ (by dsimp only; omega) _)); done), (by (repeat (first | with_reducible exact HOh.out.mono (by omega) | with_reducible refine Own.set ?_ HLh.out _ _ hne)); done), (((((((HX.out.set 0 _).set 1 _).set 2 _).set 3 _).set 4 _).set 5 _).conv rfl), (by (repeat (first | with_reducible exact HKa.out | with_reducible refine Blk.other ?_ (by dsimp only; omega) _)); done), (by (repeat (first | with_reducible exact HKr.out | with_reducible refine Blk.other ?_ (by dsimp only; omega) _)); done)⟩ (fun W141 hV => ?_)
            obtain ⟨q1, q2, q3, rHKa, rHKr⟩ := hV
            refine onward_K ⟨rHKa.cell (i := 0) rfl, rHKa.cell (i := 1) rfl, rHKa.cell (i := 2) rfl, rHKa.cell (i := 3) rfl, rHKa.cell (i := 4) rfl, rHKa.cell (i := 5) rfl, rHKr.cell (i := 0) rfl, rHKr.cell (i := 1) rfl, rHKr.cell (i := 2) rfl, rHKr.cell (i := 3) rfl, rHKr.cell (i := 4) rfl⟩ (hJ _ _ ?_)
            clear hJ J
            (repeat (refine wpPlt_pick (fun J hJ => ?_); simp only [List.getD_cons_zero, List.getD_cons_succ]; first | (go_simp; refine hJ _ ?_; clear hJ J) | (go_simp; refine ⟨_, (fun w1 => by (repeat (intro hh; try simp only [hh, Result.andThen])); rfl), ?_⟩; refine hJ _ ?_; clear hJ J)))
            refine wpPlt_nil ?_
            go_wp2_with fail
            go_meet
            obtain ⟨p, hp⟩ := later_of_below q1
            exact ⟨gx, Ah, nh, ch, p, rfl, rfl, HLh.out, hmh', hgl, hne, q2, q3, hp⟩
        · simp only [List.getD_cons_zero, List.getD_cons_succ]
          obtain ⟨gx, hgx⟩ : ∃ g, W137.heap.size = g := ⟨_, rfl⟩
          have hgl : W135.heap.size ≤ gx := by rw [← hgx]; exact HQ.out.size
          go_wp2_with fail
          refine onward_K ⟨(HKa.out.alloc _).cell (i := 0) rfl, (HKa.out.alloc _).cell (i := 1) rfl, (HKa.out.alloc _).cell (i := 2) rfl, (HKa.out.alloc _).cell (i := 3) rfl, (HKa.out.alloc _).cell (i := 4) rfl, (HKa.out.alloc _).cell (i := 5) rfl, (HKr.out.alloc _).cell (i := 0) rfl, (HKr.out.alloc _).cell (i := 1) rfl, (HKr.out.alloc _).cell (i := 2) rfl, (HKr.out.alloc _).cell (i := 3) rfl, (HKr.out.alloc _).cell (i := 4) rfl⟩ (hJ _ _ ?_)
          clear hJ J
          refine plt_anchor (F := fun V => (∃ p : Later, V = later W137 p) ∧ Blk gx [.int .i64 0, .slice Option.none 0 0, .int .i64 0, .int .i64 0, .int .i64 0, .int .i64 0] 35 V) ⟨later_of_below ((Below.refl _ _).alloc (Nat.le_refl _) _), Blk.new _ _ [.int .i64 0, .slice Option.none 0 0, .int .i64 0, .int .i64 0, .int .i64 0, .int .i64 0] _ hgx.symm⟩ (fun W138 hV => ?_)
          obtain ⟨⟨p, hp⟩, qX⟩ := hV
          have qHB := Lib.hid (below_to hp HB.out)
          have qHKa := Lib.hid (Blk.to hp HKa.out)
          have qHKr := Lib.hid (Blk.to hp HKr.out)
          have qHOw := Lib.hid (own_to hp HOw.out)
          have qHKw := Lib.hid (Blk.to hp HKw.out)
          have qHKg := Lib.hid (Blk.to hp HKg.out)
          have qMg := Lib.hid (row_to hp Mg.out)
          have qHQ := Lib.hid (below_to hp HQ.out)
          have qHOy := Lib.hid (own_to hp HOy.out)
          clear HB cHKa_0 zHKa_0 cHKa_1 zHKa_1 cHKa_2 zHKa_2 cHKa_3 zHKa_3 cHKa_4 zHKa_4 cHKa_5 zHKa_5 lHKa mHKa HKa cHKr_0 zHKr_0 cHKr_1 zHKr_1 cHKr_2 zHKr_2 cHKr_3 zHKr_3 cHKr_4 zHKr_4 lHKr mHKr HKr HOw cHKw_0 zHKw_0 cHKw_1 zHKw_1 cHKw_2 zHKw_2 cHKw_3 zHKw_3 cHKw_4 zHKw_4 cHKw_5 zHKw_5 lHKw mHKw HKw cHKg_0 zHKg_0 cHKg_1 zHKg_1 cHKg_2 zHKg_2 cHKg_3 zHKg_3 cHKg_4 zHKg_4 cHKg_5 zHKg_5 lHKg mHKg HKg Mg HQ HOy hp
          have HB := qHB
          clear qHB
          have HKa := qHKa
          clear qHKa
          have cHKa_0 := HKa.out.cell (i := 0) rfl
          have zHKa_0 := HKa.out.frozen 0
          have cHKa_1 := HKa.out.cell (i := 1) rfl
          have zHKa_1 := HKa.out.frozen 1
          have cHKa_2 := HKa.out.cell (i := 2) rfl
          have zHKa_2 := HKa.out.frozen 2
          have cHKa_3 := HKa.out.cell (i := 3) rfl
          have zHKa_3 := HKa.out.frozen 3
          have cHKa_4 := HKa.out.cell (i := 4) rfl
          have zHKa_4 := HKa.out.frozen 4
          have cHKa_5 := HKa.out.cell (i := 5) rfl
          have zHKa_5 := HKa.out.frozen 5
          have lHKa := HKa.out.lt
          have mHKa := Nat.le_of_lt lHKa
          have HKr := qHKr
          clear qHKr
          have cHKr_0 := HKr.out.cell (i := 0) rfl
          have zHKr_0 := HKr.out.frozen 0
          have cHKr_1 := HKr.out.cell (i := 1) rfl
          have zHKr_1 := HKr.out.frozen 1
          have cHKr_2 := HKr.out.cell (i := 2) rfl
          have zHKr_2 := HKr.out.frozen 2
          have cHKr_3 := HKr.out.cell (i := 3) rfl
          have zHKr_3 := HKr.out.frozen 3
          have cHKr_4 := HKr.out.cell (i := 4) rfl
          have zHKr_4 := HKr.out.frozen 4
          have lHKr := HKr.out.lt
          have mHKr := Nat.le_of_lt lHKr
          have HOw := qHOw
          clear qHOw
          have HKw := qHKw
          clear qHKw
          have cHKw_0 := HKw.out.cell (i := 0) rfl
          have zHKw_0 := HKw.out.frozen 0
          have cHKw_1 := HKw.out.cell (i := 1) rfl
          have zHKw_1 := HKw.out.frozen 1
          have cHKw_2 := HKw.out.cell (i := 2) rfl
          have zHKw_2 := HKw.out.frozen 2
          have cHKw_3 := HKw.out.cell (i := 3) rfl
          have zHKw_3 := HKw.out.frozen 3
          have cHKw_4 := HKw.out.cell (i := 4) rfl
          have zHKw_4 := HKw.out.frozen 4
          have cHKw_5 := HKw.out.cell (i := 5) rfl
          have zHKw_5 := HKw.out.frozen 5
          have lHKw := HKw.out.lt
          have mHKw := Nat.le_of_lt lHKw
          have HKg := qHKg
          clear qHKg
          have cHKg_0 := HKg.out.cell (i := 0) rfl
          have zHKg_0 := HKg.out.frozen 0
          have cHKg_1 := HKg.out.cell (i := 1) rfl
          have zHKg_1 := HKg.out.frozen 1
          have cHKg_2 := HKg.out.cell (i := 2) rfl
          have zHKg_2 := HKg.out.frozen 2
          have cHKg_3 := HKg.out.cell (i := 3) rfl
          have zHKg_3 := HKg.out.frozen 3
          have cHKg_4 := HKg.out.cell (i := 4) rfl
          have zHKg_4 := HKg.out.frozen 4
          have cHKg_5 := HKg.out.cell (i := 5) rfl
          have zHKg_5 := HKg.out.frozen 5
          have lHKg := HKg.out.lt
          have mHKg := Nat.le_of_lt lHKg
          have Mg := qMg
          clear qMg
          have HQ := qHQ
          clear qHQ
          have HOy := qHOy
          clear qHOy
          have hsW138 : w.heap.size ≤ W138.heap.size := HB.out.size
          clear hgx
          have HX := Lib.hid (qX)
          have cHX_0 := HX.out.cell (i := 0) rfl
          have zHX_0 := HX.out.frozen 0
          have cHX_1 := HX.out.cell (i := 1) rfl
          have zHX_1 := HX.out.frozen 1
          have cHX_2 := HX.out.cell (i := 2) rfl
          have zHX_2 := HX.out.frozen 2
          have cHX_3 := HX.out.cell (i := 3) rfl
          have zHX_3 := HX.out.frozen 3
          have cHX_4 := HX.out.cell (i := 4) rfl
          have zHX_4 := HX.out.frozen 4
          have cHX_5 := HX.out.cell (i := 5) rfl
          have zHX_5 := HX.out.frozen 5
          have lHX := HX.out.lt
          have mHX := Nat.le_of_lt lHX
          clear qX
          refine wpPlt_one (fun J hJ => ?_)
          simp only [List.getD_cons_zero, List.getD_cons_succ]
          go_wp2_with fail
          refine (c_toRecord _ _ _ _ _ _).mono ?_
          rintro _ W139 ⟨rfl, p139, hp139⟩
          have qHB := Lib.hid (below_to hp139 HB.out)
          have qHKa := Lib.hid (Blk.to hp139 HKa.out)
          have qHKr := Lib.hid (Blk.to hp139 HKr.out)
          have qHOw := Lib.hid (own_to hp139 HOw.out)
          have qHKw := Lib.hid (Blk.to hp139 HKw.out)
          have qHKg := Lib.hid (Blk.to hp139 HKg.out)
          have qMg := Lib.hid (row_to hp139 Mg.out)
          have qHQ := Lib.hid (below_to hp139 HQ.out)
          have qHOy := Lib.hid (own_to hp139 HOy.out)
          have qHX := Lib.hid (Blk.to hp139 HX.out)
          clear HB cHKa_0 zHKa_0 cHKa_1 zHKa_1 cHKa_2 zHKa_2 cHKa_3 zHKa_3 cHKa_4 zHKa_4 cHKa_5 zHKa_5 lHKa mHKa HKa cHKr_0 zHKr_0 cHKr_1 zHKr_1 cHKr_2 zHKr_2 cHKr_3 zHKr_3 cHKr_4 zHKr_4 lHKr mHKr HKr HOw cHKw_0 zHKw_0 cHKw_1 zHKw_1 cHKw_2 zHKw_2 cHKw_3 zHKw_3 cHKw_4 zHKw_4 cHKw_5 zHKw_5 lHKw mHKw HKw cHKg_0 zHKg_0 cHKg_1 zHKg_1 cHKg_2 zHKg_2 cHKg_3 zHKg_3 cHKg_4 zHKg_4 cHKg_5 zHKg_5 lHKg mHKg HKg Mg HQ HOy cHX_0 zHX_0 cHX_1 zHX_1 cHX_2 zHX_2 cHX_3 zHX_3 cHX_4 zHX_4 cHX_5 zHX_5 lHX mHX HX hp139
          have HB := qHB
          clear qHB
          have HKa := qHKa
          clear qHKa
          have cHKa_0 := HKa.out.cell (i := 0) rfl
          have zHKa_0 := HKa.out.frozen 0
          have cHKa_1 := HKa.out.cell (i := 1) rfl
          have zHKa_1 := HKa.out.frozen 1
          have cHKa_2 := HKa.out.cell (i := 2) rfl
          have zHKa_2 := HKa.out.frozen 2
          have cHKa_3 := HKa.out.cell (i := 3) rfl
          have zHKa_3 := HKa.out.frozen 3
          have cHKa_4 := HKa.out.cell (i := 4) rfl
          have zHKa_4 := HKa.out.frozen 4
          have cHKa_5 := HKa.out.cell (i := 5) rfl
          have zHKa_5 := HKa.out.frozen 5
          have lHKa := HKa.out.lt
          have mHKa := Nat.le_of_lt lHKa
          have HKr := qHKr
          clear qHKr
          have cHKr_0 := HKr.out.cell (i := 0) rfl
          have zHKr_0 := HKr.out.frozen 0
          have cHKr_1 := HKr.out.cell (i := 1) rfl
          have zHKr_1 := HKr.out.frozen 1
          have cHKr_2 := HKr.out.cell (i := 2) rfl
          have zHKr_2 := HKr.out.frozen 2
          have cHKr_3 := HKr.out.cell (i := 3) rfl
          have zHKr_3 := HKr.out.frozen 3
          have cHKr_4 := HKr.out.cell (i := 4) rfl
          have zHKr_4 := HKr.out.frozen 4
          have lHKr := HKr.out.lt
          have mHKr := Nat.le_of_lt lHKr
          have HOw := qHOw
          clear qHOw
          have HKw := qHKw
          clear qHKw
          have cHKw_0 := HKw.out.cell (i := 0) rfl
          have zHKw_0 := HKw.out.frozen 0
          have cHKw_1 := HKw.out.cell (i := 1) rfl
          have zHKw_1 := HKw.out.frozen 1
          have cHKw_2 := HKw.out.cell (i := 2) rfl
          have zHKw_2 := HKw.out.frozen 2
          have cHKw_3 := HKw.out.cell (i := 3) rfl
          have zHKw_3 := HKw.out.frozen 3
          have cHKw_4 := HKw.out.cell (i := 4) rfl
          have zHKw_4 := HKw.out.frozen 4
          have cHKw_5 := HKw.out.cell (i := 5) rfl
          have zHKw_5 := HKw.out.frozen 5
          have lHKw := HKw.out.lt
          have mHKw := Nat.le_of_lt lHKw
          have HKg := qHKg
          clear qHKg
          have cHKg_0 := HKg.out.cell (i := 0) rfl
          have zHKg_0 := HKg.out.frozen 0
          have cHKg_1 := HKg.out.cell (i := 1) rfl
          have zHKg_1 := HKg.out.frozen 1
          have cHKg_2 := HKg.out.cell (i := 2) rfl
          have zHKg_2 := HKg.out.frozen 2
          have cHKg_3 := HKg.out.cell (i := 3) rfl
          have zHKg_3 := HKg.out.frozen 3
          have cHKg_4 := HKg.out.cell (i := 4) rfl
          have zHKg_4 := HKg.out.frozen 4
          have cHKg_5 := HKg.out.cell (i := 5) rfl
          have zHKg_5 := HKg.out.frozen 5
          have lHKg := HKg.out.lt
          have mHKg := Nat.le_of_lt lHKg
          have Mg := qMg
          clear qMg
          have HQ := qHQ
          clear qHQ
          have HOy := qHOy
          clear qHOy
          have HX := qHX
          clear qHX
          have cHX_0 := HX.out.cell (i := 0) rfl
          have zHX_0 := HX.out.frozen 0
          have cHX_1 := HX.out.cell (i := 1) rfl
          have zHX_1 := HX.out.frozen 1
          have cHX_2 := HX.out.cell (i := 2) rfl
          have zHX_2 := HX.out.frozen 2
          have cHX_3 := HX.out.cell (i := 3) rfl
          have zHX_3 := HX.out.frozen 3
          have cHX_4 := HX.out.cell (i := 4) rfl
          have zHX_4 := HX.out.frozen 4
          have cHX_5 := HX.out.cell (i := 5) rfl
          have zHX_5 := HX.out.frozen 5
          have lHX := HX.out.lt
          have mHX := Nat.le_of_lt lHX
          have hsW139 : w.heap.size ≤ W139.heap.size := HB.out.size
          go_wp2_with fail
          refine onward_K ⟨cHKa_0, cHKa_1, cHKa_2, cHKa_3, cHKa_4, cHKa_5, cHKr_0, cHKr_1, cHKr_2, cHKr_3, cHKr_4⟩ (hJ _ _ ?_)
          clear hJ J
          refine wpPlt_one (fun J hJ => ?_)
          simp only [List.getD_cons_zero, List.getD_cons_succ]
          go_wp2_with fail
          have tHKa_h := lHKa
          have tHKr_h := lHKr
          have Htw_h := Lib.hid (Lt.of_row lenR (by decide) HOw.out.row HLw.out)
          have tHKw_h := lHKw
          have tHKg_h := lHKg
          have Hty_h := Lib.hid (Lt.of_row lenR (by decide) HOy.out.row HLy.out)
          have tHX_h := lHX
          have s_h : w.heap.size ≤ W139.heap.size := HB.out.size
          have u_h : _ ≤ W139.heap.size := HQ.out.size
          refine (c_iSendOn _ cr0 bk0 _ _ _ ny _ x0 x1 x2 x3 x4 x5 _ cr' st' ys z HLy.out (by omega) hcr hbk hst hgt (HOy.out).row HZ.out).mono ?_
          rintro _ W140 ⟨Ah, nh, ch, rfl, hlh, hch, hmh, hOh, p140, hp140⟩
          have qHB := Lib.hid (below_to hp140 HB.out)
          have qHKa := Lib.hid (Blk.to hp140 HKa.out)
          have qHKr := Lib.hid (Blk.to hp140 HKr.out)
          have qHOw := Lib.hid (own_to hp140 HOw.out)
          have qHKw := Lib.hid (Blk.to hp140 HKw.out)
          have qHKg := Lib.hid (Blk.to hp140 HKg.out)
          have qMg := Lib.hid (row_to hp140 Mg.out)
          have qHQ := Lib.hid (below_to hp140 HQ.out)
          have qHOy := Lib.hid (own_to hp140 HOy.out)
          have qHX := Lib.hid (Blk.to hp140 HX.out)
          clear HB cHKa_0 zHKa_0 cHKa_1 zHKa_1 cHKa_2 zHKa_2 cHKa_3 zHKa_3 cHKa_4 zHKa_4 cHKa_5 zHKa_5 lHKa mHKa HKa cHKr_0 zHKr_0 cHKr_1 zHKr_1 cHKr_2 zHKr_2 cHKr_3 zHKr_3 cHKr_4 zHKr_4 lHKr mHKr HKr HOw cHKw_0 zHKw_0 cHKw_1 zHKw_1 cHKw_2 zHKw_2 cHKw_3 zHKw_3 cHKw_4 zHKw_4 cHKw_5 zHKw_5 lHKw mHKw HKw cHKg_0 zHKg_0 cHKg_1 zHKg_1 cHKg_2 zHKg_2 cHKg_3 zHKg_3 cHKg_4 zHKg_4 cHKg_5 zHKg_5 lHKg mHKg HKg Mg HQ HOy cHX_0 zHX_0 cHX_1 zHX_1 cHX_2 zHX_2 cHX_3 zHX_3 cHX_4 zHX_4 cHX_5 zHX_5 lHX mHX HX hp140
          have HB := qHB
          clear qHB
          have HKa := qHKa
          clear qHKa
          have cHKa_0 := HKa.out.cell (i := 0) rfl
          have zHKa_0 := HKa.out.frozen 0
          have cHKa_1 := HKa.out.cell (i := 1) rfl
          have zHKa_1 := HKa.out.frozen 1
          have cHKa_2 := HKa.out.cell (i := 2) rfl
          have zHKa_2 := HKa.out.frozen 2
          have cHKa_3 := HKa.out.cell (i := 3) rfl
          have zHKa_3 := HKa.out.frozen 3
          have cHKa_4 := HKa.out.cell (i := 4) rfl
          have zHKa_4 := HKa.out.frozen 4
          have cHKa_5 := HKa.out.cell (i := 5) rfl
          have zHKa_5 := HKa.out.frozen 5
          have lHKa := HKa.out.lt
          have mHKa := Nat.le_of_lt lHKa
          have HKr := qHKr
          clear qHKr
          have cHKr_0 := HKr.out.cell (i := 0) rfl
          have zHKr_0 := HKr.out.frozen 0
          have cHKr_1 := HKr.out.cell (i := 1) rfl
          have zHKr_1 := HKr.out.frozen 1
          have cHKr_2 := HKr.out.cell (i := 2) rfl
          have zHKr_2 := HKr.out.frozen 2
          have cHKr_3 := HKr.out.cell (i := 3) rfl
          have zHKr_3 := HKr.out.frozen 3
          have cHKr_4 := HKr.out.cell (i := 4) rfl
          have zHKr_4 := HKr.out.frozen 4
          have lHKr := HKr.out.lt
          have mHKr := Nat.le_of_lt lHKr
          have HOw := qHOw
          clear qHOw
          have HKw := qHKw
          clear qHKw
          have cHKw_0 := HKw.out.cell (i := 0) rfl
          have zHKw_0 := HKw.out.frozen 0
          have cHKw_1 := HKw.out.cell (i := 1) rfl
          have zHKw_1 := HKw.out.frozen 1
          have cHKw_2 := HKw.out.cell (i := 2) rfl
          have zHKw_2 := HKw.out.frozen 2
          have cHKw_3 := HKw.out.cell (i := 3) rfl
          have zHKw_3 := HKw.out.frozen 3
          have cHKw_4 := HKw.out.cell (i := 4) rfl
          have zHKw_4 := HKw.out.frozen 4
          have cHKw_5 := HKw.out.cell (i := 5) rfl
          have zHKw_5 := HKw.out.frozen 5
          have lHKw := HKw.out.lt
          have mHKw := Nat.le_of_lt lHKw
          have HKg := qHKg
          clear qHKg
          have cHKg_0 := HKg.out.cell (i := 0) rfl
          have zHKg_0 := HKg.out.frozen 0
          have cHKg_1 := HKg.out.cell (i := 1) rfl
          have zHKg_1 := HKg.out.frozen 1
          have cHKg_2 := HKg.out.cell (i := 2) rfl
          have zHKg_2 := HKg.out.frozen 2
          have cHKg_3 := HKg.out.cell (i := 3) rfl
          have zHKg_3 := HKg.out.frozen 3
          have cHKg_4 := HKg.out.cell (i := 4) rfl
          have zHKg_4 := HKg.out.frozen 4
          have cHKg_5 := HKg.out.cell (i := 5) rfl
          have zHKg_5 := HKg.out.frozen 5
          have lHKg := HKg.out.lt
          have mHKg := Nat.le_of_lt lHKg
          have Mg := qMg
          clear qMg
          have HQ := qHQ
          clear qHQ
          have HOy := qHOy
          clear qHOy
          have HX := qHX
          clear qHX
          have cHX_0 := HX.out.cell (i := 0) rfl
          have zHX_0 := HX.out.frozen 0
          have cHX_1 := HX.out.cell (i := 1) rfl
          have zHX_1 := HX.out.frozen 1
          have cHX_2 := HX.out.cell (i := 2) rfl
          have zHX_2 := HX.out.frozen 2
          have cHX_3 := HX.out.cell (i := 3) rfl
          have zHX_3 := HX.out.frozen 3
          have cHX_4 := HX.out.cell (i := 4) rfl
          have zHX_4 := HX.out.frozen 4
          have cHX_5 := HX.out.cell (i := 5) rfl
          have zHX_5 := HX.out.frozen 5
          have lHX := HX.out.lt
          have mHX := Nat.le_of_lt lHX
          have hsW140 : w.heap.size ≤ W140.heap.size := HB.out.size
          have HOh := Lib.hid hOh
          have HLh := Lib.hid hlh
          clear hOh hlh
          unfold maxLen at hmh
          have hbh : nh ≤ 1048580 := by rw [← HLh.out]; exact hyl
          have hmh' : nh ≤ 9223372036854775807 := by omega
          go_wp2_with fail
          refine onward_K ⟨cHKa_0, cHKa_1, cHKa_2, cHKa_3, cHKa_4, cHKa_5, cHKr_0, cHKr_1, cHKr_2, cHKr_3, cHKr_4⟩ (hJ _ _ ?_)
          clear hJ J
          (repeat (refine wpPlt_pick (fun J hJ => ?_); simp only [List.getD_cons_zero, List.getD_cons_succ]; first | (go_simp; refine hJ _ ?_; clear hJ J) | (go_simp; refine ⟨_, (fun w1 => by (repeat (intro hh; try simp only [hh, Result.andThen])); rfl), ?_⟩; refine hJ _ ?_; clear hJ J)))
          refine wpPlt_one (fun J hJ => ?_)
          simp only [List.getD_cons_zero, List.getD_cons_succ]
          go_wp2_with fail
          have hne : some gx ≠ ob Ah nh := fun e => by have := HOh.out.low HLh.out e; omega
          refine onward_anchor (F := fun V => Below W135.heap.size W135 V ∧ Own encR 5 W135.heap.size V Ah ys ∧ Blk gx [.int .i64 cap0, .slice Ah nh ch, .int .i64 cr', .int .i64 bk0, .int .i64 st', .int .i64 gt0] 35 V ∧ Blk (w.heap.size) [.int .i64 cap0, .slice A0 n0 c0, .int .i64 cr0, .int .i64 bk0, .int .i64 st0, .int .i64 gt0] 31 V ∧ Blk (w.heap.size + 1) [.int .i64 x1, .int .i64 x2, .int .i64 x3, .int .i64 x4, .int .i64 x5] 45 V) ⟨(by (repeat (first | with_reducible exact HQ.out | with_reducible refine Below.setCell ?_ (by dsimp only; omega) _)); done), (by (repeat (first | with_reducible exact HOh.out.mono (by omega) | with_reducible refine Own.set ?_ HLh.out _ _ hne)); done), (((((((HX.out.set 0 _).set 1 _).set 2 _).set 3 _).set 4 _).set 5 _).conv rfl), (by (repeat (first | with_reducible exact HKa.out | with_reducible refine Blk.other ?_ (by dsimp only; omega) _)); done), (by (repeat (first | with_reducible exact HKr.out | with_reducible refine Blk.other ?_ (by dsimp only; omega) _)); done)⟩ (fun W141 hV => ?_)
          obtain ⟨q1, q2, q3, rHKa, rHKr⟩ := hV
          refine onward_K ⟨rHKa.cell (i := 0) rfl, rHKa.cell (i := 1) rfl, rHKa.cell (i := 2) rfl, rHKa.cell (i := 3) rfl, rHKa.cell (i := 4) rfl, rHKa.cell (i := 5) rfl, rHKr.cell (i := 0) rfl, rHKr.cell (i := 1) rfl, rHKr.cell (i := 2) rfl, rHKr.cell (i := 3) rfl, rHKr.cell (i := 4) rfl⟩ (hJ _ _ ?_)
          clear hJ J
          (repeat (refine wpPlt_pick (fun J hJ => ?_); simp only [List.getD_cons_zero, List.getD_cons_succ]; first | (go_simp; refine hJ _ ?_; clear hJ J) | (go_simp; refine ⟨_, (fun w1 => by (repeat (intro hh; try simp only [hh, Result.andThen])); rfl), ?_⟩; refine hJ _ ?_; clear hJ J)))
          refine wpPlt_nil ?_
          go_wp2_with fail
          go_meet
          obtain ⟨p, hp⟩ := later_of_below q1
          exact ⟨gx, Ah, nh, ch, p, rfl, rfl, HLh.out, hmh', hgl, hne, q2, q3, hp⟩
      · simp only [List.getD_cons_zero, List.getD_cons_succ]
        obtain ⟨gx, hgx⟩ : ∃ g, W136.heap.size = g := ⟨_, rfl⟩
        have hgl : W135.heap.size ≤ gx := by rw [← hgx]; exact HQ.out.size
        go_wp2_with fail
        refine onward_K ⟨(HKa.out.alloc _).cell (i := 0) rfl, (HKa.out.alloc _).cell (i := 1) rfl, (HKa.out.alloc _).cell (i := 2) rfl, (HKa.out.alloc _).cell (i := 3) rfl, (HKa.out.alloc _).cell (i := 4) rfl, (HKa.out.alloc _).cell (i := 5) rfl, (HKr.out.alloc _).cell (i := 0) rfl, (HKr.out.alloc _).cell (i := 1) rfl, (HKr.out.alloc _).cell (i := 2) rfl, (HKr.out.alloc _).cell (i := 3) rfl, (HKr.out.alloc _).cell (i := 4) rfl⟩ (hJ _ _ ?_)
        clear hJ J
        refine plt_anchor (F := fun V => (∃ p : Later, V = later W136 p) ∧ Blk gx [.int .i64 0, .slice Option.none 0 0, .int .i64 0, .int .i64 0, .int .i64 0, .int .i64 0] 35 V) ⟨later_of_below ((Below.refl _ _).alloc (Nat.le_refl _) _), Blk.new _ _ [.int .i64 0, .slice Option.none 0 0, .int .i64 0, .int .i64 0, .int .i64 0, .int .i64 0] _ hgx.symm⟩ (fun W137 hV => ?_)
        obtain ⟨⟨p, hp⟩, qX⟩ := hV
        have qHB := Lib.hid (below_to hp HB.out)
        have qHKa := Lib.hid (Blk.to hp HKa.out)
        have qHKr := Lib.hid (Blk.to hp HKr.out)
        have qHOw := Lib.hid (own_to hp HOw.out)
        have qHKw := Lib.hid (Blk.to hp HKw.out)
        have qHKg := Lib.hid (Blk.to hp HKg.out)
        have qMg := Lib.hid (row_to hp Mg.out)
        have qHQ := Lib.hid (below_to hp HQ.out)
        clear HB cHKa_0 zHKa_0 cHKa_1 zHKa_1 cHKa_2 zHKa_2 cHKa_3 zHKa_3 cHKa_4 zHKa_4 cHKa_5 zHKa_5 lHKa mHKa HKa cHKr_0 zHKr_0 cHKr_1 zHKr_1 cHKr_2 zHKr_2 cHKr_3 zHKr_3 cHKr_4 zHKr_4 lHKr mHKr HKr HOw cHKw_0 zHKw_0 cHKw_1 zHKw_1 cHKw_2 zHKw_2 cHKw_3 zHKw_3 cHKw_4 zHKw_4 cHKw_5 zHKw_5 lHKw mHKw HKw cHKg_0 zHKg_0 cHKg_1 zHKg_1 cHKg_2 zHKg_2 cHKg_3 zHKg_3 cHKg_4 zHKg_4 cHKg_5 zHKg_5 lHKg mHKg HKg Mg HQ hp
        have HB := qHB
        clear qHB
        have HKa := qHKa
        clear qHKa
        have cHKa_0 := HKa.out.cell (i := 0) rfl
        have zHKa_0 := HKa.out.frozen 0
        have cHKa_1 := HKa.out.cell (i := 1) rfl
        have zHKa_1 := HKa.out.frozen 1
        have cHKa_2 := HKa.out.cell (i := 2) rfl
        have zHKa_2 := HKa.out.frozen 2
        have cHKa_3 := HKa.out.cell (i := 3) rfl
        have zHKa_3 := HKa.out.frozen 3
        have cHKa_4 := HKa.out.cell (i := 4) rfl
        have zHKa_4 := HKa.out.frozen 4
        have cHKa_5 := HKa.out.cell (i := 5) rfl
        have zHKa_5 := HKa.out.frozen 5
        have lHKa := HKa.out.lt
        have mHKa := Nat.le_of_lt lHKa
        have HKr := qHKr
        clear qHKr
        have cHKr_0 := HKr.out.cell (i := 0) rfl
        have zHKr_0 := HKr.out.frozen 0
        have cHKr_1 := HKr.out.cell (i := 1) rfl
        have zHKr_1 := HKr.out.frozen 1
        have cHKr_2 := HKr.out.cell (i := 2) rfl
        have zHKr_2 := HKr.out.frozen 2
        have cHKr_3 := HKr.out.cell (i := 3) rfl
        have zHKr_3 := HKr.out.frozen 3
        have cHKr_4 := HKr.out.cell (i := 4) rfl
        have zHKr_4 := HKr.out.frozen 4
        have lHKr := HKr.out.lt
        have mHKr := Nat.le_of_lt lHKr
        have HOw := qHOw
        clear qHOw
        have HKw := qHKw
        clear qHKw
        have cHKw_0 := HKw.out.cell (i := 0) rfl
        have zHKw_0 := HKw.out.frozen 0
        have cHKw_1 := HKw.out.cell (i := 1) rfl
        have zHKw_1 := HKw.out.frozen 1
        have cHKw_2 := HKw.out.cell (i := 2) rfl
        have zHKw_2 := HKw.out.frozen 2
        have cHKw_3 := HKw.out.cell (i := 3) rfl
        have zHKw_3 := HKw.out.frozen 3
        have cHKw_4 := HKw.out.cell (i := 4) rfl
        have zHKw_4 := HKw.out.frozen 4
        have cHKw_5 := HKw.out.cell (i := 5) rfl
        have zHKw_5 := HKw.out.frozen 5
        have lHKw := HKw.out.lt
        have mHKw := Nat.le_of_lt lHKw
        have HKg := qHKg
        clear qHKg
        have cHKg_0 := HKg.out.cell (i := 0) rfl
        have zHKg_0 := HKg.out.frozen 0
        have cHKg_1 := HKg.out.cell (i := 1) rfl
        have zHKg_1 := HKg.out.frozen 1
        have cHKg_2 := HKg.out.cell (i := 2) rfl
        have zHKg_2 := HKg.out.frozen 2
        have cHKg_3 := HKg.out.cell (i := 3) rfl
        have zHKg_3 := HKg.out.frozen 3
        have cHKg_4 := HKg.out.cell (i := 4) rfl
        have zHKg_4 := HKg.out.frozen 4
        have cHKg_5 := HKg.out.cell (i := 5) rfl
        have zHKg_5 := HKg.out.frozen 5
        have lHKg := HKg.out.lt
        have mHKg := Nat.le_of_lt lHKg
        have Mg := qMg
        clear qMg
        have HQ := qHQ
        clear qHQ
        have hsW137 : w.heap.size ≤ W137.heap.size := HB.out.size
        clear hgx
        have HX := Lib.hid (qX)
        have cHX_0 := HX.out.cell (i := 0) rfl
        have zHX_0 := HX.out.frozen 0
        have cHX_1 := HX.out.cell (i := 1) rfl
        have zHX_1 := HX.out.frozen 1
        have cHX_2 := HX.out.cell (i := 2) rfl
        have zHX_2 := HX.out.frozen 2
        have cHX_3 := HX.out.cell (i := 3) rfl
        have zHX_3 := HX.out.frozen 3
        have cHX_4 := HX.out.cell (i := 4) rfl
        have zHX_4 := HX.out.frozen 4
        have cHX_5 := HX.out.cell (i := 5) rfl
        have zHX_5 := HX.out.frozen 5
        have lHX := HX.out.lt
        have mHX := Nat.le_of_lt lHX
        clear qX
        refine wpPlt_one (fun J hJ => ?_)
        simp only [List.getD_cons_zero, List.getD_cons_succ]
        go_wp2_with fail
        have tHKa_y := lHKa
        have tHKr_y := lHKr
        have Htw_y := Lib.hid (Lt.of_row lenR (by decide) HOw.out.row HLw.out)
        have tHKw_y := lHKw
        have tHKg_y := lHKg
        have tHX_y := lHX
        have s_y : w.heap.size ≤ W137.heap.size := HB.out.size
        have u_y : _ ≤ W137.heap.size := HQ.out.size
        refine (c_toLink cap0 cr0 bk0 st0 gt0 A0 n0 _ x0 _ HN.out hle0 (HA.out.below HB.out)).mono ?_
        rintro _ W138 ⟨Ay, ny, cy, rfl, hly, hcy, hmy, hOy, p138, hp138⟩
        have qHB := Lib.hid (below_to hp138 HB.out)
        have qHKa := Lib.hid (Blk.to hp138 HKa.out)
        have qHKr := Lib.hid (Blk.to hp138 HKr.out)
        have qHOw := Lib.hid (own_to hp138 HOw.out)
        have qHKw := Lib.hid (Blk.to hp138 HKw.out)
        have qHKg := Lib.hid (Blk.to hp138 HKg.out)
        have qMg := Lib.hid (row_to hp138 Mg.out)
        have qHQ := Lib.hid (below_to hp138 HQ.out)
        have qHX := Lib.hid (Blk.to hp138 HX.out)
        clear HB cHKa_0 zHKa_0 cHKa_1 zHKa_1 cHKa_2 zHKa_2 cHKa_3 zHKa_3 cHKa_4 zHKa_4 cHKa_5 zHKa_5 lHKa mHKa HKa cHKr_0 zHKr_0 cHKr_1 zHKr_1 cHKr_2 zHKr_2 cHKr_3 zHKr_3 cHKr_4 zHKr_4 lHKr mHKr HKr HOw cHKw_0 zHKw_0 cHKw_1 zHKw_1 cHKw_2 zHKw_2 cHKw_3 zHKw_3 cHKw_4 zHKw_4 cHKw_5 zHKw_5 lHKw mHKw HKw cHKg_0 zHKg_0 cHKg_1 zHKg_1 cHKg_2 zHKg_2 cHKg_3 zHKg_3 cHKg_4 zHKg_4 cHKg_5 zHKg_5 lHKg mHKg HKg Mg HQ cHX_0 zHX_0 cHX_1 zHX_1 cHX_2 zHX_2 cHX_3 zHX_3 cHX_4 zHX_4 cHX_5 zHX_5 lHX mHX HX hp138
        have HB := qHB
        clear qHB
        have HKa := qHKa
        clear qHKa
        have cHKa_0 := HKa.out.cell (i := 0) rfl
        have zHKa_0 := HKa.out.frozen 0
        have cHKa_1 := HKa.out.cell (i := 1) rfl
        have zHKa_1 := HKa.out.frozen 1
        have cHKa_2 := HKa.out.cell (i := 2) rfl
        have zHKa_2 := HKa.out.frozen 2
        have cHKa_3 := HKa.out.cell (i := 3) rfl
        have zHKa_3 := HKa.out.frozen 3
        have cHKa_4 := HKa.out.cell (i := 4) rfl
        have zHKa_4 := HKa.out.frozen 4
        have cHKa_5 := HKa.out.cell (i := 5) rfl
        have zHKa_5 := HKa.out.frozen 5
        have lHKa := HKa.out.lt
        have mHKa := Nat.le_of_lt lHKa
        have HKr := qHKr
        clear qHKr
        have cHKr_0 := HKr.out.cell (i := 0) rfl
        have zHKr_0 := HKr.out.frozen 0
        have cHKr_1 := HKr.out.cell (i := 1) rfl
        have zHKr_1 := HKr.out.frozen 1
        have cHKr_2 := HKr.out.cell (i := 2) rfl
        have zHKr_2 := HKr.out.frozen 2
        have cHKr_3 := HKr.out.cell (i := 3) rfl
        have zHKr_3 := HKr.out.frozen 3
        have cHKr_4 := HKr.out.cell (i := 4) rfl
        have zHKr_4 := HKr.out.frozen 4
        have lHKr := HKr.out.lt
        have mHKr := Nat.le_of_lt lHKr
        have HOw := qHOw
        clear qHOw
        have HKw := qHKw
        clear qHKw
        have cHKw_0 := HKw.out.cell (i := 0) rfl
        have zHKw_0 := HKw.out.frozen 0
        have cHKw_1 := HKw.out.cell (i := 1) rfl
        have zHKw_1 := HKw.out.frozen 1
        have cHKw_2 := HKw.out.cell (i := 2) rfl
        have zHKw_2 := HKw.out.frozen 2
        have cHKw_3 := HKw.out.cell (i := 3) rfl
        have zHKw_3 := HKw.out.frozen 3
        have cHKw_4 := HKw.out.cell (i := 4) rfl
        have zHKw_4 := HKw.out.frozen 4
        have cHKw_5 := HKw.out.cell (i := 5) rfl
        have zHKw_5 := HKw.out.frozen 5
        have lHKw := HKw.out.lt
        have mHKw := Nat.le_of_lt lHKw
        have HKg := qHKg
        clear qHKg
        have cHKg_0 := HKg.out.cell (i := 0) rfl
        have zHKg_0 := HKg.out.frozen 0
        have cHKg_1 := HKg.out.cell (i := 1) rfl
        have zHKg_1 := HKg.out.frozen 1
        have cHKg_2 := HKg.out.cell (i := 2) rfl
        have zHKg_2 := HKg.out.frozen 2
        have cHKg_3 := HKg.out.cell (i := 3) rfl
        have zHKg_3 := HKg.out.frozen 3
        have cHKg_4 := HKg.out.cell (i := 4) rfl
        have zHKg_4 := HKg.out.frozen 4
        have cHKg_5 := HKg.out.cell (i := 5) rfl
        have zHKg_5 := HKg.out.frozen 5
        have lHKg := HKg.out.lt
        have mHKg := Nat.le_of_lt lHKg
        have Mg := qMg
        clear qMg
        have HQ := qHQ
        clear qHQ
        have HX := qHX
        clear qHX
        have cHX_0 := HX.out.cell (i := 0) rfl
        have zHX_0 := HX.out.frozen 0
        have cHX_1 := HX.out.cell (i := 1) rfl
        have zHX_1 := HX.out.frozen 1
        have cHX_2 := HX.out.cell (i := 2) rfl
        have zHX_2 := HX.out.frozen 2
        have cHX_3 := HX.out.cell (i := 3) rfl
        have zHX_3 := HX.out.frozen 3
        have cHX_4 := HX.out.cell (i := 4) rfl
        have zHX_4 := HX.out.frozen 4
        have cHX_5 := HX.out.cell (i := 5) rfl
        have zHX_5 := HX.out.frozen 5
        have lHX := HX.out.lt
        have mHX := Nat.le_of_lt lHX
        have hsW138 : w.heap.size ≤ W138.heap.size := HB.out.size
        have HOy := Lib.hid hOy
        have HLy := Lib.hid hly
        clear hOy hly
        unfold maxLen at hmy
        have hby : ny ≤ 1048576 := by rw [← HLy.out, HN.out]; exact hle0
        go_wp2_with fail
        refine onward_K ⟨cHKa_0, cHKa_1, cHKa_2, cHKa_3, cHKa_4, cHKa_5, cHKr_0, cHKr_1, cHKr_2, cHKr_3, cHKr_4⟩ (hJ _ _ ?_)
        clear hJ J
        refine wpPlt_one (fun J hJ => ?_)
        simp only [List.getD_cons_zero, List.getD_cons_succ]
        go_wp2_with fail
        refine (c_toRecord _ _ _ _ _ _).mono ?_
        rintro _ W139 ⟨rfl, p139, hp139⟩
        have qHB := Lib.hid (below_to hp139 HB.out)
        have qHKa := Lib.hid (Blk.to hp139 HKa.out)
        have qHKr := Lib.hid (Blk.to hp139 HKr.out)
        have qHOw := Lib.hid (own_to hp139 HOw.out)
        have qHKw := Lib.hid (Blk.to hp139 HKw.out)
        have qHKg := Lib.hid (Blk.to hp139 HKg.out)
        have qMg := Lib.hid (row_to hp139 Mg.out)
        have qHQ := Lib.hid (below_to hp139 HQ.out)
        have qHX := Lib.hid (Blk.to hp139 HX.out)
        have qHOy := Lib.hid (own_to hp139 HOy.out)
        clear HB cHKa_0 zHKa_0 cHKa_1 zHKa_1 cHKa_2 zHKa_2 cHKa_3 zHKa_3 cHKa_4 zHKa_4 cHKa_5 zHKa_5 lHKa mHKa HKa cHKr_0 zHKr_0 cHKr_1 zHKr_1 cHKr_2 zHKr_2 cHKr_3 zHKr_3 cHKr_4 zHKr_4 lHKr mHKr HKr HOw cHKw_0 zHKw_0 cHKw_1 zHKw_1 cHKw_2 zHKw_2 cHKw_3 zHKw_3 cHKw_4 zHKw_4 cHKw_5 zHKw_5 lHKw mHKw HKw cHKg_0 zHKg_0 cHKg_1 zHKg_1 cHKg_2 zHKg_2 cHKg_3 zHKg_3 cHKg_4 zHKg_4 cHKg_5 zHKg_5 lHKg mHKg HKg Mg HQ cHX_0 zHX_0 cHX_1 zHX_1 cHX_2 zHX_2 cHX_3 zHX_3 cHX_4 zHX_4 cHX_5 zHX_5 lHX mHX HX HOy hp139
        have HB := qHB
        clear qHB
        have HKa := qHKa
        clear qHKa
        have cHKa_0 := HKa.out.cell (i := 0) rfl
        have zHKa_0 := HKa.out.frozen 0
        have cHKa_1 := HKa.out.cell (i := 1) rfl
        have zHKa_1 := HKa.out.frozen 1
        have cHKa_2 := HKa.out.cell (i := 2) rfl
        have zHKa_2 := HKa.out.frozen 2
        have cHKa_3 := HKa.out.cell (i := 3) rfl
        have zHKa_3 := HKa.out.frozen 3
        have cHKa_4 := HKa.out.cell (i := 4) rfl
        have zHKa_4 := HKa.out.frozen 4
        have cHKa_5 := HKa.out.cell (i := 5) rfl
        have zHKa_5 := HKa.out.frozen 5
        have lHKa := HKa.out.lt
        have mHKa := Nat.le_of_lt lHKa
        have HKr := qHKr
        clear qHKr
        have cHKr_0 := HKr.out.cell (i := 0) rfl
        have zHKr_0 := HKr.out.frozen 0
        have cHKr_1 := HKr.out.cell (i := 1) rfl
        have zHKr_1 := HKr.out.frozen 1
        have cHKr_2 := HKr.out.cell (i := 2) rfl
        have zHKr_2 := HKr.out.frozen 2
        have cHKr_3 := HKr.out.cell (i := 3) rfl
        have zHKr_3 := HKr.out.frozen 3
        have cHKr_4 := HKr.out.cell (i := 4) rfl
        have zHKr_4 := HKr.out.frozen 4
        have lHKr := HKr.out.lt
        have mHKr := Nat.le_of_lt lHKr
        have HOw := qHOw
        clear qHOw
        have HKw := qHKw
        clear qHKw
        have cHKw_0 := HKw.out.cell (i := 0) rfl
        have zHKw_0 := HKw.out.frozen 0
        have cHKw_1 := HKw.out.cell (i := 1) rfl
        have zHKw_1 := HKw.out.frozen 1
        have cHKw_2 := HKw.out.cell (i := 2) rfl
        have zHKw_2 := HKw.out.frozen 2
        have cHKw_3 := HKw.out.cell (i := 3) rfl
        have zHKw_3 := HKw.out.frozen 3
        have cHKw_4 := HKw.out.cell (i := 4) rfl
        have zHKw_4 := HKw.out.frozen 4
        have cHKw_5 := HKw.out.cell (i := 5) rfl
        have zHKw_5 := HKw.out.frozen 5
        have lHKw := HKw.out.lt
        have mHKw := Nat.le_of_lt lHKw
        have HKg := qHKg
        clear qHKg
        have cHKg_0 := HKg.out.cell (i := 0) rfl
        have zHKg_0 := HKg.out.frozen 0
        have cHKg_1 := HKg.out.cell (i := 1) rfl
        have zHKg_1 := HKg.out.frozen 1
        have cHKg_2 := HKg.out.cell (i := 2) rfl
        have zHKg_2 := HKg.out.frozen 2
        have cHKg_3 := HKg.out.cell (i := 3) rfl
        have zHKg_3 := HKg.out.frozen 3
        have cHKg_4 := HKg.out.cell (i := 4) rfl
        have zHKg_4 := HKg.out.frozen 4
        have cHKg_5 := HKg.out.cell (i := 5) rfl
        have zHKg_5 := HKg.out.frozen 5
        have lHKg := HKg.out.lt
        have mHKg := Nat.le_of_lt lHKg
        have Mg := qMg
        clear qMg
        have HQ := qHQ
        clear qHQ
        have HX := qHX
        clear qHX
        have cHX_0 := HX.out.cell (i := 0) rfl
        have zHX_0 := HX.out.frozen 0
        have cHX_1 := HX.out.cell (i := 1) rfl
        have zHX_1 := HX.out.frozen 1
        have cHX_2 := HX.out.cell (i := 2) rfl
        have zHX_2 := HX.out.frozen 2
        have cHX_3 := HX.out.cell (i := 3) rfl
        have zHX_3 := HX.out.frozen 3
        have cHX_4 := HX.out.cell (i := 4) rfl
        have zHX_4 := HX.out.frozen 4
        have cHX_5 := HX.out.cell (i := 5) rfl
        have zHX_5 := HX.out.frozen 5
        have lHX := HX.out.lt
        have mHX := Nat.le_of_lt lHX
        have HOy := qHOy
        clear qHOy
        have hsW139 : w.heap.size ≤ W139.heap.size := HB.out.size
        go_wp2_with fail
        refine onward_K ⟨cHKa_0, cHKa_1, cHKa_2, cHKa_3, cHKa_4, cHKa_5, cHKr_0, cHKr_1, cHKr_2, cHKr_3, cHKr_4⟩ (hJ _ _ ?_)
        clear hJ J
        refine wpPlt_one (fun J hJ => ?_)
        simp only [List.getD_cons_zero, List.getD_cons_succ]
        go_wp2_with fail
        have tHKa_h := lHKa
        have tHKr_h := lHKr
        have Htw_h := Lib.hid (Lt.of_row lenR (by decide) HOw.out.row HLw.out)
        have tHKw_h := lHKw
        have tHKg_h := lHKg
        have tHX_h := lHX
        have Hty_h := Lib.hid (Lt.of_row lenR (by decide) HOy.out.row HLy.out)
        have s_h : w.heap.size ≤ W139.heap.size := HB.out.size
        have u_h : _ ≤ W139.heap.size := HQ.out.size
        refine (c_iSendOn _ cr0 bk0 _ _ _ ny _ x0 x1 x2 x3 x4 x5 _ cr' st' ys z HLy.out (by omega) hcr hbk hst hgt (HOy.out).row HZ.out).mono ?_
        rintro _ W140 ⟨Ah, nh, ch, rfl, hlh, hch, hmh, hOh, p140, hp140⟩
        have qHB := Lib.hid (below_to hp140 HB.out)
        have qHKa := Lib.hid (Blk.to hp140 HKa.out)
        have qHKr := Lib.hid (Blk.to hp140 HKr.out)
        have qHOw := Lib.hid (own_to hp140 HOw.out)
        have qHKw := Lib.hid (Blk.to hp140 HKw.out)
        have qHKg := Lib.hid (Blk.to hp140 HKg.out)
        have qMg := Lib.hid (row_to hp140 Mg.out)
        have qHQ := Lib.hid (below_to hp140 HQ.out)
        have qHX := Lib.hid (Blk.to hp140 HX.out)
        have qHOy := Lib.hid (own_to hp140 HOy.out)
        clear HB cHKa_0 zHKa_0 cHKa_1 zHKa_1 cHKa_2 zHKa_2 cHKa_3 zHKa_3 cHKa_4 zHKa_4 cHKa_5 zHKa_5 lHKa mHKa HKa cHKr_0 zHKr_0 cHKr_1 zHKr_1 cHKr_2 zHKr_2 cHKr_3 zHKr_3 cHKr_4 zHKr_4 lHKr mHKr HKr HOw cHKw_0 zHKw_0 cHKw_1 zHKw_1 cHKw_2 zHKw_2 cHKw_3 zHKw_3 cHKw_4 zHKw_4 cHKw_5 zHKw_5 lHKw mHKw HKw cHKg_0 zHKg_0 cHKg_1 zHKg_1 cHKg_2 zHKg_2 cHKg_3 zHKg_3 cHKg_4 zHKg_4 cHKg_5 zHKg_5 lHKg mHKg HKg Mg HQ cHX_0 zHX_0 cHX_1 zHX_1 cHX_2 zHX_2 cHX_3 zHX_3 cHX_4 zHX_4 cHX_5 zHX_5 lHX mHX HX HOy hp140
        have HB := qHB
        clear qHB
        have HKa := qHKa
        clear qHKa
        have cHKa_0 := HKa.out.cell (i := 0) rfl
        have zHKa_0 := HKa.out.frozen 0
        have cHKa_1 := HKa.out.cell (i := 1) rfl
        have zHKa_1 := HKa.out.frozen 1
        have cHKa_2 := HKa.out.cell (i := 2) rfl
        have zHKa_2 := HKa.out.frozen 2
        have cHKa_3 := HKa.out.cell (i := 3) rfl
        have zHKa_3 := HKa.out.frozen 3
        have cHKa_4 := HKa.out.cell (i := 4) rfl
        have zHKa_4 := HKa.out.frozen 4
        have cHKa_5 := HKa.out.cell (i := 5) rfl
        have zHKa_5 := HKa.out.frozen 5
        have lHKa := HKa.out.lt
        have mHKa := Nat.le_of_lt lHKa
        have HKr := qHKr
        clear qHKr
        have cHKr_0 := HKr.out.cell (i := 0) rfl
        have zHKr_0 := HKr.out.frozen 0
        have cHKr_1 := HKr.out.cell (i := 1) rfl
        have zHKr_1 := HKr.out.frozen 1
        have cHKr_2 := HKr.out.cell (i := 2) rfl
        have zHKr_2 := HKr.out.frozen 2
        have cHKr_3 := HKr.out.cell (i := 3) rfl
        have zHKr_3 := HKr.out.frozen 3
        have cHKr_4 := HKr.out.cell (i := 4) rfl
        have zHKr_4 := HKr.out.frozen 4
        have lHKr := HKr.out.lt
        have mHKr := Nat.le_of_lt lHKr
        have HOw := qHOw
        clear qHOw
        have HKw := qHKw
        clear qHKw
        have cHKw_0 := HKw.out.cell (i := 0) rfl
        have zHKw_0 := HKw.out.frozen 0
        have cHKw_1 := HKw.out.cell (i := 1) rfl
        have zHKw_1 := HKw.out.frozen 1
        have cHKw_2 := HKw.out.cell (i := 2) rfl
        have zHKw_2 := HKw.out.frozen 2
        have cHKw_3 := HKw.out.cell (i := 3) rfl
        have zHKw_3 := HKw.out.frozen 3
        have cHKw_4 := HKw.out.cell (i := 4) rfl
        have zHKw_4 := HKw.out.frozen 4
        have cHKw_5 := HKw.out.cell (i := 5) rfl
        have zHKw_5 := HKw.out.frozen 5
        have lHKw := HKw.out.lt
        have mHKw := Nat.le_of_lt lHKw
        have HKg := qHKg
        clear qHKg
        have cHKg_0 := HKg.out.cell (i := 0) rfl
        have zHKg_0 := HKg.out.frozen 0
        have cHKg_1 := HKg.out.cell (i := 1) rfl
        have zHKg_1 := HKg.out.frozen 1
        have cHKg_2 := HKg.out.cell (i := 2) rfl
        have zHKg_2 := HKg.out.frozen 2
        have cHKg_3 := HKg.out.cell (i := 3) rfl
        have zHKg_3 := HKg.out.frozen 3
        have cHKg_4 := HKg.out.cell (i := 4) rfl
        have zHKg_4 := HKg.out.frozen 4
        have cHKg_5 := HKg.out.cell (i := 5) rfl
        have zHKg_5 := HKg.out.frozen 5
        have lHKg := HKg.out.lt
        have mHKg := Nat.le_of_lt lHKg
        have Mg := qMg
        clear qMg
        have HQ := qHQ
        clear qHQ
        have HX := qHX
        clear qHX
        have cHX_0 := HX.out.cell (i := 0) rfl
        have zHX_0 := HX.out.frozen 0
        have cHX_1 := HX.out.cell (i := 1) rfl
        have zHX_1 := HX.out.frozen 1
        have cHX_2 := HX.out.cell (i := 2) rfl
        have zHX_2 := HX.out.frozen 2
        have cHX_3 := HX.out.cell (i := 3) rfl
        have zHX_3 := HX.out.frozen 3
        have cHX_4 := HX.out.cell (i := 4) rfl
        have zHX_4 := HX.out.frozen 4
        have cHX_5 := HX.out.cell (i := 5) rfl
        have zHX_5 := HX.out.frozen 5
        have lHX := HX.out.lt
        have mHX := Nat.le_of_lt lHX
        have HOy := qHOy
        clear qHOy
        have hsW140 : w.heap.size ≤ W140.heap.size := HB.out.size
        have HOh := Lib.hid hOh
        have HLh := Lib.hid hlh
        clear hOh hlh
        unfold maxLen at hmh
        have hbh : nh ≤ 1048580 := by rw [← HLh.out]; exact hyl
        have hmh' : nh ≤ 9223372036854775807 := by omega
        go_wp2_with fail
        refine onward_K ⟨cHKa_0, cHKa_1, cHKa_2, cHKa_3, cHKa_4, cHKa_5, cHKr_0, cHKr_1, cHKr_2, cHKr_3, cHKr_4⟩ (hJ _ _ ?_)
        clear hJ J
        (repeat (refine wpPlt_pick (fun J hJ => ?_); simp only [List.getD_cons_zero, List.getD_cons_succ]; first | (go_simp; refine hJ _ ?_; clear hJ J) | (go_simp; refine ⟨_, (fun w1 => by (repeat (intro hh; try simp only [hh, Result.andThen])); rfl), ?_⟩; refine hJ _ ?_; clear hJ J)))
        refine wpPlt_one (fun J hJ => ?_)
        simp only [List.getD_cons_zero, List.getD_cons_succ]
        go_wp2_with fail
        have hne : some gx ≠ ob Ah nh := fun e => by have := HOh.out.low HLh.out e; omega
        refine onward_anchor (F := fun V => Below W135.heap.size W135 V ∧ Own encR 5 W135.heap.size V Ah ys ∧ Blk gx [.int .i64 cap0, .slice Ah nh ch, .int .i64 cr', .int .i64 bk0, .int .i64 st', .int .i64 gt0] 35 V ∧ Blk (w.heap.size) [.int .i64 cap0, .slice A0 n0 c0, .int .i64 cr0, .int .i64 bk0, .int .i64 st0, .int .i64 gt0] 31 V ∧ Blk (w.heap.size + 1) [.int .i64 x1, .int .i64 x2, .int .i64 x3, .int .i64 x4, .int .i64 x5] 45 V) ⟨(by (repeat (first | with_reducible exact HQ.out | with_reducible refine Below.setCell ?_ (by dsimp only; omega) _)); done), (by (repeat (first | with_reducible exact HOh.out.mono (by omega) | with_reducible refine Own.set ?_ HLh.out _ _ hne)); done), (((((((HX.out.set 0 _).set 1 _).set 2 _).set 3 _).set 4 _).set 5 _).conv rfl), (by (repeat (first | with_reducible exact HKa.out | with_reducible refine Blk.other ?_ (by dsimp only; omega) _)); done), (by (repeat (first | with_reducible exact HKr.out | with_reducible refine Blk.other ?_ (by dsimp only; omega) _)); done)⟩ (fun W141 hV => ?_)
        obtain ⟨q1, q2, q3, rHKa, rHKr⟩ := hV
        refine onward_K ⟨rHKa.cell (i := 0) rfl, rHKa.cell (i := 1) rfl, rHKa.cell (i := 2) rfl, rHKa.cell (i := 3) rfl, rHKa.cell (i := 4) rfl, rHKa.cell (i := 5) rfl, rHKr.cell (i := 0) rfl, rHKr.cell (i := 1) rfl, rHKr.cell (i := 2) rfl, rHKr.cell (i := 3) rfl, rHKr.cell (i := 4) rfl⟩ (hJ _ _ ?_)
        clear hJ J
        (repeat (refine wpPlt_pick (fun J hJ => ?_); simp only [List.getD_cons_zero, List.getD_cons_succ]; first | (go_simp; refine hJ _ ?_; clear hJ J) | (go_simp; refine ⟨_, (fun w1 => by (repeat (intro hh; try simp only [hh, Result.andThen])); rfl), ?_⟩; refine hJ _ ?_; clear hJ J)))
        refine wpPlt_nil ?_
        go_wp2_with fail
        go_meet
        obtain ⟨p, hp⟩ := later_of_below q1
        exact ⟨gx, Ah, nh, ch, p, rfl, rfl, HLh.out, hmh', hgl, hne, q2, q3, hp⟩
    obtain ⟨gh, Ah, nh, ch, p, rfl, rfl, hlh, hmh', hlowh, hneh, hOh, hKh, hp⟩ := hcut
    obtain ⟨W195, hV⟩ : ∃ V, V = wc := ⟨_, rfl⟩
    subst hV
    have tHKa_h := lHKa
    have tHKr_h := lHKr
    have Htw_h := Lib.hid (Lt.of_row lenR (by decide) HOw.out.row HLw.out)
    have tHKw_h := lHKw
    have tHKg_h := lHKg
    have s_h : w.heap.size ≤ W135.heap.size := HB.out.size
    have qHB := Lib.hid (below_to hp HB.out)
    have qHKa := Lib.hid (Blk.to hp HKa.out)
    have qHKr := Lib.hid (Blk.to hp HKr.out)
    have qHOw := Lib.hid (own_to hp HOw.out)
    have qHKw := Lib.hid (Blk.to hp HKw.out)
    have qHKg := Lib.hid (Blk.to hp HKg.out)
    have qMg := Lib.hid (row_to hp Mg.out)
    clear HB cHKa_0 zHKa_0 cHKa_1 zHKa_1 cHKa_2 zHKa_2 cHKa_3 zHKa_3 cHKa_4 zHKa_4 cHKa_5 zHKa_5 lHKa mHKa HKa cHKr_0 zHKr_0 cHKr_1 zHKr_1 cHKr_2 zHKr_2 cHKr_3 zHKr_3 cHKr_4 zHKr_4 lHKr mHKr HKr HOw cHKw_0 zHKw_0 cHKw_1 zHKw_1 cHKw_2 zHKw_2 cHKw_3 zHKw_3 cHKw_4 zHKw_4 cHKw_5 zHKw_5 lHKw mHKw HKw cHKg_0 zHKg_0 cHKg_1 zHKg_1 cHKg_2 zHKg_2 cHKg_3 zHKg_3 cHKg_4 zHKg_4 cHKg_5 zHKg_5 lHKg mHKg HKg Mg hp
    have HB := qHB
    clear qHB
    have HKa := qHKa
    clear qHKa
    have cHKa_0 := HKa.out.cell (i := 0) rfl
    have zHKa_0 := HKa.out.frozen 0
    have cHKa_1 := HKa.out.cell (i := 1) rfl
    have zHKa_1 := HKa.out.frozen 1
    have cHKa_2 := HKa.out.cell (i := 2) rfl
    have zHKa_2 := HKa.out.frozen 2
    have cHKa_3 := HKa.out.cell (i := 3) rfl
    have zHKa_3 := HKa.out.frozen 3
    have cHKa_4 := HKa.out.cell (i := 4) rfl
    have zHKa_4 := HKa.out.frozen 4
    have cHKa_5 := HKa.out.cell (i := 5) rfl
    have zHKa_5 := HKa.out.frozen 5
    have lHKa := HKa.out.lt
    have mHKa := Nat.le_of_lt lHKa
    have HKr := qHKr
    clear qHKr
    have cHKr_0 := HKr.out.cell (i := 0) rfl
    have zHKr_0 := HKr.out.frozen 0
    have cHKr_1 := HKr.out.cell (i := 1) rfl
    have zHKr_1 := HKr.out.frozen 1
    have cHKr_2 := HKr.out.cell (i := 2) rfl
    have zHKr_2 := HKr.out.frozen 2
    have cHKr_3 := HKr.out.cell (i := 3) rfl
    have zHKr_3 := HKr.out.frozen 3
    have cHKr_4 := HKr.out.cell (i := 4) rfl
    have zHKr_4 := HKr.out.frozen 4
    have lHKr := HKr.out.lt
    have mHKr := Nat.le_of_lt lHKr
    have HOw := qHOw
    clear qHOw
    have HKw := qHKw
    clear qHKw
    have cHKw_0 := HKw.out.cell (i := 0) rfl
    have zHKw_0 := HKw.out.frozen 0
    have cHKw_1 := HKw.out.cell (i := 1) rfl
    have zHKw_1 := HKw.out.frozen 1
    have cHKw_2 := HKw.out.cell (i := 2) rfl
    have zHKw_2 := HKw.out.frozen 2
    have cHKw_3 := HKw.out.cell (i := 3) rfl
    have zHKw_3 := HKw.out.frozen 3
    have cHKw_4 := HKw.out.cell (i := 4) rfl
    have zHKw_4 := HKw.out.frozen 4
    have cHKw_5 := HKw.out.cell (i := 5) rfl
    have zHKw_5 := HKw.out.frozen 5
    have lHKw := HKw.out.lt
    have mHKw := Nat.le_of_lt lHKw
    have HKg := qHKg
    clear qHKg
    have cHKg_0 := HKg.out.cell (i := 0) rfl
    have zHKg_0 := HKg.out.frozen 0
    have cHKg_1 := HKg.out.cell (i := 1) rfl
    have zHKg_1 := HKg.out.frozen 1
    have cHKg_2 := HKg.out.cell (i := 2) rfl
    have zHKg_2 := HKg.out.frozen 2
    have cHKg_3 := HKg.out.cell (i := 3) rfl
    have zHKg_3 := HKg.out.frozen 3
    have cHKg_4 := HKg.out.cell (i := 4) rfl
    have zHKg_4 := HKg.out.frozen 4
    have cHKg_5 := HKg.out.cell (i := 5) rfl
    have zHKg_5 := HKg.out.frozen 5
    have lHKg := HKg.out.lt
    have mHKg := Nat.le_of_lt lHKg
    have Mg := qMg
    clear qMg
    have hsW195 : w.heap.size ≤ W195.heap.size := HB.out.size
    have HOh := Lib.hid hOh
    have HLh := Lib.hid hlh
    have HNh := Lib.hid hneh
    have HKh := Lib.hid (hKh)
    have cHKh_0 := HKh.out.cell (i := 0) rfl
    have zHKh_0 := HKh.out.frozen 0
    have cHKh_1 := HKh.out.cell (i := 1) rfl
    have zHKh_1 := HKh.out.frozen 1
    have cHKh_2 := HKh.out.cell (i := 2) rfl
    have zHKh_2 := HKh.out.frozen 2
    have cHKh_3 := HKh.out.cell (i := 3) rfl
    have zHKh_3 := HKh.out.frozen 3
    have cHKh_4 := HKh.out.cell (i := 4) rfl
    have zHKh_4 := HKh.out.frozen 4
    have cHKh_5 := HKh.out.cell (i := 5) rfl
    have zHKh_5 := HKh.out.frozen 5
    have lHKh := HKh.out.lt
    have mHKh := Nat.le_of_lt lHKh
    clear hOh hlh hKh hneh
    have hbh : nh ≤ 1048580 := by rw [← HLh.out]; exact hyl
    go_wp2_with fail
    refine (c_eqLink cap0 cr' bk0 st' gt0 cap0 cr' bk0 st' gt0 _ _ _ _ _ _ _ _ _ true HLh.out HLw.out (by omega) (by omega) (HOh.out).row (HOw.out).row (by simp)).mono ?_
    rintro _ W196 ⟨rfl, p196, hp196⟩
    have qHB := Lib.hid (below_to hp196 HB.out)
    have qHKa := Lib.hid (Blk.to hp196 HKa.out)
    have qHKr := Lib.hid (Blk.to hp196 HKr.out)
    have qHOw := Lib.hid (own_to hp196 HOw.out)
    have qHKw := Lib.hid (Blk.to hp196 HKw.out)
    have qHKg := Lib.hid (Blk.to hp196 HKg.out)
    have qMg := Lib.hid (row_to hp196 Mg.out)
    have qHOh := Lib.hid (own_to hp196 HOh.out)
    have qHKh := Lib.hid (Blk.to hp196 HKh.out)
    clear HB cHKa_0 zHKa_0 cHKa_1 zHKa_1 cHKa_2 zHKa_2 cHKa_3 zHKa_3 cHKa_4 zHKa_4 cHKa_5 zHKa_5 lHKa mHKa HKa cHKr_0 zHKr_0 cHKr_1 zHKr_1 cHKr_2 zHKr_2 cHKr_3 zHKr_3 cHKr_4 zHKr_4 lHKr mHKr HKr HOw cHKw_0 zHKw_0 cHKw_1 zHKw_1 cHKw_2 zHKw_2 cHKw_3 zHKw_3 cHKw_4 zHKw_4 cHKw_5 zHKw_5 lHKw mHKw HKw cHKg_0 zHKg_0 cHKg_1 zHKg_1 cHKg_2 zHKg_2 cHKg_3 zHKg_3 cHKg_4 zHKg_4 cHKg_5 zHKg_5 lHKg mHKg HKg Mg HOh cHKh_0 zHKh_0 cHKh_1 zHKh_1 cHKh_2 zHKh_2 cHKh_3 zHKh_3 cHKh_4 zHKh_4 cHKh_5 zHKh_5 lHKh mHKh HKh hp196
    have HB := qHB
    clear qHB
    have HKa := qHKa
    clear qHKa
    have cHKa_0 := HKa.out.cell (i := 0) rfl
    have zHKa_0 := HKa.out.frozen 0
    have cHKa_1 := HKa.out.cell (i := 1) rfl
    have zHKa_1 := HKa.out.frozen 1
    have cHKa_2 := HKa.out.cell (i := 2) rfl
    have zHKa_2 := HKa.out.frozen 2
    have cHKa_3 := HKa.out.cell (i := 3) rfl
    have zHKa_3 := HKa.out.frozen 3
    have cHKa_4 := HKa.out.cell (i := 4) rfl
    have zHKa_4 := HKa.out.frozen 4
    have cHKa_5 := HKa.out.cell (i := 5) rfl
    have zHKa_5 := HKa.out.frozen 5
    have lHKa := HKa.out.lt
    have mHKa := Nat.le_of_lt lHKa
    have HKr := qHKr
    clear qHKr
    have cHKr_0 := HKr.out.cell (i := 0) rfl
    have zHKr_0 := HKr.out.frozen 0
    have cHKr_1 := HKr.out.cell (i := 1) rfl
    have zHKr_1 := HKr.out.frozen 1
    have cHKr_2 := HKr.out.cell (i := 2) rfl
    have zHKr_2 := HKr.out.frozen 2
    have cHKr_3 := HKr.out.cell (i := 3) rfl
    have zHKr_3 := HKr.out.frozen 3
    have cHKr_4 := HKr.out.cell (i := 4) rfl
    have zHKr_4 := HKr.out.frozen 4
    have lHKr := HKr.out.lt
    have mHKr := Nat.le_of_lt lHKr
    have HOw := qHOw
    clear qHOw
    have HKw := qHKw
    clear qHKw
    have cHKw_0 := HKw.out.cell (i := 0) rfl
    have zHKw_0 := HKw.out.frozen 0
    have cHKw_1 := HKw.out.cell (i := 1) rfl
    have zHKw_1 := HKw.out.frozen 1
    have cHKw_2 := HKw.out.cell (i := 2) rfl
    have zHKw_2 := HKw.out.frozen 2
    have cHKw_3 := HKw.out.cell (i := 3) rfl
    have zHKw_3 := HKw.out.frozen 3
    have cHKw_4 := HKw.out.cell (i := 4) rfl
    have zHKw_4 := HKw.out.frozen 4
    have cHKw_5 := HKw.out.cell (i := 5) rfl
    have zHKw_5 := HKw.out.frozen 5
    have lHKw := HKw.out.lt
    have mHKw := Nat.le_of_lt lHKw
    have HKg := qHKg
    clear qHKg
    have cHKg_0 := HKg.out.cell (i := 0) rfl
    have zHKg_0 := HKg.out.frozen 0
    have cHKg_1 := HKg.out.cell (i := 1) rfl
    have zHKg_1 := HKg.out.frozen 1
    have cHKg_2 := HKg.out.cell (i := 2) rfl
    have zHKg_2 := HKg.out.frozen 2
    have cHKg_3 := HKg.out.cell (i := 3) rfl
    have zHKg_3 := HKg.out.frozen 3
    have cHKg_4 := HKg.out.cell (i := 4) rfl
    have zHKg_4 := HKg.out.frozen 4
    have cHKg_5 := HKg.out.cell (i := 5) rfl
    have zHKg_5 := HKg.out.frozen 5
    have lHKg := HKg.out.lt
    have mHKg := Nat.le_of_lt lHKg
    have Mg := qMg
    clear qMg
    have HOh := qHOh
    clear qHOh
    have HKh := qHKh
    clear qHKh
    have cHKh_0 := HKh.out.cell (i := 0) rfl
    have zHKh_0 := HKh.out.frozen 0
    have cHKh_1 := HKh.out.cell (i := 1) rfl
    have zHKh_1 := HKh.out.frozen 1
    have cHKh_2 := HKh.out.cell (i := 2) rfl
    have zHKh_2 := HKh.out.frozen 2
    have cHKh_3 := HKh.out.cell (i := 3) rfl
    have zHKh_3 := HKh.out.frozen 3
    have cHKh_4 := HKh.out.cell (i := 4) rfl
    have zHKh_4 := HKh.out.frozen 4
    have cHKh_5 := HKh.out.cell (i := 5) rfl
    have zHKh_5 := HKh.out.frozen 5
    have lHKh := HKh.out.lt
    have mHKh := Nat.le_of_lt lHKh
    have hsW196 : w.heap.size ≤ W196.heap.size := HB.out.size
    go_wp2_with fail
    refine (h_heldLink _ _ _ _ _ _ _ _ _ _ (by omega) (by omega) (by omega) Mg.out).mono ?_
    rintro _ W197 ⟨rfl, p197, hp197⟩
    have qHB := Lib.hid (below_to hp197 HB.out)
    have qHKa := Lib.hid (Blk.to hp197 HKa.out)
    have qHKr := Lib.hid (Blk.to hp197 HKr.out)
    have qHOw := Lib.hid (own_to hp197 HOw.out)
    have qHKw := Lib.hid (Blk.to hp197 HKw.out)
    have qHKg := Lib.hid (Blk.to hp197 HKg.out)
    have qMg := Lib.hid (row_to hp197 Mg.out)
    have qHOh := Lib.hid (own_to hp197 HOh.out)
    have qHKh := Lib.hid (Blk.to hp197 HKh.out)
    clear HB cHKa_0 zHKa_0 cHKa_1 zHKa_1 cHKa_2 zHKa_2 cHKa_3 zHKa_3 cHKa_4 zHKa_4 cHKa_5 zHKa_5 lHKa mHKa HKa cHKr_0 zHKr_0 cHKr_1 zHKr_1 cHKr_2 zHKr_2 cHKr_3 zHKr_3 cHKr_4 zHKr_4 lHKr mHKr HKr HOw cHKw_0 zHKw_0 cHKw_1 zHKw_1 cHKw_2 zHKw_2 cHKw_3 zHKw_3 cHKw_4 zHKw_4 cHKw_5 zHKw_5 lHKw mHKw HKw cHKg_0 zHKg_0 cHKg_1 zHKg_1 cHKg_2 zHKg_2 cHKg_3 zHKg_3 cHKg_4 zHKg_4 cHKg_5 zHKg_5 lHKg mHKg HKg Mg HOh cHKh_0 zHKh_0 cHKh_1 zHKh_1 cHKh_2 zHKh_2 cHKh_3 zHKh_3 cHKh_4 zHKh_4 cHKh_5 zHKh_5 lHKh mHKh HKh hp197
    have HB := qHB
    clear qHB
    have HKa := qHKa
    clear qHKa
    have cHKa_0 := HKa.out.cell (i := 0) rfl
    have zHKa_0 := HKa.out.frozen 0
    have cHKa_1 := HKa.out.cell (i := 1) rfl
    have zHKa_1 := HKa.out.frozen 1
    have cHKa_2 := HKa.out.cell (i := 2) rfl
    have zHKa_2 := HKa.out.frozen 2
    have cHKa_3 := HKa.out.cell (i := 3) rfl
    have zHKa_3 := HKa.out.frozen 3
    have cHKa_4 := HKa.out.cell (i := 4) rfl
    have zHKa_4 := HKa.out.frozen 4
    have cHKa_5 := HKa.out.cell (i := 5) rfl
    have zHKa_5 := HKa.out.frozen 5
    have lHKa := HKa.out.lt
    have mHKa := Nat.le_of_lt lHKa
    have HKr := qHKr
    clear qHKr
    have cHKr_0 := HKr.out.cell (i := 0) rfl
    have zHKr_0 := HKr.out.frozen 0
    have cHKr_1 := HKr.out.cell (i := 1) rfl
    have zHKr_1 := HKr.out.frozen 1
    have cHKr_2 := HKr.out.cell (i := 2) rfl
    have zHKr_2 := HKr.out.frozen 2
    have cHKr_3 := HKr.out.cell (i := 3) rfl
    have zHKr_3 := HKr.out.frozen 3
    have cHKr_4 := HKr.out.cell (i := 4) rfl
    have zHKr_4 := HKr.out.frozen 4
    have lHKr := HKr.out.lt
    have mHKr := Nat.le_of_lt lHKr
    have HOw := qHOw
    clear qHOw
    have HKw := qHKw
    clear qHKw
    have cHKw_0 := HKw.out.cell (i := 0) rfl
    have zHKw_0 := HKw.out.frozen 0
    have cHKw_1 := HKw.out.cell (i := 1) rfl
    have zHKw_1 := HKw.out.frozen 1
    have cHKw_2 := HKw.out.cell (i := 2) rfl
    have zHKw_2 := HKw.out.frozen 2
    have cHKw_3 := HKw.out.cell (i := 3) rfl
    have zHKw_3 := HKw.out.frozen 3
    have cHKw_4 := HKw.out.cell (i := 4) rfl
    have zHKw_4 := HKw.out.frozen 4
    have cHKw_5 := HKw.out.cell (i := 5) rfl
    have zHKw_5 := HKw.out.frozen 5
    have lHKw := HKw.out.lt
    have mHKw := Nat.le_of_lt lHKw
    have HKg := qHKg
    clear qHKg
    have cHKg_0 := HKg.out.cell (i := 0) rfl
    have zHKg_0 := HKg.out.frozen 0
    have cHKg_1 := HKg.out.cell (i := 1) rfl
    have zHKg_1 := HKg.out.frozen 1
    have cHKg_2 := HKg.out.cell (i := 2) rfl
    have zHKg_2 := HKg.out.frozen 2
    have cHKg_3 := HKg.out.cell (i := 3) rfl
    have zHKg_3 := HKg.out.frozen 3
    have cHKg_4 := HKg.out.cell (i := 4) rfl
    have zHKg_4 := HKg.out.frozen 4
    have cHKg_5 := HKg.out.cell (i := 5) rfl
    have zHKg_5 := HKg.out.frozen 5
    have lHKg := HKg.out.lt
    have mHKg := Nat.le_of_lt lHKg
    have Mg := qMg
    clear qMg
    have HOh := qHOh
    clear qHOh
    have HKh := qHKh
    clear qHKh
    have cHKh_0 := HKh.out.cell (i := 0) rfl
    have zHKh_0 := HKh.out.frozen 0
    have cHKh_1 := HKh.out.cell (i := 1) rfl
    have zHKh_1 := HKh.out.frozen 1
    have cHKh_2 := HKh.out.cell (i := 2) rfl
    have zHKh_2 := HKh.out.frozen 2
    have cHKh_3 := HKh.out.cell (i := 3) rfl
    have zHKh_3 := HKh.out.frozen 3
    have cHKh_4 := HKh.out.cell (i := 4) rfl
    have zHKh_4 := HKh.out.frozen 4
    have cHKh_5 := HKh.out.cell (i := 5) rfl
    have zHKh_5 := HKh.out.frozen 5
    have lHKh := HKh.out.lt
    have mHKh := Nat.le_of_lt lHKh
    have hsW197 : w.heap.size ≤ W197.heap.size := HB.out.size
    go_wp2_with fail
    go_ret
    exact Gives.mk (by first | rfl | simp) HB.out
  · go_enter Try.func6, Try.ntmps6
    go_wp2_with (first | (go_at_call 15; (first | (refine (c_szLink_ok _ _ _ _ _ _ _ _ _ _ (by omega) (by omega)).mono ?_) | (refine (c_szLink_big _ _ _ _ _ _ _ _ _ _ (by omega) (by omega) (by omega) (by omega)).mono ?_)); rintro _ _ ⟨rfl, p, rfl⟩) | ((with_reducible refine wp_region_later (by kernel_rfl) (by kernel_rfl) ?_); (repeat (first | go_big_quiet_skip | quiet_step ((first | (go_at_call 15; first | exact calls_later (c_szLink_ok _ _ _ _ _ _ _ _ _ _ (by omega) (by omega)) | exact calls_later2 (c_szLink_ok _ _ _ _ _ _ _ _ _ _ (by omega) (by omega)) | exact calls_later (c_szLink_big _ _ _ _ _ _ _ _ _ _ (by omega) (by omega) (by omega) (by omega)) | exact calls_later2 (c_szLink_big _ _ _ _ _ _ _ _ _ _ (by omega) (by omega) (by omega) (by omega))))))); refine wpQuiet_nil ?_; rintro _ ⟨p, rfl⟩))
    all_goals
      go_ret
      exact Gives.mk (by first | rfl | simp) (by (repeat (first | with_reducible exact Below.refl _ _ | with_reducible assumption | with_reducible refine Below.drew ?_ | with_reducible refine below_drewN ?_ _ | with_reducible exact HQ.out | with_reducible exact HBW.out | with_reducible refine below_ext ?_ _ _ | with_reducible refine below_then_later ?_ (by first | with_reducible exact Nat.le_refl _ | with_reducible exact HBW.out.size | with_reducible exact HQ.out.size | omega | (simp; done) | (simp; omega) | (simp [later_size]; done) | (simp [later_size]; omega)) _ | with_reducible refine Below.setCell ?_ (by first | with_reducible exact Nat.le_refl _ | with_reducible exact HBW.out.size | with_reducible exact HQ.out.size | omega | (simp; done) | (simp; omega) | (simp [later_size]; done) | (simp [later_size]; omega)) _ | with_reducible refine Below.alloc ?_ (by first | with_reducible exact Nat.le_refl _ | with_reducible exact HBW.out.size | with_reducible exact HQ.out.size | omega | (simp; done) | (simp; omega) | (simp [later_size]; done) | (simp [later_size]; omega)) _)))


set_option maxRecDepth 100000 in
theorem liftedFnExactSendOn (os : Os) (started : os.Started) (H : Type) (enc : TypeId × Value → H) :
    ReturnsInHanded {} Try.checked os 6 .any (Rows.fnExactSendOnSpec.pre6 enc Try.prog Try.f6 Rows.fnExactSendOnRow.domain false) (Rows.fnExactSendOnSpec.post enc Try.prog Try.f6 false true false false) := by
  refine returnsInHanded_of_change (C := Try.checked) own started (by kernel_rfl) Try.func6
    (ChangeSpec.witness6 (enc := enc) (C := Try.checked) false ⟨#[], #[.agg #[.int .i64 0, .slice Option.none 0 0, .int .i64 0, .int .i64 0, .int .i64 0, .int .i64 0], .agg #[.int .i64 0, .int .i64 0, .int .i64 0, .int .i64 0, .int .i64 0]], []⟩ 8 (by as_aux_lemma => kernel_rfl) (by as_aux_lemma => kernel_rfl) (by as_aux_lemma => kernel_rfl) (by as_aux_lemma => kernel_rfl)) ?_
  intro W base args ds gs before hval0 hW0 _ _
  have hval : ∀ (j : Nat) t v, Try.f6.params[j]? = some t → args[j]? = some v → Value.okWide Try.prog W .any base t v := hval0
  have hW : DataW.Whole enc Try.prog Try.f6.params.toList Rows.fnExactSendOnSpec.vars false W args.toList ds gs before := hW0
  obtain ⟨p, q, hA0, hV, hpq, hfz, hnd⟩ := id hW
  have hA : DataW.TrodAll enc Try.prog W 0 (fun _ => true) true Try.f6.params.toList args.toList ds p := hA0
  rw [Try.params6] at hA hval
  obtain ⟨v0, vs0, d0, ds0, p0, q0, hargs, rfl, rfl, h0, r0⟩ := trodAll_cons hA
  obtain ⟨v1, vs1, d1, ds1, p1, q1, rfl, rfl, rfl, h1, r1⟩ := trodAll_cons r0
  obtain ⟨rfl, rfl, rfl⟩ := trodAll_nil r1
  obtain rfl : args = #[v0, v1] := by cases args; simp_all
  obtain ⟨rfl, rfl⟩ := trodVars_none hV
  obtain ⟨cap0, A0, n0, ca0, x0, cr0, bk0, st0, gt0, rfl, hn0, hc0, hm0, hr0, hw0, wcap0, wcr0, wbk0, wst0, wgt0⟩ := open_link Try.underlying31 Try.underlying3 ⟨rfl, rfl, rfl, rfl, rfl, rfl⟩ ⟨rfl, rfl, rfl, rfl, rfl, rfl⟩ ⟨by kernel_rfl, by kernel_rfl, by kernel_rfl⟩ (fun hf => trod_recs Try.underlying22 Try.underlying45 Try.underlying43 Try.underlying3 ⟨rfl, rfl, rfl, rfl, rfl, rfl⟩ ⟨rfl, rfl, rfl, rfl, rfl, rfl⟩ ⟨by kernel_rfl, by kernel_rfl, by kernel_rfl⟩ hf) (hval 0 31 v0 rfl rfl) h0
  obtain ⟨a1, b1, c1, k1, e1, rfl, wa1, wb1, wc1, wd1, we1⟩ := open_rec Try.underlying45 Try.underlying43 Try.underlying3 ⟨rfl, rfl, rfl, rfl, rfl, rfl⟩ ⟨rfl, rfl, rfl, rfl, rfl, rfl⟩ ⟨by kernel_rfl, by kernel_rfl, by kernel_rfl⟩ (hval 1 45 v1 rfl rfl) h1
  refine (w_SendOn cap0 cr0 bk0 st0 gt0 A0 n0 ca0 x0 hn0 (by unfold maxLen at hm0; omega) a1 b1 c1 k1 e1 wcr0 wbk0 wst0 wgt0 W hr0).mono fun e W' hg => ?_
  obtain ⟨he, hb⟩ := hg.below
  exact ⟨_, he, law_post laidOut rfl (by kernel_rfl) Try.underlying4 (by kernel_rfl) hW rfl hb⟩

set_option maxHeartbeats 3200000 in
theorem closedFnExactSendOn : joinedFacts Try.checked.prog 6 Try.f6 Rows.fnExactSendOnSpec Rows.fnExactSendOnRow = true := by
  unfold joinedFacts
  repeat' (with_reducible refine and_mk ?_ ?_)
  all_goals (as_aux_lemma => kernel_rfl)
theorem namedFnExactSendOn : Try.checked.prog.funcNamed Rows.fnExactSendOnRow.func = some 6 := by as_aux_lemma => kernel_rfl
theorem instFnExactSendOn : Try.f6.isInstance Try.checked.prog Rows.fnExactSendOnRow.origin Rows.fnExactSendOnRow.targs := of_decide_eq_true (by as_aux_lemma => kernel_rfl)
theorem wrapFnExactSendOn : Try.f6.isWrapper Try.checked.prog Rows.fnExactSendOnRow.wrapper Rows.fnExactSendOnRow.mainSum := by unfold Func.isWrapper; first | (rw [if_pos (by decide +kernel)]; kernel_rfl) | (rw [if_neg (by decide +kernel)]; exact ⟨rfl, rfl⟩)
theorem holdsFnExactSendOn : Rows.FnExactSendOnSaid :=
  OpenClaim.holds_of_wide 6 Try.f6 rfl rfl rfl rfl rfl rfl rfl ⟨rfl, rfl, rfl, rfl, rfl⟩ rfl rfl rfl rfl rfl namedFnExactSendOn Try.func6 closedFnExactSendOn instFnExactSendOn wrapFnExactSendOn
    (fun os started H enc _ => liftedFnExactSendOn os started H enc)
end Go.Proofs.Ytljdinbpmakliaa
