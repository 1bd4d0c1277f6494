/-
  What the reference draws: records and lists of records. Conditions: the bytes' number is at most 2^32.
-/
import Derived.Test.YtcmhmdccfihhiaaDrawL
namespace Go.Proofs.Ytcmhmdccfihhiaa
open Go.RowKit
set_option linter.unusedVariables false
set_option maxRecDepth 20000
/-- a record -/
def recV (v : Value) : Prop := ∃ a b c k e : Int, v = .agg #[.int .i64 a, .int .i64 b, .int .i64 c, .int .i64 k, .int .i64 e] ∧ I64 a ∧ I64 b ∧ I64 c ∧ I64 k ∧ I64 e
set_option maxHeartbeats 3200000 in
theorem c_l05Record (g : Nat) (w : World) (hc : Cur g w) : Calls Try.prog 49 #[.pointer (some ⟨g, 0, Option.none⟩)] w (Drawn g recV w) := by
  have HC := Lib.hid hc
  have HG := Lib.hid (grown_refl w (some g))
  have hgw := hc.lt
  clear hc
  go_enter Try.func49, Try.ntmps49
  go_wp2_with fail
  refine (c_below g 5 _ (by (repeat (first | with_reducible exact HC.out | with_reducible refine Cur.alloc ?_ _ | with_reducible refine Cur.later ?_ _ | with_reducible refine Cur.drew ?_ | with_reducible refine Cur.setOther ?_ (by omega) _ _)); done) (by unfold I64; omega)).mono ?_
  rintro _ W1 ⟨_, rfl, ⟨o, rfl, hx, hx2, hx3⟩, hc2, hg2⟩
  have ho : I64 o := i64_of_below hx hx2 hx3 (by unfold I64; omega)
  clear hx hx2 hx3
  have a1 : w.grownBy W1 (some g) := grownBy_trans (by (repeat (first | with_reducible exact HG.out | with_reducible exact grown_refl _ _ | with_reducible refine grown_alloc ?_ _ | with_reducible refine grown_later ?_ _ | with_reducible refine grown_drew ?_ | with_reducible refine grown_set ?_ (by omega) _ _)); done) hg2
  have a2 : Blk (w.heap.size) [.int .i64 0, .int .i64 0, .int .i64 0, .int .i64 0, .int .i64 0] 33 W1 := Blk.grown (by (repeat (first | with_reducible exact HK.out | (with_reducible refine Blk.new _ _ [.int .i64 0, .int .i64 0, .int .i64 0, .int .i64 0, .int .i64 0] _ ?_; first | with_reducible rfl | (simp; done)) | with_reducible refine Blk.alloc ?_ _ | with_reducible refine Blk.later ?_ _ | with_reducible refine Blk.drew ?_ | with_reducible refine Blk.other ?_ (by simp; omega) _)); done) hg2 (by simp; omega)
  clear HC HG 
  have HC := Lib.hid hc2
  have HG := Lib.hid a1
  have HK := Lib.hid a2
  clear hc2 hg2 a1 a2
  have hsW1 : w.heap.size ≤ W1.heap.size := HG.out.size
  have hgW1 : g < W1.heap.size := HC.out.lt
  have lHK : w.heap.size < W1.heap.size := HK.out.lt
  have cHK_0 := HK.out.cell (i := 0) rfl
  have zHK_0 := HK.out.frozen 0
  have cHK_1 := HK.out.cell (i := 1) rfl
  have zHK_1 := HK.out.frozen 1
  have cHK_2 := HK.out.cell (i := 2) rfl
  have zHK_2 := HK.out.frozen 2
  have cHK_3 := HK.out.cell (i := 3) rfl
  have zHK_3 := HK.out.frozen 3
  have cHK_4 := HK.out.cell (i := 4) rfl
  have zHK_4 := HK.out.frozen 4
  go_wp2_with fail
  refine (c_l02Stamp g _ (by (repeat (first | with_reducible exact HC.out | with_reducible refine Cur.alloc ?_ _ | with_reducible refine Cur.later ?_ _ | with_reducible refine Cur.drew ?_ | with_reducible refine Cur.setOther ?_ (by omega) _ _)); done)).mono ?_
  rintro _ W2 ⟨_, rfl, ⟨a, b, rfl, ha, hb⟩, hc2, hg2⟩
  have a1 : w.grownBy W2 (some g) := grownBy_trans (by (repeat (first | with_reducible exact HG.out | with_reducible exact grown_refl _ _ | with_reducible refine grown_alloc ?_ _ | with_reducible refine grown_later ?_ _ | with_reducible refine grown_drew ?_ | with_reducible refine grown_set ?_ (by omega) _ _)); done) hg2
  have a2 : Blk (w.heap.size) [.int .i64 0, .int .i64 0, .int .i64 0, .int .i64 0, .int .i64 0] 33 W2 := Blk.grown (by (repeat (first | with_reducible exact HK.out | (with_reducible refine Blk.new _ _ [.int .i64 0, .int .i64 0, .int .i64 0, .int .i64 0, .int .i64 0] _ ?_; first | with_reducible rfl | (simp; done)) | with_reducible refine Blk.alloc ?_ _ | with_reducible refine Blk.later ?_ _ | with_reducible refine Blk.drew ?_ | with_reducible refine Blk.other ?_ (by simp; omega) _)); done) hg2 (by simp; omega)
  clear lHK cHK_0 zHK_0 cHK_1 zHK_1 cHK_2 zHK_2 cHK_3 zHK_3 cHK_4 zHK_4
  clear HC HG HK
  have HC := Lib.hid hc2
  have HG := Lib.hid a1
  have HK := Lib.hid a2
  clear hc2 hg2 a1 a2
  have hsW2 : w.heap.size ≤ W2.heap.size := HG.out.size
  have hgW2 : g < W2.heap.size := HC.out.lt
  have lHK : w.heap.size < W2.heap.size := HK.out.lt
  have cHK_0 := HK.out.cell (i := 0) rfl
  have zHK_0 := HK.out.frozen 0
  have cHK_1 := HK.out.cell (i := 1) rfl
  have zHK_1 := HK.out.frozen 1
  have cHK_2 := HK.out.cell (i := 2) rfl
  have zHK_2 := HK.out.frozen 2
  have cHK_3 := HK.out.cell (i := 3) rfl
  have zHK_3 := HK.out.frozen 3
  have cHK_4 := HK.out.cell (i := 4) rfl
  have zHK_4 := HK.out.frozen 4
  go_wp2_with fail
  refine (c_below g 12 _ (by (repeat (first | with_reducible exact HC.out | with_reducible refine Cur.alloc ?_ _ | with_reducible refine Cur.later ?_ _ | with_reducible refine Cur.drew ?_ | with_reducible refine Cur.setOther ?_ (by omega) _ _)); done) (by unfold I64; omega)).mono ?_
  rintro _ W3 ⟨_, rfl, ⟨k, rfl, hx, hx2, hx3⟩, hc2, hg2⟩
  have hk : I64 k := i64_of_below hx hx2 hx3 (by unfold I64; omega)
  clear hx hx2 hx3
  have a1 : w.grownBy W3 (some g) := grownBy_trans (by (repeat (first | with_reducible exact HG.out | with_reducible exact grown_refl _ _ | with_reducible refine grown_alloc ?_ _ | with_reducible refine grown_later ?_ _ | with_reducible refine grown_drew ?_ | with_reducible refine grown_set ?_ (by omega) _ _)); done) hg2
  have a2 : Blk (w.heap.size) [.int .i64 0, .int .i64 0, .int .i64 0, .int .i64 0, .int .i64 0] 33 W3 := Blk.grown (by (repeat (first | with_reducible exact HK.out | (with_reducible refine Blk.new _ _ [.int .i64 0, .int .i64 0, .int .i64 0, .int .i64 0, .int .i64 0] _ ?_; first | with_reducible rfl | (simp; done)) | with_reducible refine Blk.alloc ?_ _ | with_reducible refine Blk.later ?_ _ | with_reducible refine Blk.drew ?_ | with_reducible refine Blk.other ?_ (by simp; omega) _)); done) hg2 (by simp; omega)
  clear lHK cHK_0 zHK_0 cHK_1 zHK_1 cHK_2 zHK_2 cHK_3 zHK_3 cHK_4 zHK_4
  clear HC HG HK
  have HC := Lib.hid hc2
  have HG := Lib.hid a1
  have HK := Lib.hid a2
  clear hc2 hg2 a1 a2
  have hsW3 : w.heap.size ≤ W3.heap.size := HG.out.size
  have hgW3 : g < W3.heap.size := HC.out.lt
  have lHK : w.heap.size < W3.heap.size := HK.out.lt
  have cHK_0 := HK.out.cell (i := 0) rfl
  have zHK_0 := HK.out.frozen 0
  have cHK_1 := HK.out.cell (i := 1) rfl
  have zHK_1 := HK.out.frozen 1
  have cHK_2 := HK.out.cell (i := 2) rfl
  have zHK_2 := HK.out.frozen 2
  have cHK_3 := HK.out.cell (i := 3) rfl
  have zHK_3 := HK.out.frozen 3
  have cHK_4 := HK.out.cell (i := 4) rfl
  have zHK_4 := HK.out.frozen 4
  go_wp2_with fail
  refine (c_below g 40 _ (by (repeat (first | with_reducible exact HC.out | with_reducible refine Cur.alloc ?_ _ | with_reducible refine Cur.later ?_ _ | with_reducible refine Cur.drew ?_ | with_reducible refine Cur.setOther ?_ (by omega) _ _)); done) (by unfold I64; omega)).mono ?_
  rintro _ W4 ⟨_, rfl, ⟨e, rfl, hx, hx2, hx3⟩, hc2, hg2⟩
  have he : I64 e := i64_of_below hx hx2 hx3 (by unfold I64; omega)
  clear hx hx2 hx3
  have a1 : w.grownBy W4 (some g) := grownBy_trans (by (repeat (first | with_reducible exact HG.out | with_reducible exact grown_refl _ _ | with_reducible refine grown_alloc ?_ _ | with_reducible refine grown_later ?_ _ | with_reducible refine grown_drew ?_ | with_reducible refine grown_set ?_ (by omega) _ _)); done) hg2
  have a2 : Blk (w.heap.size) [.int .i64 0, .int .i64 0, .int .i64 0, .int .i64 0, .int .i64 0] 33 W4 := Blk.grown (by (repeat (first | with_reducible exact HK.out | (with_reducible refine Blk.new _ _ [.int .i64 0, .int .i64 0, .int .i64 0, .int .i64 0, .int .i64 0] _ ?_; first | with_reducible rfl | (simp; done)) | with_reducible refine Blk.alloc ?_ _ | with_reducible refine Blk.later ?_ _ | with_reducible refine Blk.drew ?_ | with_reducible refine Blk.other ?_ (by simp; omega) _)); done) hg2 (by simp; omega)
  clear lHK cHK_0 zHK_0 cHK_1 zHK_1 cHK_2 zHK_2 cHK_3 zHK_3 cHK_4 zHK_4
  clear HC HG HK
  have HC := Lib.hid hc2
  have HG := Lib.hid a1
  have HK := Lib.hid a2
  clear hc2 hg2 a1 a2
  have hsW4 : w.heap.size ≤ W4.heap.size := HG.out.size
  have hgW4 : g < W4.heap.size := HC.out.lt
  have lHK : w.heap.size < W4.heap.size := HK.out.lt
  have cHK_0 := HK.out.cell (i := 0) rfl
  have zHK_0 := HK.out.frozen 0
  have cHK_1 := HK.out.cell (i := 1) rfl
  have zHK_1 := HK.out.frozen 1
  have cHK_2 := HK.out.cell (i := 2) rfl
  have zHK_2 := HK.out.frozen 2
  have cHK_3 := HK.out.cell (i := 3) rfl
  have zHK_3 := HK.out.frozen 3
  have cHK_4 := HK.out.cell (i := 4) rfl
  have zHK_4 := HK.out.frozen 4
  go_wp2_with fail
  (try simp only [Exit.inBlock, Exit.then])
  refine bodyPost_ret (v := .agg #[.int .i64 o, .int .i64 a, .int .i64 b, .int .i64 k, .int .i64 e]) (by first | (simp [results, Try.results49, go_sem, cHK_0, cHK_1, cHK_2, cHK_3, cHK_4]; done) | (simp [results, Try.results49, go_sem, *]; done)) rfl ?_
  exact ⟨_, rfl, ⟨o, a, b, k, e, rfl, ho, ha, hb, hk, he⟩, (by (repeat (first | with_reducible exact HC.out | with_reducible refine Cur.alloc ?_ _ | with_reducible refine Cur.later ?_ _ | with_reducible refine Cur.drew ?_ | with_reducible refine Cur.setOther ?_ (by omega) _ _)); done), (by (repeat (first | with_reducible exact HG.out | with_reducible exact grown_refl _ _ | with_reducible refine grown_alloc ?_ _ | with_reducible refine grown_later ?_ _ | with_reducible refine grown_drew ?_ | with_reducible refine grown_set ?_ (by omega) _ _)); done)⟩
set_option maxHeartbeats 6400000 in
theorem c_l05Any (g : Nat) (w : World) (hc : Cur g w) : Calls Try.prog 33 #[.pointer (some ⟨g, 0, Option.none⟩)] w (Drawn g recV w) := by
  have HC := Lib.hid hc
  have HG := Lib.hid (grown_refl w (some g))
  have hgw := hc.lt
  clear hc
  go_enter Try.func33, Try.ntmps33
  go_wp2_with fail
  refine (c_l05Record g _ (by (repeat (first | with_reducible exact HC.out | with_reducible refine Cur.alloc ?_ _ | with_reducible refine Cur.later ?_ _ | with_reducible refine Cur.drew ?_ | with_reducible refine Cur.setOther ?_ (by omega) _ _)); done)).mono ?_
  rintro _ W1 ⟨_, rfl, ⟨o, a, b, k, e, rfl, ho, ha, hb, hk, he⟩, hc2, hg2⟩
  have a1 : w.grownBy W1 (some g) := grownBy_trans (by (repeat (first | with_reducible exact HG.out | with_reducible exact grown_refl _ _ | with_reducible refine grown_alloc ?_ _ | with_reducible refine grown_later ?_ _ | with_reducible refine grown_drew ?_ | with_reducible refine grown_set ?_ (by omega) _ _)); done) hg2
  have a2 : Blk (w.heap.size) [.int .i64 0, .int .i64 0, .int .i64 0, .int .i64 0, .int .i64 0] 33 W1 := Blk.grown (by (repeat (first | with_reducible exact HK.out | (with_reducible refine Blk.new _ _ [.int .i64 0, .int .i64 0, .int .i64 0, .int .i64 0, .int .i64 0] _ ?_; first | with_reducible rfl | (simp; done)) | with_reducible refine Blk.alloc ?_ _ | with_reducible refine Blk.later ?_ _ | with_reducible refine Blk.drew ?_ | with_reducible refine Blk.other ?_ (by simp; omega) _)); done) hg2 (by simp; omega)
  clear HC HG 
  have HC := Lib.hid hc2
  have HG := Lib.hid a1
  have HK := Lib.hid a2
  clear hc2 hg2 a1 a2
  have hsW1 : w.heap.size ≤ W1.heap.size := HG.out.size
  have hgW1 : g < W1.heap.size := HC.out.lt
  have lHK : w.heap.size < W1.heap.size := HK.out.lt
  have cHK_0 := HK.out.cell (i := 0) rfl
  have zHK_0 := HK.out.frozen 0
  have cHK_1 := HK.out.cell (i := 1) rfl
  have zHK_1 := HK.out.frozen 1
  have cHK_2 := HK.out.cell (i := 2) rfl
  have zHK_2 := HK.out.frozen 2
  have cHK_3 := HK.out.cell (i := 3) rfl
  have zHK_3 := HK.out.frozen 3
  have cHK_4 := HK.out.cell (i := 4) rfl
  have zHK_4 := HK.out.frozen 4
  have hne0 : w.heap.size < W1.heap.size := HK.out.lt
  have hne1 : ¬ w.heap.size = W1.heap.size := by omega
  have hne2 : ¬ W1.heap.size = w.heap.size := by omega
  have hg0 : g < W1.heap.size := hgW1
  go_wp2_with fail
  refine (c_below g 12 _ (by (repeat (first | with_reducible exact HC.out | with_reducible refine Cur.alloc ?_ _ | with_reducible refine Cur.later ?_ _ | with_reducible refine Cur.drew ?_ | with_reducible refine Cur.setOther ?_ (by omega) _ _)); done) (by unfold I64; omega)).mono ?_
  rintro _ W2 ⟨_, rfl, ⟨s, rfl, hs, hs2, -⟩, hc2, hg2⟩
  clear hs2
  have a1 : w.grownBy W2 (some g) := grownBy_trans (by (repeat (first | with_reducible exact HG.out | with_reducible exact grown_refl _ _ | with_reducible refine grown_alloc ?_ _ | with_reducible refine grown_later ?_ _ | with_reducible refine grown_drew ?_ | with_reducible refine grown_set ?_ (by omega) _ _)); done) hg2
  have a2 : Blk (w.heap.size) [.int .i64 0, .int .i64 0, .int .i64 0, .int .i64 0, .int .i64 0] 33 W2 := Blk.grown (by (repeat (first | with_reducible exact HK.out | (with_reducible refine Blk.new _ _ [.int .i64 0, .int .i64 0, .int .i64 0, .int .i64 0, .int .i64 0] _ ?_; first | with_reducible rfl | (simp; done)) | with_reducible refine Blk.alloc ?_ _ | with_reducible refine Blk.later ?_ _ | with_reducible refine Blk.drew ?_ | with_reducible refine Blk.other ?_ (by simp; omega) _)); done) hg2 (by simp; omega)
  have a3 : Blk (W1.heap.size) [.int .i64 o, .int .i64 a, .int .i64 b, .int .i64 k, .int .i64 e] 33 W2 := Blk.grown (by (repeat (first | with_reducible exact HR.out | (with_reducible refine Blk.new _ _ [.int .i64 o, .int .i64 a, .int .i64 b, .int .i64 k, .int .i64 e] _ ?_; first | with_reducible rfl | (simp; done)) | with_reducible refine Blk.alloc ?_ _ | with_reducible refine Blk.later ?_ _ | with_reducible refine Blk.drew ?_ | with_reducible refine Blk.other ?_ (by simp; omega) _)); done) hg2 (by simp; omega)
  clear lHK cHK_0 zHK_0 cHK_1 zHK_1 cHK_2 zHK_2 cHK_3 zHK_3 cHK_4 zHK_4
  clear HC HG HK
  have HC := Lib.hid hc2
  have HG := Lib.hid a1
  have HK := Lib.hid a2
  have HR := Lib.hid a3
  clear hc2 hg2 a1 a2 a3
  have hsW2 : w.heap.size ≤ W2.heap.size := HG.out.size
  have hgW2 : g < W2.heap.size := HC.out.lt
  have lHK : w.heap.size < W2.heap.size := HK.out.lt
  have cHK_0 := HK.out.cell (i := 0) rfl
  have zHK_0 := HK.out.frozen 0
  have cHK_1 := HK.out.cell (i := 1) rfl
  have zHK_1 := HK.out.frozen 1
  have cHK_2 := HK.out.cell (i := 2) rfl
  have zHK_2 := HK.out.frozen 2
  have cHK_3 := HK.out.cell (i := 3) rfl
  have zHK_3 := HK.out.frozen 3
  have cHK_4 := HK.out.cell (i := 4) rfl
  have zHK_4 := HK.out.frozen 4
  have lHR : W1.heap.size < W2.heap.size := HR.out.lt
  have cHR_0 := HR.out.cell (i := 0) rfl
  have zHR_0 := HR.out.frozen 0
  have cHR_1 := HR.out.cell (i := 1) rfl
  have zHR_1 := HR.out.frozen 1
  have cHR_2 := HR.out.cell (i := 2) rfl
  have zHR_2 := HR.out.frozen 2
  have cHR_3 := HR.out.cell (i := 3) rfl
  have zHR_3 := HR.out.frozen 3
  have cHR_4 := HR.out.cell (i := 4) rfl
  have zHR_4 := HR.out.frozen 4
  by_cases hi0 : s = 0
  · have hi := hi0
    clear hi0
    subst hi
    go_wp2_with fail
    refine (c_pickInt g _ _ _ [-1, 7, 8] _ (Cur.alloc (by (repeat (first | with_reducible exact HC.out | with_reducible refine Cur.alloc ?_ _ | with_reducible refine Cur.later ?_ _ | with_reducible refine Cur.drew ?_ | with_reducible refine Cur.setOther ?_ (by omega) _ _)); done) _) rfl (by decide) (by decide) (by exact row_new encI 1 lenI _ _ _) (ne_new HC.out.lt)).mono ?_
    rintro _ W3 ⟨_, rfl, ⟨o2, hx, rfl⟩, hc2, hg2⟩
    have ho2 : I64 o2 := (by decide : ∀ x ∈ ([-1, 7, 8] : List Int), -9223372036854775808 ≤ x ∧ x ≤ 9223372036854775807) o2 hx
    clear hx
    have a1 : w.grownBy W3 (some g) := grownBy_trans (by (repeat (first | with_reducible exact HG.out | with_reducible exact grown_refl _ _ | with_reducible refine grown_alloc ?_ _ | with_reducible refine grown_later ?_ _ | with_reducible refine grown_drew ?_ | with_reducible refine grown_set ?_ (by omega) _ _)); done) hg2
    have a2 : Blk (w.heap.size) [.int .i64 0, .int .i64 0, .int .i64 0, .int .i64 0, .int .i64 0] 33 W3 := Blk.grown (by (repeat (first | with_reducible exact HK.out | (with_reducible refine Blk.new _ _ [.int .i64 0, .int .i64 0, .int .i64 0, .int .i64 0, .int .i64 0] _ ?_; first | with_reducible rfl | (simp; done)) | with_reducible refine Blk.alloc ?_ _ | with_reducible refine Blk.later ?_ _ | with_reducible refine Blk.drew ?_ | with_reducible refine Blk.other ?_ (by simp; omega) _)); done) hg2 (by simp; omega)
    have a3 : Blk (W1.heap.size) [.int .i64 o, .int .i64 a, .int .i64 b, .int .i64 k, .int .i64 e] 33 W3 := Blk.grown (by (repeat (first | with_reducible exact HR.out | (with_reducible refine Blk.new _ _ [.int .i64 o, .int .i64 a, .int .i64 b, .int .i64 k, .int .i64 e] _ ?_; first | with_reducible rfl | (simp; done)) | with_reducible refine Blk.alloc ?_ _ | with_reducible refine Blk.later ?_ _ | with_reducible refine Blk.drew ?_ | with_reducible refine Blk.other ?_ (by simp; omega) _)); done) hg2 (by simp; omega)
    clear lHK cHK_0 zHK_0 cHK_1 zHK_1 cHK_2 zHK_2 cHK_3 zHK_3 cHK_4 zHK_4 lHR cHR_0 zHR_0 cHR_1 zHR_1 cHR_2 zHR_2 cHR_3 zHR_3 cHR_4 zHR_4
    clear HC HG HK HR
    have HC := Lib.hid hc2
    have HG := Lib.hid a1
    have HK := Lib.hid a2
    have HR := Lib.hid a3
    clear hc2 hg2 a1 a2 a3
    have hsW3 : w.heap.size ≤ W3.heap.size := HG.out.size
    have hgW3 : g < W3.heap.size := HC.out.lt
    have lHK : w.heap.size < W3.heap.size := HK.out.lt
    have cHK_0 := HK.out.cell (i := 0) rfl
    have zHK_0 := HK.out.frozen 0
    have cHK_1 := HK.out.cell (i := 1) rfl
    have zHK_1 := HK.out.frozen 1
    have cHK_2 := HK.out.cell (i := 2) rfl
    have zHK_2 := HK.out.frozen 2
    have cHK_3 := HK.out.cell (i := 3) rfl
    have zHK_3 := HK.out.frozen 3
    have cHK_4 := HK.out.cell (i := 4) rfl
    have zHK_4 := HK.out.frozen 4
    have lHR : W1.heap.size < W3.heap.size := HR.out.lt
    have cHR_0 := HR.out.cell (i := 0) rfl
    have zHR_0 := HR.out.frozen 0
    have cHR_1 := HR.out.cell (i := 1) rfl
    have zHR_1 := HR.out.frozen 1
    have cHR_2 := HR.out.cell (i := 2) rfl
    have zHR_2 := HR.out.frozen 2
    have cHR_3 := HR.out.cell (i := 3) rfl
    have zHR_3 := HR.out.frozen 3
    have cHR_4 := HR.out.cell (i := 4) rfl
    have zHR_4 := HR.out.frozen 4
    go_wp2_with fail
    (try simp only [Exit.inBlock, Exit.then])
    refine bodyPost_ret (v := .agg #[.int .i64 o2, .int .i64 a, .int .i64 b, .int .i64 k, .int .i64 e]) (by first | (simp [results, Try.results33, go_sem, cHK_0, cHK_1, cHK_2, cHK_3, cHK_4]; done) | (simp [results, Try.results33, go_sem, *]; done)) rfl ?_
    exact ⟨_, rfl, ⟨o2, a, b, k, e, rfl, ho2, ha, hb, hk, he⟩, (by (repeat (first | with_reducible exact HC.out | with_reducible refine Cur.alloc ?_ _ | with_reducible refine Cur.later ?_ _ | with_reducible refine Cur.drew ?_ | with_reducible refine Cur.setOther ?_ (by omega) _ _)); done), (by (repeat (first | with_reducible exact HG.out | with_reducible exact grown_refl _ _ | with_reducible refine grown_alloc ?_ _ | with_reducible refine grown_later ?_ _ | with_reducible refine grown_drew ?_ | with_reducible refine grown_set ?_ (by omega) _ _)); done)⟩
  · by_cases hi1 : s = 1
    · have hi := hi1
      clear hi0 hi1
      subst hi
      go_wp2_with fail
      refine (c_l02Any g _ (by (repeat (first | with_reducible exact HC.out | with_reducible refine Cur.alloc ?_ _ | with_reducible refine Cur.later ?_ _ | with_reducible refine Cur.drew ?_ | with_reducible refine Cur.setOther ?_ (by omega) _ _)); done)).mono ?_
      rintro _ W3 ⟨_, rfl, ⟨a2, b2, rfl, ha2, hb2⟩, hc2, hg2⟩
      have a1 : w.grownBy W3 (some g) := grownBy_trans (by (repeat (first | with_reducible exact HG.out | with_reducible exact grown_refl _ _ | with_reducible refine grown_alloc ?_ _ | with_reducible refine grown_later ?_ _ | with_reducible refine grown_drew ?_ | with_reducible refine grown_set ?_ (by omega) _ _)); done) hg2
      have a2 : Blk (w.heap.size) [.int .i64 0, .int .i64 0, .int .i64 0, .int .i64 0, .int .i64 0] 33 W3 := Blk.grown (by (repeat (first | with_reducible exact HK.out | (with_reducible refine Blk.new _ _ [.int .i64 0, .int .i64 0, .int .i64 0, .int .i64 0, .int .i64 0] _ ?_; first | with_reducible rfl | (simp; done)) | with_reducible refine Blk.alloc ?_ _ | with_reducible refine Blk.later ?_ _ | with_reducible refine Blk.drew ?_ | with_reducible refine Blk.other ?_ (by simp; omega) _)); done) hg2 (by simp; omega)
      have a3 : Blk (W1.heap.size) [.int .i64 o, .int .i64 a, .int .i64 b, .int .i64 k, .int .i64 e] 33 W3 := Blk.grown (by (repeat (first | with_reducible exact HR.out | (with_reducible refine Blk.new _ _ [.int .i64 o, .int .i64 a, .int .i64 b, .int .i64 k, .int .i64 e] _ ?_; first | with_reducible rfl | (simp; done)) | with_reducible refine Blk.alloc ?_ _ | with_reducible refine Blk.later ?_ _ | with_reducible refine Blk.drew ?_ | with_reducible refine Blk.other ?_ (by simp; omega) _)); done) hg2 (by simp; omega)
      clear lHK cHK_0 zHK_0 cHK_1 zHK_1 cHK_2 zHK_2 cHK_3 zHK_3 cHK_4 zHK_4 lHR cHR_0 zHR_0 cHR_1 zHR_1 cHR_2 zHR_2 cHR_3 zHR_3 cHR_4 zHR_4
      clear HC HG HK HR
      have HC := Lib.hid hc2
      have HG := Lib.hid a1
      have HK := Lib.hid a2
      have HR := Lib.hid a3
      clear hc2 hg2 a1 a2 a3
      have hsW3 : w.heap.size ≤ W3.heap.size := HG.out.size
      have hgW3 : g < W3.heap.size := HC.out.lt
      have lHK : w.heap.size < W3.heap.size := HK.out.lt
      have cHK_0 := HK.out.cell (i := 0) rfl
      have zHK_0 := HK.out.frozen 0
      have cHK_1 := HK.out.cell (i := 1) rfl
      have zHK_1 := HK.out.frozen 1
      have cHK_2 := HK.out.cell (i := 2) rfl
      have zHK_2 := HK.out.frozen 2
      have cHK_3 := HK.out.cell (i := 3) rfl
      have zHK_3 := HK.out.frozen 3
      have cHK_4 := HK.out.cell (i := 4) rfl
      have zHK_4 := HK.out.frozen 4
      have lHR : W1.heap.size < W3.heap.size := HR.out.lt
      have cHR_0 := HR.out.cell (i := 0) rfl
      have zHR_0 := HR.out.frozen 0
      have cHR_1 := HR.out.cell (i := 1) rfl
      have zHR_1 := HR.out.frozen 1
      have cHR_2 := HR.out.cell (i := 2) rfl
      have zHR_2 := HR.out.frozen 2
      have cHR_3 := HR.out.cell (i := 3) rfl
      have zHR_3 := HR.out.frozen 3
      have cHR_4 := HR.out.cell (i := 4) rfl
      have zHR_4 := HR.out.frozen 4
      go_wp2_with fail
      (try simp only [Exit.inBlock, Exit.then])
      refine bodyPost_ret (v := .agg #[.int .i64 o, .int .i64 a2, .int .i64 b2, .int .i64 k, .int .i64 e]) (by first | (simp [results, Try.results33, go_sem, cHK_0, cHK_1, cHK_2, cHK_3, cHK_4]; done) | (simp [results, Try.results33, go_sem, *]; done)) rfl ?_
      exact ⟨_, rfl, ⟨o, a2, b2, k, e, rfl, ho, ha2, hb2, hk, he⟩, (by (repeat (first | with_reducible exact HC.out | with_reducible refine Cur.alloc ?_ _ | with_reducible refine Cur.later ?_ _ | with_reducible refine Cur.drew ?_ | with_reducible refine Cur.setOther ?_ (by omega) _ _)); done), (by (repeat (first | with_reducible exact HG.out | with_reducible exact grown_refl _ _ | with_reducible refine grown_alloc ?_ _ | with_reducible refine grown_later ?_ _ | with_reducible refine grown_drew ?_ | with_reducible refine grown_set ?_ (by omega) _ _)); done)⟩
    · by_cases hi2 : s = 2
      · have hi := hi2
        clear hi0 hi1 hi2
        subst hi
        go_wp2_with fail
        refine (c_pickInt g _ _ _ [-1, 99, 100, -9223372036854775808] _ (Cur.alloc (by (repeat (first | with_reducible exact HC.out | with_reducible refine Cur.alloc ?_ _ | with_reducible refine Cur.later ?_ _ | with_reducible refine Cur.drew ?_ | with_reducible refine Cur.setOther ?_ (by omega) _ _)); done) _) rfl (by decide) (by decide) (by exact row_new encI 1 lenI _ _ _) (ne_new HC.out.lt)).mono ?_
        rintro _ W3 ⟨_, rfl, ⟨k2, hx, rfl⟩, hc2, hg2⟩
        have hk2 : I64 k2 := (by decide : ∀ x ∈ ([-1, 99, 100, -9223372036854775808] : List Int), -9223372036854775808 ≤ x ∧ x ≤ 9223372036854775807) k2 hx
        clear hx
        have a1 : w.grownBy W3 (some g) := grownBy_trans (by (repeat (first | with_reducible exact HG.out | with_reducible exact grown_refl _ _ | with_reducible refine grown_alloc ?_ _ | with_reducible refine grown_later ?_ _ | with_reducible refine grown_drew ?_ | with_reducible refine grown_set ?_ (by omega) _ _)); done) hg2
        have a2 : Blk (w.heap.size) [.int .i64 0, .int .i64 0, .int .i64 0, .int .i64 0, .int .i64 0] 33 W3 := Blk.grown (by (repeat (first | with_reducible exact HK.out | (with_reducible refine Blk.new _ _ [.int .i64 0, .int .i64 0, .int .i64 0, .int .i64 0, .int .i64 0] _ ?_; first | with_reducible rfl | (simp; done)) | with_reducible refine Blk.alloc ?_ _ | with_reducible refine Blk.later ?_ _ | with_reducible refine Blk.drew ?_ | with_reducible refine Blk.other ?_ (by simp; omega) _)); done) hg2 (by simp; omega)
        have a3 : Blk (W1.heap.size) [.int .i64 o, .int .i64 a, .int .i64 b, .int .i64 k, .int .i64 e] 33 W3 := Blk.grown (by (repeat (first | with_reducible exact HR.out | (with_reducible refine Blk.new _ _ [.int .i64 o, .int .i64 a, .int .i64 b, .int .i64 k, .int .i64 e] _ ?_; first | with_reducible rfl | (simp; done)) | with_reducible refine Blk.alloc ?_ _ | with_reducible refine Blk.later ?_ _ | with_reducible refine Blk.drew ?_ | with_reducible refine Blk.other ?_ (by simp; omega) _)); done) hg2 (by simp; omega)
        clear lHK cHK_0 zHK_0 cHK_1 zHK_1 cHK_2 zHK_2 cHK_3 zHK_3 cHK_4 zHK_4 lHR cHR_0 zHR_0 cHR_1 zHR_1 cHR_2 zHR_2 cHR_3 zHR_3 cHR_4 zHR_4
        clear HC HG HK HR
        have HC := Lib.hid hc2
        have HG := Lib.hid a1
        have HK := Lib.hid a2
        have HR := Lib.hid a3
        clear hc2 hg2 a1 a2 a3
        have hsW3 : w.heap.size ≤ W3.heap.size := HG.out.size
        have hgW3 : g < W3.heap.size := HC.out.lt
        have lHK : w.heap.size < W3.heap.size := HK.out.lt
        have cHK_0 := HK.out.cell (i := 0) rfl
        have zHK_0 := HK.out.frozen 0
        have cHK_1 := HK.out.cell (i := 1) rfl
        have zHK_1 := HK.out.frozen 1
        have cHK_2 := HK.out.cell (i := 2) rfl
        have zHK_2 := HK.out.frozen 2
        have cHK_3 := HK.out.cell (i := 3) rfl
        have zHK_3 := HK.out.frozen 3
        have cHK_4 := HK.out.cell (i := 4) rfl
        have zHK_4 := HK.out.frozen 4
        have lHR : W1.heap.size < W3.heap.size := HR.out.lt
        have cHR_0 := HR.out.cell (i := 0) rfl
        have zHR_0 := HR.out.frozen 0
        have cHR_1 := HR.out.cell (i := 1) rfl
        have zHR_1 := HR.out.frozen 1
        have cHR_2 := HR.out.cell (i := 2) rfl
        have zHR_2 := HR.out.frozen 2
        have cHR_3 := HR.out.cell (i := 3) rfl
        have zHR_3 := HR.out.frozen 3
        have cHR_4 := HR.out.cell (i := 4) rfl
        have zHR_4 := HR.out.frozen 4
        go_wp2_with fail
        (try simp only [Exit.inBlock, Exit.then])
        refine bodyPost_ret (v := .agg #[.int .i64 o, .int .i64 a, .int .i64 b, .int .i64 k2, .int .i64 e]) (by first | (simp [results, Try.results33, go_sem, cHK_0, cHK_1, cHK_2, cHK_3, cHK_4]; done) | (simp [results, Try.results33, go_sem, *]; done)) rfl ?_
        exact ⟨_, rfl, ⟨o, a, b, k2, e, rfl, ho, ha, hb, hk2, he⟩, (by (repeat (first | with_reducible exact HC.out | with_reducible refine Cur.alloc ?_ _ | with_reducible refine Cur.later ?_ _ | with_reducible refine Cur.drew ?_ | with_reducible refine Cur.setOther ?_ (by omega) _ _)); done), (by (repeat (first | with_reducible exact HG.out | with_reducible exact grown_refl _ _ | with_reducible refine grown_alloc ?_ _ | with_reducible refine grown_later ?_ _ | with_reducible refine grown_drew ?_ | with_reducible refine grown_set ?_ (by omega) _ _)); done)⟩
      · by_cases hi3 : s = 3
        · have hi := hi3
          clear hi0 hi1 hi2 hi3
          subst hi
          go_wp2_with fail
          refine (c_pickInt g _ _ _ [-1, 999, 1000, 9223372036854775807] _ (Cur.alloc (by (repeat (first | with_reducible exact HC.out | with_reducible refine Cur.alloc ?_ _ | with_reducible refine Cur.later ?_ _ | with_reducible refine Cur.drew ?_ | with_reducible refine Cur.setOther ?_ (by omega) _ _)); done) _) rfl (by decide) (by decide) (by exact row_new encI 1 lenI _ _ _) (ne_new HC.out.lt)).mono ?_
          rintro _ W3 ⟨_, rfl, ⟨e2, hx, rfl⟩, hc2, hg2⟩
          have he2 : I64 e2 := (by decide : ∀ x ∈ ([-1, 999, 1000, 9223372036854775807] : List Int), -9223372036854775808 ≤ x ∧ x ≤ 9223372036854775807) e2 hx
          clear hx
          have a1 : w.grownBy W3 (some g) := grownBy_trans (by (repeat (first | with_reducible exact HG.out | with_reducible exact grown_refl _ _ | with_reducible refine grown_alloc ?_ _ | with_reducible refine grown_later ?_ _ | with_reducible refine grown_drew ?_ | with_reducible refine grown_set ?_ (by omega) _ _)); done) hg2
          have a2 : Blk (w.heap.size) [.int .i64 0, .int .i64 0, .int .i64 0, .int .i64 0, .int .i64 0] 33 W3 := Blk.grown (by (repeat (first | with_reducible exact HK.out | (with_reducible refine Blk.new _ _ [.int .i64 0, .int .i64 0, .int .i64 0, .int .i64 0, .int .i64 0] _ ?_; first | with_reducible rfl | (simp; done)) | with_reducible refine Blk.alloc ?_ _ | with_reducible refine Blk.later ?_ _ | with_reducible refine Blk.drew ?_ | with_reducible refine Blk.other ?_ (by simp; omega) _)); done) hg2 (by simp; omega)
          have a3 : Blk (W1.heap.size) [.int .i64 o, .int .i64 a, .int .i64 b, .int .i64 k, .int .i64 e] 33 W3 := Blk.grown (by (repeat (first | with_reducible exact HR.out | (with_reducible refine Blk.new _ _ [.int .i64 o, .int .i64 a, .int .i64 b, .int .i64 k, .int .i64 e] _ ?_; first | with_reducible rfl | (simp; done)) | with_reducible refine Blk.alloc ?_ _ | with_reducible refine Blk.later ?_ _ | with_reducible refine Blk.drew ?_ | with_reducible refine Blk.other ?_ (by simp; omega) _)); done) hg2 (by simp; omega)
          clear lHK cHK_0 zHK_0 cHK_1 zHK_1 cHK_2 zHK_2 cHK_3 zHK_3 cHK_4 zHK_4 lHR cHR_0 zHR_0 cHR_1 zHR_1 cHR_2 zHR_2 cHR_3 zHR_3 cHR_4 zHR_4
          clear HC HG HK HR
          have HC := Lib.hid hc2
          have HG := Lib.hid a1
          have HK := Lib.hid a2
          have HR := Lib.hid a3
          clear hc2 hg2 a1 a2 a3
          have hsW3 : w.heap.size ≤ W3.heap.size := HG.out.size
          have hgW3 : g < W3.heap.size := HC.out.lt
          have lHK : w.heap.size < W3.heap.size := HK.out.lt
          have cHK_0 := HK.out.cell (i := 0) rfl
          have zHK_0 := HK.out.frozen 0
          have cHK_1 := HK.out.cell (i := 1) rfl
          have zHK_1 := HK.out.frozen 1
          have cHK_2 := HK.out.cell (i := 2) rfl
          have zHK_2 := HK.out.frozen 2
          have cHK_3 := HK.out.cell (i := 3) rfl
          have zHK_3 := HK.out.frozen 3
          have cHK_4 := HK.out.cell (i := 4) rfl
          have zHK_4 := HK.out.frozen 4
          have lHR : W1.heap.size < W3.heap.size := HR.out.lt
          have cHR_0 := HR.out.cell (i := 0) rfl
          have zHR_0 := HR.out.frozen 0
          have cHR_1 := HR.out.cell (i := 1) rfl
          have zHR_1 := HR.out.frozen 1
          have cHR_2 := HR.out.cell (i := 2) rfl
          have zHR_2 := HR.out.frozen 2
          have cHR_3 := HR.out.cell (i := 3) rfl
          have zHR_3 := HR.out.frozen 3
          have cHR_4 := HR.out.cell (i := 4) rfl
          have zHR_4 := HR.out.frozen 4
          go_wp2_with fail
          (try simp only [Exit.inBlock, Exit.then])
          refine bodyPost_ret (v := .agg #[.int .i64 o, .int .i64 a, .int .i64 b, .int .i64 k, .int .i64 e2]) (by first | (simp [results, Try.results33, go_sem, cHK_0, cHK_1, cHK_2, cHK_3, cHK_4]; done) | (simp [results, Try.results33, go_sem, *]; done)) rfl ?_
          exact ⟨_, rfl, ⟨o, a, b, k, e2, rfl, ho, ha, hb, hk, he2⟩, (by (repeat (first | with_reducible exact HC.out | with_reducible refine Cur.alloc ?_ _ | with_reducible refine Cur.later ?_ _ | with_reducible refine Cur.drew ?_ | with_reducible refine Cur.setOther ?_ (by omega) _ _)); done), (by (repeat (first | with_reducible exact HG.out | with_reducible exact grown_refl _ _ | with_reducible refine grown_alloc ?_ _ | with_reducible refine grown_later ?_ _ | with_reducible refine grown_drew ?_ | with_reducible refine grown_set ?_ (by omega) _ _)); done)⟩
        · have hb0 : (s == 0) = false := by simpa using hi0
          have hb1 : (s == 1) = false := by simpa using hi1
          have hb2 : (s == 2) = false := by simpa using hi2
          have hb3 : (s == 3) = false := by simpa using hi3
          go_wp2_with fail
          (try simp only [Exit.inBlock, Exit.then])
          refine bodyPost_ret (v := .agg #[.int .i64 o, .int .i64 a, .int .i64 b, .int .i64 k, .int .i64 e]) (by first | (simp [results, Try.results33, go_sem, cHK_0, cHK_1, cHK_2, cHK_3, cHK_4]; done) | (simp [results, Try.results33, go_sem, *]; done)) rfl ?_
          exact ⟨_, rfl, ⟨o, a, b, k, e, rfl, ho, ha, hb, hk, he⟩, (by (repeat (first | with_reducible exact HC.out | with_reducible refine Cur.alloc ?_ _ | with_reducible refine Cur.later ?_ _ | with_reducible refine Cur.drew ?_ | with_reducible refine Cur.setOther ?_ (by omega) _ _)); done), (by (repeat (first | with_reducible exact HG.out | with_reducible exact grown_refl _ _ | with_reducible refine grown_alloc ?_ _ | with_reducible refine grown_later ?_ _ | with_reducible refine grown_drew ?_ | with_reducible refine grown_set ?_ (by omega) _ _)); done)⟩
end Go.Proofs.Ytcmhmdccfihhiaa
