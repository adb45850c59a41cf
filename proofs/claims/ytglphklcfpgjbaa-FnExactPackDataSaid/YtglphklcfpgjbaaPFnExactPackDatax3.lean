-- Laid by a program of this session (wip/print): the kit's printer with changes of this session's own.
import Derived.Test.YtglphklcfpgjbaaPFnExactPackDatax0
import Derived.Test.YtglphklcfpgjbaaPFnExactPackDatax2
namespace Go.Proofs.Ytglphklcfpgjbaa.PFnExactPackData
open Go.RowKit Go.Proofs.YtglphklcfpgjbaaW.PrintWords Go.Proofs.YtglphklcfpgjbaaW.PrintLast Go.Proofs.YtglphklcfpgjbaaW.PrintMore
attribute [local go_sem] max2_int min2_int max_two min_two max_three min_three max_four min_four   -- for this text's walks alone
set_option linter.unusedVariables false
set_option linter.unusedSimpArgs false

/-! ### spec_l5Data: function 133 -/
mutual
def spec_l5Data.j0 : Nat → Int → Int → Int → Bool → Bool → Bool → List Int → Int → Int → Option (Int × Int × List Int)
  | 0, _, _, _, _, _, _, _, _, _ => none
  | k + 1, x1000, x1001, x1002, x1003, x1004, x1005, x1006, x136000, x136001 => if x1003 = true then (spec_l5Data.j1 k x1000 x1001 x1002 x1003 x1004 x1005 x1006 x136000 (wrap64 (x136001 + 2))) else (spec_l5Data.j1 k x1000 x1001 x1002 x1003 x1004 x1005 x1006 x136000 x136001)
def spec_l5Data.j1 : Nat → Int → Int → Int → Bool → Bool → Bool → List Int → Int → Int → Option (Int × Int × List Int)
  | 0, _, _, _, _, _, _, _, _, _ => none
  | k + 1, x1000, x1001, x1002, x1003, x1004, x1005, x1006, x136000, x136001 => if x1005 = true then ((spec_l1Pack.f x1000).bind fun t136 => ((spec_l1Pair.f x1001).bind fun t139 => (if t136.length + t139.length < 140737488355328 then ((some (t136 ++ t139 : List Int)).bind fun y142 => ((spec_l1Pair.f x1002).bind fun t145 => (if y142.length + t145.length < 140737488355328 then ((some (y142 ++ t145 : List Int)).bind fun y148 => (if y148.length + x1006.length < 140737488355328 then (some (x136000, wrap64 (x136001 + 4), (y148 ++ x1006))) else (none))) else (none)))) else (none)))) else ((spec_l1Pack.f x1000).bind fun t154 => ((spec_l1Pair.f x1001).bind fun t157 => (if t154.length + t157.length < 140737488355328 then ((some (t154 ++ t157 : List Int)).bind fun y160 => ((spec_l1Pair.f x1002).bind fun t163 => (if y160.length + t163.length < 140737488355328 then ((some (y160 ++ t163 : List Int)).bind fun y166 => (if y166.length + x1006.length < 140737488355328 then (some (x136000, x136001, (y166 ++ x1006))) else (none))) else (none)))) else (none))))
end
def spec_l5Data.f (k : Nat) (a0_0 : Int) (a0_1 : Int) (a0_2 : Int) (a0_3 : Bool) (a0_4 : Bool) (a0_5 : Bool) (l0_6 : List Int) : Option (Int × Int × List Int) := if a0_4 = true then (spec_l5Data.j0 k a0_0 a0_1 a0_2 a0_3 a0_4 a0_5 l0_6 0 1) else (spec_l5Data.j0 k a0_0 a0_1 a0_2 a0_3 a0_4 a0_5 l0_6 0 0)
theorem spec_l5Data.mono_l : ∀ k, (∀ y0 y1 y2 y3 y4 y5 y6 y7 y8, LeO (spec_l5Data.j0 k y0 y1 y2 y3 y4 y5 y6 y7 y8) (spec_l5Data.j0 (k + 1) y0 y1 y2 y3 y4 y5 y6 y7 y8)) ∧ (∀ y0 y1 y2 y3 y4 y5 y6 y7 y8, LeO (spec_l5Data.j1 k y0 y1 y2 y3 y4 y5 y6 y7 y8) (spec_l5Data.j1 (k + 1) y0 y1 y2 y3 y4 y5 y6 y7 y8))
  | 0 => ⟨fun _ _ _ _ _ _ _ _ _ r h => by simp [spec_l5Data.j0] at h, fun _ _ _ _ _ _ _ _ _ r h => by simp [spec_l5Data.j1] at h⟩
  | k + 1 => by
    obtain ⟨ih0, ih1⟩ := spec_l5Data.mono_l k
    refine ⟨?_, ?_⟩
    · intro y0 y1 y2 y3 y4 y5 y6 y7 y8
      unfold spec_l5Data.j0
      repeat' first
      | (with_reducible exact ih0 _ _ _ _ _ _ _ _ _)
      | (with_reducible exact ih1 _ _ _ _ _ _ _ _ _)
      | (with_reducible exact LeO.refl _)
      | (with_reducible exact LeO.none _)
      | (with_reducible refine LeO.ite ?_ ?_)
      | (with_reducible refine LeO.bind ?_ (fun _ => ?_))
      | exact ih0 _ _ _ _ _ _ _ _ _
      | exact ih1 _ _ _ _ _ _ _ _ _
      | exact LeO.none _
      | refine LeO.ite ?_ ?_
      | refine LeO.bind ?_ (fun _ => ?_)
    · intro y0 y1 y2 y3 y4 y5 y6 y7 y8
      unfold spec_l5Data.j1
      repeat' first
      | (with_reducible exact ih0 _ _ _ _ _ _ _ _ _)
      | (with_reducible exact ih1 _ _ _ _ _ _ _ _ _)
      | (with_reducible exact LeO.refl _)
      | (with_reducible exact LeO.none _)
      | (with_reducible refine LeO.ite ?_ ?_)
      | (with_reducible refine LeO.bind ?_ (fun _ => ?_))
      | exact ih0 _ _ _ _ _ _ _ _ _
      | exact ih1 _ _ _ _ _ _ _ _ _
      | exact LeO.none _
      | refine LeO.ite ?_ ?_
      | refine LeO.bind ?_ (fun _ => ?_)
theorem spec_l5Data.mono : ∀ a0 a1 a2 a3 a4 a5 a6 k, LeO (spec_l5Data.f k a0 a1 a2 a3 a4 a5 a6) (spec_l5Data.f (k + 1) a0 a1 a2 a3 a4 a5 a6) := by
  intro a0 a1 a2 a3 a4 a5 a6 k
  obtain ⟨ih0, ih1⟩ := spec_l5Data.mono_l k
  unfold spec_l5Data.f
  repeat' first
      | (with_reducible exact ih0 _ _ _ _ _ _ _ _ _)
      | (with_reducible exact ih1 _ _ _ _ _ _ _ _ _)
      | (with_reducible exact LeO.refl _)
      | (with_reducible exact LeO.none _)
      | (with_reducible refine LeO.ite ?_ ?_)
      | (with_reducible refine LeO.bind ?_ (fun _ => ?_))
      | exact ih0 _ _ _ _ _ _ _ _ _
      | exact ih1 _ _ _ _ _ _ _ _ _
      | exact LeO.none _
      | refine LeO.ite ?_ ?_
      | refine LeO.bind ?_ (fun _ => ?_)
def spec_l5Data.T8 : Bool × List (List Nat × List Nat) := (true, [([], []), ([0], [0]), ([1], [1]), ([2], [2]), ([3], [3]), ([], []), ([5], [5]), ([6], [6]), ([7], [7]), ([8, 4], [8]), ([4, 9, 9], [4, 9]), ([], []), ([11], [11]), ([12], [12]), ([13], [13]), ([14, 10], [14]), ([10, 15, 15], [10, 15]), ([0, 1, 2, 3, 4, 5, 6, 7, 8, 9, 10, 11, 12, 13, 14, 15, 16], []), ([17, 16, 16, 0, 1, 2, 3, 4, 5, 6, 7, 8, 9, 10, 11, 12, 13, 14, 15, 16], [16, 17])])
def spec_l5Data.B8 : List Nat := [0, 1, 3, 7, 15, 0, 32, 96, 224, 511, 1023, 0, 2048, 6144, 14336, 32767, 65535, 131071, 262143]
theorem spec_l5Data.tab8 : rtab .any (opsOf Try.f133 8) = spec_l5Data.T8 := by kernel_rfl
theorem spec_l5Data.bits8 : waitsOk spec_l5Data.T8.2 spec_l5Data.B8 = true := by kernel_rfl
def spec_l5Data.T9 : Bool × List (List Nat × List Nat) := (true, [([], []), ([0], [0]), ([], []), ([2], [2]), ([3], [3]), ([4], [4]), ([1, 5], [1, 5]), ([0, 1, 2, 3, 4, 5, 6], []), ([7, 6, 6, 0, 1, 2, 3, 4, 5, 6], [6, 7])])
def spec_l5Data.B9 : List Nat := [0, 1, 0, 4, 12, 28, 63, 127, 255]
theorem spec_l5Data.tab9 : rtab .any (opsOf Try.f133 9) = spec_l5Data.T9 := by kernel_rfl
theorem spec_l5Data.bits9 : waitsOk spec_l5Data.T9.2 spec_l5Data.B9 = true := by kernel_rfl
set_option maxHeartbeats 8000000 in
set_option maxRecDepth 100000 in
theorem spec_l5Data.calls (k : Nat) (P0_ : Addr) (a0_0 : Int) (a0_1 : Int) (a0_2 : Int) (a0_3 : Bool) (a0_4 : Bool) (a0_5 : Bool) (A0_6 : Option Addr) (c0_6 : Nat) (l0_6 : List Int) (r1 : Int) (r2 : Int) (r3 : List Int) (w : World) (hp0_0 : w.cell? P0_ = some (.int .i64 a0_0)) (hp0_1 : w.cell? ⟨P0_.block, P0_.off + 1, none⟩ = some (.int .i64 a0_1)) (hp0_2 : w.cell? ⟨P0_.block, P0_.off + 2, none⟩ = some (.int .i64 a0_2)) (hp0_3 : w.cell? ⟨P0_.block, P0_.off + 3, none⟩ = some (.bool a0_3)) (hp0_4 : w.cell? ⟨P0_.block, P0_.off + 4, none⟩ = some (.bool a0_4)) (hp0_5 : w.cell? ⟨P0_.block, P0_.off + 5, none⟩ = some (.bool a0_5)) (hp0_6 : w.cell? ⟨P0_.block, P0_.off + 6, none⟩ = some (.slice A0_6 l0_6.length c0_6)) (hr0_6 : Kd.C (Kd.int .u8) w A0_6 l0_6.length l0_6) (hc0_6 : l0_6.length ≤ c0_6) (h : spec_l5Data.f k a0_0 a0_1 a0_2 a0_3 a0_4 a0_5 l0_6 = some (r1, r2, r3)) :
    Calls Try.prog 133 #[.pointer (some P0_)] w fun e w' => ∃ v2_ : Value, e = .returned (.agg #[.int .i64 r1, .int .i64 r2, v2_]) ∧ Kd.R (Kd.int .u8) 5 w' w.heap.size (fun _ => True) v2_ r3 ∧ Below w.heap.size w w' := by
  have hu27 := Try.underlying27
  have HP0_0 := Aside0.mk hp0_0
  clear hp0_0
  have HP0_1 := Aside0.mk hp0_1
  clear hp0_1
  have HP0_2 := Aside0.mk hp0_2
  clear hp0_2
  have HP0_3 := Aside0.mk hp0_3
  clear hp0_3
  have HP0_4 := Aside0.mk hp0_4
  clear hp0_4
  have HP0_5 := Aside0.mk hp0_5
  clear hp0_5
  have HP0_6 := Aside0.mk hp0_6
  clear hp0_6
  have HR0_6 := Aside0.mk hr0_6
  have HC0_6 := Aside0.mk hc0_6
  clear hr0_6 hc0_6
  have HB := Aside0.mk (Below.refl w.heap.size w)
  have H : (if a0_4 = true then (spec_l5Data.j0 k a0_0 a0_1 a0_2 a0_3 a0_4 a0_5 l0_6 0 1) else (spec_l5Data.j0 k a0_0 a0_1 a0_2 a0_3 a0_4 a0_5 l0_6 0 0)) = some (r1, r2, r3) := h
  clear h
  have HC2 := Aside0.mk H
  clear H
  go_enter Try.func133, Try.ntmps133
  go_upto_if 8 with (first | ((with_reducible refine gate_dst (N := 2) rfl ?_); refine box_event ?hg (N := 2) ?hd (cs := #[.int .i64 0, .int .i64 0, .slice none 0 0]) (t := 27) ?hr ?_; (case hd => rfl); (case hg => rfl); (case hr => first | (go_simp; done) | (go_simp; rfl)); intro gb134 hg w3 hbox hb; have n0_ := Aside0.mk (below_step (by repeat (first | (with_reducible first | exact HB.out | apply below_alloc | apply pw_below_drewN | apply below_drew1) | exact HB.out)) hb); have n1_ := Aside0.mk (hbox); have n2_ := Aside0.mk ((by rw [hg]; exact (below_size (by repeat (first | (with_reducible first | exact HB.out | apply below_alloc | apply pw_below_drewN | apply below_drew1) | exact HB.out))) : w.heap.size ≤ gb134)); have n3_ := Aside0.mk ((by rw [hg]; exact (below_size (by repeat (first | (with_reducible first | exact HB.out | apply below_alloc | apply pw_below_drewN | apply below_drew1) | exact HB.out))) : w.heap.size ≤ gb134)); clear HB; have HB := n0_; have BK134 := n1_; have GW134 := n2_; have GE134 := n3_; clear n0_ n1_ n2_ n3_; clear hb hbox hg) | ((with_reducible refine gate_dst (N := 3) rfl ?_); refine box_event ?hg (N := 3) ?hd (cs := #[.int .i64 0, .int .i64 0, .slice none 0 0]) (t := 27) ?hr ?_; (case hd => rfl); (case hg => rfl); (case hr => first | (go_simp; done) | (go_simp; rfl)); intro gb135 hg w4 hbox hb; have n0_ := Aside0.mk (blk_below (g := gb134) (o := .cells #[.int .i64 0, .int .i64 0, .slice none 0 0] 27 (0, 0)) (by (with_reducible repeat (first | refine blk_drewN ?_ _ | refine blk_drew ?_ | refine blk_alloc ?_ _)); exact BK134.out) hb); have n1_ := Aside0.mk (below_step (by repeat (first | (with_reducible first | exact HB.out | apply below_alloc | apply pw_below_drewN | apply below_drew1 | refine below_set ?_ GE134.out) | exact HB.out)) hb); have n2_ := Aside0.mk (hbox); have n3_ := Aside0.mk ((by rw [hg]; exact (below_size (by repeat (first | (with_reducible first | exact HB.out | apply below_alloc | apply pw_below_drewN | apply below_drew1 | refine below_set ?_ GE134.out) | exact HB.out))) : w.heap.size ≤ gb135)); have n4_ := Aside0.mk ((by rw [hg]; exact (below_size (by repeat (first | (with_reducible first | exact HB.out | apply below_alloc | apply pw_below_drewN | apply below_drew1 | refine below_set ?_ GE134.out) | exact HB.out))) : w.heap.size ≤ gb135)); have n5_ := Aside0.mk ((by rw [hg]; exact Nat.ne_of_lt (blk_lt (g := gb134) (o := .cells #[.int .i64 0, .int .i64 0, .slice none 0 0] 27 (0, 0)) (by (with_reducible repeat (first | refine blk_drewN ?_ _ | refine blk_drew ?_ | refine blk_alloc ?_ _)); exact BK134.out)) : gb134 ≠ gb135)); have n6_ := Aside0.mk ((by rw [hg]; exact Nat.ne_of_gt (blk_lt (g := gb134) (o := .cells #[.int .i64 0, .int .i64 0, .slice none 0 0] 27 (0, 0)) (by (with_reducible repeat (first | refine blk_drewN ?_ _ | refine blk_drew ?_ | refine blk_alloc ?_ _)); exact BK134.out)) : gb135 ≠ gb134)); clear BK134; clear HB; have BK134 := n0_; have HB := n1_; have BK135 := n2_; have GW135 := n3_; have GE135 := n4_; have NB134_135 := n5_; have NB135_134 := n6_; clear n0_ n1_ n2_ n3_ n4_ n5_ n6_; clear hb hbox hg; have hnb5 := NB135_134.out; have hnc5 := NB134_135.out; have hcz6_0 : w4.cell? ⟨gb135, 0, none⟩ = some (.int .i64 0) := (blk_cell BK135.out 0).trans rfl; have hcz6_1 : w4.cell? ⟨gb135, 1, none⟩ = some (.int .i64 0) := (blk_cell BK135.out 1).trans rfl; have hcz6_2 : w4.cell? ⟨gb135, 2, none⟩ = some (.slice none 0 0) := (blk_cell BK135.out 2).trans rfl; have hfz6_0 := blk_frozen BK135.out 0; have hfz6_1 := blk_frozen BK135.out 1; have hfz6_2 := blk_frozen BK135.out 2; have hnpz7_134 := (show P0_.block ≠ gb134 from Nat.ne_of_lt (Nat.lt_of_lt_of_le (World.block_lt_of_cell? _ _ HP0_0.out) GW134.out)); have hnqz7_134 := hnpz7_134.symm; have hnpz7_135 := (show P0_.block ≠ gb135 from Nat.ne_of_lt (Nat.lt_of_lt_of_le (World.block_lt_of_cell? _ _ HP0_0.out) GW135.out)); have hnqz7_135 := hnpz7_135.symm; have hcz7_0 : w4.cell? P0_ = some (.int .i64 a0_0) := (by first | exact HP0_0.out | exact (HB.out.cell (World.block_lt_of_cell? w _ HP0_0.out)).trans HP0_0.out); have hcz7_1 : w4.cell? ⟨P0_.block, P0_.off + 1, none⟩ = some (.int .i64 a0_1) := (by first | exact HP0_1.out | exact (HB.out.cell (World.block_lt_of_cell? w _ HP0_1.out)).trans HP0_1.out); have hcz7_2 : w4.cell? ⟨P0_.block, P0_.off + 2, none⟩ = some (.int .i64 a0_2) := (by first | exact HP0_2.out | exact (HB.out.cell (World.block_lt_of_cell? w _ HP0_2.out)).trans HP0_2.out); have hcz7_3 : w4.cell? ⟨P0_.block, P0_.off + 3, none⟩ = some (.bool a0_3) := (by first | exact HP0_3.out | exact (HB.out.cell (World.block_lt_of_cell? w _ HP0_3.out)).trans HP0_3.out); have hcz7_4 : w4.cell? ⟨P0_.block, P0_.off + 4, none⟩ = some (.bool a0_4) := (by first | exact HP0_4.out | exact (HB.out.cell (World.block_lt_of_cell? w _ HP0_4.out)).trans HP0_4.out); have hcz7_5 : w4.cell? ⟨P0_.block, P0_.off + 5, none⟩ = some (.bool a0_5) := (by first | exact HP0_5.out | exact (HB.out.cell (World.block_lt_of_cell? w _ HP0_5.out)).trans HP0_5.out); have hcz7_6 : w4.cell? ⟨P0_.block, P0_.off + 6, none⟩ = some (.slice A0_6 l0_6.length c0_6) := (by first | exact HP0_6.out | exact (HB.out.cell (World.block_lt_of_cell? w _ HP0_6.out)).trans HP0_6.out)))
  (try simp only [Act.put, List.setIfInBounds_toArray, List.set_cons_zero, List.set_cons_succ])
  go_cut [] (fun wc => ∃ (kq : Nat) (x136001_1 : Int), Aside0 (spec_l5Data.j0 kq a0_0 a0_1 a0_2 a0_3 a0_4 a0_5 l0_6 0 x136001_1 = some (r1, r2, r3)) ∧ Aside0 (kq ≤ k) ∧ Aside0 (wc.heap[gb134]? = some (.cells #[.int .i64 0, .int .i64 0, (.slice none 0 0)] 27 (0, 0))) ∧ Aside0 (wc.heap[gb135]? = some (.cells #[.int .i64 0, .int .i64 x136001_1, (.slice none 0 0)] 27 (0, 0))) ∧ Aside0 (Below w.heap.size w wc))
  case first =>
    have H := HC2.out
    clear HC2
    by_cases c8 : a0_4 = true
    · subst c8
      have H1 : (spec_l5Data.j0 k a0_0 a0_1 a0_2 a0_3 true a0_5 l0_6 0 1) = some (r1, r2, r3) := by rw [if_pos rfl] at H; exact H
      clear H
      have H := H1
      clear H1
      have H' := Aside0.mk H
      clear H
      have hnb9 := NB135_134.out
      have hnc9 := NB134_135.out
      have hcz10_0 : w4.cell? ⟨gb135, 0, none⟩ = some (.int .i64 0) := (blk_cell BK135.out 0).trans rfl
      have hcz10_1 : w4.cell? ⟨gb135, 1, none⟩ = some (.int .i64 0) := (blk_cell BK135.out 1).trans rfl
      have hcz10_2 : w4.cell? ⟨gb135, 2, none⟩ = some (.slice none 0 0) := (blk_cell BK135.out 2).trans rfl
      have hfz10_0 := blk_frozen BK135.out 0
      have hfz10_1 := blk_frozen BK135.out 1
      have hfz10_2 := blk_frozen BK135.out 2
      go_wp2
      go_meet
      case rel => exact ⟨_, (1), H', ⟨by first | omega | exact Nat.le_refl _⟩, ⟨by (with_reducible repeat (first | refine blk_drewN ?_ _ | refine blk_drew ?_ | refine blk_alloc ?_ _)); refine blk_far ?_ NB134_135.out _; (with_reducible repeat (first | refine blk_drewN ?_ _ | refine blk_drew ?_ | refine blk_alloc ?_ _)); refine blk_far ?_ NB134_135.out _; (with_reducible repeat (first | refine blk_drewN ?_ _ | refine blk_drew ?_ | refine blk_alloc ?_ _)); refine blk_far ?_ NB134_135.out _; (with_reducible repeat (first | refine blk_drewN ?_ _ | refine blk_drew ?_ | refine blk_alloc ?_ _)); refine blk_far ?_ NB134_135.out _; (with_reducible repeat (first | refine blk_drewN ?_ _ | refine blk_drew ?_ | refine blk_alloc ?_ _)); exact BK134.out⟩, ⟨by (with_reducible repeat (first | refine blk_drewN ?_ _ | refine blk_drew ?_ | refine blk_alloc ?_ _)); refine blk_put (cs := #[.int .i64 0, .int .i64 0, .slice none 0 0]) ?_ 1 _ rfl; (with_reducible repeat (first | refine blk_drewN ?_ _ | refine blk_drew ?_ | refine blk_alloc ?_ _)); refine blk_put (cs := #[.int .i64 0, .int .i64 0, .slice none 0 0]) ?_ 2 _ rfl; (with_reducible repeat (first | refine blk_drewN ?_ _ | refine blk_drew ?_ | refine blk_alloc ?_ _)); refine blk_put (cs := #[.int .i64 0, .int .i64 0, .slice none 0 0]) ?_ 1 _ rfl; (with_reducible repeat (first | refine blk_drewN ?_ _ | refine blk_drew ?_ | refine blk_alloc ?_ _)); refine blk_put (cs := #[.int .i64 0, .int .i64 0, .slice none 0 0]) ?_ 0 _ rfl; (with_reducible repeat (first | refine blk_drewN ?_ _ | refine blk_drew ?_ | refine blk_alloc ?_ _)); exact BK135.out⟩, ⟨by repeat (first | (with_reducible first | exact HB.out | apply below_alloc | apply pw_below_drewN | apply below_drew1 | refine below_set ?_ GE134.out | refine below_set ?_ GE135.out) | exact HB.out)⟩⟩
    · replace c8 := Bool.eq_false_iff.mpr c8
      subst c8
      have H1 : (spec_l5Data.j0 k a0_0 a0_1 a0_2 a0_3 false a0_5 l0_6 0 0) = some (r1, r2, r3) := by rw [if_neg (show ¬ (false = true) by decide)] at H; exact H
      clear H
      have H := H1
      clear H1
      have H' := Aside0.mk H
      clear H
      go_wp2
      go_meet
      case rel => exact ⟨_, (0), H', ⟨by first | omega | exact Nat.le_refl _⟩, ⟨by (with_reducible repeat (first | refine blk_drewN ?_ _ | refine blk_drew ?_ | refine blk_alloc ?_ _)); refine blk_far ?_ NB134_135.out _; (with_reducible repeat (first | refine blk_drewN ?_ _ | refine blk_drew ?_ | refine blk_alloc ?_ _)); refine blk_far ?_ NB134_135.out _; (with_reducible repeat (first | refine blk_drewN ?_ _ | refine blk_drew ?_ | refine blk_alloc ?_ _)); refine blk_far ?_ NB134_135.out _; (with_reducible repeat (first | refine blk_drewN ?_ _ | refine blk_drew ?_ | refine blk_alloc ?_ _)); exact BK134.out⟩, ⟨by (with_reducible repeat (first | refine blk_drewN ?_ _ | refine blk_drew ?_ | refine blk_alloc ?_ _)); refine blk_put (cs := #[.int .i64 0, .int .i64 0, .slice none 0 0]) ?_ 2 _ rfl; (with_reducible repeat (first | refine blk_drewN ?_ _ | refine blk_drew ?_ | refine blk_alloc ?_ _)); refine blk_put (cs := #[.int .i64 0, .int .i64 0, .slice none 0 0]) ?_ 1 _ rfl; (with_reducible repeat (first | refine blk_drewN ?_ _ | refine blk_drew ?_ | refine blk_alloc ?_ _)); refine blk_put (cs := #[.int .i64 0, .int .i64 0, .slice none 0 0]) ?_ 0 _ rfl; (with_reducible repeat (first | refine blk_drewN ?_ _ | refine blk_drew ?_ | refine blk_alloc ?_ _)); exact BK135.out⟩, ⟨by repeat (first | (with_reducible first | exact HB.out | apply below_alloc | apply pw_below_drewN | apply below_drew1 | refine below_set ?_ GE134.out | refine below_set ?_ GE135.out) | exact HB.out)⟩⟩
  case rest =>
    clear HC2
    try clear c1
    try clear p2
    try clear c5
    try clear c8
    try clear c9
    try clear hcz10_0
    try clear hcz10_1
    try clear hcz10_2
    try clear hcz6_0
    try clear hcz6_1
    try clear hcz6_2
    try clear hcz7_0
    try clear hcz7_1
    try clear hcz7_2
    try clear hcz7_3
    try clear hcz7_4
    try clear hcz7_5
    try clear hcz7_6
    try clear hfz10_0
    try clear hfz10_1
    try clear hfz10_2
    try clear hfz6_0
    try clear hfz6_1
    try clear hfz6_2
    obtain ⟨kq, x136001_1, HA, HJ1, BK134, BK135, HB⟩ := hcut
    cases kq with
    | zero => exact absurd HA.out (by simp [spec_l5Data.j0])
    | succ kj1 =>
      have H := HA.out
      clear HA
      simp only [spec_l5Data.j0] at H
      have HC11 := Aside0.mk H
      clear H
      have hnpz12_134 := (show P0_.block ≠ gb134 from Nat.ne_of_lt (Nat.lt_of_lt_of_le (World.block_lt_of_cell? _ _ HP0_0.out) GW134.out))
      have hnqz12_134 := hnpz12_134.symm
      have hnpz12_135 := (show P0_.block ≠ gb135 from Nat.ne_of_lt (Nat.lt_of_lt_of_le (World.block_lt_of_cell? _ _ HP0_0.out) GW135.out))
      have hnqz12_135 := hnpz12_135.symm
      have hcz12_0 : wc.cell? P0_ = some (.int .i64 a0_0) := (by first | exact HP0_0.out | exact (HB.out.cell (World.block_lt_of_cell? w _ HP0_0.out)).trans HP0_0.out)
      have hcz12_1 : wc.cell? ⟨P0_.block, P0_.off + 1, none⟩ = some (.int .i64 a0_1) := (by first | exact HP0_1.out | exact (HB.out.cell (World.block_lt_of_cell? w _ HP0_1.out)).trans HP0_1.out)
      have hcz12_2 : wc.cell? ⟨P0_.block, P0_.off + 2, none⟩ = some (.int .i64 a0_2) := (by first | exact HP0_2.out | exact (HB.out.cell (World.block_lt_of_cell? w _ HP0_2.out)).trans HP0_2.out)
      have hcz12_3 : wc.cell? ⟨P0_.block, P0_.off + 3, none⟩ = some (.bool a0_3) := (by first | exact HP0_3.out | exact (HB.out.cell (World.block_lt_of_cell? w _ HP0_3.out)).trans HP0_3.out)
      have hcz12_4 : wc.cell? ⟨P0_.block, P0_.off + 4, none⟩ = some (.bool a0_4) := (by first | exact HP0_4.out | exact (HB.out.cell (World.block_lt_of_cell? w _ HP0_4.out)).trans HP0_4.out)
      have hcz12_5 : wc.cell? ⟨P0_.block, P0_.off + 5, none⟩ = some (.bool a0_5) := (by first | exact HP0_5.out | exact (HB.out.cell (World.block_lt_of_cell? w _ HP0_5.out)).trans HP0_5.out)
      have hcz12_6 : wc.cell? ⟨P0_.block, P0_.off + 6, none⟩ = some (.slice A0_6 l0_6.length c0_6) := (by first | exact HP0_6.out | exact (HB.out.cell (World.block_lt_of_cell? w _ HP0_6.out)).trans HP0_6.out)
      go_upto_if 13 with (fail)
      go_cut [] (fun wc => ∃ (kq : Nat) (x136001_10 : Int), Aside0 (spec_l5Data.j1 kq a0_0 a0_1 a0_2 a0_3 a0_4 a0_5 l0_6 0 x136001_10 = some (r1, r2, r3)) ∧ Aside0 (kq ≤ kj1) ∧ Aside0 (wc.heap[gb134]? = some (.cells #[.int .i64 0, .int .i64 0, (.slice none 0 0)] 27 (0, 0))) ∧ Aside0 (wc.heap[gb135]? = some (.cells #[.int .i64 0, .int .i64 x136001_10, (.slice none 0 0)] 27 (0, 0))) ∧ Aside0 (Below w.heap.size w wc))
      case first =>
        have H := HC11.out
        clear HC11
        by_cases c13 : a0_3 = true
        · subst c13
          have H1 : (spec_l5Data.j1 kj1 a0_0 a0_1 a0_2 true a0_4 a0_5 l0_6 0 (wrap64 (x136001_1 + 2))) = some (r1, r2, r3) := by rw [if_pos rfl] at H; exact H
          clear H
          have H := H1
          clear H1
          have H' := Aside0.mk H
          clear H
          have hnb14 := NB135_134.out
          have hnc14 := NB134_135.out
          have hcz15_0 : wc.cell? ⟨gb135, 0, none⟩ = some (.int .i64 0) := (blk_cell BK135.out 0).trans rfl
          have hcz15_1 : wc.cell? ⟨gb135, 1, none⟩ = some (.int .i64 x136001_1) := (blk_cell BK135.out 1).trans rfl
          have hcz15_2 : wc.cell? ⟨gb135, 2, none⟩ = some (.slice none 0 0) := (blk_cell BK135.out 2).trans rfl
          have hfz15_0 := blk_frozen BK135.out 0
          have hfz15_1 := blk_frozen BK135.out 1
          have hfz15_2 := blk_frozen BK135.out 2
          go_wp2
          go_meet
          case rel => exact ⟨_, (wrap64 (x136001_1 + 2)), H', ⟨by have := HJ1.out; first | omega | exact Nat.le_refl _⟩, ⟨by (with_reducible repeat (first | refine blk_drewN ?_ _ | refine blk_drew ?_ | refine blk_alloc ?_ _)); refine blk_far ?_ NB134_135.out _; (with_reducible repeat (first | refine blk_drewN ?_ _ | refine blk_drew ?_ | refine blk_alloc ?_ _)); exact BK134.out⟩, ⟨by (with_reducible repeat (first | refine blk_drewN ?_ _ | refine blk_drew ?_ | refine blk_alloc ?_ _)); refine blk_put (cs := #[.int .i64 0, .int .i64 x136001_1, .slice none 0 0]) ?_ 1 _ rfl; (with_reducible repeat (first | refine blk_drewN ?_ _ | refine blk_drew ?_ | refine blk_alloc ?_ _)); exact BK135.out⟩, ⟨by repeat (first | (with_reducible first | exact HB.out | apply below_alloc | apply pw_below_drewN | apply below_drew1 | refine below_set ?_ GE134.out | refine below_set ?_ GE135.out) | exact HB.out)⟩⟩
        · replace c13 := Bool.eq_false_iff.mpr c13
          subst c13
          have H1 : (spec_l5Data.j1 kj1 a0_0 a0_1 a0_2 false a0_4 a0_5 l0_6 0 x136001_1) = some (r1, r2, r3) := by rw [if_neg (show ¬ (false = true) by decide)] at H; exact H
          clear H
          have H := H1
          clear H1
          have H' := Aside0.mk H
          clear H
          go_wp2
          go_meet
          case rel => exact ⟨_, (x136001_1), H', ⟨by have := HJ1.out; first | omega | exact Nat.le_refl _⟩, ⟨by (with_reducible repeat (first | refine blk_drewN ?_ _ | refine blk_drew ?_ | refine blk_alloc ?_ _)); exact BK134.out⟩, ⟨by (with_reducible repeat (first | refine blk_drewN ?_ _ | refine blk_drew ?_ | refine blk_alloc ?_ _)); exact BK135.out⟩, ⟨by repeat (first | (with_reducible first | exact HB.out | apply below_alloc | apply pw_below_drewN | apply below_drew1 | refine below_set ?_ GE134.out | refine below_set ?_ GE135.out) | exact HB.out)⟩⟩
      case rest =>
        clear HC11
        try clear c1
        try clear p2
        try clear c5
        try clear p6
        try clear c8
        try clear c9
        try clear c13
        try clear c14
        try clear hcz10_0
        try clear hcz10_1
        try clear hcz10_2
        try clear hcz12_0
        try clear hcz12_1
        try clear hcz12_2
        try clear hcz12_3
        try clear hcz12_4
        try clear hcz12_5
        try clear hcz12_6
        try clear hcz15_0
        try clear hcz15_1
        try clear hcz15_2
        try clear hcz6_0
        try clear hcz6_1
        try clear hcz6_2
        try clear hcz7_0
        try clear hcz7_1
        try clear hcz7_2
        try clear hcz7_3
        try clear hcz7_4
        try clear hcz7_5
        try clear hcz7_6
        try clear hfz10_0
        try clear hfz10_1
        try clear hfz10_2
        try clear hfz15_0
        try clear hfz15_1
        try clear hfz15_2
        try clear hfz6_0
        try clear hfz6_1
        try clear hfz6_2
        try clear p2
        obtain ⟨kq, x136001_10, HA, HJ10, BK134, BK135, HB⟩ := hcut
        cases kq with
        | zero => exact absurd HA.out (by simp [spec_l5Data.j1])
        | succ kj10 =>
          have H := HA.out
          clear HA
          simp only [spec_l5Data.j1] at H
          by_cases c16 : a0_5 = true
          · subst c16
            have H1 : ((spec_l1Pack.f a0_0).bind fun t136 => ((spec_l1Pair.f a0_1).bind fun t139 => (if t136.length + t139.length < 140737488355328 then ((some (t136 ++ t139 : List Int)).bind fun y142 => ((spec_l1Pair.f a0_2).bind fun t145 => (if y142.length + t145.length < 140737488355328 then ((some (y142 ++ t145 : List Int)).bind fun y148 => (if y148.length + l0_6.length < 140737488355328 then (some (0, wrap64 (x136001_10 + 4), (y148 ++ l0_6))) else (none))) else (none)))) else (none)))) = some (r1, r2, r3) := by rw [if_pos rfl] at H; exact H
            clear H
            have H := H1
            clear H1
            replace H := Option.bind_eq_some_iff.mp H
            obtain ⟨t136, A170, H⟩ := H
            replace H : ((spec_l1Pair.f a0_1).bind fun t139 => (if t136.length + t139.length < 140737488355328 then ((some (t136 ++ t139 : List Int)).bind fun y142 => ((spec_l1Pair.f a0_2).bind fun t145 => (if y142.length + t145.length < 140737488355328 then ((some (y142 ++ t145 : List Int)).bind fun y148 => (if y148.length + l0_6.length < 140737488355328 then (some (0, wrap64 (x136001_10 + 4), (y148 ++ l0_6))) else (none))) else (none)))) else (none))) = some (r1, r2, r3) := H
            have A17 := Aside0.mk A170
            clear A170
            replace H := Option.bind_eq_some_iff.mp H
            obtain ⟨t139, A180, H⟩ := H
            replace H : (if t136.length + t139.length < 140737488355328 then ((some (t136 ++ t139 : List Int)).bind fun y142 => ((spec_l1Pair.f a0_2).bind fun t145 => (if y142.length + t145.length < 140737488355328 then ((some (y142 ++ t145 : List Int)).bind fun y148 => (if y148.length + l0_6.length < 140737488355328 then (some (0, wrap64 (x136001_10 + 4), (y148 ++ l0_6))) else (none))) else (none)))) else (none)) = some (r1, r2, r3) := H
            have A18 := Aside0.mk A180
            clear A180
            by_cases c19 : t136.length + t139.length < 140737488355328
            · rw [if_pos c19] at H
              have LMc19 := Aside0.mk c19
              clear c19
              obtain ⟨y142, hy142⟩ : ∃ y_ : List Int, y_ = (t136 ++ t139) := ⟨_, rfl⟩
              replace H : ((spec_l1Pair.f a0_2).bind fun t145 => (if y142.length + t145.length < 140737488355328 then ((some (y142 ++ t145 : List Int)).bind fun y148 => (if y148.length + l0_6.length < 140737488355328 then (some (0, wrap64 (x136001_10 + 4), (y148 ++ l0_6))) else (none))) else (none))) = some (r1, r2, r3) := by first | (rw [hy142]; with_reducible exact H) | (have H2_ := (Option.bind_some _ _).symm.trans H; rw [hy142]; with_reducible exact H2_) | (have H2_ := (Option.bind_some _ _).symm.trans H; with_reducible exact H2_) | with_reducible exact H | (rw [hy142]; exact H) | exact H
              have Ny142 := Aside0.mk hy142
              clear hy142
              replace H := Option.bind_eq_some_iff.mp H
              obtain ⟨t145, A200, H⟩ := H
              replace H : (if y142.length + t145.length < 140737488355328 then ((some (y142 ++ t145 : List Int)).bind fun y148 => (if y148.length + l0_6.length < 140737488355328 then (some (0, wrap64 (x136001_10 + 4), (y148 ++ l0_6))) else (none))) else (none)) = some (r1, r2, r3) := H
              have A20 := Aside0.mk A200
              clear A200
              by_cases c21 : y142.length + t145.length < 140737488355328
              · rw [if_pos c21] at H
                have LMc21 := Aside0.mk c21
                clear c21
                obtain ⟨y148, hy148⟩ : ∃ y_ : List Int, y_ = (y142 ++ t145) := ⟨_, rfl⟩
                replace H : (if y148.length + l0_6.length < 140737488355328 then (some (0, wrap64 (x136001_10 + 4), (y148 ++ l0_6))) else (none)) = some (r1, r2, r3) := by first | (rw [hy148]; with_reducible exact H) | (have H2_ := (Option.bind_some _ _).symm.trans H; rw [hy148]; with_reducible exact H2_) | (have H2_ := (Option.bind_some _ _).symm.trans H; with_reducible exact H2_) | with_reducible exact H | (rw [hy148]; exact H) | exact H
                have Ny148 := Aside0.mk hy148
                clear hy148
                by_cases c22 : y148.length + l0_6.length < 140737488355328
                · rw [if_pos c22] at H
                  have LMc22 := Aside0.mk c22
                  clear c22
                  obtain ⟨y151, hy151⟩ : ∃ y_ : List Int, y_ = (y148 ++ l0_6) := ⟨_, rfl⟩
                  replace H : (some (0, wrap64 (x136001_10 + 4), y151)) = some (r1, r2, r3) := by first | (rw [hy151]; with_reducible exact H) | (have H2_ := (Option.bind_some _ _).symm.trans H; rw [hy151]; with_reducible exact H2_) | (have H2_ := (Option.bind_some _ _).symm.trans H; with_reducible exact H2_) | with_reducible exact H | (rw [hy151]; exact H) | exact H
                  have Ny151 := Aside0.mk hy151
                  clear hy151
                  simp only [Option.some.injEq, Prod.mk.injEq] at H
                  obtain ⟨rfl, rfl, rfl⟩ := H
                  have hnpz23_134 := (show P0_.block ≠ gb134 from Nat.ne_of_lt (Nat.lt_of_lt_of_le (World.block_lt_of_cell? _ _ HP0_0.out) GW134.out))
                  have hnqz23_134 := hnpz23_134.symm
                  have hnpz23_135 := (show P0_.block ≠ gb135 from Nat.ne_of_lt (Nat.lt_of_lt_of_le (World.block_lt_of_cell? _ _ HP0_0.out) GW135.out))
                  have hnqz23_135 := hnpz23_135.symm
                  have hcz23_0 : wc.cell? P0_ = some (.int .i64 a0_0) := (by first | exact HP0_0.out | exact (HB.out.cell (World.block_lt_of_cell? w _ HP0_0.out)).trans HP0_0.out)
                  have hcz23_1 : wc.cell? ⟨P0_.block, P0_.off + 1, none⟩ = some (.int .i64 a0_1) := (by first | exact HP0_1.out | exact (HB.out.cell (World.block_lt_of_cell? w _ HP0_1.out)).trans HP0_1.out)
                  have hcz23_2 : wc.cell? ⟨P0_.block, P0_.off + 2, none⟩ = some (.int .i64 a0_2) := (by first | exact HP0_2.out | exact (HB.out.cell (World.block_lt_of_cell? w _ HP0_2.out)).trans HP0_2.out)
                  have hcz23_3 : wc.cell? ⟨P0_.block, P0_.off + 3, none⟩ = some (.bool a0_3) := (by first | exact HP0_3.out | exact (HB.out.cell (World.block_lt_of_cell? w _ HP0_3.out)).trans HP0_3.out)
                  have hcz23_4 : wc.cell? ⟨P0_.block, P0_.off + 4, none⟩ = some (.bool a0_4) := (by first | exact HP0_4.out | exact (HB.out.cell (World.block_lt_of_cell? w _ HP0_4.out)).trans HP0_4.out)
                  have hcz23_5 : wc.cell? ⟨P0_.block, P0_.off + 5, none⟩ = some (.bool true) := (by first | exact HP0_5.out | exact (HB.out.cell (World.block_lt_of_cell? w _ HP0_5.out)).trans HP0_5.out)
                  have hcz23_6 : wc.cell? ⟨P0_.block, P0_.off + 6, none⟩ = some (.slice A0_6 l0_6.length c0_6) := (by first | exact HP0_6.out | exact (HB.out.cell (World.block_lt_of_cell? w _ HP0_6.out)).trans HP0_6.out)
                  have hnb24 := NB135_134.out
                  have hnc24 := NB134_135.out
                  have hcz25_0 : wc.cell? ⟨gb135, 0, none⟩ = some (.int .i64 0) := (blk_cell BK135.out 0).trans rfl
                  have hcz25_1 : wc.cell? ⟨gb135, 1, none⟩ = some (.int .i64 x136001_10) := (blk_cell BK135.out 1).trans rfl
                  have hcz25_2 : wc.cell? ⟨gb135, 2, none⟩ = some (.slice none 0 0) := (blk_cell BK135.out 2).trans rfl
                  have hfz25_0 := blk_frozen BK135.out 0
                  have hfz25_1 := blk_frozen BK135.out 1
                  have hfz25_2 := blk_frozen BK135.out 2
                  try go_wp2
                  have n0_ : Aside0 ((wc.setCell ⟨gb135, 1, none⟩ (.int .i64 (wrap64 (x136001_10 + 4)))).heap[gb134]? = some (.cells #[.int .i64 0, .int .i64 0, .slice none 0 0] 27 (0, 0))) := ⟨by (with_reducible repeat (first | refine blk_drewN ?_ _ | refine blk_drew ?_ | refine blk_alloc ?_ _)); refine blk_far ?_ NB134_135.out _; (with_reducible repeat (first | refine blk_drewN ?_ _ | refine blk_drew ?_ | refine blk_alloc ?_ _)); exact BK134.out⟩
                  have n1_ : Aside0 ((wc.setCell ⟨gb135, 1, none⟩ (.int .i64 (wrap64 (x136001_10 + 4)))).heap[gb135]? = some (.cells #[.int .i64 0, .int .i64 (wrap64 (x136001_10 + 4)), .slice none 0 0] 27 (0, 0))) := ⟨by (with_reducible repeat (first | refine blk_drewN ?_ _ | refine blk_drew ?_ | refine blk_alloc ?_ _)); refine blk_put (cs := #[.int .i64 0, .int .i64 x136001_10, .slice none 0 0]) ?_ 1 _ rfl; (with_reducible repeat (first | refine blk_drewN ?_ _ | refine blk_drew ?_ | refine blk_alloc ?_ _)); exact BK135.out⟩
                  have n2_ : Aside0 (Below w.heap.size w (wc.setCell ⟨gb135, 1, none⟩ (.int .i64 (wrap64 (x136001_10 + 4))))) := ⟨by repeat (first | (with_reducible first | exact HB.out | apply below_alloc | apply pw_below_drewN | apply below_drew1 | refine below_set ?_ GE134.out | refine below_set ?_ GE135.out) | exact HB.out)⟩
                  (try clear BK134)
                  (try clear BK135)
                  (try clear HB)
                  generalize (wc.setCell ⟨gb135, 1, none⟩ (.int .i64 (wrap64 (x136001_10 + 4)))) = w26 at n0_ n1_ n2_ ⊢
                  have BK134 := n0_
                  have BK135 := n1_
                  have HB := n2_
                  clear n0_ n1_ n2_
                  have n0_ := Aside0.mk (blk_drew BK134.out)
                  have n1_ := Aside0.mk (blk_drew BK135.out)
                  have n2_ := Aside0.mk (below_drew1 HB.out)
                  clear BK134
                  clear BK135
                  clear HB
                  have BK134 := n0_
                  have BK135 := n1_
                  have HB := n2_
                  clear n0_ n1_ n2_
                  refine start_ (n := 19) (S := fun w' => w'.cell? P0_ = some (.int .i64 a0_0) ∧ w'.cell? ⟨P0_.block, P0_.off + 1, none⟩ = some (.int .i64 a0_1) ∧ w'.cell? ⟨P0_.block, P0_.off + 2, none⟩ = some (.int .i64 a0_2) ∧ w'.cell? ⟨P0_.block, P0_.off + 3, none⟩ = some (.bool a0_3) ∧ w'.cell? ⟨P0_.block, P0_.off + 4, none⟩ = some (.bool a0_4) ∧ w'.cell? ⟨P0_.block, P0_.off + 5, none⟩ = some (.bool true) ∧ w'.cell? ⟨P0_.block, P0_.off + 6, none⟩ = some (.slice A0_6 l0_6.length c0_6) ∧ w'.cell? P0_ = some (.int .i64 a0_0) ∧ w'.cell? ⟨P0_.block, P0_.off + 1, none⟩ = some (.int .i64 a0_1) ∧ w'.cell? ⟨P0_.block, P0_.off + 2, none⟩ = some (.int .i64 a0_2) ∧ w'.cell? ⟨P0_.block, P0_.off + 3, none⟩ = some (.bool a0_3) ∧ w'.cell? ⟨P0_.block, P0_.off + 4, none⟩ = some (.bool a0_4) ∧ w'.cell? ⟨P0_.block, P0_.off + 5, none⟩ = some (.bool true) ∧ w'.cell? ⟨P0_.block, P0_.off + 6, none⟩ = some (.slice A0_6 l0_6.length c0_6) ∧ w'.cell? P0_ = some (.int .i64 a0_0) ∧ w'.cell? ⟨P0_.block, P0_.off + 1, none⟩ = some (.int .i64 a0_1) ∧ w'.cell? ⟨P0_.block, P0_.off + 2, none⟩ = some (.int .i64 a0_2) ∧ w'.cell? ⟨P0_.block, P0_.off + 3, none⟩ = some (.bool a0_3) ∧ w'.cell? ⟨P0_.block, P0_.off + 4, none⟩ = some (.bool a0_4) ∧ w'.cell? ⟨P0_.block, P0_.off + 5, none⟩ = some (.bool true) ∧ w'.cell? ⟨P0_.block, P0_.off + 6, none⟩ = some (.slice A0_6 l0_6.length c0_6)) (ds := []) #[false, false, false, false, false, false, false, false, false, false, false, false, false, false, false, false, false, false, false] (by kernel_rfl) rfl rfl ⟨((HB.out.cell (World.block_lt_of_cell? w _ HP0_0.out)).trans HP0_0.out), ((HB.out.cell (World.block_lt_of_cell? w _ HP0_1.out)).trans HP0_1.out), ((HB.out.cell (World.block_lt_of_cell? w _ HP0_2.out)).trans HP0_2.out), ((HB.out.cell (World.block_lt_of_cell? w _ HP0_3.out)).trans HP0_3.out), ((HB.out.cell (World.block_lt_of_cell? w _ HP0_4.out)).trans HP0_4.out), ((HB.out.cell (World.block_lt_of_cell? w _ HP0_5.out)).trans HP0_5.out), ((HB.out.cell (World.block_lt_of_cell? w _ HP0_6.out)).trans HP0_6.out), ((HB.out.cell (World.block_lt_of_cell? w _ HP0_0.out)).trans HP0_0.out), ((HB.out.cell (World.block_lt_of_cell? w _ HP0_1.out)).trans HP0_1.out), ((HB.out.cell (World.block_lt_of_cell? w _ HP0_2.out)).trans HP0_2.out), ((HB.out.cell (World.block_lt_of_cell? w _ HP0_3.out)).trans HP0_3.out), ((HB.out.cell (World.block_lt_of_cell? w _ HP0_4.out)).trans HP0_4.out), ((HB.out.cell (World.block_lt_of_cell? w _ HP0_5.out)).trans HP0_5.out), ((HB.out.cell (World.block_lt_of_cell? w _ HP0_6.out)).trans HP0_6.out), ((HB.out.cell (World.block_lt_of_cell? w _ HP0_0.out)).trans HP0_0.out), ((HB.out.cell (World.block_lt_of_cell? w _ HP0_1.out)).trans HP0_1.out), ((HB.out.cell (World.block_lt_of_cell? w _ HP0_2.out)).trans HP0_2.out), ((HB.out.cell (World.block_lt_of_cell? w _ HP0_3.out)).trans HP0_3.out), ((HB.out.cell (World.block_lt_of_cell? w _ HP0_4.out)).trans HP0_4.out), ((HB.out.cell (World.block_lt_of_cell? w _ HP0_5.out)).trans HP0_5.out), ((HB.out.cell (World.block_lt_of_cell? w _ HP0_6.out)).trans HP0_6.out)⟩ (fun hHeld => ?_); refine with_tabW spec_l5Data.tab8 spec_l5Data.bits8 (fun HT_ HW_ => ?_)
                  generalize w26.drew = w27 at BK134 BK135 HB hHeld ⊢
                  refine pure_ (i := 0) (N := some 26) (v := ?_) (a' := ?_) #[true, false, false, false, false, false, false, false, false, false, false, false, false, false, false, false, false, false, false] rfl rfl (any_of HT_.out (by kernel_rfl)) (fun _ _ _ h => h) (Or.inl ⟨by first | rfl | (simp [Region.wanted, yielded, *]; done) | (simp [Region.wanted, yielded, Int.tmod_eq_emod_of_nonneg (Int.natCast_nonneg _), *]; done) | (simp [Region.wanted, yielded]; omega), ?_⟩) ?_ ?_
                  rotate_left
                  · intro w'
                    go_simp
                    with_reducible rfl
                  rotate_left
                  · simp only [Act.put, List.setIfInBounds_toArray, List.set_cons_zero, List.set_cons_succ, i64_w, i32_w]
                    rfl
                  refine pure_ (i := 1) (N := some 27) (v := ?_) (a' := ?_) #[true, true, false, false, false, false, false, false, false, false, false, false, false, false, false, false, false, false, false] rfl rfl (any_of HT_.out (by kernel_rfl)) (fun _ _ _ h => h) (Or.inl ⟨by first | rfl | (simp [Region.wanted, yielded, *]; done) | (simp [Region.wanted, yielded, Int.tmod_eq_emod_of_nonneg (Int.natCast_nonneg _), *]; done) | (simp [Region.wanted, yielded]; omega), ?_⟩) ?_ ?_
                  rotate_left
                  · intro w'
                    go_simp
                    with_reducible rfl
                  rotate_left
                  · simp only [Act.put, List.setIfInBounds_toArray, List.set_cons_zero, List.set_cons_succ, i64_w, i32_w]
                    rfl
                  refine pure_ (i := 2) (N := some 28) (v := ?_) (a' := ?_) #[true, true, true, false, false, false, false, false, false, false, false, false, false, false, false, false, false, false, false] rfl rfl (any_of HT_.out (by kernel_rfl)) (fun _ _ _ h => h) (Or.inl ⟨by first | rfl | (simp [Region.wanted, yielded, *]; done) | (simp [Region.wanted, yielded, Int.tmod_eq_emod_of_nonneg (Int.natCast_nonneg _), *]; done) | (simp [Region.wanted, yielded]; omega), ?_⟩) ?_ ?_
                  rotate_left
                  · intro w'
                    go_simp
                    with_reducible rfl
                  rotate_left
                  · simp only [Act.put, List.setIfInBounds_toArray, List.set_cons_zero, List.set_cons_succ, i64_w, i32_w]
                    rfl
                  refine pure_ (i := 5) (N := some 31) (v := ?_) (a' := ?_) #[true, true, true, false, false, true, false, false, false, false, false, false, false, false, false, false, false, false, false] rfl rfl (any_of HT_.out (by kernel_rfl)) (fun _ _ _ h => h) (Or.inl ⟨by first | rfl | (simp [Region.wanted, yielded, *]; done) | (simp [Region.wanted, yielded, Int.tmod_eq_emod_of_nonneg (Int.natCast_nonneg _), *]; done) | (simp [Region.wanted, yielded]; omega), ?_⟩) ?_ ?_
                  rotate_left
                  · intro w'
                    go_simp
                    with_reducible rfl
                  rotate_left
                  · simp only [Act.put, List.setIfInBounds_toArray, List.set_cons_zero, List.set_cons_succ, i64_w, i32_w]
                    rfl
                  refine pure_ (i := 6) (N := some 32) (v := ?_) (a' := ?_) #[true, true, true, false, false, true, true, false, false, false, false, false, false, false, false, false, false, false, false] rfl rfl (any_of HT_.out (by kernel_rfl)) (fun _ _ _ h => h) (Or.inl ⟨by first | rfl | (simp [Region.wanted, yielded, *]; done) | (simp [Region.wanted, yielded, Int.tmod_eq_emod_of_nonneg (Int.natCast_nonneg _), *]; done) | (simp [Region.wanted, yielded]; omega), ?_⟩) ?_ ?_
                  rotate_left
                  · intro w'
                    go_simp
                    with_reducible rfl
                  rotate_left
                  · simp only [Act.put, List.setIfInBounds_toArray, List.set_cons_zero, List.set_cons_succ, i64_w, i32_w]
                    rfl
                  refine pure_ (i := 7) (N := some 33) (v := ?_) (a' := ?_) #[true, true, true, false, false, true, true, true, false, false, false, false, false, false, false, false, false, false, false] rfl rfl (any_of HT_.out (by kernel_rfl)) (fun _ _ _ h => h) (Or.inl ⟨by first | rfl | (simp [Region.wanted, yielded, *]; done) | (simp [Region.wanted, yielded, Int.tmod_eq_emod_of_nonneg (Int.natCast_nonneg _), *]; done) | (simp [Region.wanted, yielded]; omega), ?_⟩) ?_ ?_
                  rotate_left
                  · intro w'
                    go_simp
                    with_reducible rfl
                  rotate_left
                  · simp only [Act.put, List.setIfInBounds_toArray, List.set_cons_zero, List.set_cons_succ, i64_w, i32_w]
                    rfl
                  refine pure_ (i := 11) (N := some 37) (v := ?_) (a' := ?_) #[true, true, true, false, false, true, true, true, false, false, false, true, false, false, false, false, false, false, false] rfl rfl (any_of HT_.out (by kernel_rfl)) (fun _ _ _ h => h) (Or.inl ⟨by first | rfl | (simp [Region.wanted, yielded, *]; done) | (simp [Region.wanted, yielded, Int.tmod_eq_emod_of_nonneg (Int.natCast_nonneg _), *]; done) | (simp [Region.wanted, yielded]; omega), ?_⟩) ?_ ?_
                  rotate_left
                  · intro w'
                    go_simp
                    with_reducible rfl
                  rotate_left
                  · simp only [Act.put, List.setIfInBounds_toArray, List.set_cons_zero, List.set_cons_succ, i64_w, i32_w]
                    rfl
                  refine pure_ (i := 12) (N := some 38) (v := ?_) (a' := ?_) #[true, true, true, false, false, true, true, true, false, false, false, true, true, false, false, false, false, false, false] rfl rfl (any_of HT_.out (by kernel_rfl)) (fun _ _ _ h => h) (Or.inl ⟨by first | rfl | (simp [Region.wanted, yielded, *]; done) | (simp [Region.wanted, yielded, Int.tmod_eq_emod_of_nonneg (Int.natCast_nonneg _), *]; done) | (simp [Region.wanted, yielded]; omega), ?_⟩) ?_ ?_
                  rotate_left
                  · intro w'
                    go_simp
                    with_reducible rfl
                  rotate_left
                  · simp only [Act.put, List.setIfInBounds_toArray, List.set_cons_zero, List.set_cons_succ, i64_w, i32_w]
                    rfl
                  refine pure_ (i := 13) (N := some 39) (v := ?_) (a' := ?_) #[true, true, true, false, false, true, true, true, false, false, false, true, true, true, false, false, false, false, false] rfl rfl (any_of HT_.out (by kernel_rfl)) (fun _ _ _ h => h) (Or.inl ⟨by first | rfl | (simp [Region.wanted, yielded, *]; done) | (simp [Region.wanted, yielded, Int.tmod_eq_emod_of_nonneg (Int.natCast_nonneg _), *]; done) | (simp [Region.wanted, yielded]; omega), ?_⟩) ?_ ?_
                  rotate_left
                  · intro w'
                    go_simp
                    with_reducible rfl
                  rotate_left
                  · simp only [Act.put, List.setIfInBounds_toArray, List.set_cons_zero, List.set_cons_succ, i64_w, i32_w]
                    rfl
                  refine take_ (i := 3) (N := some 29) (v := ?_) (a' := ?_) #[true, true, true, true, false, true, true, true, false, false, false, true, true, true, false, false, false, false, false] rfl rfl (take_ofW HT_.out HW_.out (by kernel_rfl)) (fun _ _ _ h => h) (Or.inl ⟨by first | rfl | (simp [Region.wanted, yielded, *]; done) | (simp [Region.wanted, yielded, Int.tmod_eq_emod_of_nonneg (Int.natCast_nonneg _), *]; done) | (simp [Region.wanted, yielded]; omega), ?_⟩) hHeld ?_ ?_
                  rotate_left
                  · rintro w' ⟨s0, s1, s2, s3, s4, s5, s6, s7, s8, s9, s10, s11, s12, s13, s14, s15, s16, s17, s18, s19, s20⟩
                    go_simp
                    with_reducible rfl
                  rotate_left
                  · simp only [Act.put, List.setIfInBounds_toArray, List.set_cons_zero, List.set_cons_succ, i64_w, i32_w]
                    rfl
                  refine take_ (i := 8) (N := some 34) (v := ?_) (a' := ?_) #[true, true, true, true, false, true, true, true, true, false, false, true, true, true, false, false, false, false, false] rfl rfl (take_ofW HT_.out HW_.out (by kernel_rfl)) (fun _ _ _ h => h) (Or.inl ⟨by first | rfl | (simp [Region.wanted, yielded, *]; done) | (simp [Region.wanted, yielded, Int.tmod_eq_emod_of_nonneg (Int.natCast_nonneg _), *]; done) | (simp [Region.wanted, yielded]; omega), ?_⟩) hHeld ?_ ?_
                  rotate_left
                  · rintro w' ⟨s0, s1, s2, s3, s4, s5, s6, s7, s8, s9, s10, s11, s12, s13, s14, s15, s16, s17, s18, s19, s20⟩
                    go_simp
                    with_reducible rfl
                  rotate_left
                  · simp only [Act.put, List.setIfInBounds_toArray, List.set_cons_zero, List.set_cons_succ, i64_w, i32_w]
                    rfl
                  refine take_ (i := 14) (N := some 40) (v := ?_) (a' := ?_) #[true, true, true, true, false, true, true, true, true, false, false, true, true, true, true, false, false, false, false] rfl rfl (take_ofW HT_.out HW_.out (by kernel_rfl)) (fun _ _ _ h => h) (Or.inl ⟨by first | rfl | (simp [Region.wanted, yielded, *]; done) | (simp [Region.wanted, yielded, Int.tmod_eq_emod_of_nonneg (Int.natCast_nonneg _), *]; done) | (simp [Region.wanted, yielded]; omega), ?_⟩) hHeld ?_ ?_
                  rotate_left
                  · rintro w' ⟨s0, s1, s2, s3, s4, s5, s6, s7, s8, s9, s10, s11, s12, s13, s14, s15, s16, s17, s18, s19, s20⟩
                    go_simp
                    with_reducible rfl
                  rotate_left
                  · simp only [Act.put, List.setIfInBounds_toArray, List.set_cons_zero, List.set_cons_succ, i64_w, i32_w]
                    rfl
                  refine one_ (i := 4) (N := some 30) #[true, true, true, true, true, true, true, true, true, false, false, true, true, true, true, false, false, false, false] rfl rfl (one_of HT_.out (by kernel_rfl)) (by decide) (fun K hK => ?_)
                  refine goes_ Try.func107 (by kernel_rfl) rfl #[.int .i64 a0_0] (by first | rfl | (simp [Region.wanted, yielded, *]; done) | (simp [Region.wanted, yielded, Int.tmod_eq_emod_of_nonneg (Int.natCast_nonneg _), *]; done)) rfl rfl (by (try simp only [List.map_toArray, List.map_cons, List.map_nil]); first | done | rfl | (simp only [List.length_drop, List.length_take]; rfl)) ?_
                  with_reducible refine (spec_l1Pack.calls a0_0 t136 _ A17.out).mono ?_
                  rintro e w28 ⟨v137, rfl, ho0, hb⟩
                  refine ⟨_, rfl, ?_⟩
                  have n0_ := Aside0.mk (Kd.R_lower ho0 (below_size (by repeat (first | (with_reducible first | exact HB.out | apply below_alloc | apply pw_below_drewN | apply below_drew1 | refine below_set ?_ GE134.out | refine below_set ?_ GE135.out) | exact HB.out))))
                  have n1_ := Aside0.mk (blk_below (g := gb134) (o := .cells #[.int .i64 0, .int .i64 0, .slice none 0 0] 27 (0, 0)) (by (with_reducible repeat (first | refine blk_drewN ?_ _ | refine blk_drew ?_ | refine blk_alloc ?_ _)); exact BK134.out) hb)
                  have n2_ := Aside0.mk (blk_below (g := gb135) (o := .cells #[.int .i64 0, .int .i64 (wrap64 (x136001_10 + 4)), .slice none 0 0] 27 (0, 0)) (by (with_reducible repeat (first | refine blk_drewN ?_ _ | refine blk_drew ?_ | refine blk_alloc ?_ _)); exact BK135.out) hb)
                  have n3_ := Aside0.mk (below_step (by repeat (first | (with_reducible first | exact HB.out | apply below_alloc | apply pw_below_drewN | apply below_drew1 | refine below_set ?_ GE134.out | refine below_set ?_ GE135.out) | exact HB.out)) hb)
                  clear BK134
                  clear BK135
                  clear HB
                  have HO138 := n0_
                  have BK134 := n1_
                  have BK135 := n2_
                  have HB := n3_
                  clear n0_ n1_ n2_ n3_
                  (try clear hb)
                  (try clear hb2)
                  (try clear hk)
                  (try clear hi)
                  (try clear ho0)
                  refine hK.out _ _ ⟨((HB.out.cell (World.block_lt_of_cell? w _ HP0_0.out)).trans HP0_0.out), ((HB.out.cell (World.block_lt_of_cell? w _ HP0_1.out)).trans HP0_1.out), ((HB.out.cell (World.block_lt_of_cell? w _ HP0_2.out)).trans HP0_2.out), ((HB.out.cell (World.block_lt_of_cell? w _ HP0_3.out)).trans HP0_3.out), ((HB.out.cell (World.block_lt_of_cell? w _ HP0_4.out)).trans HP0_4.out), ((HB.out.cell (World.block_lt_of_cell? w _ HP0_5.out)).trans HP0_5.out), ((HB.out.cell (World.block_lt_of_cell? w _ HP0_6.out)).trans HP0_6.out), ((HB.out.cell (World.block_lt_of_cell? w _ HP0_0.out)).trans HP0_0.out), ((HB.out.cell (World.block_lt_of_cell? w _ HP0_1.out)).trans HP0_1.out), ((HB.out.cell (World.block_lt_of_cell? w _ HP0_2.out)).trans HP0_2.out), ((HB.out.cell (World.block_lt_of_cell? w _ HP0_3.out)).trans HP0_3.out), ((HB.out.cell (World.block_lt_of_cell? w _ HP0_4.out)).trans HP0_4.out), ((HB.out.cell (World.block_lt_of_cell? w _ HP0_5.out)).trans HP0_5.out), ((HB.out.cell (World.block_lt_of_cell? w _ HP0_6.out)).trans HP0_6.out), ((HB.out.cell (World.block_lt_of_cell? w _ HP0_0.out)).trans HP0_0.out), ((HB.out.cell (World.block_lt_of_cell? w _ HP0_1.out)).trans HP0_1.out), ((HB.out.cell (World.block_lt_of_cell? w _ HP0_2.out)).trans HP0_2.out), ((HB.out.cell (World.block_lt_of_cell? w _ HP0_3.out)).trans HP0_3.out), ((HB.out.cell (World.block_lt_of_cell? w _ HP0_4.out)).trans HP0_4.out), ((HB.out.cell (World.block_lt_of_cell? w _ HP0_5.out)).trans HP0_5.out), ((HB.out.cell (World.block_lt_of_cell? w _ HP0_6.out)).trans HP0_6.out)⟩ (fun hHeld => ?_)
                  clear hK K
                  refine norm_ (a' := ?_) ?_ ?_
                  rotate_left
                  · show Act.put _ (some 30) _ = _
                    simp only [Act.put, List.setIfInBounds_toArray, List.set_cons_zero, List.set_cons_succ, i64_w, i32_w]
                    rfl
                  refine one_ (i := 9) (N := some 35) #[true, true, true, true, true, true, true, true, true, true, false, true, true, true, true, false, false, false, false] rfl rfl (one_of HT_.out (by kernel_rfl)) (by decide) (fun K hK => ?_)
                  refine goes_ Try.func145 (by kernel_rfl) rfl #[.int .i64 a0_1] (by first | rfl | (simp [Region.wanted, yielded, *]; done) | (simp [Region.wanted, yielded, Int.tmod_eq_emod_of_nonneg (Int.natCast_nonneg _), *]; done)) rfl rfl (by (try simp only [List.map_toArray, List.map_cons, List.map_nil]); first | done | rfl | (simp only [List.length_drop, List.length_take]; rfl)) ?_
                  with_reducible refine (spec_l1Pair.calls a0_1 t139 _ A18.out).mono ?_
                  rintro e w29 ⟨v140, rfl, ho0, hb⟩
                  refine ⟨_, rfl, ?_⟩
                  have n0_ := Aside0.mk (Kd.R_elder' (by (with_reducible repeat (first | apply Kd.R_alloc | apply Kd.R_drewN | apply Kd.R_drew)); exact HO138.out) (Kd.R_base ho0) hb)
                  have n1_ := Aside0.mk (Kd.R_lower (Kd.R_new' ho0 (Kd.R_lt (by (with_reducible repeat (first | apply Kd.R_alloc | apply Kd.R_drewN | apply Kd.R_drew)); exact HO138.out))) (below_size (by repeat (first | (with_reducible first | exact HB.out | apply below_alloc | apply pw_below_drewN | apply below_drew1 | refine below_set ?_ GE134.out | refine below_set ?_ GE135.out) | exact HB.out))))
                  have n2_ := Aside0.mk (blk_below (g := gb134) (o := .cells #[.int .i64 0, .int .i64 0, .slice none 0 0] 27 (0, 0)) (by (with_reducible repeat (first | refine blk_drewN ?_ _ | refine blk_drew ?_ | refine blk_alloc ?_ _)); exact BK134.out) hb)
                  have n3_ := Aside0.mk (blk_below (g := gb135) (o := .cells #[.int .i64 0, .int .i64 (wrap64 (x136001_10 + 4)), .slice none 0 0] 27 (0, 0)) (by (with_reducible repeat (first | refine blk_drewN ?_ _ | refine blk_drew ?_ | refine blk_alloc ?_ _)); exact BK135.out) hb)
                  have n4_ := Aside0.mk (below_step (by repeat (first | (with_reducible first | exact HB.out | apply below_alloc | apply pw_below_drewN | apply below_drew1 | refine below_set ?_ GE134.out | refine below_set ?_ GE135.out) | exact HB.out)) hb)
                  clear HO138
                  clear BK134
                  clear BK135
                  clear HB
                  have HO138 := n0_
                  have HO141 := n1_
                  have BK134 := n2_
                  have BK135 := n3_
                  have HB := n4_
                  clear n0_ n1_ n2_ n3_ n4_
                  (try clear hb)
                  (try clear hb2)
                  (try clear hk)
                  (try clear hi)
                  (try clear ho0)
                  obtain ⟨Ao31, co31, eo31⟩ := Kd.R_slice HO141.out
                  (first | subst eo31 | (injection eo31 with f1_ f2_ f3_; have f4_ := f1_.symm; have f5_ := f3_.symm; clear f1_ f2_ f3_; subst f4_; subst f5_))
                  refine hK.out _ _ ⟨((HB.out.cell (World.block_lt_of_cell? w _ HP0_0.out)).trans HP0_0.out), ((HB.out.cell (World.block_lt_of_cell? w _ HP0_1.out)).trans HP0_1.out), ((HB.out.cell (World.block_lt_of_cell? w _ HP0_2.out)).trans HP0_2.out), ((HB.out.cell (World.block_lt_of_cell? w _ HP0_3.out)).trans HP0_3.out), ((HB.out.cell (World.block_lt_of_cell? w _ HP0_4.out)).trans HP0_4.out), ((HB.out.cell (World.block_lt_of_cell? w _ HP0_5.out)).trans HP0_5.out), ((HB.out.cell (World.block_lt_of_cell? w _ HP0_6.out)).trans HP0_6.out), ((HB.out.cell (World.block_lt_of_cell? w _ HP0_0.out)).trans HP0_0.out), ((HB.out.cell (World.block_lt_of_cell? w _ HP0_1.out)).trans HP0_1.out), ((HB.out.cell (World.block_lt_of_cell? w _ HP0_2.out)).trans HP0_2.out), ((HB.out.cell (World.block_lt_of_cell? w _ HP0_3.out)).trans HP0_3.out), ((HB.out.cell (World.block_lt_of_cell? w _ HP0_4.out)).trans HP0_4.out), ((HB.out.cell (World.block_lt_of_cell? w _ HP0_5.out)).trans HP0_5.out), ((HB.out.cell (World.block_lt_of_cell? w _ HP0_6.out)).trans HP0_6.out), ((HB.out.cell (World.block_lt_of_cell? w _ HP0_0.out)).trans HP0_0.out), ((HB.out.cell (World.block_lt_of_cell? w _ HP0_1.out)).trans HP0_1.out), ((HB.out.cell (World.block_lt_of_cell? w _ HP0_2.out)).trans HP0_2.out), ((HB.out.cell (World.block_lt_of_cell? w _ HP0_3.out)).trans HP0_3.out), ((HB.out.cell (World.block_lt_of_cell? w _ HP0_4.out)).trans HP0_4.out), ((HB.out.cell (World.block_lt_of_cell? w _ HP0_5.out)).trans HP0_5.out), ((HB.out.cell (World.block_lt_of_cell? w _ HP0_6.out)).trans HP0_6.out)⟩ (fun hHeld => ?_)
                  clear hK K
                  refine norm_ (a' := ?_) ?_ ?_
                  rotate_left
                  · show Act.put _ (some 35) _ = _
                    simp only [Act.put, List.setIfInBounds_toArray, List.set_cons_zero, List.set_cons_succ, i64_w, i32_w]
                    rfl
                  refine one_ (i := 10) (N := some 36) #[true, true, true, true, true, true, true, true, true, true, true, true, true, true, true, false, false, false, false] rfl rfl (one_of HT_.out (by kernel_rfl)) (by decide) (fun K hK => ?_)
                  refine Kd.R_append_rows_step (Kd.int .u8) (w0 := w) w.heap.size (by rfl) (.tmp 30) (.tmp 35) 22 5 (.int .u8 0) 1 rfl Try.underlying22 info5 rfl (by decide) (by omega) v137 t136 t139 _ _ _ (fun k_ => some k_ ≠ (.slice Ao31 t139.length co31 : Value).ownBlock) (fun _ => False) rfl rfl ?aO ?aR (fun _ _ h => h) (fun _ h => h.elim) ?aF ?aB ?aS ?aL ?_
                  (case aR => repeat (first | exact (Kd.R_reads' HO141.out).2.2 | (with_reducible refine Kd.C_alloc ?_ _) | (with_reducible refine Kd.C_drewN ?_ _) | (with_reducible refine Kd.C_drew ?_)))
                  (case aB => exact (by repeat (first | (with_reducible first | exact HB.out | apply below_alloc | apply pw_below_drewN | apply below_drew1 | refine below_set ?_ GE134.out | refine below_set ?_ GE135.out) | exact HB.out)))
                  (case aF => exact (fun k_ hk => Kd.fresh' (Kd.R_lt (by (with_reducible repeat (first | apply Kd.R_alloc | apply Kd.R_drewN | apply Kd.R_drew)); exact HO141.out)) k_ hk))
                  (case aO => exact (by (with_reducible repeat (first | apply Kd.R_alloc | apply Kd.R_drewN | apply Kd.R_drew)); exact Kd.R_mono HO138.out (fun _ hk => hk.2)))
                  (case aS => exact (below_size (by repeat (first | (with_reducible first | exact HB.out | apply below_alloc | apply pw_below_drewN | apply below_drew1 | refine below_set ?_ GE134.out | refine below_set ?_ GE135.out) | exact HB.out))))
                  (case aL => have := LMc19.out; omega)
                  intro v143 w30 ho hb hg hat
                  rw [← Ny142.out] at ho
                  have n0_ := Aside0.mk (blk_grown (g := gb134) (o := .cells #[.int .i64 0, .int .i64 0, .slice none 0 0] 27 (0, 0)) (by (with_reducible repeat (first | refine blk_drewN ?_ _ | refine blk_drew ?_ | refine blk_alloc ?_ _)); exact BK134.out) hg (Kd.R_ne HO138.out BK134.out (by decide)))
                  have n1_ := Aside0.mk (blk_grown (g := gb135) (o := .cells #[.int .i64 0, .int .i64 (wrap64 (x136001_10 + 4)), .slice none 0 0] 27 (0, 0)) (by (with_reducible repeat (first | refine blk_drewN ?_ _ | refine blk_drew ?_ | refine blk_alloc ?_ _)); exact BK135.out) hg (Kd.R_ne HO138.out BK135.out (by decide)))
                  have n2_ := Aside0.mk (Kd.R_after (ok := (fun _ => True)) (by (with_reducible repeat (first | apply Kd.R_alloc | apply Kd.R_drewN | apply Kd.R_drew)); exact HO141.out) hg hat)
                  have n3_ := Aside0.mk (hb)
                  have n4_ := Aside0.mk (ho)
                  clear BK134
                  clear BK135
                  clear HO141
                  clear HB
                  clear HO138
                  have BK134 := n0_
                  have BK135 := n1_
                  have HO141 := n2_
                  have HB := n3_
                  have HO144 := n4_
                  clear n0_ n1_ n2_ n3_ n4_
                  clear ho hb hg hat
                  refine hK.out _ _ ⟨((HB.out.cell (World.block_lt_of_cell? w _ HP0_0.out)).trans HP0_0.out), ((HB.out.cell (World.block_lt_of_cell? w _ HP0_1.out)).trans HP0_1.out), ((HB.out.cell (World.block_lt_of_cell? w _ HP0_2.out)).trans HP0_2.out), ((HB.out.cell (World.block_lt_of_cell? w _ HP0_3.out)).trans HP0_3.out), ((HB.out.cell (World.block_lt_of_cell? w _ HP0_4.out)).trans HP0_4.out), ((HB.out.cell (World.block_lt_of_cell? w _ HP0_5.out)).trans HP0_5.out), ((HB.out.cell (World.block_lt_of_cell? w _ HP0_6.out)).trans HP0_6.out), ((HB.out.cell (World.block_lt_of_cell? w _ HP0_0.out)).trans HP0_0.out), ((HB.out.cell (World.block_lt_of_cell? w _ HP0_1.out)).trans HP0_1.out), ((HB.out.cell (World.block_lt_of_cell? w _ HP0_2.out)).trans HP0_2.out), ((HB.out.cell (World.block_lt_of_cell? w _ HP0_3.out)).trans HP0_3.out), ((HB.out.cell (World.block_lt_of_cell? w _ HP0_4.out)).trans HP0_4.out), ((HB.out.cell (World.block_lt_of_cell? w _ HP0_5.out)).trans HP0_5.out), ((HB.out.cell (World.block_lt_of_cell? w _ HP0_6.out)).trans HP0_6.out), ((HB.out.cell (World.block_lt_of_cell? w _ HP0_0.out)).trans HP0_0.out), ((HB.out.cell (World.block_lt_of_cell? w _ HP0_1.out)).trans HP0_1.out), ((HB.out.cell (World.block_lt_of_cell? w _ HP0_2.out)).trans HP0_2.out), ((HB.out.cell (World.block_lt_of_cell? w _ HP0_3.out)).trans HP0_3.out), ((HB.out.cell (World.block_lt_of_cell? w _ HP0_4.out)).trans HP0_4.out), ((HB.out.cell (World.block_lt_of_cell? w _ HP0_5.out)).trans HP0_5.out), ((HB.out.cell (World.block_lt_of_cell? w _ HP0_6.out)).trans HP0_6.out)⟩ (fun hHeld => ?_)
                  clear hK K
                  refine norm_ (a' := ?_) ?_ ?_
                  rotate_left
                  · show Act.put _ (some 36) _ = _
                    simp only [Act.put, List.setIfInBounds_toArray, List.set_cons_zero, List.set_cons_succ, i64_w, i32_w]
                    rfl
                  refine one_ (i := 15) (N := some 41) #[true, true, true, true, true, true, true, true, true, true, true, true, true, true, true, true, false, false, false] rfl rfl (one_of HT_.out (by kernel_rfl)) (by decide) (fun K hK => ?_)
                  refine goes_ Try.func145 (by kernel_rfl) rfl #[.int .i64 a0_2] (by first | rfl | (simp [Region.wanted, yielded, *]; done) | (simp [Region.wanted, yielded, Int.tmod_eq_emod_of_nonneg (Int.natCast_nonneg _), *]; done)) rfl rfl (by (try simp only [List.map_toArray, List.map_cons, List.map_nil]); first | done | rfl | (simp only [List.length_drop, List.length_take]; rfl)) ?_
                  with_reducible refine (spec_l1Pair.calls a0_2 t145 _ A20.out).mono ?_
                  rintro e w32 ⟨v146, rfl, ho0, hb⟩
                  refine ⟨_, rfl, ?_⟩
                  have n0_ := Aside0.mk (Kd.R_elder' (by (with_reducible repeat (first | apply Kd.R_alloc | apply Kd.R_drewN | apply Kd.R_drew)); exact HO141.out) (Kd.R_base ho0) hb)
                  have n1_ := Aside0.mk (Kd.R_elder' (by (with_reducible repeat (first | apply Kd.R_alloc | apply Kd.R_drewN | apply Kd.R_drew)); exact HO144.out) (Kd.R_base ho0) hb)
                  have n2_ := Aside0.mk (Kd.R_lower (Kd.R_new' (Kd.R_new' ho0 (Kd.R_lt (by (with_reducible repeat (first | apply Kd.R_alloc | apply Kd.R_drewN | apply Kd.R_drew)); exact HO141.out))) (Kd.R_lt (by (with_reducible repeat (first | apply Kd.R_alloc | apply Kd.R_drewN | apply Kd.R_drew)); exact HO144.out))) (below_size (by repeat (first | (with_reducible first | exact HB.out | apply below_alloc | apply pw_below_drewN | apply below_drew1 | refine below_set ?_ GE134.out | refine below_set ?_ GE135.out) | exact HB.out))))
                  have n3_ := Aside0.mk (blk_below (g := gb134) (o := .cells #[.int .i64 0, .int .i64 0, .slice none 0 0] 27 (0, 0)) (by (with_reducible repeat (first | refine blk_drewN ?_ _ | refine blk_drew ?_ | refine blk_alloc ?_ _)); exact BK134.out) hb)
                  have n4_ := Aside0.mk (blk_below (g := gb135) (o := .cells #[.int .i64 0, .int .i64 (wrap64 (x136001_10 + 4)), .slice none 0 0] 27 (0, 0)) (by (with_reducible repeat (first | refine blk_drewN ?_ _ | refine blk_drew ?_ | refine blk_alloc ?_ _)); exact BK135.out) hb)
                  have n5_ := Aside0.mk (below_step (by repeat (first | (with_reducible first | exact HB.out | apply below_alloc | apply pw_below_drewN | apply below_drew1 | refine below_set ?_ GE134.out | refine below_set ?_ GE135.out) | exact HB.out)) hb)
                  clear HO141
                  clear HO144
                  clear BK134
                  clear BK135
                  clear HB
                  have HO141 := n0_
                  have HO144 := n1_
                  have HO147 := n2_
                  have BK134 := n3_
                  have BK135 := n4_
                  have HB := n5_
                  clear n0_ n1_ n2_ n3_ n4_ n5_
                  (try clear hb)
                  (try clear hb2)
                  (try clear hk)
                  (try clear hi)
                  (try clear ho0)
                  obtain ⟨Ao34, co34, eo34⟩ := Kd.R_slice HO147.out
                  (first | subst eo34 | (injection eo34 with f1_ f2_ f3_; have f4_ := f1_.symm; have f5_ := f3_.symm; clear f1_ f2_ f3_; subst f4_; subst f5_))
                  refine hK.out _ _ ⟨((HB.out.cell (World.block_lt_of_cell? w _ HP0_0.out)).trans HP0_0.out), ((HB.out.cell (World.block_lt_of_cell? w _ HP0_1.out)).trans HP0_1.out), ((HB.out.cell (World.block_lt_of_cell? w _ HP0_2.out)).trans HP0_2.out), ((HB.out.cell (World.block_lt_of_cell? w _ HP0_3.out)).trans HP0_3.out), ((HB.out.cell (World.block_lt_of_cell? w _ HP0_4.out)).trans HP0_4.out), ((HB.out.cell (World.block_lt_of_cell? w _ HP0_5.out)).trans HP0_5.out), ((HB.out.cell (World.block_lt_of_cell? w _ HP0_6.out)).trans HP0_6.out), ((HB.out.cell (World.block_lt_of_cell? w _ HP0_0.out)).trans HP0_0.out), ((HB.out.cell (World.block_lt_of_cell? w _ HP0_1.out)).trans HP0_1.out), ((HB.out.cell (World.block_lt_of_cell? w _ HP0_2.out)).trans HP0_2.out), ((HB.out.cell (World.block_lt_of_cell? w _ HP0_3.out)).trans HP0_3.out), ((HB.out.cell (World.block_lt_of_cell? w _ HP0_4.out)).trans HP0_4.out), ((HB.out.cell (World.block_lt_of_cell? w _ HP0_5.out)).trans HP0_5.out), ((HB.out.cell (World.block_lt_of_cell? w _ HP0_6.out)).trans HP0_6.out), ((HB.out.cell (World.block_lt_of_cell? w _ HP0_0.out)).trans HP0_0.out), ((HB.out.cell (World.block_lt_of_cell? w _ HP0_1.out)).trans HP0_1.out), ((HB.out.cell (World.block_lt_of_cell? w _ HP0_2.out)).trans HP0_2.out), ((HB.out.cell (World.block_lt_of_cell? w _ HP0_3.out)).trans HP0_3.out), ((HB.out.cell (World.block_lt_of_cell? w _ HP0_4.out)).trans HP0_4.out), ((HB.out.cell (World.block_lt_of_cell? w _ HP0_5.out)).trans HP0_5.out), ((HB.out.cell (World.block_lt_of_cell? w _ HP0_6.out)).trans HP0_6.out)⟩ (fun hHeld => ?_)
                  clear hK K
                  refine norm_ (a' := ?_) ?_ ?_
                  rotate_left
                  · show Act.put _ (some 41) _ = _
                    simp only [Act.put, List.setIfInBounds_toArray, List.set_cons_zero, List.set_cons_succ, i64_w, i32_w]
                    rfl
                  refine one_ (i := 16) (N := some 42) #[true, true, true, true, true, true, true, true, true, true, true, true, true, true, true, true, true, false, false] rfl rfl (one_of HT_.out (by kernel_rfl)) (by decide) (fun K hK => ?_)
                  refine Kd.R_append_rows_step (Kd.int .u8) (w0 := w) w.heap.size (by rfl) (.tmp 36) (.tmp 41) 22 5 (.int .u8 0) 1 rfl Try.underlying22 info5 rfl (by decide) (by omega) v143 y142 t145 _ _ _ (fun k_ => some k_ ≠ (.slice Ao31 t139.length co31 : Value).ownBlock ∧ some k_ ≠ (.slice Ao34 t145.length co34 : Value).ownBlock) (fun _ => False) rfl rfl ?aO ?aR (fun _ _ h => h) (fun _ h => h.elim) ?aF ?aB ?aS ?aL ?_
                  (case aR => repeat (first | exact (Kd.R_reads' HO147.out).2.2 | (with_reducible refine Kd.C_alloc ?_ _) | (with_reducible refine Kd.C_drewN ?_ _) | (with_reducible refine Kd.C_drew ?_)))
                  (case aB => exact (by repeat (first | (with_reducible first | exact HB.out | apply below_alloc | apply pw_below_drewN | apply below_drew1 | refine below_set ?_ GE134.out | refine below_set ?_ GE135.out) | exact HB.out)))
                  (case aF => exact (fun k_ hk => ⟨Kd.fresh' (Kd.R_lt (by (with_reducible repeat (first | apply Kd.R_alloc | apply Kd.R_drewN | apply Kd.R_drew)); exact HO141.out)) k_ hk, Kd.fresh' (Kd.R_lt (by (with_reducible repeat (first | apply Kd.R_alloc | apply Kd.R_drewN | apply Kd.R_drew)); exact HO147.out)) k_ hk⟩))
                  (case aO => exact (by (with_reducible repeat (first | apply Kd.R_alloc | apply Kd.R_drewN | apply Kd.R_drew)); exact HO144.out))
                  (case aS => exact (below_size (by repeat (first | (with_reducible first | exact HB.out | apply below_alloc | apply pw_below_drewN | apply below_drew1 | refine below_set ?_ GE134.out | refine below_set ?_ GE135.out) | exact HB.out))))
                  (case aL => have := LMc21.out; omega)
                  intro v149 w33 ho hb hg hat
                  rw [← Ny148.out] at ho
                  have n0_ := Aside0.mk (blk_grown (g := gb134) (o := .cells #[.int .i64 0, .int .i64 0, .slice none 0 0] 27 (0, 0)) (by (with_reducible repeat (first | refine blk_drewN ?_ _ | refine blk_drew ?_ | refine blk_alloc ?_ _)); exact BK134.out) hg (Kd.R_ne HO144.out BK134.out (by decide)))
                  have n1_ := Aside0.mk (blk_grown (g := gb135) (o := .cells #[.int .i64 0, .int .i64 (wrap64 (x136001_10 + 4)), .slice none 0 0] 27 (0, 0)) (by (with_reducible repeat (first | refine blk_drewN ?_ _ | refine blk_drew ?_ | refine blk_alloc ?_ _)); exact BK135.out) hg (Kd.R_ne HO144.out BK135.out (by decide)))
                  have n2_ := Aside0.mk (Kd.R_after (ok := (fun k_ => some k_ ≠ (.slice Ao34 t145.length co34 : Value).ownBlock)) (by (with_reducible repeat (first | apply Kd.R_alloc | apply Kd.R_drewN | apply Kd.R_drew)); exact Kd.R_mono HO141.out (fun _ hk => ⟨hk.2, hk.1.2⟩)) hg hat)
                  have n3_ := Aside0.mk (Kd.R_after (ok := (fun k_ => some k_ ≠ (.slice Ao31 t139.length co31 : Value).ownBlock)) (by (with_reducible repeat (first | apply Kd.R_alloc | apply Kd.R_drewN | apply Kd.R_drew)); exact Kd.R_mono HO147.out (fun _ hk => ⟨hk.1.2, hk.2⟩)) hg hat)
                  have n4_ := Aside0.mk (hb)
                  have n5_ := Aside0.mk (ho)
                  clear BK134
                  clear BK135
                  clear HO141
                  clear HO147
                  clear HB
                  clear HO144
                  have BK134 := n0_
                  have BK135 := n1_
                  have HO141 := n2_
                  have HO147 := n3_
                  have HB := n4_
                  have HO150 := n5_
                  clear n0_ n1_ n2_ n3_ n4_ n5_
                  clear ho hb hg hat
                  obtain ⟨Ao35, co35, eo35⟩ := Kd.R_slice HO150.out
                  (first | subst eo35 | (injection eo35 with f1_ f2_ f3_; have f4_ := f1_.symm; have f5_ := f3_.symm; clear f1_ f2_ f3_; subst f4_; subst f5_))
                  refine hK.out _ _ ⟨((HB.out.cell (World.block_lt_of_cell? w _ HP0_0.out)).trans HP0_0.out), ((HB.out.cell (World.block_lt_of_cell? w _ HP0_1.out)).trans HP0_1.out), ((HB.out.cell (World.block_lt_of_cell? w _ HP0_2.out)).trans HP0_2.out), ((HB.out.cell (World.block_lt_of_cell? w _ HP0_3.out)).trans HP0_3.out), ((HB.out.cell (World.block_lt_of_cell? w _ HP0_4.out)).trans HP0_4.out), ((HB.out.cell (World.block_lt_of_cell? w _ HP0_5.out)).trans HP0_5.out), ((HB.out.cell (World.block_lt_of_cell? w _ HP0_6.out)).trans HP0_6.out), ((HB.out.cell (World.block_lt_of_cell? w _ HP0_0.out)).trans HP0_0.out), ((HB.out.cell (World.block_lt_of_cell? w _ HP0_1.out)).trans HP0_1.out), ((HB.out.cell (World.block_lt_of_cell? w _ HP0_2.out)).trans HP0_2.out), ((HB.out.cell (World.block_lt_of_cell? w _ HP0_3.out)).trans HP0_3.out), ((HB.out.cell (World.block_lt_of_cell? w _ HP0_4.out)).trans HP0_4.out), ((HB.out.cell (World.block_lt_of_cell? w _ HP0_5.out)).trans HP0_5.out), ((HB.out.cell (World.block_lt_of_cell? w _ HP0_6.out)).trans HP0_6.out), ((HB.out.cell (World.block_lt_of_cell? w _ HP0_0.out)).trans HP0_0.out), ((HB.out.cell (World.block_lt_of_cell? w _ HP0_1.out)).trans HP0_1.out), ((HB.out.cell (World.block_lt_of_cell? w _ HP0_2.out)).trans HP0_2.out), ((HB.out.cell (World.block_lt_of_cell? w _ HP0_3.out)).trans HP0_3.out), ((HB.out.cell (World.block_lt_of_cell? w _ HP0_4.out)).trans HP0_4.out), ((HB.out.cell (World.block_lt_of_cell? w _ HP0_5.out)).trans HP0_5.out), ((HB.out.cell (World.block_lt_of_cell? w _ HP0_6.out)).trans HP0_6.out)⟩ (fun hHeld => ?_)
                  clear hK K
                  refine norm_ (a' := ?_) ?_ ?_
                  rotate_left
                  · show Act.put _ (some 42) _ = _
                    simp only [Act.put, List.setIfInBounds_toArray, List.set_cons_zero, List.set_cons_succ, i64_w, i32_w]
                    rfl
                  refine pure_ (i := 17) (N := some 43) (v := ?_) (a' := ?_) #[true, true, true, true, true, true, true, true, true, true, true, true, true, true, true, true, true, true, false] rfl rfl (any_of HT_.out (by kernel_rfl)) (fun _ _ _ h => h) (Or.inl ⟨by first | rfl | (simp [Region.wanted, yielded, *]; done) | (simp [Region.wanted, yielded, Int.tmod_eq_emod_of_nonneg (Int.natCast_nonneg _), *]; done) | (simp [Region.wanted, yielded]; omega), ?_⟩) ?_ ?_
                  rotate_left
                  · intro w'
                    go_simp
                    with_reducible rfl
                  rotate_left
                  · simp only [Act.put, List.setIfInBounds_toArray, List.set_cons_zero, List.set_cons_succ, i64_w, i32_w]
                    rfl
                  refine one_ (i := 18) (N := none) #[true, true, true, true, true, true, true, true, true, true, true, true, true, true, true, true, true, true, true] rfl rfl (one_of HT_.out (by kernel_rfl)) (by decide) (fun K hK => ?_)
                  have hs36 : w33.cell? ⟨gb135, 2, none⟩ = some (.slice none 0 0) := (blk_cell BK135.out 2).trans rfl
                  have hfs36 := blk_frozen BK135.out 2
                  have hns36_0 := NB134_135.out
                  have hms36_0 := NB135_134.out
                  refine skip_ (w1 := ?_) (by rfl) rfl ?_ ?_
                  rotate_left
                  · go_simp
                    rfl
                  refine hK.out _ _ ⟨((cell_far (p := ⟨gb135, _, none⟩) (by first | exact Nat.ne_of_lt (Nat.lt_of_lt_of_le (World.block_lt_of_cell? _ _ HP0_0.out) GW135.out) | (rw [add_block]; exact Nat.ne_of_lt (Nat.lt_of_lt_of_le (World.block_lt_of_cell? _ _ HP0_0.out) GW135.out)) | (show (Addr.add _ _).block ≠ _; rw [add_block]; exact Nat.ne_of_lt (Nat.lt_of_lt_of_le (World.block_lt_of_cell? _ _ HP0_0.out) GW135.out)) | (dsimp only; exact Nat.ne_of_lt (Nat.lt_of_lt_of_le (World.block_lt_of_cell? _ _ HP0_0.out) GW135.out))) _).trans (hHeld.1)), ((cell_far (p := ⟨gb135, _, none⟩) (by first | exact Nat.ne_of_lt (Nat.lt_of_lt_of_le (World.block_lt_of_cell? _ _ HP0_1.out) GW135.out) | (rw [add_block]; exact Nat.ne_of_lt (Nat.lt_of_lt_of_le (World.block_lt_of_cell? _ _ HP0_1.out) GW135.out)) | (show (Addr.add _ _).block ≠ _; rw [add_block]; exact Nat.ne_of_lt (Nat.lt_of_lt_of_le (World.block_lt_of_cell? _ _ HP0_1.out) GW135.out)) | (dsimp only; exact Nat.ne_of_lt (Nat.lt_of_lt_of_le (World.block_lt_of_cell? _ _ HP0_1.out) GW135.out))) _).trans (hHeld.2.1)), ((cell_far (p := ⟨gb135, _, none⟩) (by first | exact Nat.ne_of_lt (Nat.lt_of_lt_of_le (World.block_lt_of_cell? _ _ HP0_2.out) GW135.out) | (rw [add_block]; exact Nat.ne_of_lt (Nat.lt_of_lt_of_le (World.block_lt_of_cell? _ _ HP0_2.out) GW135.out)) | (show (Addr.add _ _).block ≠ _; rw [add_block]; exact Nat.ne_of_lt (Nat.lt_of_lt_of_le (World.block_lt_of_cell? _ _ HP0_2.out) GW135.out)) | (dsimp only; exact Nat.ne_of_lt (Nat.lt_of_lt_of_le (World.block_lt_of_cell? _ _ HP0_2.out) GW135.out))) _).trans (hHeld.2.2.1)), ((cell_far (p := ⟨gb135, _, none⟩) (by first | exact Nat.ne_of_lt (Nat.lt_of_lt_of_le (World.block_lt_of_cell? _ _ HP0_3.out) GW135.out) | (rw [add_block]; exact Nat.ne_of_lt (Nat.lt_of_lt_of_le (World.block_lt_of_cell? _ _ HP0_3.out) GW135.out)) | (show (Addr.add _ _).block ≠ _; rw [add_block]; exact Nat.ne_of_lt (Nat.lt_of_lt_of_le (World.block_lt_of_cell? _ _ HP0_3.out) GW135.out)) | (dsimp only; exact Nat.ne_of_lt (Nat.lt_of_lt_of_le (World.block_lt_of_cell? _ _ HP0_3.out) GW135.out))) _).trans (hHeld.2.2.2.1)), ((cell_far (p := ⟨gb135, _, none⟩) (by first | exact Nat.ne_of_lt (Nat.lt_of_lt_of_le (World.block_lt_of_cell? _ _ HP0_4.out) GW135.out) | (rw [add_block]; exact Nat.ne_of_lt (Nat.lt_of_lt_of_le (World.block_lt_of_cell? _ _ HP0_4.out) GW135.out)) | (show (Addr.add _ _).block ≠ _; rw [add_block]; exact Nat.ne_of_lt (Nat.lt_of_lt_of_le (World.block_lt_of_cell? _ _ HP0_4.out) GW135.out)) | (dsimp only; exact Nat.ne_of_lt (Nat.lt_of_lt_of_le (World.block_lt_of_cell? _ _ HP0_4.out) GW135.out))) _).trans (hHeld.2.2.2.2.1)), ((cell_far (p := ⟨gb135, _, none⟩) (by first | exact Nat.ne_of_lt (Nat.lt_of_lt_of_le (World.block_lt_of_cell? _ _ HP0_5.out) GW135.out) | (rw [add_block]; exact Nat.ne_of_lt (Nat.lt_of_lt_of_le (World.block_lt_of_cell? _ _ HP0_5.out) GW135.out)) | (show (Addr.add _ _).block ≠ _; rw [add_block]; exact Nat.ne_of_lt (Nat.lt_of_lt_of_le (World.block_lt_of_cell? _ _ HP0_5.out) GW135.out)) | (dsimp only; exact Nat.ne_of_lt (Nat.lt_of_lt_of_le (World.block_lt_of_cell? _ _ HP0_5.out) GW135.out))) _).trans (hHeld.2.2.2.2.2.1)), ((cell_far (p := ⟨gb135, _, none⟩) (by first | exact Nat.ne_of_lt (Nat.lt_of_lt_of_le (World.block_lt_of_cell? _ _ HP0_6.out) GW135.out) | (rw [add_block]; exact Nat.ne_of_lt (Nat.lt_of_lt_of_le (World.block_lt_of_cell? _ _ HP0_6.out) GW135.out)) | (show (Addr.add _ _).block ≠ _; rw [add_block]; exact Nat.ne_of_lt (Nat.lt_of_lt_of_le (World.block_lt_of_cell? _ _ HP0_6.out) GW135.out)) | (dsimp only; exact Nat.ne_of_lt (Nat.lt_of_lt_of_le (World.block_lt_of_cell? _ _ HP0_6.out) GW135.out))) _).trans (hHeld.2.2.2.2.2.2.1)), ((cell_far (p := ⟨gb135, _, none⟩) (by first | exact Nat.ne_of_lt (Nat.lt_of_lt_of_le (World.block_lt_of_cell? _ _ HP0_0.out) GW135.out) | (rw [add_block]; exact Nat.ne_of_lt (Nat.lt_of_lt_of_le (World.block_lt_of_cell? _ _ HP0_0.out) GW135.out)) | (show (Addr.add _ _).block ≠ _; rw [add_block]; exact Nat.ne_of_lt (Nat.lt_of_lt_of_le (World.block_lt_of_cell? _ _ HP0_0.out) GW135.out)) | (dsimp only; exact Nat.ne_of_lt (Nat.lt_of_lt_of_le (World.block_lt_of_cell? _ _ HP0_0.out) GW135.out))) _).trans (hHeld.2.2.2.2.2.2.2.1)), ((cell_far (p := ⟨gb135, _, none⟩) (by first | exact Nat.ne_of_lt (Nat.lt_of_lt_of_le (World.block_lt_of_cell? _ _ HP0_1.out) GW135.out) | (rw [add_block]; exact Nat.ne_of_lt (Nat.lt_of_lt_of_le (World.block_lt_of_cell? _ _ HP0_1.out) GW135.out)) | (show (Addr.add _ _).block ≠ _; rw [add_block]; exact Nat.ne_of_lt (Nat.lt_of_lt_of_le (World.block_lt_of_cell? _ _ HP0_1.out) GW135.out)) | (dsimp only; exact Nat.ne_of_lt (Nat.lt_of_lt_of_le (World.block_lt_of_cell? _ _ HP0_1.out) GW135.out))) _).trans (hHeld.2.2.2.2.2.2.2.2.1)), ((cell_far (p := ⟨gb135, _, none⟩) (by first | exact Nat.ne_of_lt (Nat.lt_of_lt_of_le (World.block_lt_of_cell? _ _ HP0_2.out) GW135.out) | (rw [add_block]; exact Nat.ne_of_lt (Nat.lt_of_lt_of_le (World.block_lt_of_cell? _ _ HP0_2.out) GW135.out)) | (show (Addr.add _ _).block ≠ _; rw [add_block]; exact Nat.ne_of_lt (Nat.lt_of_lt_of_le (World.block_lt_of_cell? _ _ HP0_2.out) GW135.out)) | (dsimp only; exact Nat.ne_of_lt (Nat.lt_of_lt_of_le (World.block_lt_of_cell? _ _ HP0_2.out) GW135.out))) _).trans (hHeld.2.2.2.2.2.2.2.2.2.1)), ((cell_far (p := ⟨gb135, _, none⟩) (by first | exact Nat.ne_of_lt (Nat.lt_of_lt_of_le (World.block_lt_of_cell? _ _ HP0_3.out) GW135.out) | (rw [add_block]; exact Nat.ne_of_lt (Nat.lt_of_lt_of_le (World.block_lt_of_cell? _ _ HP0_3.out) GW135.out)) | (show (Addr.add _ _).block ≠ _; rw [add_block]; exact Nat.ne_of_lt (Nat.lt_of_lt_of_le (World.block_lt_of_cell? _ _ HP0_3.out) GW135.out)) | (dsimp only; exact Nat.ne_of_lt (Nat.lt_of_lt_of_le (World.block_lt_of_cell? _ _ HP0_3.out) GW135.out))) _).trans (hHeld.2.2.2.2.2.2.2.2.2.2.1)), ((cell_far (p := ⟨gb135, _, none⟩) (by first | exact Nat.ne_of_lt (Nat.lt_of_lt_of_le (World.block_lt_of_cell? _ _ HP0_4.out) GW135.out) | (rw [add_block]; exact Nat.ne_of_lt (Nat.lt_of_lt_of_le (World.block_lt_of_cell? _ _ HP0_4.out) GW135.out)) | (show (Addr.add _ _).block ≠ _; rw [add_block]; exact Nat.ne_of_lt (Nat.lt_of_lt_of_le (World.block_lt_of_cell? _ _ HP0_4.out) GW135.out)) | (dsimp only; exact Nat.ne_of_lt (Nat.lt_of_lt_of_le (World.block_lt_of_cell? _ _ HP0_4.out) GW135.out))) _).trans (hHeld.2.2.2.2.2.2.2.2.2.2.2.1)), ((cell_far (p := ⟨gb135, _, none⟩) (by first | exact Nat.ne_of_lt (Nat.lt_of_lt_of_le (World.block_lt_of_cell? _ _ HP0_5.out) GW135.out) | (rw [add_block]; exact Nat.ne_of_lt (Nat.lt_of_lt_of_le (World.block_lt_of_cell? _ _ HP0_5.out) GW135.out)) | (show (Addr.add _ _).block ≠ _; rw [add_block]; exact Nat.ne_of_lt (Nat.lt_of_lt_of_le (World.block_lt_of_cell? _ _ HP0_5.out) GW135.out)) | (dsimp only; exact Nat.ne_of_lt (Nat.lt_of_lt_of_le (World.block_lt_of_cell? _ _ HP0_5.out) GW135.out))) _).trans (hHeld.2.2.2.2.2.2.2.2.2.2.2.2.1)), ((cell_far (p := ⟨gb135, _, none⟩) (by first | exact Nat.ne_of_lt (Nat.lt_of_lt_of_le (World.block_lt_of_cell? _ _ HP0_6.out) GW135.out) | (rw [add_block]; exact Nat.ne_of_lt (Nat.lt_of_lt_of_le (World.block_lt_of_cell? _ _ HP0_6.out) GW135.out)) | (show (Addr.add _ _).block ≠ _; rw [add_block]; exact Nat.ne_of_lt (Nat.lt_of_lt_of_le (World.block_lt_of_cell? _ _ HP0_6.out) GW135.out)) | (dsimp only; exact Nat.ne_of_lt (Nat.lt_of_lt_of_le (World.block_lt_of_cell? _ _ HP0_6.out) GW135.out))) _).trans (hHeld.2.2.2.2.2.2.2.2.2.2.2.2.2.1)), ((cell_far (p := ⟨gb135, _, none⟩) (by first | exact Nat.ne_of_lt (Nat.lt_of_lt_of_le (World.block_lt_of_cell? _ _ HP0_0.out) GW135.out) | (rw [add_block]; exact Nat.ne_of_lt (Nat.lt_of_lt_of_le (World.block_lt_of_cell? _ _ HP0_0.out) GW135.out)) | (show (Addr.add _ _).block ≠ _; rw [add_block]; exact Nat.ne_of_lt (Nat.lt_of_lt_of_le (World.block_lt_of_cell? _ _ HP0_0.out) GW135.out)) | (dsimp only; exact Nat.ne_of_lt (Nat.lt_of_lt_of_le (World.block_lt_of_cell? _ _ HP0_0.out) GW135.out))) _).trans (hHeld.2.2.2.2.2.2.2.2.2.2.2.2.2.2.1)), ((cell_far (p := ⟨gb135, _, none⟩) (by first | exact Nat.ne_of_lt (Nat.lt_of_lt_of_le (World.block_lt_of_cell? _ _ HP0_1.out) GW135.out) | (rw [add_block]; exact Nat.ne_of_lt (Nat.lt_of_lt_of_le (World.block_lt_of_cell? _ _ HP0_1.out) GW135.out)) | (show (Addr.add _ _).block ≠ _; rw [add_block]; exact Nat.ne_of_lt (Nat.lt_of_lt_of_le (World.block_lt_of_cell? _ _ HP0_1.out) GW135.out)) | (dsimp only; exact Nat.ne_of_lt (Nat.lt_of_lt_of_le (World.block_lt_of_cell? _ _ HP0_1.out) GW135.out))) _).trans (hHeld.2.2.2.2.2.2.2.2.2.2.2.2.2.2.2.1)), ((cell_far (p := ⟨gb135, _, none⟩) (by first | exact Nat.ne_of_lt (Nat.lt_of_lt_of_le (World.block_lt_of_cell? _ _ HP0_2.out) GW135.out) | (rw [add_block]; exact Nat.ne_of_lt (Nat.lt_of_lt_of_le (World.block_lt_of_cell? _ _ HP0_2.out) GW135.out)) | (show (Addr.add _ _).block ≠ _; rw [add_block]; exact Nat.ne_of_lt (Nat.lt_of_lt_of_le (World.block_lt_of_cell? _ _ HP0_2.out) GW135.out)) | (dsimp only; exact Nat.ne_of_lt (Nat.lt_of_lt_of_le (World.block_lt_of_cell? _ _ HP0_2.out) GW135.out))) _).trans (hHeld.2.2.2.2.2.2.2.2.2.2.2.2.2.2.2.2.1)), ((cell_far (p := ⟨gb135, _, none⟩) (by first | exact Nat.ne_of_lt (Nat.lt_of_lt_of_le (World.block_lt_of_cell? _ _ HP0_3.out) GW135.out) | (rw [add_block]; exact Nat.ne_of_lt (Nat.lt_of_lt_of_le (World.block_lt_of_cell? _ _ HP0_3.out) GW135.out)) | (show (Addr.add _ _).block ≠ _; rw [add_block]; exact Nat.ne_of_lt (Nat.lt_of_lt_of_le (World.block_lt_of_cell? _ _ HP0_3.out) GW135.out)) | (dsimp only; exact Nat.ne_of_lt (Nat.lt_of_lt_of_le (World.block_lt_of_cell? _ _ HP0_3.out) GW135.out))) _).trans (hHeld.2.2.2.2.2.2.2.2.2.2.2.2.2.2.2.2.2.1)), ((cell_far (p := ⟨gb135, _, none⟩) (by first | exact Nat.ne_of_lt (Nat.lt_of_lt_of_le (World.block_lt_of_cell? _ _ HP0_4.out) GW135.out) | (rw [add_block]; exact Nat.ne_of_lt (Nat.lt_of_lt_of_le (World.block_lt_of_cell? _ _ HP0_4.out) GW135.out)) | (show (Addr.add _ _).block ≠ _; rw [add_block]; exact Nat.ne_of_lt (Nat.lt_of_lt_of_le (World.block_lt_of_cell? _ _ HP0_4.out) GW135.out)) | (dsimp only; exact Nat.ne_of_lt (Nat.lt_of_lt_of_le (World.block_lt_of_cell? _ _ HP0_4.out) GW135.out))) _).trans (hHeld.2.2.2.2.2.2.2.2.2.2.2.2.2.2.2.2.2.2.1)), ((cell_far (p := ⟨gb135, _, none⟩) (by first | exact Nat.ne_of_lt (Nat.lt_of_lt_of_le (World.block_lt_of_cell? _ _ HP0_5.out) GW135.out) | (rw [add_block]; exact Nat.ne_of_lt (Nat.lt_of_lt_of_le (World.block_lt_of_cell? _ _ HP0_5.out) GW135.out)) | (show (Addr.add _ _).block ≠ _; rw [add_block]; exact Nat.ne_of_lt (Nat.lt_of_lt_of_le (World.block_lt_of_cell? _ _ HP0_5.out) GW135.out)) | (dsimp only; exact Nat.ne_of_lt (Nat.lt_of_lt_of_le (World.block_lt_of_cell? _ _ HP0_5.out) GW135.out))) _).trans (hHeld.2.2.2.2.2.2.2.2.2.2.2.2.2.2.2.2.2.2.2.1)), ((cell_far (p := ⟨gb135, _, none⟩) (by first | exact Nat.ne_of_lt (Nat.lt_of_lt_of_le (World.block_lt_of_cell? _ _ HP0_6.out) GW135.out) | (rw [add_block]; exact Nat.ne_of_lt (Nat.lt_of_lt_of_le (World.block_lt_of_cell? _ _ HP0_6.out) GW135.out)) | (show (Addr.add _ _).block ≠ _; rw [add_block]; exact Nat.ne_of_lt (Nat.lt_of_lt_of_le (World.block_lt_of_cell? _ _ HP0_6.out) GW135.out)) | (dsimp only; exact Nat.ne_of_lt (Nat.lt_of_lt_of_le (World.block_lt_of_cell? _ _ HP0_6.out) GW135.out))) _).trans (hHeld.2.2.2.2.2.2.2.2.2.2.2.2.2.2.2.2.2.2.2.2))⟩ (fun hHeld => ?_)
                  clear hK K
                  refine done_ (done_of HT_.out (by kernel_rfl)) ?_
                  try go_wp2
                  have n0_ : Aside0 (Kd.R (Kd.int .u8) 5 (w33.setCell ⟨gb135, 2, none⟩ (.slice Ao35 y148.length co35)) w.heap.size (fun k_ => some k_ ≠ (.slice Ao34 t145.length co34 : Value).ownBlock ∧ some k_ ≠ (.slice Ao35 y148.length co35 : Value).ownBlock) (.slice Ao31 t139.length co31) t139) := ⟨by (with_reducible repeat (first | apply Kd.R_alloc | apply Kd.R_drewN | apply Kd.R_drew)); exact Kd.R_mono (Kd.R_far (p := ⟨gb135, 2, none⟩) (Kd.R_types HO141.out BK135.out (by decide)) (fun _ hk => hk.2) (.slice Ao35 y148.length co35)) (fun _ hk => ⟨hk.1.1, hk.1.2⟩)⟩
                  have n1_ : Aside0 (Kd.R (Kd.int .u8) 5 (w33.setCell ⟨gb135, 2, none⟩ (.slice Ao35 y148.length co35)) w.heap.size (fun k_ => some k_ ≠ (.slice Ao31 t139.length co31 : Value).ownBlock ∧ some k_ ≠ (.slice Ao35 y148.length co35 : Value).ownBlock) (.slice Ao34 t145.length co34) t145) := ⟨by (with_reducible repeat (first | apply Kd.R_alloc | apply Kd.R_drewN | apply Kd.R_drew)); exact Kd.R_mono (Kd.R_far (p := ⟨gb135, 2, none⟩) (Kd.R_types HO147.out BK135.out (by decide)) (fun _ hk => hk.2) (.slice Ao35 y148.length co35)) (fun _ hk => ⟨hk.1.1, hk.1.2⟩)⟩
                  have n2_ : Aside0 (Kd.R (Kd.int .u8) 5 (w33.setCell ⟨gb135, 2, none⟩ (.slice Ao35 y148.length co35)) w.heap.size (fun k_ => some k_ ≠ (.slice Ao31 t139.length co31 : Value).ownBlock ∧ some k_ ≠ (.slice Ao34 t145.length co34 : Value).ownBlock) (.slice Ao35 y148.length co35) y148) := ⟨by (with_reducible repeat (first | apply Kd.R_alloc | apply Kd.R_drewN | apply Kd.R_drew)); exact Kd.R_mono (Kd.R_far (p := ⟨gb135, 2, none⟩) (Kd.R_types HO150.out BK135.out (by decide)) (fun _ hk => hk.2) (.slice Ao35 y148.length co35)) (fun _ hk => ⟨hk.1.1, hk.1.2⟩)⟩
                  have n3_ : Aside0 ((w33.setCell ⟨gb135, 2, none⟩ (.slice Ao35 y148.length co35)).heap[gb134]? = some (.cells #[.int .i64 0, .int .i64 0, .slice none 0 0] 27 (0, 0))) := ⟨by (with_reducible repeat (first | refine blk_drewN ?_ _ | refine blk_drew ?_ | refine blk_alloc ?_ _)); refine blk_far ?_ NB134_135.out _; (with_reducible repeat (first | refine blk_drewN ?_ _ | refine blk_drew ?_ | refine blk_alloc ?_ _)); exact BK134.out⟩
                  have n4_ : Aside0 ((w33.setCell ⟨gb135, 2, none⟩ (.slice Ao35 y148.length co35)).heap[gb135]? = some (.cells #[.int .i64 0, .int .i64 (wrap64 (x136001_10 + 4)), .slice Ao35 y148.length co35] 27 (0, 0))) := ⟨by (with_reducible repeat (first | refine blk_drewN ?_ _ | refine blk_drew ?_ | refine blk_alloc ?_ _)); refine blk_put (cs := #[.int .i64 0, .int .i64 (wrap64 (x136001_10 + 4)), .slice none 0 0]) ?_ 2 _ rfl; (with_reducible repeat (first | refine blk_drewN ?_ _ | refine blk_drew ?_ | refine blk_alloc ?_ _)); exact BK135.out⟩
                  have n5_ : Aside0 (Below w.heap.size w (w33.setCell ⟨gb135, 2, none⟩ (.slice Ao35 y148.length co35))) := ⟨by repeat (first | (with_reducible first | exact HB.out | apply below_alloc | apply pw_below_drewN | apply below_drew1 | refine below_set ?_ GE134.out | refine below_set ?_ GE135.out) | exact HB.out)⟩
                  (try clear HO141)
                  (try clear HO147)
                  (try clear HO150)
                  (try clear BK134)
                  (try clear BK135)
                  (try clear HB)
                  generalize (w33.setCell ⟨gb135, 2, none⟩ (.slice Ao35 y148.length co35)) = w37 at n0_ n1_ n2_ n3_ n4_ n5_ ⊢
                  have HO141 := n0_
                  have HO147 := n1_
                  have HO150 := n2_
                  have BK134 := n3_
                  have BK135 := n4_
                  have HB := n5_
                  clear n0_ n1_ n2_ n3_ n4_ n5_
                  have n0_ := Aside0.mk (Kd.R_drew HO141.out)
                  have n1_ := Aside0.mk (Kd.R_drew HO147.out)
                  have n2_ := Aside0.mk (Kd.R_drew HO150.out)
                  have n3_ := Aside0.mk (blk_drew BK134.out)
                  have n4_ := Aside0.mk (blk_drew BK135.out)
                  have n5_ := Aside0.mk (below_drew1 HB.out)
                  clear HO141
                  clear HO147
                  clear HO150
                  clear BK134
                  clear BK135
                  clear HB
                  have HO141 := n0_
                  have HO147 := n1_
                  have HO150 := n2_
                  have BK134 := n3_
                  have BK135 := n4_
                  have HB := n5_
                  clear n0_ n1_ n2_ n3_ n4_ n5_
                  refine start_ (n := 9) (S := fun w' => w'.cell? ⟨gb135, 0, none⟩ = some (.int .i64 0) ∧ w'.cell? ⟨gb135, 1, none⟩ = some (.int .i64 (wrap64 (x136001_10 + 4))) ∧ w'.cell? ⟨gb135, 2, none⟩ = some (.slice Ao35 y148.length co35) ∧ w'.cell? P0_ = some (.int .i64 a0_0) ∧ w'.cell? ⟨P0_.block, P0_.off + 1, none⟩ = some (.int .i64 a0_1) ∧ w'.cell? ⟨P0_.block, P0_.off + 2, none⟩ = some (.int .i64 a0_2) ∧ w'.cell? ⟨P0_.block, P0_.off + 3, none⟩ = some (.bool a0_3) ∧ w'.cell? ⟨P0_.block, P0_.off + 4, none⟩ = some (.bool a0_4) ∧ w'.cell? ⟨P0_.block, P0_.off + 5, none⟩ = some (.bool true) ∧ w'.cell? ⟨P0_.block, P0_.off + 6, none⟩ = some (.slice A0_6 l0_6.length c0_6)) (ds := [8]) #[false, false, false, false, false, false, false, false, false] (by kernel_rfl) rfl rfl ⟨(blk_cell BK135.out 0).trans rfl, (blk_cell BK135.out 1).trans rfl, (blk_cell BK135.out 2).trans rfl, ((HB.out.cell (World.block_lt_of_cell? w _ HP0_0.out)).trans HP0_0.out), ((HB.out.cell (World.block_lt_of_cell? w _ HP0_1.out)).trans HP0_1.out), ((HB.out.cell (World.block_lt_of_cell? w _ HP0_2.out)).trans HP0_2.out), ((HB.out.cell (World.block_lt_of_cell? w _ HP0_3.out)).trans HP0_3.out), ((HB.out.cell (World.block_lt_of_cell? w _ HP0_4.out)).trans HP0_4.out), ((HB.out.cell (World.block_lt_of_cell? w _ HP0_5.out)).trans HP0_5.out), ((HB.out.cell (World.block_lt_of_cell? w _ HP0_6.out)).trans HP0_6.out)⟩ (fun hHeld => ?_); refine with_tabW spec_l5Data.tab9 spec_l5Data.bits9 (fun HT_ HW_ => ?_)
                  generalize w37.drew = w38 at HO141 HO147 HO150 BK134 BK135 HB hHeld ⊢
                  refine pure_ (i := 0) (N := some 44) (v := ?_) (a' := ?_) #[true, false, false, false, false, false, false, false, false] rfl rfl (any_of HT_.out (by kernel_rfl)) (fun _ _ _ h => h) (Or.inl ⟨by first | rfl | (simp [Region.wanted, yielded, *]; done) | (simp [Region.wanted, yielded, Int.tmod_eq_emod_of_nonneg (Int.natCast_nonneg _), *]; done) | (simp [Region.wanted, yielded]; omega), ?_⟩) ?_ ?_
                  rotate_left
                  · intro w'
                    go_simp
                    with_reducible rfl
                  rotate_left
                  · simp only [Act.put, List.setIfInBounds_toArray, List.set_cons_zero, List.set_cons_succ, i64_w, i32_w]
                    rfl
                  refine pure_ (i := 2) (N := some 46) (v := ?_) (a' := ?_) #[true, false, true, false, false, false, false, false, false] rfl rfl (any_of HT_.out (by kernel_rfl)) (fun _ _ _ h => h) (Or.inl ⟨by first | rfl | (simp [Region.wanted, yielded, *]; done) | (simp [Region.wanted, yielded, Int.tmod_eq_emod_of_nonneg (Int.natCast_nonneg _), *]; done) | (simp [Region.wanted, yielded]; omega), ?_⟩) ?_ ?_
                  rotate_left
                  · intro w'
                    go_simp
                    with_reducible rfl
                  rotate_left
                  · simp only [Act.put, List.setIfInBounds_toArray, List.set_cons_zero, List.set_cons_succ, i64_w, i32_w]
                    rfl
                  refine pure_ (i := 3) (N := some 47) (v := ?_) (a' := ?_) #[true, false, true, true, false, false, false, false, false] rfl rfl (any_of HT_.out (by kernel_rfl)) (fun _ _ _ h => h) (Or.inl ⟨by first | rfl | (simp [Region.wanted, yielded, *]; done) | (simp [Region.wanted, yielded, Int.tmod_eq_emod_of_nonneg (Int.natCast_nonneg _), *]; done) | (simp [Region.wanted, yielded]; omega), ?_⟩) ?_ ?_
                  rotate_left
                  · intro w'
                    go_simp
                    with_reducible rfl
                  rotate_left
                  · simp only [Act.put, List.setIfInBounds_toArray, List.set_cons_zero, List.set_cons_succ, i64_w, i32_w]
                    rfl
                  refine pure_ (i := 4) (N := some 48) (v := ?_) (a' := ?_) #[true, false, true, true, true, false, false, false, false] rfl rfl (any_of HT_.out (by kernel_rfl)) (fun _ _ _ h => h) (Or.inl ⟨by first | rfl | (simp [Region.wanted, yielded, *]; done) | (simp [Region.wanted, yielded, Int.tmod_eq_emod_of_nonneg (Int.natCast_nonneg _), *]; done) | (simp [Region.wanted, yielded]; omega), ?_⟩) ?_ ?_
                  rotate_left
                  · intro w'
                    go_simp
                    with_reducible rfl
                  rotate_left
                  · simp only [Act.put, List.setIfInBounds_toArray, List.set_cons_zero, List.set_cons_succ, i64_w, i32_w]
                    rfl
                  refine take_ (i := 1) (N := some 45) (v := ?_) (a' := ?_) #[true, true, true, true, true, false, false, false, false] rfl rfl (take_ofW HT_.out HW_.out (by kernel_rfl)) (fun _ _ _ h => h) (Or.inl ⟨by first | rfl | (simp [Region.wanted, yielded, *]; done) | (simp [Region.wanted, yielded, Int.tmod_eq_emod_of_nonneg (Int.natCast_nonneg _), *]; done) | (simp [Region.wanted, yielded]; omega), ?_⟩) hHeld ?_ ?_
                  rotate_left
                  · rintro w' ⟨s0, s1, s2, s3, s4, s5, s6, s7, s8, s9⟩
                    go_simp
                    with_reducible rfl
                  rotate_left
                  · simp only [Act.put, List.setIfInBounds_toArray, List.set_cons_zero, List.set_cons_succ, i64_w, i32_w]
                    rfl
                  refine take_ (i := 5) (N := some 49) (v := ?_) (a' := ?_) #[true, true, true, true, true, true, false, false, false] rfl rfl (take_ofW HT_.out HW_.out (by kernel_rfl)) (fun _ _ _ h => h) (Or.inl ⟨by first | rfl | (simp [Region.wanted, yielded, *]; done) | (simp [Region.wanted, yielded, Int.tmod_eq_emod_of_nonneg (Int.natCast_nonneg _), *]; done) | (simp [Region.wanted, yielded]; omega), ?_⟩) hHeld ?_ ?_
                  rotate_left
                  · rintro w' ⟨s0, s1, s2, s3, s4, s5, s6, s7, s8, s9⟩
                    go_simp
                    with_reducible rfl
                  rotate_left
                  · simp only [Act.put, List.setIfInBounds_toArray, List.set_cons_zero, List.set_cons_succ, i64_w, i32_w]
                    rfl
                  refine one_ (i := 6) (N := some 50) #[true, true, true, true, true, true, true, false, false] rfl rfl (one_of HT_.out (by kernel_rfl)) (by decide) (fun K hK => ?_)
                  refine Kd.R_append_rows_step (Kd.int .u8) (w0 := w) w.heap.size (by rfl) (.tmp 45) (.tmp 49) 22 5 (.int .u8 0) 1 rfl Try.underlying22 info5 rfl (by decide) (by omega) (.slice Ao35 y148.length co35) y148 l0_6 _ _ _ (fun k_ => some k_ ≠ (.slice Ao31 t139.length co31 : Value).ownBlock ∧ some k_ ≠ (.slice Ao34 t145.length co34 : Value).ownBlock) (fun _ => False) rfl rfl ?aO ?aR (fun _ _ h => h) (fun _ h => h.elim) ?aF ?aB ?aS ?aL ?_
                  (case aR => repeat (first | exact (Kd.C_below HR0_6.out HB.out) | (with_reducible refine Kd.C_alloc ?_ _) | (with_reducible refine Kd.C_drewN ?_ _) | (with_reducible refine Kd.C_drew ?_)))
                  (case aB => exact (by repeat (first | (with_reducible first | exact HB.out | apply below_alloc | apply pw_below_drewN | apply below_drew1 | refine below_set ?_ GE134.out | refine below_set ?_ GE135.out) | exact HB.out)))
                  (case aF => exact (fun k_ hk => ⟨Kd.fresh' (Kd.R_lt (by (with_reducible repeat (first | apply Kd.R_alloc | apply Kd.R_drewN | apply Kd.R_drew)); exact HO141.out)) k_ hk, Kd.fresh' (Kd.R_lt (by (with_reducible repeat (first | apply Kd.R_alloc | apply Kd.R_drewN | apply Kd.R_drew)); exact HO147.out)) k_ hk⟩))
                  (case aO => exact (by (with_reducible repeat (first | apply Kd.R_alloc | apply Kd.R_drewN | apply Kd.R_drew)); exact HO150.out))
                  (case aS => exact (below_size (by repeat (first | (with_reducible first | exact HB.out | apply below_alloc | apply pw_below_drewN | apply below_drew1 | refine below_set ?_ GE134.out | refine below_set ?_ GE135.out) | exact HB.out))))
                  (case aL => have := LMc22.out; omega)
                  intro v152 w39 ho hb hg hat
                  rw [← Ny151.out] at ho
                  have n0_ := Aside0.mk (blk_grown (g := gb134) (o := .cells #[.int .i64 0, .int .i64 0, .slice none 0 0] 27 (0, 0)) (by (with_reducible repeat (first | refine blk_drewN ?_ _ | refine blk_drew ?_ | refine blk_alloc ?_ _)); exact BK134.out) hg (Kd.R_ne HO150.out BK134.out (by decide)))
                  have n1_ := Aside0.mk (blk_grown (g := gb135) (o := .cells #[.int .i64 0, .int .i64 (wrap64 (x136001_10 + 4)), .slice Ao35 y148.length co35] 27 (0, 0)) (by (with_reducible repeat (first | refine blk_drewN ?_ _ | refine blk_drew ?_ | refine blk_alloc ?_ _)); exact BK135.out) hg (Kd.R_ne HO150.out BK135.out (by decide)))
                  have n2_ := Aside0.mk (Kd.R_after (ok := (fun k_ => some k_ ≠ (.slice Ao34 t145.length co34 : Value).ownBlock)) (by (with_reducible repeat (first | apply Kd.R_alloc | apply Kd.R_drewN | apply Kd.R_drew)); exact HO141.out) hg hat)
                  have n3_ := Aside0.mk (Kd.R_after (ok := (fun k_ => some k_ ≠ (.slice Ao31 t139.length co31 : Value).ownBlock)) (by (with_reducible repeat (first | apply Kd.R_alloc | apply Kd.R_drewN | apply Kd.R_drew)); exact HO147.out) hg hat)
                  have n4_ := Aside0.mk (hb)
                  have n5_ := Aside0.mk (ho)
                  clear BK134
                  clear BK135
                  clear HO141
                  clear HO147
                  clear HB
                  clear HO150
                  have BK134 := n0_
                  have BK135 := n1_
                  have HO141 := n2_
                  have HO147 := n3_
                  have HB := n4_
                  have HO153 := n5_
                  clear n0_ n1_ n2_ n3_ n4_ n5_
                  clear ho hb hg hat
                  obtain ⟨Ao40, co40, eo40⟩ := Kd.R_slice HO153.out
                  (first | subst eo40 | (injection eo40 with f1_ f2_ f3_; have f4_ := f1_.symm; have f5_ := f3_.symm; clear f1_ f2_ f3_; subst f4_; subst f5_))
                  refine hK.out _ _ ⟨(blk_cell BK135.out 0).trans rfl, (blk_cell BK135.out 1).trans rfl, (blk_cell BK135.out 2).trans rfl, ((HB.out.cell (World.block_lt_of_cell? w _ HP0_0.out)).trans HP0_0.out), ((HB.out.cell (World.block_lt_of_cell? w _ HP0_1.out)).trans HP0_1.out), ((HB.out.cell (World.block_lt_of_cell? w _ HP0_2.out)).trans HP0_2.out), ((HB.out.cell (World.block_lt_of_cell? w _ HP0_3.out)).trans HP0_3.out), ((HB.out.cell (World.block_lt_of_cell? w _ HP0_4.out)).trans HP0_4.out), ((HB.out.cell (World.block_lt_of_cell? w _ HP0_5.out)).trans HP0_5.out), ((HB.out.cell (World.block_lt_of_cell? w _ HP0_6.out)).trans HP0_6.out)⟩ (fun hHeld => ?_)
                  clear hK K
                  refine norm_ (a' := ?_) ?_ ?_
                  rotate_left
                  · show Act.put _ (some 50) _ = _
                    simp only [Act.put, List.setIfInBounds_toArray, List.set_cons_zero, List.set_cons_succ, i64_w, i32_w]
                    rfl
                  refine pure_ (i := 7) (N := some 51) (v := ?_) (a' := ?_) #[true, true, true, true, true, true, true, true, false] rfl rfl (any_of HT_.out (by kernel_rfl)) (fun _ _ _ h => h) (Or.inl ⟨by first | rfl | (simp [Region.wanted, yielded, *]; done) | (simp [Region.wanted, yielded, Int.tmod_eq_emod_of_nonneg (Int.natCast_nonneg _), *]; done) | (simp [Region.wanted, yielded]; omega), ?_⟩) ?_ ?_
                  rotate_left
                  · intro w'
                    go_simp
                    with_reducible rfl
                  rotate_left
                  · simp only [Act.put, List.setIfInBounds_toArray, List.set_cons_zero, List.set_cons_succ, i64_w, i32_w]
                    rfl
                  refine last_ (i := 8) (N := none) #[true, true, true, true, true, true, true, true, true] rfl rfl (one_of HT_.out (by kernel_rfl)) (by decide) (fun K hK => ?_)
                  have hs41 : w39.cell? ⟨gb135, 2, none⟩ = some (.slice Ao35 y148.length co35) := (blk_cell BK135.out 2).trans rfl
                  have hfs41 := blk_frozen BK135.out 2
                  have hns41_0 := NB134_135.out
                  have hms41_0 := NB135_134.out
                  refine skip_ (w1 := ?_) (by rfl) rfl ?_ ?_
                  rotate_left
                  · go_simp
                    rfl
                  refine hK.out _ _ ?_
                  clear hK K
                  refine done_ (done_of HT_.out (by kernel_rfl)) ?_
                  have hcz42_0 : w39.cell? ⟨gb135, 0, none⟩ = some (.int .i64 0) := (blk_cell BK135.out 0).trans rfl
                  have hcz42_1 : w39.cell? ⟨gb135, 1, none⟩ = some (.int .i64 (wrap64 (x136001_10 + 4))) := (blk_cell BK135.out 1).trans rfl
                  have hcz42_2 : w39.cell? ⟨gb135, 2, none⟩ = some (.slice Ao35 y148.length co35) := (blk_cell BK135.out 2).trans rfl
                  have hfz42_0 := blk_frozen BK135.out 0
                  have hfz42_1 := blk_frozen BK135.out 1
                  have hfz42_2 := blk_frozen BK135.out 2
                  have hcz43_0 : w39.cell? ⟨gb134, 0, none⟩ = some (.int .i64 0) := (blk_cell BK134.out 0).trans rfl
                  have hcz43_1 : w39.cell? ⟨gb134, 1, none⟩ = some (.int .i64 0) := (blk_cell BK134.out 1).trans rfl
                  have hcz43_2 : w39.cell? ⟨gb134, 2, none⟩ = some (.slice none 0 0) := (blk_cell BK134.out 2).trans rfl
                  have hfz43_0 := blk_frozen BK134.out 0
                  have hfz43_1 := blk_frozen BK134.out 1
                  have hfz43_2 := blk_frozen BK134.out 2
                  try go_wp2
                  refine bodyPost_ret (results_cell_row rfl _ _ gb134 27 #[.int .i64 0, .int .i64 (wrap64 (x136001_10 + 4)), .slice Ao40 y151.length co40] (0, 0) _ rfl (by (with_reducible repeat (first | refine blk_drewN ?_ _ | refine blk_drew ?_ | refine blk_alloc ?_ _)); refine blk_put (cs := #[.int .i64 0, .int .i64 (wrap64 (x136001_10 + 4)), .slice none 0 0]) ?_ 2 _ rfl; (with_reducible repeat (first | refine blk_drewN ?_ _ | refine blk_drew ?_ | refine blk_alloc ?_ _)); refine blk_put (cs := #[.int .i64 0, .int .i64 0, .slice none 0 0]) ?_ 1 _ rfl; (with_reducible repeat (first | refine blk_drewN ?_ _ | refine blk_drew ?_ | refine blk_alloc ?_ _)); refine blk_put (cs := #[.int .i64 0, .int .i64 0, .slice none 0 0]) ?_ 0 _ rfl; (with_reducible repeat (first | refine blk_drewN ?_ _ | refine blk_drew ?_ | refine blk_alloc ?_ _)); refine blk_far ?_ NB134_135.out _; (with_reducible repeat (first | refine blk_drewN ?_ _ | refine blk_drew ?_ | refine blk_alloc ?_ _)); exact BK134.out) Try.underlying27 rfl (by kernel_rfl)) rfl ?_
                  exact ⟨_, by first | rfl | (simp [errW_none, errW_some] <;> rfl) | (simp [*, errW_none, errW_some] <;> rfl), by (with_reducible repeat (first | apply Kd.R_alloc | apply Kd.R_drewN | apply Kd.R_drew)); exact Kd.R_mono (Kd.R_far (p := ⟨gb134, 2, none⟩) (Kd.R_far (p := ⟨gb134, 1, none⟩) (Kd.R_far (p := ⟨gb134, 0, none⟩) (Kd.R_far (p := ⟨gb135, 2, none⟩) (Kd.R_types (Kd.R_types HO153.out BK135.out (by decide)) BK134.out (by decide)) (fun _ hk => hk.1.2) (.slice Ao40 y151.length co40)) (fun _ hk => hk.2) (.int .i64 0)) (fun _ hk => hk.2) (.int .i64 (wrap64 (x136001_10 + 4)))) (fun _ hk => hk.2) (.slice Ao40 y151.length co40)) (fun _ hk => trivial), by repeat (first | (with_reducible first | exact HB.out | apply below_alloc | apply pw_below_drewN | apply below_drew1 | refine below_set ?_ GE134.out | refine below_set ?_ GE135.out) | exact HB.out)⟩
                · rw [if_neg c22] at H
                  exact absurd H (by simp)
              · rw [if_neg c21] at H
                exact absurd H (by simp)
            · rw [if_neg c19] at H
              exact absurd H (by simp)
          · replace c16 := Bool.eq_false_iff.mpr c16
            subst c16
            have H1 : ((spec_l1Pack.f a0_0).bind fun t154 => ((spec_l1Pair.f a0_1).bind fun t157 => (if t154.length + t157.length < 140737488355328 then ((some (t154 ++ t157 : List Int)).bind fun y160 => ((spec_l1Pair.f a0_2).bind fun t163 => (if y160.length + t163.length < 140737488355328 then ((some (y160 ++ t163 : List Int)).bind fun y166 => (if y166.length + l0_6.length < 140737488355328 then (some (0, x136001_10, (y166 ++ l0_6))) else (none))) else (none)))) else (none)))) = some (r1, r2, r3) := by rw [if_neg (show ¬ (false = true) by decide)] at H; exact H
            clear H
            have H := H1
            clear H1
            replace H := Option.bind_eq_some_iff.mp H
            obtain ⟨t154, A440, H⟩ := H
            replace H : ((spec_l1Pair.f a0_1).bind fun t157 => (if t154.length + t157.length < 140737488355328 then ((some (t154 ++ t157 : List Int)).bind fun y160 => ((spec_l1Pair.f a0_2).bind fun t163 => (if y160.length + t163.length < 140737488355328 then ((some (y160 ++ t163 : List Int)).bind fun y166 => (if y166.length + l0_6.length < 140737488355328 then (some (0, x136001_10, (y166 ++ l0_6))) else (none))) else (none)))) else (none))) = some (r1, r2, r3) := H
            have A44 := Aside0.mk A440
            clear A440
            replace H := Option.bind_eq_some_iff.mp H
            obtain ⟨t157, A450, H⟩ := H
            replace H : (if t154.length + t157.length < 140737488355328 then ((some (t154 ++ t157 : List Int)).bind fun y160 => ((spec_l1Pair.f a0_2).bind fun t163 => (if y160.length + t163.length < 140737488355328 then ((some (y160 ++ t163 : List Int)).bind fun y166 => (if y166.length + l0_6.length < 140737488355328 then (some (0, x136001_10, (y166 ++ l0_6))) else (none))) else (none)))) else (none)) = some (r1, r2, r3) := H
            have A45 := Aside0.mk A450
            clear A450
            by_cases c46 : t154.length + t157.length < 140737488355328
            · rw [if_pos c46] at H
              have LMc46 := Aside0.mk c46
              clear c46
              obtain ⟨y160, hy160⟩ : ∃ y_ : List Int, y_ = (t154 ++ t157) := ⟨_, rfl⟩
              replace H : ((spec_l1Pair.f a0_2).bind fun t163 => (if y160.length + t163.length < 140737488355328 then ((some (y160 ++ t163 : List Int)).bind fun y166 => (if y166.length + l0_6.length < 140737488355328 then (some (0, x136001_10, (y166 ++ l0_6))) else (none))) else (none))) = some (r1, r2, r3) := by first | (rw [hy160]; with_reducible exact H) | (have H2_ := (Option.bind_some _ _).symm.trans H; rw [hy160]; with_reducible exact H2_) | (have H2_ := (Option.bind_some _ _).symm.trans H; with_reducible exact H2_) | with_reducible exact H | (rw [hy160]; exact H) | exact H
              have Ny160 := Aside0.mk hy160
              clear hy160
              replace H := Option.bind_eq_some_iff.mp H
              obtain ⟨t163, A470, H⟩ := H
              replace H : (if y160.length + t163.length < 140737488355328 then ((some (y160 ++ t163 : List Int)).bind fun y166 => (if y166.length + l0_6.length < 140737488355328 then (some (0, x136001_10, (y166 ++ l0_6))) else (none))) else (none)) = some (r1, r2, r3) := H
              have A47 := Aside0.mk A470
              clear A470
              by_cases c48 : y160.length + t163.length < 140737488355328
              · rw [if_pos c48] at H
                have LMc48 := Aside0.mk c48
                clear c48
                obtain ⟨y166, hy166⟩ : ∃ y_ : List Int, y_ = (y160 ++ t163) := ⟨_, rfl⟩
                replace H : (if y166.length + l0_6.length < 140737488355328 then (some (0, x136001_10, (y166 ++ l0_6))) else (none)) = some (r1, r2, r3) := by first | (rw [hy166]; with_reducible exact H) | (have H2_ := (Option.bind_some _ _).symm.trans H; rw [hy166]; with_reducible exact H2_) | (have H2_ := (Option.bind_some _ _).symm.trans H; with_reducible exact H2_) | with_reducible exact H | (rw [hy166]; exact H) | exact H
                have Ny166 := Aside0.mk hy166
                clear hy166
                by_cases c49 : y166.length + l0_6.length < 140737488355328
                · rw [if_pos c49] at H
                  have LMc49 := Aside0.mk c49
                  clear c49
                  obtain ⟨y169, hy169⟩ : ∃ y_ : List Int, y_ = (y166 ++ l0_6) := ⟨_, rfl⟩
                  replace H : (some (0, x136001_10, y169)) = some (r1, r2, r3) := by first | (rw [hy169]; with_reducible exact H) | (have H2_ := (Option.bind_some _ _).symm.trans H; rw [hy169]; with_reducible exact H2_) | (have H2_ := (Option.bind_some _ _).symm.trans H; with_reducible exact H2_) | with_reducible exact H | (rw [hy169]; exact H) | exact H
                  have Ny169 := Aside0.mk hy169
                  clear hy169
                  simp only [Option.some.injEq, Prod.mk.injEq] at H
                  obtain ⟨rfl, rfl, rfl⟩ := H
                  have hnpz50_134 := (show P0_.block ≠ gb134 from Nat.ne_of_lt (Nat.lt_of_lt_of_le (World.block_lt_of_cell? _ _ HP0_0.out) GW134.out))
                  have hnqz50_134 := hnpz50_134.symm
                  have hnpz50_135 := (show P0_.block ≠ gb135 from Nat.ne_of_lt (Nat.lt_of_lt_of_le (World.block_lt_of_cell? _ _ HP0_0.out) GW135.out))
                  have hnqz50_135 := hnpz50_135.symm
                  have hcz50_0 : wc.cell? P0_ = some (.int .i64 a0_0) := (by first | exact HP0_0.out | exact (HB.out.cell (World.block_lt_of_cell? w _ HP0_0.out)).trans HP0_0.out)
                  have hcz50_1 : wc.cell? ⟨P0_.block, P0_.off + 1, none⟩ = some (.int .i64 a0_1) := (by first | exact HP0_1.out | exact (HB.out.cell (World.block_lt_of_cell? w _ HP0_1.out)).trans HP0_1.out)
                  have hcz50_2 : wc.cell? ⟨P0_.block, P0_.off + 2, none⟩ = some (.int .i64 a0_2) := (by first | exact HP0_2.out | exact (HB.out.cell (World.block_lt_of_cell? w _ HP0_2.out)).trans HP0_2.out)
                  have hcz50_3 : wc.cell? ⟨P0_.block, P0_.off + 3, none⟩ = some (.bool a0_3) := (by first | exact HP0_3.out | exact (HB.out.cell (World.block_lt_of_cell? w _ HP0_3.out)).trans HP0_3.out)
                  have hcz50_4 : wc.cell? ⟨P0_.block, P0_.off + 4, none⟩ = some (.bool a0_4) := (by first | exact HP0_4.out | exact (HB.out.cell (World.block_lt_of_cell? w _ HP0_4.out)).trans HP0_4.out)
                  have hcz50_5 : wc.cell? ⟨P0_.block, P0_.off + 5, none⟩ = some (.bool false) := (by first | exact HP0_5.out | exact (HB.out.cell (World.block_lt_of_cell? w _ HP0_5.out)).trans HP0_5.out)
                  have hcz50_6 : wc.cell? ⟨P0_.block, P0_.off + 6, none⟩ = some (.slice A0_6 l0_6.length c0_6) := (by first | exact HP0_6.out | exact (HB.out.cell (World.block_lt_of_cell? w _ HP0_6.out)).trans HP0_6.out)
                  try go_wp2
                  have n0_ := Aside0.mk (blk_drew BK134.out)
                  have n1_ := Aside0.mk (blk_drew BK135.out)
                  have n2_ := Aside0.mk (below_drew1 HB.out)
                  clear BK134
                  clear BK135
                  clear HB
                  have BK134 := n0_
                  have BK135 := n1_
                  have HB := n2_
                  clear n0_ n1_ n2_
                  refine start_ (n := 19) (S := fun w' => w'.cell? P0_ = some (.int .i64 a0_0) ∧ w'.cell? ⟨P0_.block, P0_.off + 1, none⟩ = some (.int .i64 a0_1) ∧ w'.cell? ⟨P0_.block, P0_.off + 2, none⟩ = some (.int .i64 a0_2) ∧ w'.cell? ⟨P0_.block, P0_.off + 3, none⟩ = some (.bool a0_3) ∧ w'.cell? ⟨P0_.block, P0_.off + 4, none⟩ = some (.bool a0_4) ∧ w'.cell? ⟨P0_.block, P0_.off + 5, none⟩ = some (.bool false) ∧ w'.cell? ⟨P0_.block, P0_.off + 6, none⟩ = some (.slice A0_6 l0_6.length c0_6) ∧ w'.cell? P0_ = some (.int .i64 a0_0) ∧ w'.cell? ⟨P0_.block, P0_.off + 1, none⟩ = some (.int .i64 a0_1) ∧ w'.cell? ⟨P0_.block, P0_.off + 2, none⟩ = some (.int .i64 a0_2) ∧ w'.cell? ⟨P0_.block, P0_.off + 3, none⟩ = some (.bool a0_3) ∧ w'.cell? ⟨P0_.block, P0_.off + 4, none⟩ = some (.bool a0_4) ∧ w'.cell? ⟨P0_.block, P0_.off + 5, none⟩ = some (.bool false) ∧ w'.cell? ⟨P0_.block, P0_.off + 6, none⟩ = some (.slice A0_6 l0_6.length c0_6) ∧ w'.cell? P0_ = some (.int .i64 a0_0) ∧ w'.cell? ⟨P0_.block, P0_.off + 1, none⟩ = some (.int .i64 a0_1) ∧ w'.cell? ⟨P0_.block, P0_.off + 2, none⟩ = some (.int .i64 a0_2) ∧ w'.cell? ⟨P0_.block, P0_.off + 3, none⟩ = some (.bool a0_3) ∧ w'.cell? ⟨P0_.block, P0_.off + 4, none⟩ = some (.bool a0_4) ∧ w'.cell? ⟨P0_.block, P0_.off + 5, none⟩ = some (.bool false) ∧ w'.cell? ⟨P0_.block, P0_.off + 6, none⟩ = some (.slice A0_6 l0_6.length c0_6)) (ds := []) #[false, false, false, false, false, false, false, false, false, false, false, false, false, false, false, false, false, false, false] (by kernel_rfl) rfl rfl ⟨((HB.out.cell (World.block_lt_of_cell? w _ HP0_0.out)).trans HP0_0.out), ((HB.out.cell (World.block_lt_of_cell? w _ HP0_1.out)).trans HP0_1.out), ((HB.out.cell (World.block_lt_of_cell? w _ HP0_2.out)).trans HP0_2.out), ((HB.out.cell (World.block_lt_of_cell? w _ HP0_3.out)).trans HP0_3.out), ((HB.out.cell (World.block_lt_of_cell? w _ HP0_4.out)).trans HP0_4.out), ((HB.out.cell (World.block_lt_of_cell? w _ HP0_5.out)).trans HP0_5.out), ((HB.out.cell (World.block_lt_of_cell? w _ HP0_6.out)).trans HP0_6.out), ((HB.out.cell (World.block_lt_of_cell? w _ HP0_0.out)).trans HP0_0.out), ((HB.out.cell (World.block_lt_of_cell? w _ HP0_1.out)).trans HP0_1.out), ((HB.out.cell (World.block_lt_of_cell? w _ HP0_2.out)).trans HP0_2.out), ((HB.out.cell (World.block_lt_of_cell? w _ HP0_3.out)).trans HP0_3.out), ((HB.out.cell (World.block_lt_of_cell? w _ HP0_4.out)).trans HP0_4.out), ((HB.out.cell (World.block_lt_of_cell? w _ HP0_5.out)).trans HP0_5.out), ((HB.out.cell (World.block_lt_of_cell? w _ HP0_6.out)).trans HP0_6.out), ((HB.out.cell (World.block_lt_of_cell? w _ HP0_0.out)).trans HP0_0.out), ((HB.out.cell (World.block_lt_of_cell? w _ HP0_1.out)).trans HP0_1.out), ((HB.out.cell (World.block_lt_of_cell? w _ HP0_2.out)).trans HP0_2.out), ((HB.out.cell (World.block_lt_of_cell? w _ HP0_3.out)).trans HP0_3.out), ((HB.out.cell (World.block_lt_of_cell? w _ HP0_4.out)).trans HP0_4.out), ((HB.out.cell (World.block_lt_of_cell? w _ HP0_5.out)).trans HP0_5.out), ((HB.out.cell (World.block_lt_of_cell? w _ HP0_6.out)).trans HP0_6.out)⟩ (fun hHeld => ?_); refine with_tabW spec_l5Data.tab8 spec_l5Data.bits8 (fun HT_ HW_ => ?_)
                  generalize wc.drew = w51 at BK134 BK135 HB hHeld ⊢
                  refine pure_ (i := 0) (N := some 26) (v := ?_) (a' := ?_) #[true, false, false, false, false, false, false, false, false, false, false, false, false, false, false, false, false, false, false] rfl rfl (any_of HT_.out (by kernel_rfl)) (fun _ _ _ h => h) (Or.inl ⟨by first | rfl | (simp [Region.wanted, yielded, *]; done) | (simp [Region.wanted, yielded, Int.tmod_eq_emod_of_nonneg (Int.natCast_nonneg _), *]; done) | (simp [Region.wanted, yielded]; omega), ?_⟩) ?_ ?_
                  rotate_left
                  · intro w'
                    go_simp
                    with_reducible rfl
                  rotate_left
                  · simp only [Act.put, List.setIfInBounds_toArray, List.set_cons_zero, List.set_cons_succ, i64_w, i32_w]
                    rfl
                  refine pure_ (i := 1) (N := some 27) (v := ?_) (a' := ?_) #[true, true, false, false, false, false, false, false, false, false, false, false, false, false, false, false, false, false, false] rfl rfl (any_of HT_.out (by kernel_rfl)) (fun _ _ _ h => h) (Or.inl ⟨by first | rfl | (simp [Region.wanted, yielded, *]; done) | (simp [Region.wanted, yielded, Int.tmod_eq_emod_of_nonneg (Int.natCast_nonneg _), *]; done) | (simp [Region.wanted, yielded]; omega), ?_⟩) ?_ ?_
                  rotate_left
                  · intro w'
                    go_simp
                    with_reducible rfl
                  rotate_left
                  · simp only [Act.put, List.setIfInBounds_toArray, List.set_cons_zero, List.set_cons_succ, i64_w, i32_w]
                    rfl
                  refine pure_ (i := 2) (N := some 28) (v := ?_) (a' := ?_) #[true, true, true, false, false, false, false, false, false, false, false, false, false, false, false, false, false, false, false] rfl rfl (any_of HT_.out (by kernel_rfl)) (fun _ _ _ h => h) (Or.inl ⟨by first | rfl | (simp [Region.wanted, yielded, *]; done) | (simp [Region.wanted, yielded, Int.tmod_eq_emod_of_nonneg (Int.natCast_nonneg _), *]; done) | (simp [Region.wanted, yielded]; omega), ?_⟩) ?_ ?_
                  rotate_left
                  · intro w'
                    go_simp
                    with_reducible rfl
                  rotate_left
                  · simp only [Act.put, List.setIfInBounds_toArray, List.set_cons_zero, List.set_cons_succ, i64_w, i32_w]
                    rfl
                  refine pure_ (i := 5) (N := some 31) (v := ?_) (a' := ?_) #[true, true, true, false, false, true, false, false, false, false, false, false, false, false, false, false, false, false, false] rfl rfl (any_of HT_.out (by kernel_rfl)) (fun _ _ _ h => h) (Or.inl ⟨by first | rfl | (simp [Region.wanted, yielded, *]; done) | (simp [Region.wanted, yielded, Int.tmod_eq_emod_of_nonneg (Int.natCast_nonneg _), *]; done) | (simp [Region.wanted, yielded]; omega), ?_⟩) ?_ ?_
                  rotate_left
                  · intro w'
                    go_simp
                    with_reducible rfl
                  rotate_left
                  · simp only [Act.put, List.setIfInBounds_toArray, List.set_cons_zero, List.set_cons_succ, i64_w, i32_w]
                    rfl
                  refine pure_ (i := 6) (N := some 32) (v := ?_) (a' := ?_) #[true, true, true, false, false, true, true, false, false, false, false, false, false, false, false, false, false, false, false] rfl rfl (any_of HT_.out (by kernel_rfl)) (fun _ _ _ h => h) (Or.inl ⟨by first | rfl | (simp [Region.wanted, yielded, *]; done) | (simp [Region.wanted, yielded, Int.tmod_eq_emod_of_nonneg (Int.natCast_nonneg _), *]; done) | (simp [Region.wanted, yielded]; omega), ?_⟩) ?_ ?_
                  rotate_left
                  · intro w'
                    go_simp
                    with_reducible rfl
                  rotate_left
                  · simp only [Act.put, List.setIfInBounds_toArray, List.set_cons_zero, List.set_cons_succ, i64_w, i32_w]
                    rfl
                  refine pure_ (i := 7) (N := some 33) (v := ?_) (a' := ?_) #[true, true, true, false, false, true, true, true, false, false, false, false, false, false, false, false, false, false, false] rfl rfl (any_of HT_.out (by kernel_rfl)) (fun _ _ _ h => h) (Or.inl ⟨by first | rfl | (simp [Region.wanted, yielded, *]; done) | (simp [Region.wanted, yielded, Int.tmod_eq_emod_of_nonneg (Int.natCast_nonneg _), *]; done) | (simp [Region.wanted, yielded]; omega), ?_⟩) ?_ ?_
                  rotate_left
                  · intro w'
                    go_simp
                    with_reducible rfl
                  rotate_left
                  · simp only [Act.put, List.setIfInBounds_toArray, List.set_cons_zero, List.set_cons_succ, i64_w, i32_w]
                    rfl
                  refine pure_ (i := 11) (N := some 37) (v := ?_) (a' := ?_) #[true, true, true, false, false, true, true, true, false, false, false, true, false, false, false, false, false, false, false] rfl rfl (any_of HT_.out (by kernel_rfl)) (fun _ _ _ h => h) (Or.inl ⟨by first | rfl | (simp [Region.wanted, yielded, *]; done) | (simp [Region.wanted, yielded, Int.tmod_eq_emod_of_nonneg (Int.natCast_nonneg _), *]; done) | (simp [Region.wanted, yielded]; omega), ?_⟩) ?_ ?_
                  rotate_left
                  · intro w'
                    go_simp
                    with_reducible rfl
                  rotate_left
                  · simp only [Act.put, List.setIfInBounds_toArray, List.set_cons_zero, List.set_cons_succ, i64_w, i32_w]
                    rfl
                  refine pure_ (i := 12) (N := some 38) (v := ?_) (a' := ?_) #[true, true, true, false, false, true, true, true, false, false, false, true, true, false, false, false, false, false, false] rfl rfl (any_of HT_.out (by kernel_rfl)) (fun _ _ _ h => h) (Or.inl ⟨by first | rfl | (simp [Region.wanted, yielded, *]; done) | (simp [Region.wanted, yielded, Int.tmod_eq_emod_of_nonneg (Int.natCast_nonneg _), *]; done) | (simp [Region.wanted, yielded]; omega), ?_⟩) ?_ ?_
                  rotate_left
                  · intro w'
                    go_simp
                    with_reducible rfl
                  rotate_left
                  · simp only [Act.put, List.setIfInBounds_toArray, List.set_cons_zero, List.set_cons_succ, i64_w, i32_w]
                    rfl
                  refine pure_ (i := 13) (N := some 39) (v := ?_) (a' := ?_) #[true, true, true, false, false, true, true, true, false, false, false, true, true, true, false, false, false, false, false] rfl rfl (any_of HT_.out (by kernel_rfl)) (fun _ _ _ h => h) (Or.inl ⟨by first | rfl | (simp [Region.wanted, yielded, *]; done) | (simp [Region.wanted, yielded, Int.tmod_eq_emod_of_nonneg (Int.natCast_nonneg _), *]; done) | (simp [Region.wanted, yielded]; omega), ?_⟩) ?_ ?_
                  rotate_left
                  · intro w'
                    go_simp
                    with_reducible rfl
                  rotate_left
                  · simp only [Act.put, List.setIfInBounds_toArray, List.set_cons_zero, List.set_cons_succ, i64_w, i32_w]
                    rfl
                  refine take_ (i := 3) (N := some 29) (v := ?_) (a' := ?_) #[true, true, true, true, false, true, true, true, false, false, false, true, true, true, false, false, false, false, false] rfl rfl (take_ofW HT_.out HW_.out (by kernel_rfl)) (fun _ _ _ h => h) (Or.inl ⟨by first | rfl | (simp [Region.wanted, yielded, *]; done) | (simp [Region.wanted, yielded, Int.tmod_eq_emod_of_nonneg (Int.natCast_nonneg _), *]; done) | (simp [Region.wanted, yielded]; omega), ?_⟩) hHeld ?_ ?_
                  rotate_left
                  · rintro w' ⟨s0, s1, s2, s3, s4, s5, s6, s7, s8, s9, s10, s11, s12, s13, s14, s15, s16, s17, s18, s19, s20⟩
                    go_simp
                    with_reducible rfl
                  rotate_left
                  · simp only [Act.put, List.setIfInBounds_toArray, List.set_cons_zero, List.set_cons_succ, i64_w, i32_w]
                    rfl
                  refine take_ (i := 8) (N := some 34) (v := ?_) (a' := ?_) #[true, true, true, true, false, true, true, true, true, false, false, true, true, true, false, false, false, false, false] rfl rfl (take_ofW HT_.out HW_.out (by kernel_rfl)) (fun _ _ _ h => h) (Or.inl ⟨by first | rfl | (simp [Region.wanted, yielded, *]; done) | (simp [Region.wanted, yielded, Int.tmod_eq_emod_of_nonneg (Int.natCast_nonneg _), *]; done) | (simp [Region.wanted, yielded]; omega), ?_⟩) hHeld ?_ ?_
                  rotate_left
                  · rintro w' ⟨s0, s1, s2, s3, s4, s5, s6, s7, s8, s9, s10, s11, s12, s13, s14, s15, s16, s17, s18, s19, s20⟩
                    go_simp
                    with_reducible rfl
                  rotate_left
                  · simp only [Act.put, List.setIfInBounds_toArray, List.set_cons_zero, List.set_cons_succ, i64_w, i32_w]
                    rfl
                  refine take_ (i := 14) (N := some 40) (v := ?_) (a' := ?_) #[true, true, true, true, false, true, true, true, true, false, false, true, true, true, true, false, false, false, false] rfl rfl (take_ofW HT_.out HW_.out (by kernel_rfl)) (fun _ _ _ h => h) (Or.inl ⟨by first | rfl | (simp [Region.wanted, yielded, *]; done) | (simp [Region.wanted, yielded, Int.tmod_eq_emod_of_nonneg (Int.natCast_nonneg _), *]; done) | (simp [Region.wanted, yielded]; omega), ?_⟩) hHeld ?_ ?_
                  rotate_left
                  · rintro w' ⟨s0, s1, s2, s3, s4, s5, s6, s7, s8, s9, s10, s11, s12, s13, s14, s15, s16, s17, s18, s19, s20⟩
                    go_simp
                    with_reducible rfl
                  rotate_left
                  · simp only [Act.put, List.setIfInBounds_toArray, List.set_cons_zero, List.set_cons_succ, i64_w, i32_w]
                    rfl
                  refine one_ (i := 4) (N := some 30) #[true, true, true, true, true, true, true, true, true, false, false, true, true, true, true, false, false, false, false] rfl rfl (one_of HT_.out (by kernel_rfl)) (by decide) (fun K hK => ?_)
                  refine goes_ Try.func107 (by kernel_rfl) rfl #[.int .i64 a0_0] (by first | rfl | (simp [Region.wanted, yielded, *]; done) | (simp [Region.wanted, yielded, Int.tmod_eq_emod_of_nonneg (Int.natCast_nonneg _), *]; done)) rfl rfl (by (try simp only [List.map_toArray, List.map_cons, List.map_nil]); first | done | rfl | (simp only [List.length_drop, List.length_take]; rfl)) ?_
                  with_reducible refine (spec_l1Pack.calls a0_0 t154 _ A44.out).mono ?_
                  rintro e w52 ⟨v155, rfl, ho0, hb⟩
                  refine ⟨_, rfl, ?_⟩
                  have n0_ := Aside0.mk (Kd.R_lower ho0 (below_size (by repeat (first | (with_reducible first | exact HB.out | apply below_alloc | apply pw_below_drewN | apply below_drew1 | refine below_set ?_ GE134.out | refine below_set ?_ GE135.out) | exact HB.out))))
                  have n1_ := Aside0.mk (blk_below (g := gb134) (o := .cells #[.int .i64 0, .int .i64 0, .slice none 0 0] 27 (0, 0)) (by (with_reducible repeat (first | refine blk_drewN ?_ _ | refine blk_drew ?_ | refine blk_alloc ?_ _)); exact BK134.out) hb)
                  have n2_ := Aside0.mk (blk_below (g := gb135) (o := .cells #[.int .i64 0, .int .i64 x136001_10, .slice none 0 0] 27 (0, 0)) (by (with_reducible repeat (first | refine blk_drewN ?_ _ | refine blk_drew ?_ | refine blk_alloc ?_ _)); exact BK135.out) hb)
                  have n3_ := Aside0.mk (below_step (by repeat (first | (with_reducible first | exact HB.out | apply below_alloc | apply pw_below_drewN | apply below_drew1 | refine below_set ?_ GE134.out | refine below_set ?_ GE135.out) | exact HB.out)) hb)
                  clear BK134
                  clear BK135
                  clear HB
                  have HO156 := n0_
                  have BK134 := n1_
                  have BK135 := n2_
                  have HB := n3_
                  clear n0_ n1_ n2_ n3_
                  (try clear hb)
                  (try clear hb2)
                  (try clear hk)
                  (try clear hi)
                  (try clear ho0)
                  refine hK.out _ _ ⟨((HB.out.cell (World.block_lt_of_cell? w _ HP0_0.out)).trans HP0_0.out), ((HB.out.cell (World.block_lt_of_cell? w _ HP0_1.out)).trans HP0_1.out), ((HB.out.cell (World.block_lt_of_cell? w _ HP0_2.out)).trans HP0_2.out), ((HB.out.cell (World.block_lt_of_cell? w _ HP0_3.out)).trans HP0_3.out), ((HB.out.cell (World.block_lt_of_cell? w _ HP0_4.out)).trans HP0_4.out), ((HB.out.cell (World.block_lt_of_cell? w _ HP0_5.out)).trans HP0_5.out), ((HB.out.cell (World.block_lt_of_cell? w _ HP0_6.out)).trans HP0_6.out), ((HB.out.cell (World.block_lt_of_cell? w _ HP0_0.out)).trans HP0_0.out), ((HB.out.cell (World.block_lt_of_cell? w _ HP0_1.out)).trans HP0_1.out), ((HB.out.cell (World.block_lt_of_cell? w _ HP0_2.out)).trans HP0_2.out), ((HB.out.cell (World.block_lt_of_cell? w _ HP0_3.out)).trans HP0_3.out), ((HB.out.cell (World.block_lt_of_cell? w _ HP0_4.out)).trans HP0_4.out), ((HB.out.cell (World.block_lt_of_cell? w _ HP0_5.out)).trans HP0_5.out), ((HB.out.cell (World.block_lt_of_cell? w _ HP0_6.out)).trans HP0_6.out), ((HB.out.cell (World.block_lt_of_cell? w _ HP0_0.out)).trans HP0_0.out), ((HB.out.cell (World.block_lt_of_cell? w _ HP0_1.out)).trans HP0_1.out), ((HB.out.cell (World.block_lt_of_cell? w _ HP0_2.out)).trans HP0_2.out), ((HB.out.cell (World.block_lt_of_cell? w _ HP0_3.out)).trans HP0_3.out), ((HB.out.cell (World.block_lt_of_cell? w _ HP0_4.out)).trans HP0_4.out), ((HB.out.cell (World.block_lt_of_cell? w _ HP0_5.out)).trans HP0_5.out), ((HB.out.cell (World.block_lt_of_cell? w _ HP0_6.out)).trans HP0_6.out)⟩ (fun hHeld => ?_)
                  clear hK K
                  refine norm_ (a' := ?_) ?_ ?_
                  rotate_left
                  · show Act.put _ (some 30) _ = _
                    simp only [Act.put, List.setIfInBounds_toArray, List.set_cons_zero, List.set_cons_succ, i64_w, i32_w]
                    rfl
                  refine one_ (i := 9) (N := some 35) #[true, true, true, true, true, true, true, true, true, true, false, true, true, true, true, false, false, false, false] rfl rfl (one_of HT_.out (by kernel_rfl)) (by decide) (fun K hK => ?_)
                  refine goes_ Try.func145 (by kernel_rfl) rfl #[.int .i64 a0_1] (by first | rfl | (simp [Region.wanted, yielded, *]; done) | (simp [Region.wanted, yielded, Int.tmod_eq_emod_of_nonneg (Int.natCast_nonneg _), *]; done)) rfl rfl (by (try simp only [List.map_toArray, List.map_cons, List.map_nil]); first | done | rfl | (simp only [List.length_drop, List.length_take]; rfl)) ?_
                  with_reducible refine (spec_l1Pair.calls a0_1 t157 _ A45.out).mono ?_
                  rintro e w53 ⟨v158, rfl, ho0, hb⟩
                  refine ⟨_, rfl, ?_⟩
                  have n0_ := Aside0.mk (Kd.R_elder' (by (with_reducible repeat (first | apply Kd.R_alloc | apply Kd.R_drewN | apply Kd.R_drew)); exact HO156.out) (Kd.R_base ho0) hb)
                  have n1_ := Aside0.mk (Kd.R_lower (Kd.R_new' ho0 (Kd.R_lt (by (with_reducible repeat (first | apply Kd.R_alloc | apply Kd.R_drewN | apply Kd.R_drew)); exact HO156.out))) (below_size (by repeat (first | (with_reducible first | exact HB.out | apply below_alloc | apply pw_below_drewN | apply below_drew1 | refine below_set ?_ GE134.out | refine below_set ?_ GE135.out) | exact HB.out))))
                  have n2_ := Aside0.mk (blk_below (g := gb134) (o := .cells #[.int .i64 0, .int .i64 0, .slice none 0 0] 27 (0, 0)) (by (with_reducible repeat (first | refine blk_drewN ?_ _ | refine blk_drew ?_ | refine blk_alloc ?_ _)); exact BK134.out) hb)
                  have n3_ := Aside0.mk (blk_below (g := gb135) (o := .cells #[.int .i64 0, .int .i64 x136001_10, .slice none 0 0] 27 (0, 0)) (by (with_reducible repeat (first | refine blk_drewN ?_ _ | refine blk_drew ?_ | refine blk_alloc ?_ _)); exact BK135.out) hb)
                  have n4_ := Aside0.mk (below_step (by repeat (first | (with_reducible first | exact HB.out | apply below_alloc | apply pw_below_drewN | apply below_drew1 | refine below_set ?_ GE134.out | refine below_set ?_ GE135.out) | exact HB.out)) hb)
                  clear HO156
                  clear BK134
                  clear BK135
                  clear HB
                  have HO156 := n0_
                  have HO159 := n1_
                  have BK134 := n2_
                  have BK135 := n3_
                  have HB := n4_
                  clear n0_ n1_ n2_ n3_ n4_
                  (try clear hb)
                  (try clear hb2)
                  (try clear hk)
                  (try clear hi)
                  (try clear ho0)
                  obtain ⟨Ao55, co55, eo55⟩ := Kd.R_slice HO159.out
                  (first | subst eo55 | (injection eo55 with f1_ f2_ f3_; have f4_ := f1_.symm; have f5_ := f3_.symm; clear f1_ f2_ f3_; subst f4_; subst f5_))
                  refine hK.out _ _ ⟨((HB.out.cell (World.block_lt_of_cell? w _ HP0_0.out)).trans HP0_0.out), ((HB.out.cell (World.block_lt_of_cell? w _ HP0_1.out)).trans HP0_1.out), ((HB.out.cell (World.block_lt_of_cell? w _ HP0_2.out)).trans HP0_2.out), ((HB.out.cell (World.block_lt_of_cell? w _ HP0_3.out)).trans HP0_3.out), ((HB.out.cell (World.block_lt_of_cell? w _ HP0_4.out)).trans HP0_4.out), ((HB.out.cell (World.block_lt_of_cell? w _ HP0_5.out)).trans HP0_5.out), ((HB.out.cell (World.block_lt_of_cell? w _ HP0_6.out)).trans HP0_6.out), ((HB.out.cell (World.block_lt_of_cell? w _ HP0_0.out)).trans HP0_0.out), ((HB.out.cell (World.block_lt_of_cell? w _ HP0_1.out)).trans HP0_1.out), ((HB.out.cell (World.block_lt_of_cell? w _ HP0_2.out)).trans HP0_2.out), ((HB.out.cell (World.block_lt_of_cell? w _ HP0_3.out)).trans HP0_3.out), ((HB.out.cell (World.block_lt_of_cell? w _ HP0_4.out)).trans HP0_4.out), ((HB.out.cell (World.block_lt_of_cell? w _ HP0_5.out)).trans HP0_5.out), ((HB.out.cell (World.block_lt_of_cell? w _ HP0_6.out)).trans HP0_6.out), ((HB.out.cell (World.block_lt_of_cell? w _ HP0_0.out)).trans HP0_0.out), ((HB.out.cell (World.block_lt_of_cell? w _ HP0_1.out)).trans HP0_1.out), ((HB.out.cell (World.block_lt_of_cell? w _ HP0_2.out)).trans HP0_2.out), ((HB.out.cell (World.block_lt_of_cell? w _ HP0_3.out)).trans HP0_3.out), ((HB.out.cell (World.block_lt_of_cell? w _ HP0_4.out)).trans HP0_4.out), ((HB.out.cell (World.block_lt_of_cell? w _ HP0_5.out)).trans HP0_5.out), ((HB.out.cell (World.block_lt_of_cell? w _ HP0_6.out)).trans HP0_6.out)⟩ (fun hHeld => ?_)
                  clear hK K
                  refine norm_ (a' := ?_) ?_ ?_
                  rotate_left
                  · show Act.put _ (some 35) _ = _
                    simp only [Act.put, List.setIfInBounds_toArray, List.set_cons_zero, List.set_cons_succ, i64_w, i32_w]
                    rfl
                  refine one_ (i := 10) (N := some 36) #[true, true, true, true, true, true, true, true, true, true, true, true, true, true, true, false, false, false, false] rfl rfl (one_of HT_.out (by kernel_rfl)) (by decide) (fun K hK => ?_)
                  refine Kd.R_append_rows_step (Kd.int .u8) (w0 := w) w.heap.size (by rfl) (.tmp 30) (.tmp 35) 22 5 (.int .u8 0) 1 rfl Try.underlying22 info5 rfl (by decide) (by omega) v155 t154 t157 _ _ _ (fun k_ => some k_ ≠ (.slice Ao55 t157.length co55 : Value).ownBlock) (fun _ => False) rfl rfl ?aO ?aR (fun _ _ h => h) (fun _ h => h.elim) ?aF ?aB ?aS ?aL ?_
                  (case aR => repeat (first | exact (Kd.R_reads' HO159.out).2.2 | (with_reducible refine Kd.C_alloc ?_ _) | (with_reducible refine Kd.C_drewN ?_ _) | (with_reducible refine Kd.C_drew ?_)))
                  (case aB => exact (by repeat (first | (with_reducible first | exact HB.out | apply below_alloc | apply pw_below_drewN | apply below_drew1 | refine below_set ?_ GE134.out | refine below_set ?_ GE135.out) | exact HB.out)))
                  (case aF => exact (fun k_ hk => Kd.fresh' (Kd.R_lt (by (with_reducible repeat (first | apply Kd.R_alloc | apply Kd.R_drewN | apply Kd.R_drew)); exact HO159.out)) k_ hk))
                  (case aO => exact (by (with_reducible repeat (first | apply Kd.R_alloc | apply Kd.R_drewN | apply Kd.R_drew)); exact Kd.R_mono HO156.out (fun _ hk => hk.2)))
                  (case aS => exact (below_size (by repeat (first | (with_reducible first | exact HB.out | apply below_alloc | apply pw_below_drewN | apply below_drew1 | refine below_set ?_ GE134.out | refine below_set ?_ GE135.out) | exact HB.out))))
                  (case aL => have := LMc46.out; omega)
                  intro v161 w54 ho hb hg hat
                  rw [← Ny160.out] at ho
                  have n0_ := Aside0.mk (blk_grown (g := gb134) (o := .cells #[.int .i64 0, .int .i64 0, .slice none 0 0] 27 (0, 0)) (by (with_reducible repeat (first | refine blk_drewN ?_ _ | refine blk_drew ?_ | refine blk_alloc ?_ _)); exact BK134.out) hg (Kd.R_ne HO156.out BK134.out (by decide)))
                  have n1_ := Aside0.mk (blk_grown (g := gb135) (o := .cells #[.int .i64 0, .int .i64 x136001_10, .slice none 0 0] 27 (0, 0)) (by (with_reducible repeat (first | refine blk_drewN ?_ _ | refine blk_drew ?_ | refine blk_alloc ?_ _)); exact BK135.out) hg (Kd.R_ne HO156.out BK135.out (by decide)))
                  have n2_ := Aside0.mk (Kd.R_after (ok := (fun _ => True)) (by (with_reducible repeat (first | apply Kd.R_alloc | apply Kd.R_drewN | apply Kd.R_drew)); exact HO159.out) hg hat)
                  have n3_ := Aside0.mk (hb)
                  have n4_ := Aside0.mk (ho)
                  clear BK134
                  clear BK135
                  clear HO159
                  clear HB
                  clear HO156
                  have BK134 := n0_
                  have BK135 := n1_
                  have HO159 := n2_
                  have HB := n3_
                  have HO162 := n4_
                  clear n0_ n1_ n2_ n3_ n4_
                  clear ho hb hg hat
                  refine hK.out _ _ ⟨((HB.out.cell (World.block_lt_of_cell? w _ HP0_0.out)).trans HP0_0.out), ((HB.out.cell (World.block_lt_of_cell? w _ HP0_1.out)).trans HP0_1.out), ((HB.out.cell (World.block_lt_of_cell? w _ HP0_2.out)).trans HP0_2.out), ((HB.out.cell (World.block_lt_of_cell? w _ HP0_3.out)).trans HP0_3.out), ((HB.out.cell (World.block_lt_of_cell? w _ HP0_4.out)).trans HP0_4.out), ((HB.out.cell (World.block_lt_of_cell? w _ HP0_5.out)).trans HP0_5.out), ((HB.out.cell (World.block_lt_of_cell? w _ HP0_6.out)).trans HP0_6.out), ((HB.out.cell (World.block_lt_of_cell? w _ HP0_0.out)).trans HP0_0.out), ((HB.out.cell (World.block_lt_of_cell? w _ HP0_1.out)).trans HP0_1.out), ((HB.out.cell (World.block_lt_of_cell? w _ HP0_2.out)).trans HP0_2.out), ((HB.out.cell (World.block_lt_of_cell? w _ HP0_3.out)).trans HP0_3.out), ((HB.out.cell (World.block_lt_of_cell? w _ HP0_4.out)).trans HP0_4.out), ((HB.out.cell (World.block_lt_of_cell? w _ HP0_5.out)).trans HP0_5.out), ((HB.out.cell (World.block_lt_of_cell? w _ HP0_6.out)).trans HP0_6.out), ((HB.out.cell (World.block_lt_of_cell? w _ HP0_0.out)).trans HP0_0.out), ((HB.out.cell (World.block_lt_of_cell? w _ HP0_1.out)).trans HP0_1.out), ((HB.out.cell (World.block_lt_of_cell? w _ HP0_2.out)).trans HP0_2.out), ((HB.out.cell (World.block_lt_of_cell? w _ HP0_3.out)).trans HP0_3.out), ((HB.out.cell (World.block_lt_of_cell? w _ HP0_4.out)).trans HP0_4.out), ((HB.out.cell (World.block_lt_of_cell? w _ HP0_5.out)).trans HP0_5.out), ((HB.out.cell (World.block_lt_of_cell? w _ HP0_6.out)).trans HP0_6.out)⟩ (fun hHeld => ?_)
                  clear hK K
                  refine norm_ (a' := ?_) ?_ ?_
                  rotate_left
                  · show Act.put _ (some 36) _ = _
                    simp only [Act.put, List.setIfInBounds_toArray, List.set_cons_zero, List.set_cons_succ, i64_w, i32_w]
                    rfl
                  refine one_ (i := 15) (N := some 41) #[true, true, true, true, true, true, true, true, true, true, true, true, true, true, true, true, false, false, false] rfl rfl (one_of HT_.out (by kernel_rfl)) (by decide) (fun K hK => ?_)
                  refine goes_ Try.func145 (by kernel_rfl) rfl #[.int .i64 a0_2] (by first | rfl | (simp [Region.wanted, yielded, *]; done) | (simp [Region.wanted, yielded, Int.tmod_eq_emod_of_nonneg (Int.natCast_nonneg _), *]; done)) rfl rfl (by (try simp only [List.map_toArray, List.map_cons, List.map_nil]); first | done | rfl | (simp only [List.length_drop, List.length_take]; rfl)) ?_
                  with_reducible refine (spec_l1Pair.calls a0_2 t163 _ A47.out).mono ?_
                  rintro e w56 ⟨v164, rfl, ho0, hb⟩
                  refine ⟨_, rfl, ?_⟩
                  have n0_ := Aside0.mk (Kd.R_elder' (by (with_reducible repeat (first | apply Kd.R_alloc | apply Kd.R_drewN | apply Kd.R_drew)); exact HO159.out) (Kd.R_base ho0) hb)
                  have n1_ := Aside0.mk (Kd.R_elder' (by (with_reducible repeat (first | apply Kd.R_alloc | apply Kd.R_drewN | apply Kd.R_drew)); exact HO162.out) (Kd.R_base ho0) hb)
                  have n2_ := Aside0.mk (Kd.R_lower (Kd.R_new' (Kd.R_new' ho0 (Kd.R_lt (by (with_reducible repeat (first | apply Kd.R_alloc | apply Kd.R_drewN | apply Kd.R_drew)); exact HO159.out))) (Kd.R_lt (by (with_reducible repeat (first | apply Kd.R_alloc | apply Kd.R_drewN | apply Kd.R_drew)); exact HO162.out))) (below_size (by repeat (first | (with_reducible first | exact HB.out | apply below_alloc | apply pw_below_drewN | apply below_drew1 | refine below_set ?_ GE134.out | refine below_set ?_ GE135.out) | exact HB.out))))
                  have n3_ := Aside0.mk (blk_below (g := gb134) (o := .cells #[.int .i64 0, .int .i64 0, .slice none 0 0] 27 (0, 0)) (by (with_reducible repeat (first | refine blk_drewN ?_ _ | refine blk_drew ?_ | refine blk_alloc ?_ _)); exact BK134.out) hb)
                  have n4_ := Aside0.mk (blk_below (g := gb135) (o := .cells #[.int .i64 0, .int .i64 x136001_10, .slice none 0 0] 27 (0, 0)) (by (with_reducible repeat (first | refine blk_drewN ?_ _ | refine blk_drew ?_ | refine blk_alloc ?_ _)); exact BK135.out) hb)
                  have n5_ := Aside0.mk (below_step (by repeat (first | (with_reducible first | exact HB.out | apply below_alloc | apply pw_below_drewN | apply below_drew1 | refine below_set ?_ GE134.out | refine below_set ?_ GE135.out) | exact HB.out)) hb)
                  clear HO159
                  clear HO162
                  clear BK134
                  clear BK135
                  clear HB
                  have HO159 := n0_
                  have HO162 := n1_
                  have HO165 := n2_
                  have BK134 := n3_
                  have BK135 := n4_
                  have HB := n5_
                  clear n0_ n1_ n2_ n3_ n4_ n5_
                  (try clear hb)
                  (try clear hb2)
                  (try clear hk)
                  (try clear hi)
                  (try clear ho0)
                  obtain ⟨Ao58, co58, eo58⟩ := Kd.R_slice HO165.out
                  (first | subst eo58 | (injection eo58 with f1_ f2_ f3_; have f4_ := f1_.symm; have f5_ := f3_.symm; clear f1_ f2_ f3_; subst f4_; subst f5_))
                  refine hK.out _ _ ⟨((HB.out.cell (World.block_lt_of_cell? w _ HP0_0.out)).trans HP0_0.out), ((HB.out.cell (World.block_lt_of_cell? w _ HP0_1.out)).trans HP0_1.out), ((HB.out.cell (World.block_lt_of_cell? w _ HP0_2.out)).trans HP0_2.out), ((HB.out.cell (World.block_lt_of_cell? w _ HP0_3.out)).trans HP0_3.out), ((HB.out.cell (World.block_lt_of_cell? w _ HP0_4.out)).trans HP0_4.out), ((HB.out.cell (World.block_lt_of_cell? w _ HP0_5.out)).trans HP0_5.out), ((HB.out.cell (World.block_lt_of_cell? w _ HP0_6.out)).trans HP0_6.out), ((HB.out.cell (World.block_lt_of_cell? w _ HP0_0.out)).trans HP0_0.out), ((HB.out.cell (World.block_lt_of_cell? w _ HP0_1.out)).trans HP0_1.out), ((HB.out.cell (World.block_lt_of_cell? w _ HP0_2.out)).trans HP0_2.out), ((HB.out.cell (World.block_lt_of_cell? w _ HP0_3.out)).trans HP0_3.out), ((HB.out.cell (World.block_lt_of_cell? w _ HP0_4.out)).trans HP0_4.out), ((HB.out.cell (World.block_lt_of_cell? w _ HP0_5.out)).trans HP0_5.out), ((HB.out.cell (World.block_lt_of_cell? w _ HP0_6.out)).trans HP0_6.out), ((HB.out.cell (World.block_lt_of_cell? w _ HP0_0.out)).trans HP0_0.out), ((HB.out.cell (World.block_lt_of_cell? w _ HP0_1.out)).trans HP0_1.out), ((HB.out.cell (World.block_lt_of_cell? w _ HP0_2.out)).trans HP0_2.out), ((HB.out.cell (World.block_lt_of_cell? w _ HP0_3.out)).trans HP0_3.out), ((HB.out.cell (World.block_lt_of_cell? w _ HP0_4.out)).trans HP0_4.out), ((HB.out.cell (World.block_lt_of_cell? w _ HP0_5.out)).trans HP0_5.out), ((HB.out.cell (World.block_lt_of_cell? w _ HP0_6.out)).trans HP0_6.out)⟩ (fun hHeld => ?_)
                  clear hK K
                  refine norm_ (a' := ?_) ?_ ?_
                  rotate_left
                  · show Act.put _ (some 41) _ = _
                    simp only [Act.put, List.setIfInBounds_toArray, List.set_cons_zero, List.set_cons_succ, i64_w, i32_w]
                    rfl
                  refine one_ (i := 16) (N := some 42) #[true, true, true, true, true, true, true, true, true, true, true, true, true, true, true, true, true, false, false] rfl rfl (one_of HT_.out (by kernel_rfl)) (by decide) (fun K hK => ?_)
                  refine Kd.R_append_rows_step (Kd.int .u8) (w0 := w) w.heap.size (by rfl) (.tmp 36) (.tmp 41) 22 5 (.int .u8 0) 1 rfl Try.underlying22 info5 rfl (by decide) (by omega) v161 y160 t163 _ _ _ (fun k_ => some k_ ≠ (.slice Ao55 t157.length co55 : Value).ownBlock ∧ some k_ ≠ (.slice Ao58 t163.length co58 : Value).ownBlock) (fun _ => False) rfl rfl ?aO ?aR (fun _ _ h => h) (fun _ h => h.elim) ?aF ?aB ?aS ?aL ?_
                  (case aR => repeat (first | exact (Kd.R_reads' HO165.out).2.2 | (with_reducible refine Kd.C_alloc ?_ _) | (with_reducible refine Kd.C_drewN ?_ _) | (with_reducible refine Kd.C_drew ?_)))
                  (case aB => exact (by repeat (first | (with_reducible first | exact HB.out | apply below_alloc | apply pw_below_drewN | apply below_drew1 | refine below_set ?_ GE134.out | refine below_set ?_ GE135.out) | exact HB.out)))
                  (case aF => exact (fun k_ hk => ⟨Kd.fresh' (Kd.R_lt (by (with_reducible repeat (first | apply Kd.R_alloc | apply Kd.R_drewN | apply Kd.R_drew)); exact HO159.out)) k_ hk, Kd.fresh' (Kd.R_lt (by (with_reducible repeat (first | apply Kd.R_alloc | apply Kd.R_drewN | apply Kd.R_drew)); exact HO165.out)) k_ hk⟩))
                  (case aO => exact (by (with_reducible repeat (first | apply Kd.R_alloc | apply Kd.R_drewN | apply Kd.R_drew)); exact HO162.out))
                  (case aS => exact (below_size (by repeat (first | (with_reducible first | exact HB.out | apply below_alloc | apply pw_below_drewN | apply below_drew1 | refine below_set ?_ GE134.out | refine below_set ?_ GE135.out) | exact HB.out))))
                  (case aL => have := LMc48.out; omega)
                  intro v167 w57 ho hb hg hat
                  rw [← Ny166.out] at ho
                  have n0_ := Aside0.mk (blk_grown (g := gb134) (o := .cells #[.int .i64 0, .int .i64 0, .slice none 0 0] 27 (0, 0)) (by (with_reducible repeat (first | refine blk_drewN ?_ _ | refine blk_drew ?_ | refine blk_alloc ?_ _)); exact BK134.out) hg (Kd.R_ne HO162.out BK134.out (by decide)))
                  have n1_ := Aside0.mk (blk_grown (g := gb135) (o := .cells #[.int .i64 0, .int .i64 x136001_10, .slice none 0 0] 27 (0, 0)) (by (with_reducible repeat (first | refine blk_drewN ?_ _ | refine blk_drew ?_ | refine blk_alloc ?_ _)); exact BK135.out) hg (Kd.R_ne HO162.out BK135.out (by decide)))
                  have n2_ := Aside0.mk (Kd.R_after (ok := (fun k_ => some k_ ≠ (.slice Ao58 t163.length co58 : Value).ownBlock)) (by (with_reducible repeat (first | apply Kd.R_alloc | apply Kd.R_drewN | apply Kd.R_drew)); exact Kd.R_mono HO159.out (fun _ hk => ⟨hk.2, hk.1.2⟩)) hg hat)
                  have n3_ := Aside0.mk (Kd.R_after (ok := (fun k_ => some k_ ≠ (.slice Ao55 t157.length co55 : Value).ownBlock)) (by (with_reducible repeat (first | apply Kd.R_alloc | apply Kd.R_drewN | apply Kd.R_drew)); exact Kd.R_mono HO165.out (fun _ hk => ⟨hk.1.2, hk.2⟩)) hg hat)
                  have n4_ := Aside0.mk (hb)
                  have n5_ := Aside0.mk (ho)
                  clear BK134
                  clear BK135
                  clear HO159
                  clear HO165
                  clear HB
                  clear HO162
                  have BK134 := n0_
                  have BK135 := n1_
                  have HO159 := n2_
                  have HO165 := n3_
                  have HB := n4_
                  have HO168 := n5_
                  clear n0_ n1_ n2_ n3_ n4_ n5_
                  clear ho hb hg hat
                  obtain ⟨Ao59, co59, eo59⟩ := Kd.R_slice HO168.out
                  (first | subst eo59 | (injection eo59 with f1_ f2_ f3_; have f4_ := f1_.symm; have f5_ := f3_.symm; clear f1_ f2_ f3_; subst f4_; subst f5_))
                  refine hK.out _ _ ⟨((HB.out.cell (World.block_lt_of_cell? w _ HP0_0.out)).trans HP0_0.out), ((HB.out.cell (World.block_lt_of_cell? w _ HP0_1.out)).trans HP0_1.out), ((HB.out.cell (World.block_lt_of_cell? w _ HP0_2.out)).trans HP0_2.out), ((HB.out.cell (World.block_lt_of_cell? w _ HP0_3.out)).trans HP0_3.out), ((HB.out.cell (World.block_lt_of_cell? w _ HP0_4.out)).trans HP0_4.out), ((HB.out.cell (World.block_lt_of_cell? w _ HP0_5.out)).trans HP0_5.out), ((HB.out.cell (World.block_lt_of_cell? w _ HP0_6.out)).trans HP0_6.out), ((HB.out.cell (World.block_lt_of_cell? w _ HP0_0.out)).trans HP0_0.out), ((HB.out.cell (World.block_lt_of_cell? w _ HP0_1.out)).trans HP0_1.out), ((HB.out.cell (World.block_lt_of_cell? w _ HP0_2.out)).trans HP0_2.out), ((HB.out.cell (World.block_lt_of_cell? w _ HP0_3.out)).trans HP0_3.out), ((HB.out.cell (World.block_lt_of_cell? w _ HP0_4.out)).trans HP0_4.out), ((HB.out.cell (World.block_lt_of_cell? w _ HP0_5.out)).trans HP0_5.out), ((HB.out.cell (World.block_lt_of_cell? w _ HP0_6.out)).trans HP0_6.out), ((HB.out.cell (World.block_lt_of_cell? w _ HP0_0.out)).trans HP0_0.out), ((HB.out.cell (World.block_lt_of_cell? w _ HP0_1.out)).trans HP0_1.out), ((HB.out.cell (World.block_lt_of_cell? w _ HP0_2.out)).trans HP0_2.out), ((HB.out.cell (World.block_lt_of_cell? w _ HP0_3.out)).trans HP0_3.out), ((HB.out.cell (World.block_lt_of_cell? w _ HP0_4.out)).trans HP0_4.out), ((HB.out.cell (World.block_lt_of_cell? w _ HP0_5.out)).trans HP0_5.out), ((HB.out.cell (World.block_lt_of_cell? w _ HP0_6.out)).trans HP0_6.out)⟩ (fun hHeld => ?_)
                  clear hK K
                  refine norm_ (a' := ?_) ?_ ?_
                  rotate_left
                  · show Act.put _ (some 42) _ = _
                    simp only [Act.put, List.setIfInBounds_toArray, List.set_cons_zero, List.set_cons_succ, i64_w, i32_w]
                    rfl
                  refine pure_ (i := 17) (N := some 43) (v := ?_) (a' := ?_) #[true, true, true, true, true, true, true, true, true, true, true, true, true, true, true, true, true, true, false] rfl rfl (any_of HT_.out (by kernel_rfl)) (fun _ _ _ h => h) (Or.inl ⟨by first | rfl | (simp [Region.wanted, yielded, *]; done) | (simp [Region.wanted, yielded, Int.tmod_eq_emod_of_nonneg (Int.natCast_nonneg _), *]; done) | (simp [Region.wanted, yielded]; omega), ?_⟩) ?_ ?_
                  rotate_left
                  · intro w'
                    go_simp
                    with_reducible rfl
                  rotate_left
                  · simp only [Act.put, List.setIfInBounds_toArray, List.set_cons_zero, List.set_cons_succ, i64_w, i32_w]
                    rfl
                  refine one_ (i := 18) (N := none) #[true, true, true, true, true, true, true, true, true, true, true, true, true, true, true, true, true, true, true] rfl rfl (one_of HT_.out (by kernel_rfl)) (by decide) (fun K hK => ?_)
                  have hs60 : w57.cell? ⟨gb135, 2, none⟩ = some (.slice none 0 0) := (blk_cell BK135.out 2).trans rfl
                  have hfs60 := blk_frozen BK135.out 2
                  have hns60_0 := NB134_135.out
                  have hms60_0 := NB135_134.out
                  refine skip_ (w1 := ?_) (by rfl) rfl ?_ ?_
                  rotate_left
                  · go_simp
                    rfl
                  refine hK.out _ _ ⟨((cell_far (p := ⟨gb135, _, none⟩) (by first | exact Nat.ne_of_lt (Nat.lt_of_lt_of_le (World.block_lt_of_cell? _ _ HP0_0.out) GW135.out) | (rw [add_block]; exact Nat.ne_of_lt (Nat.lt_of_lt_of_le (World.block_lt_of_cell? _ _ HP0_0.out) GW135.out)) | (show (Addr.add _ _).block ≠ _; rw [add_block]; exact Nat.ne_of_lt (Nat.lt_of_lt_of_le (World.block_lt_of_cell? _ _ HP0_0.out) GW135.out)) | (dsimp only; exact Nat.ne_of_lt (Nat.lt_of_lt_of_le (World.block_lt_of_cell? _ _ HP0_0.out) GW135.out))) _).trans (hHeld.1)), ((cell_far (p := ⟨gb135, _, none⟩) (by first | exact Nat.ne_of_lt (Nat.lt_of_lt_of_le (World.block_lt_of_cell? _ _ HP0_1.out) GW135.out) | (rw [add_block]; exact Nat.ne_of_lt (Nat.lt_of_lt_of_le (World.block_lt_of_cell? _ _ HP0_1.out) GW135.out)) | (show (Addr.add _ _).block ≠ _; rw [add_block]; exact Nat.ne_of_lt (Nat.lt_of_lt_of_le (World.block_lt_of_cell? _ _ HP0_1.out) GW135.out)) | (dsimp only; exact Nat.ne_of_lt (Nat.lt_of_lt_of_le (World.block_lt_of_cell? _ _ HP0_1.out) GW135.out))) _).trans (hHeld.2.1)), ((cell_far (p := ⟨gb135, _, none⟩) (by first | exact Nat.ne_of_lt (Nat.lt_of_lt_of_le (World.block_lt_of_cell? _ _ HP0_2.out) GW135.out) | (rw [add_block]; exact Nat.ne_of_lt (Nat.lt_of_lt_of_le (World.block_lt_of_cell? _ _ HP0_2.out) GW135.out)) | (show (Addr.add _ _).block ≠ _; rw [add_block]; exact Nat.ne_of_lt (Nat.lt_of_lt_of_le (World.block_lt_of_cell? _ _ HP0_2.out) GW135.out)) | (dsimp only; exact Nat.ne_of_lt (Nat.lt_of_lt_of_le (World.block_lt_of_cell? _ _ HP0_2.out) GW135.out))) _).trans (hHeld.2.2.1)), ((cell_far (p := ⟨gb135, _, none⟩) (by first | exact Nat.ne_of_lt (Nat.lt_of_lt_of_le (World.block_lt_of_cell? _ _ HP0_3.out) GW135.out) | (rw [add_block]; exact Nat.ne_of_lt (Nat.lt_of_lt_of_le (World.block_lt_of_cell? _ _ HP0_3.out) GW135.out)) | (show (Addr.add _ _).block ≠ _; rw [add_block]; exact Nat.ne_of_lt (Nat.lt_of_lt_of_le (World.block_lt_of_cell? _ _ HP0_3.out) GW135.out)) | (dsimp only; exact Nat.ne_of_lt (Nat.lt_of_lt_of_le (World.block_lt_of_cell? _ _ HP0_3.out) GW135.out))) _).trans (hHeld.2.2.2.1)), ((cell_far (p := ⟨gb135, _, none⟩) (by first | exact Nat.ne_of_lt (Nat.lt_of_lt_of_le (World.block_lt_of_cell? _ _ HP0_4.out) GW135.out) | (rw [add_block]; exact Nat.ne_of_lt (Nat.lt_of_lt_of_le (World.block_lt_of_cell? _ _ HP0_4.out) GW135.out)) | (show (Addr.add _ _).block ≠ _; rw [add_block]; exact Nat.ne_of_lt (Nat.lt_of_lt_of_le (World.block_lt_of_cell? _ _ HP0_4.out) GW135.out)) | (dsimp only; exact Nat.ne_of_lt (Nat.lt_of_lt_of_le (World.block_lt_of_cell? _ _ HP0_4.out) GW135.out))) _).trans (hHeld.2.2.2.2.1)), ((cell_far (p := ⟨gb135, _, none⟩) (by first | exact Nat.ne_of_lt (Nat.lt_of_lt_of_le (World.block_lt_of_cell? _ _ HP0_5.out) GW135.out) | (rw [add_block]; exact Nat.ne_of_lt (Nat.lt_of_lt_of_le (World.block_lt_of_cell? _ _ HP0_5.out) GW135.out)) | (show (Addr.add _ _).block ≠ _; rw [add_block]; exact Nat.ne_of_lt (Nat.lt_of_lt_of_le (World.block_lt_of_cell? _ _ HP0_5.out) GW135.out)) | (dsimp only; exact Nat.ne_of_lt (Nat.lt_of_lt_of_le (World.block_lt_of_cell? _ _ HP0_5.out) GW135.out))) _).trans (hHeld.2.2.2.2.2.1)), ((cell_far (p := ⟨gb135, _, none⟩) (by first | exact Nat.ne_of_lt (Nat.lt_of_lt_of_le (World.block_lt_of_cell? _ _ HP0_6.out) GW135.out) | (rw [add_block]; exact Nat.ne_of_lt (Nat.lt_of_lt_of_le (World.block_lt_of_cell? _ _ HP0_6.out) GW135.out)) | (show (Addr.add _ _).block ≠ _; rw [add_block]; exact Nat.ne_of_lt (Nat.lt_of_lt_of_le (World.block_lt_of_cell? _ _ HP0_6.out) GW135.out)) | (dsimp only; exact Nat.ne_of_lt (Nat.lt_of_lt_of_le (World.block_lt_of_cell? _ _ HP0_6.out) GW135.out))) _).trans (hHeld.2.2.2.2.2.2.1)), ((cell_far (p := ⟨gb135, _, none⟩) (by first | exact Nat.ne_of_lt (Nat.lt_of_lt_of_le (World.block_lt_of_cell? _ _ HP0_0.out) GW135.out) | (rw [add_block]; exact Nat.ne_of_lt (Nat.lt_of_lt_of_le (World.block_lt_of_cell? _ _ HP0_0.out) GW135.out)) | (show (Addr.add _ _).block ≠ _; rw [add_block]; exact Nat.ne_of_lt (Nat.lt_of_lt_of_le (World.block_lt_of_cell? _ _ HP0_0.out) GW135.out)) | (dsimp only; exact Nat.ne_of_lt (Nat.lt_of_lt_of_le (World.block_lt_of_cell? _ _ HP0_0.out) GW135.out))) _).trans (hHeld.2.2.2.2.2.2.2.1)), ((cell_far (p := ⟨gb135, _, none⟩) (by first | exact Nat.ne_of_lt (Nat.lt_of_lt_of_le (World.block_lt_of_cell? _ _ HP0_1.out) GW135.out) | (rw [add_block]; exact Nat.ne_of_lt (Nat.lt_of_lt_of_le (World.block_lt_of_cell? _ _ HP0_1.out) GW135.out)) | (show (Addr.add _ _).block ≠ _; rw [add_block]; exact Nat.ne_of_lt (Nat.lt_of_lt_of_le (World.block_lt_of_cell? _ _ HP0_1.out) GW135.out)) | (dsimp only; exact Nat.ne_of_lt (Nat.lt_of_lt_of_le (World.block_lt_of_cell? _ _ HP0_1.out) GW135.out))) _).trans (hHeld.2.2.2.2.2.2.2.2.1)), ((cell_far (p := ⟨gb135, _, none⟩) (by first | exact Nat.ne_of_lt (Nat.lt_of_lt_of_le (World.block_lt_of_cell? _ _ HP0_2.out) GW135.out) | (rw [add_block]; exact Nat.ne_of_lt (Nat.lt_of_lt_of_le (World.block_lt_of_cell? _ _ HP0_2.out) GW135.out)) | (show (Addr.add _ _).block ≠ _; rw [add_block]; exact Nat.ne_of_lt (Nat.lt_of_lt_of_le (World.block_lt_of_cell? _ _ HP0_2.out) GW135.out)) | (dsimp only; exact Nat.ne_of_lt (Nat.lt_of_lt_of_le (World.block_lt_of_cell? _ _ HP0_2.out) GW135.out))) _).trans (hHeld.2.2.2.2.2.2.2.2.2.1)), ((cell_far (p := ⟨gb135, _, none⟩) (by first | exact Nat.ne_of_lt (Nat.lt_of_lt_of_le (World.block_lt_of_cell? _ _ HP0_3.out) GW135.out) | (rw [add_block]; exact Nat.ne_of_lt (Nat.lt_of_lt_of_le (World.block_lt_of_cell? _ _ HP0_3.out) GW135.out)) | (show (Addr.add _ _).block ≠ _; rw [add_block]; exact Nat.ne_of_lt (Nat.lt_of_lt_of_le (World.block_lt_of_cell? _ _ HP0_3.out) GW135.out)) | (dsimp only; exact Nat.ne_of_lt (Nat.lt_of_lt_of_le (World.block_lt_of_cell? _ _ HP0_3.out) GW135.out))) _).trans (hHeld.2.2.2.2.2.2.2.2.2.2.1)), ((cell_far (p := ⟨gb135, _, none⟩) (by first | exact Nat.ne_of_lt (Nat.lt_of_lt_of_le (World.block_lt_of_cell? _ _ HP0_4.out) GW135.out) | (rw [add_block]; exact Nat.ne_of_lt (Nat.lt_of_lt_of_le (World.block_lt_of_cell? _ _ HP0_4.out) GW135.out)) | (show (Addr.add _ _).block ≠ _; rw [add_block]; exact Nat.ne_of_lt (Nat.lt_of_lt_of_le (World.block_lt_of_cell? _ _ HP0_4.out) GW135.out)) | (dsimp only; exact Nat.ne_of_lt (Nat.lt_of_lt_of_le (World.block_lt_of_cell? _ _ HP0_4.out) GW135.out))) _).trans (hHeld.2.2.2.2.2.2.2.2.2.2.2.1)), ((cell_far (p := ⟨gb135, _, none⟩) (by first | exact Nat.ne_of_lt (Nat.lt_of_lt_of_le (World.block_lt_of_cell? _ _ HP0_5.out) GW135.out) | (rw [add_block]; exact Nat.ne_of_lt (Nat.lt_of_lt_of_le (World.block_lt_of_cell? _ _ HP0_5.out) GW135.out)) | (show (Addr.add _ _).block ≠ _; rw [add_block]; exact Nat.ne_of_lt (Nat.lt_of_lt_of_le (World.block_lt_of_cell? _ _ HP0_5.out) GW135.out)) | (dsimp only; exact Nat.ne_of_lt (Nat.lt_of_lt_of_le (World.block_lt_of_cell? _ _ HP0_5.out) GW135.out))) _).trans (hHeld.2.2.2.2.2.2.2.2.2.2.2.2.1)), ((cell_far (p := ⟨gb135, _, none⟩) (by first | exact Nat.ne_of_lt (Nat.lt_of_lt_of_le (World.block_lt_of_cell? _ _ HP0_6.out) GW135.out) | (rw [add_block]; exact Nat.ne_of_lt (Nat.lt_of_lt_of_le (World.block_lt_of_cell? _ _ HP0_6.out) GW135.out)) | (show (Addr.add _ _).block ≠ _; rw [add_block]; exact Nat.ne_of_lt (Nat.lt_of_lt_of_le (World.block_lt_of_cell? _ _ HP0_6.out) GW135.out)) | (dsimp only; exact Nat.ne_of_lt (Nat.lt_of_lt_of_le (World.block_lt_of_cell? _ _ HP0_6.out) GW135.out))) _).trans (hHeld.2.2.2.2.2.2.2.2.2.2.2.2.2.1)), ((cell_far (p := ⟨gb135, _, none⟩) (by first | exact Nat.ne_of_lt (Nat.lt_of_lt_of_le (World.block_lt_of_cell? _ _ HP0_0.out) GW135.out) | (rw [add_block]; exact Nat.ne_of_lt (Nat.lt_of_lt_of_le (World.block_lt_of_cell? _ _ HP0_0.out) GW135.out)) | (show (Addr.add _ _).block ≠ _; rw [add_block]; exact Nat.ne_of_lt (Nat.lt_of_lt_of_le (World.block_lt_of_cell? _ _ HP0_0.out) GW135.out)) | (dsimp only; exact Nat.ne_of_lt (Nat.lt_of_lt_of_le (World.block_lt_of_cell? _ _ HP0_0.out) GW135.out))) _).trans (hHeld.2.2.2.2.2.2.2.2.2.2.2.2.2.2.1)), ((cell_far (p := ⟨gb135, _, none⟩) (by first | exact Nat.ne_of_lt (Nat.lt_of_lt_of_le (World.block_lt_of_cell? _ _ HP0_1.out) GW135.out) | (rw [add_block]; exact Nat.ne_of_lt (Nat.lt_of_lt_of_le (World.block_lt_of_cell? _ _ HP0_1.out) GW135.out)) | (show (Addr.add _ _).block ≠ _; rw [add_block]; exact Nat.ne_of_lt (Nat.lt_of_lt_of_le (World.block_lt_of_cell? _ _ HP0_1.out) GW135.out)) | (dsimp only; exact Nat.ne_of_lt (Nat.lt_of_lt_of_le (World.block_lt_of_cell? _ _ HP0_1.out) GW135.out))) _).trans (hHeld.2.2.2.2.2.2.2.2.2.2.2.2.2.2.2.1)), ((cell_far (p := ⟨gb135, _, none⟩) (by first | exact Nat.ne_of_lt (Nat.lt_of_lt_of_le (World.block_lt_of_cell? _ _ HP0_2.out) GW135.out) | (rw [add_block]; exact Nat.ne_of_lt (Nat.lt_of_lt_of_le (World.block_lt_of_cell? _ _ HP0_2.out) GW135.out)) | (show (Addr.add _ _).block ≠ _; rw [add_block]; exact Nat.ne_of_lt (Nat.lt_of_lt_of_le (World.block_lt_of_cell? _ _ HP0_2.out) GW135.out)) | (dsimp only; exact Nat.ne_of_lt (Nat.lt_of_lt_of_le (World.block_lt_of_cell? _ _ HP0_2.out) GW135.out))) _).trans (hHeld.2.2.2.2.2.2.2.2.2.2.2.2.2.2.2.2.1)), ((cell_far (p := ⟨gb135, _, none⟩) (by first | exact Nat.ne_of_lt (Nat.lt_of_lt_of_le (World.block_lt_of_cell? _ _ HP0_3.out) GW135.out) | (rw [add_block]; exact Nat.ne_of_lt (Nat.lt_of_lt_of_le (World.block_lt_of_cell? _ _ HP0_3.out) GW135.out)) | (show (Addr.add _ _).block ≠ _; rw [add_block]; exact Nat.ne_of_lt (Nat.lt_of_lt_of_le (World.block_lt_of_cell? _ _ HP0_3.out) GW135.out)) | (dsimp only; exact Nat.ne_of_lt (Nat.lt_of_lt_of_le (World.block_lt_of_cell? _ _ HP0_3.out) GW135.out))) _).trans (hHeld.2.2.2.2.2.2.2.2.2.2.2.2.2.2.2.2.2.1)), ((cell_far (p := ⟨gb135, _, none⟩) (by first | exact Nat.ne_of_lt (Nat.lt_of_lt_of_le (World.block_lt_of_cell? _ _ HP0_4.out) GW135.out) | (rw [add_block]; exact Nat.ne_of_lt (Nat.lt_of_lt_of_le (World.block_lt_of_cell? _ _ HP0_4.out) GW135.out)) | (show (Addr.add _ _).block ≠ _; rw [add_block]; exact Nat.ne_of_lt (Nat.lt_of_lt_of_le (World.block_lt_of_cell? _ _ HP0_4.out) GW135.out)) | (dsimp only; exact Nat.ne_of_lt (Nat.lt_of_lt_of_le (World.block_lt_of_cell? _ _ HP0_4.out) GW135.out))) _).trans (hHeld.2.2.2.2.2.2.2.2.2.2.2.2.2.2.2.2.2.2.1)), ((cell_far (p := ⟨gb135, _, none⟩) (by first | exact Nat.ne_of_lt (Nat.lt_of_lt_of_le (World.block_lt_of_cell? _ _ HP0_5.out) GW135.out) | (rw [add_block]; exact Nat.ne_of_lt (Nat.lt_of_lt_of_le (World.block_lt_of_cell? _ _ HP0_5.out) GW135.out)) | (show (Addr.add _ _).block ≠ _; rw [add_block]; exact Nat.ne_of_lt (Nat.lt_of_lt_of_le (World.block_lt_of_cell? _ _ HP0_5.out) GW135.out)) | (dsimp only; exact Nat.ne_of_lt (Nat.lt_of_lt_of_le (World.block_lt_of_cell? _ _ HP0_5.out) GW135.out))) _).trans (hHeld.2.2.2.2.2.2.2.2.2.2.2.2.2.2.2.2.2.2.2.1)), ((cell_far (p := ⟨gb135, _, none⟩) (by first | exact Nat.ne_of_lt (Nat.lt_of_lt_of_le (World.block_lt_of_cell? _ _ HP0_6.out) GW135.out) | (rw [add_block]; exact Nat.ne_of_lt (Nat.lt_of_lt_of_le (World.block_lt_of_cell? _ _ HP0_6.out) GW135.out)) | (show (Addr.add _ _).block ≠ _; rw [add_block]; exact Nat.ne_of_lt (Nat.lt_of_lt_of_le (World.block_lt_of_cell? _ _ HP0_6.out) GW135.out)) | (dsimp only; exact Nat.ne_of_lt (Nat.lt_of_lt_of_le (World.block_lt_of_cell? _ _ HP0_6.out) GW135.out))) _).trans (hHeld.2.2.2.2.2.2.2.2.2.2.2.2.2.2.2.2.2.2.2.2))⟩ (fun hHeld => ?_)
                  clear hK K
                  refine done_ (done_of HT_.out (by kernel_rfl)) ?_
                  try go_wp2
                  have n0_ : Aside0 (Kd.R (Kd.int .u8) 5 (w57.setCell ⟨gb135, 2, none⟩ (.slice Ao59 y166.length co59)) w.heap.size (fun k_ => some k_ ≠ (.slice Ao58 t163.length co58 : Value).ownBlock ∧ some k_ ≠ (.slice Ao59 y166.length co59 : Value).ownBlock) (.slice Ao55 t157.length co55) t157) := ⟨by (with_reducible repeat (first | apply Kd.R_alloc | apply Kd.R_drewN | apply Kd.R_drew)); exact Kd.R_mono (Kd.R_far (p := ⟨gb135, 2, none⟩) (Kd.R_types HO159.out BK135.out (by decide)) (fun _ hk => hk.2) (.slice Ao59 y166.length co59)) (fun _ hk => ⟨hk.1.1, hk.1.2⟩)⟩
                  have n1_ : Aside0 (Kd.R (Kd.int .u8) 5 (w57.setCell ⟨gb135, 2, none⟩ (.slice Ao59 y166.length co59)) w.heap.size (fun k_ => some k_ ≠ (.slice Ao55 t157.length co55 : Value).ownBlock ∧ some k_ ≠ (.slice Ao59 y166.length co59 : Value).ownBlock) (.slice Ao58 t163.length co58) t163) := ⟨by (with_reducible repeat (first | apply Kd.R_alloc | apply Kd.R_drewN | apply Kd.R_drew)); exact Kd.R_mono (Kd.R_far (p := ⟨gb135, 2, none⟩) (Kd.R_types HO165.out BK135.out (by decide)) (fun _ hk => hk.2) (.slice Ao59 y166.length co59)) (fun _ hk => ⟨hk.1.1, hk.1.2⟩)⟩
                  have n2_ : Aside0 (Kd.R (Kd.int .u8) 5 (w57.setCell ⟨gb135, 2, none⟩ (.slice Ao59 y166.length co59)) w.heap.size (fun k_ => some k_ ≠ (.slice Ao55 t157.length co55 : Value).ownBlock ∧ some k_ ≠ (.slice Ao58 t163.length co58 : Value).ownBlock) (.slice Ao59 y166.length co59) y166) := ⟨by (with_reducible repeat (first | apply Kd.R_alloc | apply Kd.R_drewN | apply Kd.R_drew)); exact Kd.R_mono (Kd.R_far (p := ⟨gb135, 2, none⟩) (Kd.R_types HO168.out BK135.out (by decide)) (fun _ hk => hk.2) (.slice Ao59 y166.length co59)) (fun _ hk => ⟨hk.1.1, hk.1.2⟩)⟩
                  have n3_ : Aside0 ((w57.setCell ⟨gb135, 2, none⟩ (.slice Ao59 y166.length co59)).heap[gb134]? = some (.cells #[.int .i64 0, .int .i64 0, .slice none 0 0] 27 (0, 0))) := ⟨by (with_reducible repeat (first | refine blk_drewN ?_ _ | refine blk_drew ?_ | refine blk_alloc ?_ _)); refine blk_far ?_ NB134_135.out _; (with_reducible repeat (first | refine blk_drewN ?_ _ | refine blk_drew ?_ | refine blk_alloc ?_ _)); exact BK134.out⟩
                  have n4_ : Aside0 ((w57.setCell ⟨gb135, 2, none⟩ (.slice Ao59 y166.length co59)).heap[gb135]? = some (.cells #[.int .i64 0, .int .i64 x136001_10, .slice Ao59 y166.length co59] 27 (0, 0))) := ⟨by (with_reducible repeat (first | refine blk_drewN ?_ _ | refine blk_drew ?_ | refine blk_alloc ?_ _)); refine blk_put (cs := #[.int .i64 0, .int .i64 x136001_10, .slice none 0 0]) ?_ 2 _ rfl; (with_reducible repeat (first | refine blk_drewN ?_ _ | refine blk_drew ?_ | refine blk_alloc ?_ _)); exact BK135.out⟩
                  have n5_ : Aside0 (Below w.heap.size w (w57.setCell ⟨gb135, 2, none⟩ (.slice Ao59 y166.length co59))) := ⟨by repeat (first | (with_reducible first | exact HB.out | apply below_alloc | apply pw_below_drewN | apply below_drew1 | refine below_set ?_ GE134.out | refine below_set ?_ GE135.out) | exact HB.out)⟩
                  (try clear HO159)
                  (try clear HO165)
                  (try clear HO168)
                  (try clear BK134)
                  (try clear BK135)
                  (try clear HB)
                  generalize (w57.setCell ⟨gb135, 2, none⟩ (.slice Ao59 y166.length co59)) = w61 at n0_ n1_ n2_ n3_ n4_ n5_ ⊢
                  have HO159 := n0_
                  have HO165 := n1_
                  have HO168 := n2_
                  have BK134 := n3_
                  have BK135 := n4_
                  have HB := n5_
                  clear n0_ n1_ n2_ n3_ n4_ n5_
                  have n0_ := Aside0.mk (Kd.R_drew HO159.out)
                  have n1_ := Aside0.mk (Kd.R_drew HO165.out)
                  have n2_ := Aside0.mk (Kd.R_drew HO168.out)
                  have n3_ := Aside0.mk (blk_drew BK134.out)
                  have n4_ := Aside0.mk (blk_drew BK135.out)
                  have n5_ := Aside0.mk (below_drew1 HB.out)
                  clear HO159
                  clear HO165
                  clear HO168
                  clear BK134
                  clear BK135
                  clear HB
                  have HO159 := n0_
                  have HO165 := n1_
                  have HO168 := n2_
                  have BK134 := n3_
                  have BK135 := n4_
                  have HB := n5_
                  clear n0_ n1_ n2_ n3_ n4_ n5_
                  refine start_ (n := 9) (S := fun w' => w'.cell? ⟨gb135, 0, none⟩ = some (.int .i64 0) ∧ w'.cell? ⟨gb135, 1, none⟩ = some (.int .i64 x136001_10) ∧ w'.cell? ⟨gb135, 2, none⟩ = some (.slice Ao59 y166.length co59) ∧ w'.cell? P0_ = some (.int .i64 a0_0) ∧ w'.cell? ⟨P0_.block, P0_.off + 1, none⟩ = some (.int .i64 a0_1) ∧ w'.cell? ⟨P0_.block, P0_.off + 2, none⟩ = some (.int .i64 a0_2) ∧ w'.cell? ⟨P0_.block, P0_.off + 3, none⟩ = some (.bool a0_3) ∧ w'.cell? ⟨P0_.block, P0_.off + 4, none⟩ = some (.bool a0_4) ∧ w'.cell? ⟨P0_.block, P0_.off + 5, none⟩ = some (.bool false) ∧ w'.cell? ⟨P0_.block, P0_.off + 6, none⟩ = some (.slice A0_6 l0_6.length c0_6)) (ds := [8]) #[false, false, false, false, false, false, false, false, false] (by kernel_rfl) rfl rfl ⟨(blk_cell BK135.out 0).trans rfl, (blk_cell BK135.out 1).trans rfl, (blk_cell BK135.out 2).trans rfl, ((HB.out.cell (World.block_lt_of_cell? w _ HP0_0.out)).trans HP0_0.out), ((HB.out.cell (World.block_lt_of_cell? w _ HP0_1.out)).trans HP0_1.out), ((HB.out.cell (World.block_lt_of_cell? w _ HP0_2.out)).trans HP0_2.out), ((HB.out.cell (World.block_lt_of_cell? w _ HP0_3.out)).trans HP0_3.out), ((HB.out.cell (World.block_lt_of_cell? w _ HP0_4.out)).trans HP0_4.out), ((HB.out.cell (World.block_lt_of_cell? w _ HP0_5.out)).trans HP0_5.out), ((HB.out.cell (World.block_lt_of_cell? w _ HP0_6.out)).trans HP0_6.out)⟩ (fun hHeld => ?_); refine with_tabW spec_l5Data.tab9 spec_l5Data.bits9 (fun HT_ HW_ => ?_)
                  generalize w61.drew = w62 at HO159 HO165 HO168 BK134 BK135 HB hHeld ⊢
                  refine pure_ (i := 0) (N := some 44) (v := ?_) (a' := ?_) #[true, false, false, false, false, false, false, false, false] rfl rfl (any_of HT_.out (by kernel_rfl)) (fun _ _ _ h => h) (Or.inl ⟨by first | rfl | (simp [Region.wanted, yielded, *]; done) | (simp [Region.wanted, yielded, Int.tmod_eq_emod_of_nonneg (Int.natCast_nonneg _), *]; done) | (simp [Region.wanted, yielded]; omega), ?_⟩) ?_ ?_
                  rotate_left
                  · intro w'
                    go_simp
                    with_reducible rfl
                  rotate_left
                  · simp only [Act.put, List.setIfInBounds_toArray, List.set_cons_zero, List.set_cons_succ, i64_w, i32_w]
                    rfl
                  refine pure_ (i := 2) (N := some 46) (v := ?_) (a' := ?_) #[true, false, true, false, false, false, false, false, false] rfl rfl (any_of HT_.out (by kernel_rfl)) (fun _ _ _ h => h) (Or.inl ⟨by first | rfl | (simp [Region.wanted, yielded, *]; done) | (simp [Region.wanted, yielded, Int.tmod_eq_emod_of_nonneg (Int.natCast_nonneg _), *]; done) | (simp [Region.wanted, yielded]; omega), ?_⟩) ?_ ?_
                  rotate_left
                  · intro w'
                    go_simp
                    with_reducible rfl
                  rotate_left
                  · simp only [Act.put, List.setIfInBounds_toArray, List.set_cons_zero, List.set_cons_succ, i64_w, i32_w]
                    rfl
                  refine pure_ (i := 3) (N := some 47) (v := ?_) (a' := ?_) #[true, false, true, true, false, false, false, false, false] rfl rfl (any_of HT_.out (by kernel_rfl)) (fun _ _ _ h => h) (Or.inl ⟨by first | rfl | (simp [Region.wanted, yielded, *]; done) | (simp [Region.wanted, yielded, Int.tmod_eq_emod_of_nonneg (Int.natCast_nonneg _), *]; done) | (simp [Region.wanted, yielded]; omega), ?_⟩) ?_ ?_
                  rotate_left
                  · intro w'
                    go_simp
                    with_reducible rfl
                  rotate_left
                  · simp only [Act.put, List.setIfInBounds_toArray, List.set_cons_zero, List.set_cons_succ, i64_w, i32_w]
                    rfl
                  refine pure_ (i := 4) (N := some 48) (v := ?_) (a' := ?_) #[true, false, true, true, true, false, false, false, false] rfl rfl (any_of HT_.out (by kernel_rfl)) (fun _ _ _ h => h) (Or.inl ⟨by first | rfl | (simp [Region.wanted, yielded, *]; done) | (simp [Region.wanted, yielded, Int.tmod_eq_emod_of_nonneg (Int.natCast_nonneg _), *]; done) | (simp [Region.wanted, yielded]; omega), ?_⟩) ?_ ?_
                  rotate_left
                  · intro w'
                    go_simp
                    with_reducible rfl
                  rotate_left
                  · simp only [Act.put, List.setIfInBounds_toArray, List.set_cons_zero, List.set_cons_succ, i64_w, i32_w]
                    rfl
                  refine take_ (i := 1) (N := some 45) (v := ?_) (a' := ?_) #[true, true, true, true, true, false, false, false, false] rfl rfl (take_ofW HT_.out HW_.out (by kernel_rfl)) (fun _ _ _ h => h) (Or.inl ⟨by first | rfl | (simp [Region.wanted, yielded, *]; done) | (simp [Region.wanted, yielded, Int.tmod_eq_emod_of_nonneg (Int.natCast_nonneg _), *]; done) | (simp [Region.wanted, yielded]; omega), ?_⟩) hHeld ?_ ?_
                  rotate_left
                  · rintro w' ⟨s0, s1, s2, s3, s4, s5, s6, s7, s8, s9⟩
                    go_simp
                    with_reducible rfl
                  rotate_left
                  · simp only [Act.put, List.setIfInBounds_toArray, List.set_cons_zero, List.set_cons_succ, i64_w, i32_w]
                    rfl
                  refine take_ (i := 5) (N := some 49) (v := ?_) (a' := ?_) #[true, true, true, true, true, true, false, false, false] rfl rfl (take_ofW HT_.out HW_.out (by kernel_rfl)) (fun _ _ _ h => h) (Or.inl ⟨by first | rfl | (simp [Region.wanted, yielded, *]; done) | (simp [Region.wanted, yielded, Int.tmod_eq_emod_of_nonneg (Int.natCast_nonneg _), *]; done) | (simp [Region.wanted, yielded]; omega), ?_⟩) hHeld ?_ ?_
                  rotate_left
                  · rintro w' ⟨s0, s1, s2, s3, s4, s5, s6, s7, s8, s9⟩
                    go_simp
                    with_reducible rfl
                  rotate_left
                  · simp only [Act.put, List.setIfInBounds_toArray, List.set_cons_zero, List.set_cons_succ, i64_w, i32_w]
                    rfl
                  refine one_ (i := 6) (N := some 50) #[true, true, true, true, true, true, true, false, false] rfl rfl (one_of HT_.out (by kernel_rfl)) (by decide) (fun K hK => ?_)
                  refine Kd.R_append_rows_step (Kd.int .u8) (w0 := w) w.heap.size (by rfl) (.tmp 45) (.tmp 49) 22 5 (.int .u8 0) 1 rfl Try.underlying22 info5 rfl (by decide) (by omega) (.slice Ao59 y166.length co59) y166 l0_6 _ _ _ (fun k_ => some k_ ≠ (.slice Ao55 t157.length co55 : Value).ownBlock ∧ some k_ ≠ (.slice Ao58 t163.length co58 : Value).ownBlock) (fun _ => False) rfl rfl ?aO ?aR (fun _ _ h => h) (fun _ h => h.elim) ?aF ?aB ?aS ?aL ?_
                  (case aR => repeat (first | exact (Kd.C_below HR0_6.out HB.out) | (with_reducible refine Kd.C_alloc ?_ _) | (with_reducible refine Kd.C_drewN ?_ _) | (with_reducible refine Kd.C_drew ?_)))
                  (case aB => exact (by repeat (first | (with_reducible first | exact HB.out | apply below_alloc | apply pw_below_drewN | apply below_drew1 | refine below_set ?_ GE134.out | refine below_set ?_ GE135.out) | exact HB.out)))
                  (case aF => exact (fun k_ hk => ⟨Kd.fresh' (Kd.R_lt (by (with_reducible repeat (first | apply Kd.R_alloc | apply Kd.R_drewN | apply Kd.R_drew)); exact HO159.out)) k_ hk, Kd.fresh' (Kd.R_lt (by (with_reducible repeat (first | apply Kd.R_alloc | apply Kd.R_drewN | apply Kd.R_drew)); exact HO165.out)) k_ hk⟩))
                  (case aO => exact (by (with_reducible repeat (first | apply Kd.R_alloc | apply Kd.R_drewN | apply Kd.R_drew)); exact HO168.out))
                  (case aS => exact (below_size (by repeat (first | (with_reducible first | exact HB.out | apply below_alloc | apply pw_below_drewN | apply below_drew1 | refine below_set ?_ GE134.out | refine below_set ?_ GE135.out) | exact HB.out))))
                  (case aL => have := LMc49.out; omega)
                  intro v170 w63 ho hb hg hat
                  rw [← Ny169.out] at ho
                  have n0_ := Aside0.mk (blk_grown (g := gb134) (o := .cells #[.int .i64 0, .int .i64 0, .slice none 0 0] 27 (0, 0)) (by (with_reducible repeat (first | refine blk_drewN ?_ _ | refine blk_drew ?_ | refine blk_alloc ?_ _)); exact BK134.out) hg (Kd.R_ne HO168.out BK134.out (by decide)))
                  have n1_ := Aside0.mk (blk_grown (g := gb135) (o := .cells #[.int .i64 0, .int .i64 x136001_10, .slice Ao59 y166.length co59] 27 (0, 0)) (by (with_reducible repeat (first | refine blk_drewN ?_ _ | refine blk_drew ?_ | refine blk_alloc ?_ _)); exact BK135.out) hg (Kd.R_ne HO168.out BK135.out (by decide)))
                  have n2_ := Aside0.mk (Kd.R_after (ok := (fun k_ => some k_ ≠ (.slice Ao58 t163.length co58 : Value).ownBlock)) (by (with_reducible repeat (first | apply Kd.R_alloc | apply Kd.R_drewN | apply Kd.R_drew)); exact HO159.out) hg hat)
                  have n3_ := Aside0.mk (Kd.R_after (ok := (fun k_ => some k_ ≠ (.slice Ao55 t157.length co55 : Value).ownBlock)) (by (with_reducible repeat (first | apply Kd.R_alloc | apply Kd.R_drewN | apply Kd.R_drew)); exact HO165.out) hg hat)
                  have n4_ := Aside0.mk (hb)
                  have n5_ := Aside0.mk (ho)
                  clear BK134
                  clear BK135
                  clear HO159
                  clear HO165
                  clear HB
                  clear HO168
                  have BK134 := n0_
                  have BK135 := n1_
                  have HO159 := n2_
                  have HO165 := n3_
                  have HB := n4_
                  have HO171 := n5_
                  clear n0_ n1_ n2_ n3_ n4_ n5_
                  clear ho hb hg hat
                  obtain ⟨Ao64, co64, eo64⟩ := Kd.R_slice HO171.out
                  (first | subst eo64 | (injection eo64 with f1_ f2_ f3_; have f4_ := f1_.symm; have f5_ := f3_.symm; clear f1_ f2_ f3_; subst f4_; subst f5_))
                  refine hK.out _ _ ⟨(blk_cell BK135.out 0).trans rfl, (blk_cell BK135.out 1).trans rfl, (blk_cell BK135.out 2).trans rfl, ((HB.out.cell (World.block_lt_of_cell? w _ HP0_0.out)).trans HP0_0.out), ((HB.out.cell (World.block_lt_of_cell? w _ HP0_1.out)).trans HP0_1.out), ((HB.out.cell (World.block_lt_of_cell? w _ HP0_2.out)).trans HP0_2.out), ((HB.out.cell (World.block_lt_of_cell? w _ HP0_3.out)).trans HP0_3.out), ((HB.out.cell (World.block_lt_of_cell? w _ HP0_4.out)).trans HP0_4.out), ((HB.out.cell (World.block_lt_of_cell? w _ HP0_5.out)).trans HP0_5.out), ((HB.out.cell (World.block_lt_of_cell? w _ HP0_6.out)).trans HP0_6.out)⟩ (fun hHeld => ?_)
                  clear hK K
                  refine norm_ (a' := ?_) ?_ ?_
                  rotate_left
                  · show Act.put _ (some 50) _ = _
                    simp only [Act.put, List.setIfInBounds_toArray, List.set_cons_zero, List.set_cons_succ, i64_w, i32_w]
                    rfl
                  refine pure_ (i := 7) (N := some 51) (v := ?_) (a' := ?_) #[true, true, true, true, true, true, true, true, false] rfl rfl (any_of HT_.out (by kernel_rfl)) (fun _ _ _ h => h) (Or.inl ⟨by first | rfl | (simp [Region.wanted, yielded, *]; done) | (simp [Region.wanted, yielded, Int.tmod_eq_emod_of_nonneg (Int.natCast_nonneg _), *]; done) | (simp [Region.wanted, yielded]; omega), ?_⟩) ?_ ?_
                  rotate_left
                  · intro w'
                    go_simp
                    with_reducible rfl
                  rotate_left
                  · simp only [Act.put, List.setIfInBounds_toArray, List.set_cons_zero, List.set_cons_succ, i64_w, i32_w]
                    rfl
                  refine last_ (i := 8) (N := none) #[true, true, true, true, true, true, true, true, true] rfl rfl (one_of HT_.out (by kernel_rfl)) (by decide) (fun K hK => ?_)
                  have hs65 : w63.cell? ⟨gb135, 2, none⟩ = some (.slice Ao59 y166.length co59) := (blk_cell BK135.out 2).trans rfl
                  have hfs65 := blk_frozen BK135.out 2
                  have hns65_0 := NB134_135.out
                  have hms65_0 := NB135_134.out
                  refine skip_ (w1 := ?_) (by rfl) rfl ?_ ?_
                  rotate_left
                  · go_simp
                    rfl
                  refine hK.out _ _ ?_
                  clear hK K
                  refine done_ (done_of HT_.out (by kernel_rfl)) ?_
                  have hnb66 := NB135_134.out
                  have hnc66 := NB134_135.out
                  have hcz67_0 : w63.cell? ⟨gb135, 0, none⟩ = some (.int .i64 0) := (blk_cell BK135.out 0).trans rfl
                  have hcz67_1 : w63.cell? ⟨gb135, 1, none⟩ = some (.int .i64 x136001_10) := (blk_cell BK135.out 1).trans rfl
                  have hcz67_2 : w63.cell? ⟨gb135, 2, none⟩ = some (.slice Ao59 y166.length co59) := (blk_cell BK135.out 2).trans rfl
                  have hfz67_0 := blk_frozen BK135.out 0
                  have hfz67_1 := blk_frozen BK135.out 1
                  have hfz67_2 := blk_frozen BK135.out 2
                  have hcz68_0 : w63.cell? ⟨gb134, 0, none⟩ = some (.int .i64 0) := (blk_cell BK134.out 0).trans rfl
                  have hcz68_1 : w63.cell? ⟨gb134, 1, none⟩ = some (.int .i64 0) := (blk_cell BK134.out 1).trans rfl
                  have hcz68_2 : w63.cell? ⟨gb134, 2, none⟩ = some (.slice none 0 0) := (blk_cell BK134.out 2).trans rfl
                  have hfz68_0 := blk_frozen BK134.out 0
                  have hfz68_1 := blk_frozen BK134.out 1
                  have hfz68_2 := blk_frozen BK134.out 2
                  try go_wp2
                  refine bodyPost_ret (results_cell_row rfl _ _ gb134 27 #[.int .i64 0, .int .i64 x136001_10, .slice Ao64 y169.length co64] (0, 0) _ rfl (by (with_reducible repeat (first | refine blk_drewN ?_ _ | refine blk_drew ?_ | refine blk_alloc ?_ _)); refine blk_put (cs := #[.int .i64 0, .int .i64 x136001_10, .slice none 0 0]) ?_ 2 _ rfl; (with_reducible repeat (first | refine blk_drewN ?_ _ | refine blk_drew ?_ | refine blk_alloc ?_ _)); refine blk_put (cs := #[.int .i64 0, .int .i64 0, .slice none 0 0]) ?_ 1 _ rfl; (with_reducible repeat (first | refine blk_drewN ?_ _ | refine blk_drew ?_ | refine blk_alloc ?_ _)); refine blk_put (cs := #[.int .i64 0, .int .i64 0, .slice none 0 0]) ?_ 0 _ rfl; (with_reducible repeat (first | refine blk_drewN ?_ _ | refine blk_drew ?_ | refine blk_alloc ?_ _)); refine blk_far ?_ NB134_135.out _; (with_reducible repeat (first | refine blk_drewN ?_ _ | refine blk_drew ?_ | refine blk_alloc ?_ _)); exact BK134.out) Try.underlying27 rfl (by kernel_rfl)) rfl ?_
                  exact ⟨_, by first | rfl | (simp [errW_none, errW_some] <;> rfl) | (simp [*, errW_none, errW_some] <;> rfl), by (with_reducible repeat (first | apply Kd.R_alloc | apply Kd.R_drewN | apply Kd.R_drew)); exact Kd.R_mono (Kd.R_far (p := ⟨gb134, 2, none⟩) (Kd.R_far (p := ⟨gb134, 1, none⟩) (Kd.R_far (p := ⟨gb134, 0, none⟩) (Kd.R_far (p := ⟨gb135, 2, none⟩) (Kd.R_types (Kd.R_types HO171.out BK135.out (by decide)) BK134.out (by decide)) (fun _ hk => hk.1.2) (.slice Ao64 y169.length co64)) (fun _ hk => hk.2) (.int .i64 0)) (fun _ hk => hk.2) (.int .i64 x136001_10)) (fun _ hk => hk.2) (.slice Ao64 y169.length co64)) (fun _ hk => trivial), by repeat (first | (with_reducible first | exact HB.out | apply below_alloc | apply pw_below_drewN | apply below_drew1 | refine below_set ?_ GE134.out | refine below_set ?_ GE135.out) | exact HB.out)⟩
                · rw [if_neg c49] at H
                  exact absurd H (by simp)
              · rw [if_neg c48] at H
                exact absurd H (by simp)
            · rw [if_neg c46] at H
              exact absurd H (by simp)

end Go.Proofs.Ytglphklcfpgjbaa.PFnExactPackData
