-- Laid by a program of this session (wip/print): the kit's printer with changes of this session's own.
import Derived.Test.YtceobpekmladdaaPFnMacsx0
import Derived.Test.YtceobpekmladdaaPFnMacsx1
import Derived.Test.YtceobpekmladdaaPFnMacsx2
namespace Go.Proofs.Ytceobpekmladdaa.PFnMacs
open Go.RowKit Go.Proofs.YtceobpekmladdaaW.PrintWords Go.Proofs.YtceobpekmladdaaW.PrintLast Go.Proofs.YtceobpekmladdaaW.PrintMore
attribute [local go_sem] max2_int min2_int max_two min_two max_three min_three max_four min_four   -- for this text's walks alone
set_option linter.unusedVariables false
set_option linter.unusedSimpArgs false

/-! ### impl_compress: function 79 -/
mutual
def impl_compress.l0 : Nat → List Int → List Int → List Int → Int → Int → Option (List Int)
 | 0, _, _, _, _, _ => none
 | k + 1, x0, x5, x7, x23, x161000 => if x23 < 64 then (if 0 < (x7.length : Int) then (if 1 < (x7.length : Int) then (if 2 < (x7.length : Int) then (if 4 < (x7.length : Int) then (if 5 < (x7.length : Int) then (if 6 < (x7.length : Int) then (if 7 < (x7.length : Int) then ((impl_rotate.f (rd x7 4) 6).bind fun t168 => ((impl_rotate.f (rd x7 4) 11).bind fun t169 => ((impl_rotate.f (rd x7 4) 25).bind fun t170 => (if 0 ≤ x23 then (if x23 < (x5.length : Int) then ((impl_addWords.f k (([rd x7 7, Go.bits .xor .i64 (Go.bits .xor .i64 t168 t169) t170, Go.bits .xor .i64 (Go.bits .and .i64 (rd x7 4) (rd x7 5)) (Go.bits .and .i64 (Go.bits .and .i64 (Go.bits .xor .i64 (-1) (rd x7 4)) 4294967295) (rd x7 6)), rd KAL_ x23, rd x5 x23] : List Int))).bind fun t175 => ((impl_rotate.f (rd x7 0) 2).bind fun t176 => ((impl_rotate.f (rd x7 0) 13).bind fun t177 => ((impl_rotate.f (rd x7 0) 22).bind fun t178 => ((impl_addWords.f k (([Go.bits .xor .i64 (Go.bits .xor .i64 t176 t177) t178, Go.bits .xor .i64 (Go.bits .xor .i64 (Go.bits .and .i64 (rd x7 0) (rd x7 1)) (Go.bits .and .i64 (rd x7 0) (rd x7 2))) (Go.bits .and .i64 (rd x7 1) (rd x7 2))] : List Int))).bind fun t182 => ((impl_addWords.f k (([t175, t182] : List Int))).bind fun t186 => (if 3 < (x7.length : Int) then ((impl_addWords.f k (([rd x7 3, t175] : List Int))).bind fun t191 => (impl_compress.l0 k x0 x5 (([t186, rd x7 0, rd x7 1, rd x7 2, t191, rd x7 4, rd x7 5, rd x7 6] : List Int)) (wrap64 (x23 + 1)) x161000)) else (none)))))))) else (none)) else (none))))) else (none)) else (none)) else (none)) else (none)) else (none)) else (none)) else (none)) else (impl_compress.l1 k x0 x7 (x7.length : Int) 0)
def impl_compress.l1 : Nat → List Int → List Int → Int → Int → Option (List Int)
 | 0, _, _, _, _ => none
 | k + 1, x0, x7, x113, x114 => if x114 < x113 then (if 0 ≤ x114 then (if x114 < (x7.length : Int) then (if x114 < (x0.length : Int) then ((impl_addWords.f k (([rd x7 x114, rd x0 x114] : List Int))).bind fun t200 => (impl_compress.l1 k x0 (x7.set (x114 : Int).toNat t200) x113 (wrap64 (x114 + 1)))) else (none)) else (none)) else (none)) else (some x7)
end
def impl_compress.f (k : Nat) (l0 : List Int) (l1 : List Int) : Option (List Int) := (impl_scheduleOf.f k l1).bind fun t153 => ((impl_roundWords.f).bind fun t156 => ((slices_Clone_int64_int64.f l0).bind fun t157 => (impl_compress.l0 k l0 t153 t157 0 t156)))
theorem impl_compress.mono_l : ∀ k, (∀ y0 y1 y2 y3 y4, LeO (impl_compress.l0 k y0 y1 y2 y3 y4) (impl_compress.l0 (k + 1) y0 y1 y2 y3 y4)) ∧ (∀ y0 y1 y2 y3, LeO (impl_compress.l1 k y0 y1 y2 y3) (impl_compress.l1 (k + 1) y0 y1 y2 y3))
 | 0 => ⟨fun _ _ _ _ _ r h => by simp [impl_compress.l0] at h, fun _ _ _ _ r h => by simp [impl_compress.l1] at h⟩
 | k + 1 => by
  obtain ⟨ih0, ih1⟩ := impl_compress.mono_l k
  refine ⟨?_, ?_⟩
  ·
   intro y0 y1 y2 y3 y4
   unfold impl_compress.l0
   repeat' first
   | (with_reducible exact ih0 _ _ _ _ _)
   | (with_reducible exact ih1 _ _ _ _)
   | (with_reducible exact impl_addWords.mono _ _)
   | (with_reducible exact impl_scheduleOf.mono _ _)
   | (with_reducible exact LeO.refl _)
   | (with_reducible exact LeO.none _)
   | (with_reducible refine LeO.ite ?_ ?_)
   | (with_reducible refine LeO.bind ?_ (fun _ => ?_))
   | exact ih0 _ _ _ _ _
   | exact ih1 _ _ _ _
   | exact impl_addWords.mono _ _
   | exact impl_scheduleOf.mono _ _
   | exact LeO.none _
   | refine LeO.ite ?_ ?_
   | refine LeO.bind ?_ (fun _ => ?_)
  ·
   intro y0 y1 y2 y3
   unfold impl_compress.l1
   repeat' first
   | (with_reducible exact ih0 _ _ _ _ _)
   | (with_reducible exact ih1 _ _ _ _)
   | (with_reducible exact impl_addWords.mono _ _)
   | (with_reducible exact impl_scheduleOf.mono _ _)
   | (with_reducible exact LeO.refl _)
   | (with_reducible exact LeO.none _)
   | (with_reducible refine LeO.ite ?_ ?_)
   | (with_reducible refine LeO.bind ?_ (fun _ => ?_))
   | exact ih0 _ _ _ _ _
   | exact ih1 _ _ _ _
   | exact impl_addWords.mono _ _
   | exact impl_scheduleOf.mono _ _
   | exact LeO.none _
   | refine LeO.ite ?_ ?_
   | refine LeO.bind ?_ (fun _ => ?_)
theorem impl_compress.mono : ∀ a0 a1 k, LeO (impl_compress.f k a0 a1) (impl_compress.f (k + 1) a0 a1) := by
 intro a0 a1 k
 obtain ⟨ih0, ih1⟩ := impl_compress.mono_l k
 unfold impl_compress.f
 repeat' first
   | (with_reducible exact ih0 _ _ _ _ _)
   | (with_reducible exact ih1 _ _ _ _)
   | (with_reducible exact impl_addWords.mono _ _)
   | (with_reducible exact impl_scheduleOf.mono _ _)
   | (with_reducible exact LeO.refl _)
   | (with_reducible exact LeO.none _)
   | (with_reducible refine LeO.ite ?_ ?_)
   | (with_reducible refine LeO.bind ?_ (fun _ => ?_))
   | exact ih0 _ _ _ _ _
   | exact ih1 _ _ _ _
   | exact impl_addWords.mono _ _
   | exact impl_scheduleOf.mono _ _
   | exact LeO.none _
   | refine LeO.ite ?_ ?_
   | refine LeO.bind ?_ (fun _ => ?_)
def impl_compress.T5 : Bool × List (List Nat × List Nat) := (true, [([], []), ([0], [0]), ([1], [1]), ([], []), ([3], [3]), ([4], [4]), ([], []), ([6], [6]), ([7], [7]), ([], []), ([9], [9]), ([10], [10]), ([], []), ([12], [12]), ([13], [13]), ([], []), ([15], [15]), ([16], [16]), ([2, 0, 1, 2], [2]), ([5, 18, 0, 1, 2, 3, 4, 5, 18], [5]), ([8, 19, 0, 1, 2, 3, 4, 5, 6, 7, 8, 18, 19], [8]), ([11, 20, 0, 1, 2, 3, 4, 5, 6, 7, 8, 9, 10, 11, 18, 19, 20], [11]), ([14, 21, 0, 1, 2, 3, 4, 5, 6, 7, 8, 9, 10, 11, 12, 13, 14, 18, 19, 20, 21], [14]), ([17, 22, 0, 1, 2, 3, 4, 5, 6, 7, 8, 9, 10, 11, 12, 13, 14, 15, 16, 17, 18, 19, 20, 21, 22], [17])])
def impl_compress.B5 : List Nat := [0, 1, 3, 0, 8, 24, 0, 64, 192, 0, 512, 1536, 0, 4096, 12288, 0, 32768, 98304, 7, 262207, 786943, 1839103, 3964927, 8388607]
theorem impl_compress.tab5 : rtab .any (opsOf Try.f79 5) = impl_compress.T5 := by kernel_rfl
theorem impl_compress.bits5 : waitsOk impl_compress.T5.2 impl_compress.B5 = true := by kernel_rfl
def impl_compress.T6 : Bool × List (List Nat × List Nat) := (true, [([], []), ([0], [0]), ([1], [1]), ([], []), ([3], [3]), ([], []), ([5, 4], [5]), ([4, 6], [4, 6]), ([], []), ([8, 6], [8]), ([7, 9], [7, 9]), ([], []), ([], []), ([11, 12], [11, 12]), ([], []), ([14], [14]), ([15], [15]), ([], []), ([16, 17], [16, 17]), ([13, 18], [13, 18]), ([], []), ([20], [20]), ([21], [21]), ([], []), ([], []), ([23, 24], [23, 24]), ([25], [25]), ([2, 10, 19, 22, 26], [2, 10, 19, 22, 26]), ([27, 9], [27]), ([28, 28, 0, 1, 2, 3, 4, 5, 6, 7, 8, 9, 10, 11, 12, 13, 14, 15, 16, 17, 18, 19, 20, 21, 22, 23, 24, 25, 26, 27, 28], [28])])
def impl_compress.B6 : List Nat := [0, 1, 3, 0, 8, 0, 56, 120, 0, 376, 1016, 0, 0, 6144, 0, 16384, 49152, 0, 245760, 522240, 0, 1048576, 3145728, 0, 0, 25165824, 58720256, 134217727, 268435455, 536870911]
theorem impl_compress.tab6 : rtab .any (opsOf Try.f79 6) = impl_compress.T6 := by kernel_rfl
theorem impl_compress.bits6 : waitsOk impl_compress.T6.2 impl_compress.B6 = true := by kernel_rfl
def impl_compress.T8 : Bool × List (List Nat × List Nat) := (true, [([], []), ([], []), ([0, 1], [0, 1]), ([2], [2]), ([], []), ([], []), ([], []), ([], []), ([7], [7]), ([8], [8]), ([], []), ([9, 10], [9, 10]), ([11, 3], [11]), ([], []), ([], []), ([], []), ([3, 4, 5, 6, 12, 13, 14, 15], [3, 4, 5, 6, 12, 13, 14, 15]), ([16, 12, 0, 1, 2, 3, 4, 5, 6, 7, 8, 9, 10, 11, 12, 13, 14, 15, 16], [7, 16])])
def impl_compress.B8 : List Nat := [0, 0, 3, 7, 0, 0, 0, 0, 128, 384, 0, 1920, 3983, 0, 0, 0, 65535, 131071]
theorem impl_compress.tab8 : rtab .any (opsOf Try.f79 8) = impl_compress.T8 := by kernel_rfl
theorem impl_compress.bits8 : waitsOk impl_compress.T8.2 impl_compress.B8 = true := by kernel_rfl
def impl_compress.T13 : Bool × List (List Nat × List Nat) := (true, [([], []), ([], []), ([], []), ([], []), ([2, 3], [2, 3]), ([4], [4]), ([], []), ([], []), ([6, 7], [6, 7]), ([8], [8]), ([5, 9], [5, 9]), ([10], [10]), ([0, 1, 0, 1, 2, 3, 4, 5, 6, 7, 8, 9, 10, 11], [0, 1]), ([12, 11, 11, 0, 1, 2, 3, 4, 5, 6, 7, 8, 9, 10, 11], [11, 12])])
def impl_compress.B13 : List Nat := [0, 0, 0, 0, 12, 28, 0, 0, 192, 448, 1020, 2044, 4095, 8191]
theorem impl_compress.tab13 : rtab .any (opsOf Try.f79 13) = impl_compress.T13 := by kernel_rfl
theorem impl_compress.bits13 : waitsOk impl_compress.T13.2 impl_compress.B13 = true := by kernel_rfl
set_option maxHeartbeats 8000000 in
set_option maxRecDepth 100000 in
theorem impl_compress.calls (k : Nat) (A0 : Option Addr) (c0 : Nat) (l0 : List Int) (A1 : Option Addr) (c1 : Nat) (l1 : List Int) (r : List Int) (w : World) (hr0 : Kd.C (Kd.int .i64) w A0 l0.length l0) (hc0 : l0.length ≤ c0) (hr1 : Kd.C (Kd.int .u8) w A1 l1.length l1) (hc1 : l1.length ≤ c1) (h : impl_compress.f k l0 l1 = some r) :
  Calls Try.prog 79 #[.slice A0 l0.length c0, .slice A1 l1.length c1] w fun e w' => ∃ v0_ : Value, e = .returned (v0_) ∧ Kd.R (Kd.int .i64) 2 w' w.heap.size (fun _ => True) v0_ r ∧ Below w.heap.size w w' := by
 have hu95 := Try.underlying95
 have HR0 := Aside0.mk hr0
 have HC0 := Aside0.mk hc0
 clear hr0 hc0
 have HR1 := Aside0.mk hr1
 have HC1 := Aside0.mk hc1
 clear hr1 hc1
 have HB := Aside0.mk (Below.refl w.heap.size w)
 have H : ((impl_scheduleOf.f k l1).bind fun t153 => ((impl_roundWords.f).bind fun t156 => ((slices_Clone_int64_int64.f l0).bind fun t157 => (impl_compress.l0 k l0 t153 t157 0 t156)))) = some r := h
 clear h
 replace H := Option.bind_eq_some_iff.mp H
 obtain ⟨t153, A30, H⟩ := H
 replace H : ((impl_roundWords.f).bind fun t156 => ((slices_Clone_int64_int64.f l0).bind fun t157 => (impl_compress.l0 k l0 t153 t157 0 t156))) = some r := H
 have A3 := Aside0.mk A30
 clear A30
 replace H := Option.bind_eq_some_iff.mp H
 obtain ⟨t156, A40, H⟩ := H
 replace H : ((slices_Clone_int64_int64.f l0).bind fun t157 => (impl_compress.l0 k l0 t153 t157 0 t156)) = some r := H
 have A4 := Aside0.mk A40
 clear A40
 replace H := Option.bind_eq_some_iff.mp H
 obtain ⟨t157, A50, H⟩ := H
 replace H : (impl_compress.l0 k l0 t153 t157 0 t156) = some r := H
 have A5 := Aside0.mk A50
 clear A50
 have H' := Aside0.mk H
 clear H
 go_enter Try.func79, Try.ntmps79
 go_wp2_with (first | ((with_reducible refine gate_callee (f := 74) rfl ?_); refine goesL_ (some 19) rfl rfl Try.func74 (by kernel_rfl) rfl #[.slice A1 l1.length c1] rfl (by (try simp only [List.map_toArray, List.map_cons, List.map_nil]); first | done | rfl | (simp only [List.length_drop, List.length_take]; rfl)) ?_; (with_reducible refine (impl_scheduleOf.calls k _ _ l1 t153 _ ?side1 ?side2 A3.out).mono ?_); (case side1 => repeat (first | exact HR1.out | (with_reducible refine Kd.C_alloc ?_ _) | (with_reducible refine Kd.C_drewN ?_ _) | (with_reducible refine Kd.C_drew ?_))); (case side2 => exact HC1.out); rintro e w6 ⟨v154, rfl, ho0, hb⟩; refine ⟨_, rfl, ?_⟩; have n0_ := Aside0.mk (Kd.R_lower ho0 (below_size (by repeat (first | (with_reducible first | exact HB.out | apply below_alloc | apply pw_below_drewN | apply below_drew1) | exact HB.out)))); have n1_ := Aside0.mk (below_step (by repeat (first | (with_reducible first | exact HB.out | apply below_alloc | apply pw_below_drewN | apply below_drew1) | exact HB.out)) hb); clear HB; have HO155 := n0_; have HB := n1_; clear n0_ n1_; (try clear hb); (try clear hb2); (try clear hk); (try clear hi); (try clear ho0)) | ((with_reducible refine gate_callee (f := 95) rfl ?_); refine goesL_ (some 20) rfl rfl Try.func95 (by kernel_rfl) rfl #[] rfl (by (try simp only [List.map_toArray, List.map_cons, List.map_nil]); first | done | rfl | (simp only [List.length_drop, List.length_take]; rfl)) ?_; (with_reducible refine (impl_roundWords.calls  t156 _ A4.out).mono ?_); rintro e w7 ⟨rfl, hb⟩; refine ⟨_, rfl, ?_⟩; have n0_ := Aside0.mk (Kd.R_below (by (with_reducible repeat (first | apply Kd.R_alloc | apply Kd.R_drewN | apply Kd.R_drew)); exact HO155.out) hb); have n1_ := Aside0.mk (below_step (by repeat (first | (with_reducible first | exact HB.out | apply below_alloc | apply pw_below_drewN | apply below_drew1) | exact HB.out)) hb); clear HO155; clear HB; have HO155 := n0_; have HB := n1_; clear n0_ n1_; (try clear hb); (try clear hb2); (try clear hk); (try clear hi)) | ((with_reducible refine gate_callee (f := 135) rfl ?_); refine goesL_ (some 22) rfl rfl Try.func135 (by kernel_rfl) rfl #[.slice A0 l0.length c0] rfl (by (try simp only [List.map_toArray, List.map_cons, List.map_nil]); first | done | rfl | (simp only [List.length_drop, List.length_take]; rfl)) ?_; (with_reducible refine (slices_Clone_int64_int64.calls _ _ l0 t157 _ ?side1 ?side2 A5.out).mono ?_); (case side1 => repeat (first | exact (Kd.C_below HR0.out HB.out) | (with_reducible refine Kd.C_alloc ?_ _) | (with_reducible refine Kd.C_drewN ?_ _) | (with_reducible refine Kd.C_drew ?_))); (case side2 => exact HC0.out); rintro e w8 ⟨v158, rfl, ho0, hb⟩; refine ⟨_, rfl, ?_⟩; have n0_ := Aside0.mk (Kd.R_elder' (by (with_reducible repeat (first | apply Kd.R_alloc | apply Kd.R_drewN | apply Kd.R_drew)); exact HO155.out) (Kd.R_base ho0) hb); have n1_ := Aside0.mk (Kd.R_lower (Kd.R_new' ho0 (Kd.R_lt (by (with_reducible repeat (first | apply Kd.R_alloc | apply Kd.R_drewN | apply Kd.R_drew)); exact HO155.out))) (below_size (by repeat (first | (with_reducible first | exact HB.out | apply below_alloc | apply pw_below_drewN | apply below_drew1) | exact HB.out)))); have n2_ := Aside0.mk (below_step (by repeat (first | (with_reducible first | exact HB.out | apply below_alloc | apply pw_below_drewN | apply below_drew1) | exact HB.out)) hb); clear HO155; clear HB; have HO155 := n0_; have HO159 := n1_; have HB := n2_; clear n0_ n1_ n2_; (try clear hb); (try clear hb2); (try clear hk); (try clear hi); (try clear ho0)) | ((with_reducible refine gate_dst (N := 6) rfl ?_); refine box_event ?hg (N := 6) ?hd (cs := ZA_) (t := 95) ?hr ?_; (case hd => rfl); (case hg => rfl); (case hr => first | (go_simp; done) | (go_simp; rfl)); intro gb160 hg w9 hbox hb; have n0_ := Aside0.mk (Kd.R_below (by (with_reducible repeat (first | apply Kd.R_alloc | apply Kd.R_drewN | apply Kd.R_drew)); exact HO155.out) hb); have n1_ := Aside0.mk (Kd.R_below (by (with_reducible repeat (first | apply Kd.R_alloc | apply Kd.R_drewN | apply Kd.R_drew)); exact HO159.out) hb); have n2_ := Aside0.mk (below_step (by repeat (first | (with_reducible first | exact HB.out | apply below_alloc | apply pw_below_drewN | apply below_drew1) | exact HB.out)) hb); have n3_ := Aside0.mk (hbox); have n4_ := Aside0.mk ((by rw [hg]; exact (below_size (by repeat (first | (with_reducible first | exact HB.out | apply below_alloc | apply pw_below_drewN | apply below_drew1) | exact HB.out))) : w.heap.size ≤ gb160)); have n5_ := Aside0.mk ((by rw [hg]; exact (below_size (by repeat (first | (with_reducible first | exact HB.out | apply below_alloc | apply pw_below_drewN | apply below_drew1) | exact HB.out))) : w.heap.size ≤ gb160)); clear HO155; clear HO159; clear HB; have HO155 := n0_; have HO159 := n1_; have HB := n2_; have BK160 := n3_; have GW160 := n4_; have GE160 := n5_; clear n0_ n1_ n2_ n3_ n4_ n5_; clear hb hbox hg) | ((with_reducible refine gate_store (t := 95) (p := 6) rfl ?_); refine wpList_store_row rfl 95 _ _ rfl gb160 KA_ rfl rfl 95 ZA_ BK160.out (by kernel_rfl) (by kernel_rfl) (by kernel_rfl) ?_; have m0_ := Aside0.mk (R_setRowA HO155.out BK160.out (by decide) KA_); have m1_ := Aside0.mk (R_setRowA HO159.out BK160.out (by decide) KA_); have mb_ := Aside0.mk (below_setRowA HB.out GE160.out KA_); have mk_ := Aside0.mk (setRow_heap w9 gb160 ZA_ KA_ 95 (0, 0) BK160.out); clear HO155 HO159 HB BK160; have HO155 := m0_; have HO159 := m1_; have HB := mb_; have BK160 := mk_; clear m0_ m1_ mb_ mk_; generalize World.setRow w9 gb160 KA_ = ws_ at HO155 HO159 HB BK160 ⊢))
 go_loopg [7, 23] k (fun kq v7 v23 w' => ∃ (x7_1 : List Int) (x23_1 : Int), v23 = .int .i64 x23_1 ∧ Aside0 (impl_compress.l0 kq l0 t153 x7_1 x23_1 t156 = some r) ∧ Aside0 (kq ≤ k) ∧ Aside0 (Kd.R (Kd.int .i64) 2 w' w.heap.size (fun k_ => some k_ ≠ (v7 : Value).ownBlock) v154 t153) ∧ Aside0 (Kd.R (Kd.int .i64) 2 w' w.heap.size (fun k_ => some k_ ≠ (v154 : Value).ownBlock) v7 x7_1) ∧ Aside0 (w'.heap[gb160]? = some (.cells KA_ 95 (0, 0))) ∧ Aside0 (Below w.heap.size w w'))
 case atStart => exact ⟨(t157), (0), (by first | rfl | (simp; done) | (simp [*]; done) | (simp [Int.tmod_eq_emod_of_nonneg (Int.natCast_nonneg _), *]; done)), H', ⟨Nat.le_refl _⟩, ⟨by (with_reducible repeat (first | apply Kd.R_alloc | apply Kd.R_drewN | apply Kd.R_drew)); exact Kd.R_mono HO155.out (fun _ hk => hk.2)⟩, ⟨by (with_reducible repeat (first | apply Kd.R_alloc | apply Kd.R_drewN | apply Kd.R_drew)); exact Kd.R_mono HO159.out (fun _ hk => hk.2)⟩, ⟨by (with_reducible repeat (first | refine blk_drewN ?_ _ | refine blk_drew ?_ | refine blk_alloc ?_ _)); (with_reducible repeat (first | refine blk_drewN ?_ _ | refine blk_drew ?_ | refine blk_alloc ?_ _)); exact BK160.out⟩, ⟨by repeat (first | (with_reducible first | exact HB.out | apply below_alloc | apply pw_below_drewN | apply below_drew1 | refine below_set ?_ GE160.out) | exact HB.out)⟩⟩
 case round =>
  clear H'
  try clear c1
  try clear p2
  try clear c7
  try clear c9
  try clear hcz10_0
  try clear hfz10_0
  obtain ⟨x7_1, x23_1, rfl, HA, HK1, HO_5, HO_7, BK160, HB⟩ := hrel
  cases gk with
  | zero => exact absurd HA.out (by simp [impl_compress.l0])
  | succ k1 =>
   have H := HA.out
   clear HA
   simp only [impl_compress.l0] at H
   by_cases c11 : x23_1 < 64
   ·
    rw [if_pos c11] at H
    have c11b0 : decide (x23_1 < 64) = true := decide_eq_true c11
    have kx_ := c11b0
    clear c11
    by_cases c12 : 0 < (x7_1.length : Int)
    ·
     rw [if_pos c12] at H
     have c12b0 : decide (0 < (x7_1.length : Int)) = true := decide_eq_true c12
     have c12b1 : decide (0 < x7_1.length) = true := decide_eq_true (by omega)
     clear c12
     by_cases c13 : 1 < (x7_1.length : Int)
     ·
      rw [if_pos c13] at H
      have c13b0 : decide (1 < (x7_1.length : Int)) = true := decide_eq_true c13
      have c13b1 : decide (1 < x7_1.length) = true := decide_eq_true (by omega)
      clear c13
      by_cases c14 : 2 < (x7_1.length : Int)
      ·
       rw [if_pos c14] at H
       have c14b0 : decide (2 < (x7_1.length : Int)) = true := decide_eq_true c14
       have c14b1 : decide (2 < x7_1.length) = true := decide_eq_true (by omega)
       clear c14
       by_cases c15 : 4 < (x7_1.length : Int)
       ·
        rw [if_pos c15] at H
        have c15b0 : decide (4 < (x7_1.length : Int)) = true := decide_eq_true c15
        have c15b1 : decide (4 < x7_1.length) = true := decide_eq_true (by omega)
        clear c15
        by_cases c16 : 5 < (x7_1.length : Int)
        ·
         rw [if_pos c16] at H
         have c16b0 : decide (5 < (x7_1.length : Int)) = true := decide_eq_true c16
         have c16b1 : decide (5 < x7_1.length) = true := decide_eq_true (by omega)
         clear c16
         by_cases c17 : 6 < (x7_1.length : Int)
         ·
          rw [if_pos c17] at H
          have c17b0 : decide (6 < (x7_1.length : Int)) = true := decide_eq_true c17
          have c17b1 : decide (6 < x7_1.length) = true := decide_eq_true (by omega)
          clear c17
          by_cases c18 : 7 < (x7_1.length : Int)
          ·
           rw [if_pos c18] at H
           have c18b0 : decide (7 < (x7_1.length : Int)) = true := decide_eq_true c18
           have c18b1 : decide (7 < x7_1.length) = true := decide_eq_true (by omega)
           clear c18
           replace H := Option.bind_eq_some_iff.mp H
           obtain ⟨t168, A190, H⟩ := H
           replace H : ((impl_rotate.f (rd x7_1 4) 11).bind fun t169 => ((impl_rotate.f (rd x7_1 4) 25).bind fun t170 => (if 0 ≤ x23_1 then (if x23_1 < (t153.length : Int) then ((impl_addWords.f k1 (([rd x7_1 7, Go.bits .xor .i64 (Go.bits .xor .i64 t168 t169) t170, Go.bits .xor .i64 (Go.bits .and .i64 (rd x7_1 4) (rd x7_1 5)) (Go.bits .and .i64 (Go.bits .and .i64 (Go.bits .xor .i64 (-1) (rd x7_1 4)) 4294967295) (rd x7_1 6)), rd KAL_ x23_1, rd t153 x23_1] : List Int))).bind fun t175 => ((impl_rotate.f (rd x7_1 0) 2).bind fun t176 => ((impl_rotate.f (rd x7_1 0) 13).bind fun t177 => ((impl_rotate.f (rd x7_1 0) 22).bind fun t178 => ((impl_addWords.f k1 (([Go.bits .xor .i64 (Go.bits .xor .i64 t176 t177) t178, Go.bits .xor .i64 (Go.bits .xor .i64 (Go.bits .and .i64 (rd x7_1 0) (rd x7_1 1)) (Go.bits .and .i64 (rd x7_1 0) (rd x7_1 2))) (Go.bits .and .i64 (rd x7_1 1) (rd x7_1 2))] : List Int))).bind fun t182 => ((impl_addWords.f k1 (([t175, t182] : List Int))).bind fun t186 => (if 3 < (x7_1.length : Int) then ((impl_addWords.f k1 (([rd x7_1 3, t175] : List Int))).bind fun t191 => (impl_compress.l0 k1 l0 t153 (([t186, rd x7_1 0, rd x7_1 1, rd x7_1 2, t191, rd x7_1 4, rd x7_1 5, rd x7_1 6] : List Int)) (wrap64 (x23_1 + 1)) t156)) else (none)))))))) else (none)) else (none)))) = some r := H
           have A19 := Aside0.mk A190
           clear A190
           replace H := Option.bind_eq_some_iff.mp H
           obtain ⟨t169, A200, H⟩ := H
           replace H : ((impl_rotate.f (rd x7_1 4) 25).bind fun t170 => (if 0 ≤ x23_1 then (if x23_1 < (t153.length : Int) then ((impl_addWords.f k1 (([rd x7_1 7, Go.bits .xor .i64 (Go.bits .xor .i64 t168 t169) t170, Go.bits .xor .i64 (Go.bits .and .i64 (rd x7_1 4) (rd x7_1 5)) (Go.bits .and .i64 (Go.bits .and .i64 (Go.bits .xor .i64 (-1) (rd x7_1 4)) 4294967295) (rd x7_1 6)), rd KAL_ x23_1, rd t153 x23_1] : List Int))).bind fun t175 => ((impl_rotate.f (rd x7_1 0) 2).bind fun t176 => ((impl_rotate.f (rd x7_1 0) 13).bind fun t177 => ((impl_rotate.f (rd x7_1 0) 22).bind fun t178 => ((impl_addWords.f k1 (([Go.bits .xor .i64 (Go.bits .xor .i64 t176 t177) t178, Go.bits .xor .i64 (Go.bits .xor .i64 (Go.bits .and .i64 (rd x7_1 0) (rd x7_1 1)) (Go.bits .and .i64 (rd x7_1 0) (rd x7_1 2))) (Go.bits .and .i64 (rd x7_1 1) (rd x7_1 2))] : List Int))).bind fun t182 => ((impl_addWords.f k1 (([t175, t182] : List Int))).bind fun t186 => (if 3 < (x7_1.length : Int) then ((impl_addWords.f k1 (([rd x7_1 3, t175] : List Int))).bind fun t191 => (impl_compress.l0 k1 l0 t153 (([t186, rd x7_1 0, rd x7_1 1, rd x7_1 2, t191, rd x7_1 4, rd x7_1 5, rd x7_1 6] : List Int)) (wrap64 (x23_1 + 1)) t156)) else (none)))))))) else (none)) else (none))) = some r := H
           have A20 := Aside0.mk A200
           clear A200
           replace H := Option.bind_eq_some_iff.mp H
           obtain ⟨t170, A210, H⟩ := H
           replace H : (if 0 ≤ x23_1 then (if x23_1 < (t153.length : Int) then ((impl_addWords.f k1 (([rd x7_1 7, Go.bits .xor .i64 (Go.bits .xor .i64 t168 t169) t170, Go.bits .xor .i64 (Go.bits .and .i64 (rd x7_1 4) (rd x7_1 5)) (Go.bits .and .i64 (Go.bits .and .i64 (Go.bits .xor .i64 (-1) (rd x7_1 4)) 4294967295) (rd x7_1 6)), rd KAL_ x23_1, rd t153 x23_1] : List Int))).bind fun t175 => ((impl_rotate.f (rd x7_1 0) 2).bind fun t176 => ((impl_rotate.f (rd x7_1 0) 13).bind fun t177 => ((impl_rotate.f (rd x7_1 0) 22).bind fun t178 => ((impl_addWords.f k1 (([Go.bits .xor .i64 (Go.bits .xor .i64 t176 t177) t178, Go.bits .xor .i64 (Go.bits .xor .i64 (Go.bits .and .i64 (rd x7_1 0) (rd x7_1 1)) (Go.bits .and .i64 (rd x7_1 0) (rd x7_1 2))) (Go.bits .and .i64 (rd x7_1 1) (rd x7_1 2))] : List Int))).bind fun t182 => ((impl_addWords.f k1 (([t175, t182] : List Int))).bind fun t186 => (if 3 < (x7_1.length : Int) then ((impl_addWords.f k1 (([rd x7_1 3, t175] : List Int))).bind fun t191 => (impl_compress.l0 k1 l0 t153 (([t186, rd x7_1 0, rd x7_1 1, rd x7_1 2, t191, rd x7_1 4, rd x7_1 5, rd x7_1 6] : List Int)) (wrap64 (x23_1 + 1)) t156)) else (none)))))))) else (none)) else (none)) = some r := H
           have A21 := Aside0.mk A210
           clear A210
           by_cases c22 : 0 ≤ x23_1
           ·
            rw [if_pos c22] at H
            have c22b0 : decide (0 ≤ x23_1) = true := decide_eq_true c22
            clear c22
            by_cases c23 : x23_1 < (t153.length : Int)
            ·
             rw [if_pos c23] at H
             have c23b0 : decide (x23_1 < (t153.length : Int)) = true := decide_eq_true c23
             clear c23
             obtain ⟨y172, hy172⟩ : ∃ y_ : List Int, y_ = (([rd x7_1 7, Go.bits .xor .i64 (Go.bits .xor .i64 t168 t169) t170, Go.bits .xor .i64 (Go.bits .and .i64 (rd x7_1 4) (rd x7_1 5)) (Go.bits .and .i64 (Go.bits .and .i64 (Go.bits .xor .i64 (-1) (rd x7_1 4)) 4294967295) (rd x7_1 6)), rd KAL_ x23_1, rd t153 x23_1] : List Int)) := ⟨_, rfl⟩
             replace H : ((impl_addWords.f k1 y172).bind fun t175 => ((impl_rotate.f (rd x7_1 0) 2).bind fun t176 => ((impl_rotate.f (rd x7_1 0) 13).bind fun t177 => ((impl_rotate.f (rd x7_1 0) 22).bind fun t178 => ((impl_addWords.f k1 (([Go.bits .xor .i64 (Go.bits .xor .i64 t176 t177) t178, Go.bits .xor .i64 (Go.bits .xor .i64 (Go.bits .and .i64 (rd x7_1 0) (rd x7_1 1)) (Go.bits .and .i64 (rd x7_1 0) (rd x7_1 2))) (Go.bits .and .i64 (rd x7_1 1) (rd x7_1 2))] : List Int))).bind fun t182 => ((impl_addWords.f k1 (([t175, t182] : List Int))).bind fun t186 => (if 3 < (x7_1.length : Int) then ((impl_addWords.f k1 (([rd x7_1 3, t175] : List Int))).bind fun t191 => (impl_compress.l0 k1 l0 t153 (([t186, rd x7_1 0, rd x7_1 1, rd x7_1 2, t191, rd x7_1 4, rd x7_1 5, rd x7_1 6] : List Int)) (wrap64 (x23_1 + 1)) t156)) else (none)))))))) = some r := by first | (rw [hy172]; with_reducible exact H) | (have H2_ := (Option.bind_some _ _).symm.trans H; rw [hy172]; with_reducible exact H2_) | (have H2_ := (Option.bind_some _ _).symm.trans H; with_reducible exact H2_) | with_reducible exact H | (rw [hy172]; exact H) | exact H
             have Ny172 := Aside0.mk hy172
             clear hy172
             replace H := Option.bind_eq_some_iff.mp H
             obtain ⟨t175, A240, H⟩ := H
             replace H : ((impl_rotate.f (rd x7_1 0) 2).bind fun t176 => ((impl_rotate.f (rd x7_1 0) 13).bind fun t177 => ((impl_rotate.f (rd x7_1 0) 22).bind fun t178 => ((impl_addWords.f k1 (([Go.bits .xor .i64 (Go.bits .xor .i64 t176 t177) t178, Go.bits .xor .i64 (Go.bits .xor .i64 (Go.bits .and .i64 (rd x7_1 0) (rd x7_1 1)) (Go.bits .and .i64 (rd x7_1 0) (rd x7_1 2))) (Go.bits .and .i64 (rd x7_1 1) (rd x7_1 2))] : List Int))).bind fun t182 => ((impl_addWords.f k1 (([t175, t182] : List Int))).bind fun t186 => (if 3 < (x7_1.length : Int) then ((impl_addWords.f k1 (([rd x7_1 3, t175] : List Int))).bind fun t191 => (impl_compress.l0 k1 l0 t153 (([t186, rd x7_1 0, rd x7_1 1, rd x7_1 2, t191, rd x7_1 4, rd x7_1 5, rd x7_1 6] : List Int)) (wrap64 (x23_1 + 1)) t156)) else (none))))))) = some r := H
             have A24 := Aside0.mk A240
             clear A240
             replace H := Option.bind_eq_some_iff.mp H
             obtain ⟨t176, A250, H⟩ := H
             replace H : ((impl_rotate.f (rd x7_1 0) 13).bind fun t177 => ((impl_rotate.f (rd x7_1 0) 22).bind fun t178 => ((impl_addWords.f k1 (([Go.bits .xor .i64 (Go.bits .xor .i64 t176 t177) t178, Go.bits .xor .i64 (Go.bits .xor .i64 (Go.bits .and .i64 (rd x7_1 0) (rd x7_1 1)) (Go.bits .and .i64 (rd x7_1 0) (rd x7_1 2))) (Go.bits .and .i64 (rd x7_1 1) (rd x7_1 2))] : List Int))).bind fun t182 => ((impl_addWords.f k1 (([t175, t182] : List Int))).bind fun t186 => (if 3 < (x7_1.length : Int) then ((impl_addWords.f k1 (([rd x7_1 3, t175] : List Int))).bind fun t191 => (impl_compress.l0 k1 l0 t153 (([t186, rd x7_1 0, rd x7_1 1, rd x7_1 2, t191, rd x7_1 4, rd x7_1 5, rd x7_1 6] : List Int)) (wrap64 (x23_1 + 1)) t156)) else (none)))))) = some r := H
             have A25 := Aside0.mk A250
             clear A250
             replace H := Option.bind_eq_some_iff.mp H
             obtain ⟨t177, A260, H⟩ := H
             replace H : ((impl_rotate.f (rd x7_1 0) 22).bind fun t178 => ((impl_addWords.f k1 (([Go.bits .xor .i64 (Go.bits .xor .i64 t176 t177) t178, Go.bits .xor .i64 (Go.bits .xor .i64 (Go.bits .and .i64 (rd x7_1 0) (rd x7_1 1)) (Go.bits .and .i64 (rd x7_1 0) (rd x7_1 2))) (Go.bits .and .i64 (rd x7_1 1) (rd x7_1 2))] : List Int))).bind fun t182 => ((impl_addWords.f k1 (([t175, t182] : List Int))).bind fun t186 => (if 3 < (x7_1.length : Int) then ((impl_addWords.f k1 (([rd x7_1 3, t175] : List Int))).bind fun t191 => (impl_compress.l0 k1 l0 t153 (([t186, rd x7_1 0, rd x7_1 1, rd x7_1 2, t191, rd x7_1 4, rd x7_1 5, rd x7_1 6] : List Int)) (wrap64 (x23_1 + 1)) t156)) else (none))))) = some r := H
             have A26 := Aside0.mk A260
             clear A260
             replace H := Option.bind_eq_some_iff.mp H
             obtain ⟨t178, A270, H⟩ := H
             replace H : ((impl_addWords.f k1 (([Go.bits .xor .i64 (Go.bits .xor .i64 t176 t177) t178, Go.bits .xor .i64 (Go.bits .xor .i64 (Go.bits .and .i64 (rd x7_1 0) (rd x7_1 1)) (Go.bits .and .i64 (rd x7_1 0) (rd x7_1 2))) (Go.bits .and .i64 (rd x7_1 1) (rd x7_1 2))] : List Int))).bind fun t182 => ((impl_addWords.f k1 (([t175, t182] : List Int))).bind fun t186 => (if 3 < (x7_1.length : Int) then ((impl_addWords.f k1 (([rd x7_1 3, t175] : List Int))).bind fun t191 => (impl_compress.l0 k1 l0 t153 (([t186, rd x7_1 0, rd x7_1 1, rd x7_1 2, t191, rd x7_1 4, rd x7_1 5, rd x7_1 6] : List Int)) (wrap64 (x23_1 + 1)) t156)) else (none)))) = some r := H
             have A27 := Aside0.mk A270
             clear A270
             obtain ⟨y179, hy179⟩ : ∃ y_ : List Int, y_ = (([Go.bits .xor .i64 (Go.bits .xor .i64 t176 t177) t178, Go.bits .xor .i64 (Go.bits .xor .i64 (Go.bits .and .i64 (rd x7_1 0) (rd x7_1 1)) (Go.bits .and .i64 (rd x7_1 0) (rd x7_1 2))) (Go.bits .and .i64 (rd x7_1 1) (rd x7_1 2))] : List Int)) := ⟨_, rfl⟩
             replace H : ((impl_addWords.f k1 y179).bind fun t182 => ((impl_addWords.f k1 (([t175, t182] : List Int))).bind fun t186 => (if 3 < (x7_1.length : Int) then ((impl_addWords.f k1 (([rd x7_1 3, t175] : List Int))).bind fun t191 => (impl_compress.l0 k1 l0 t153 (([t186, rd x7_1 0, rd x7_1 1, rd x7_1 2, t191, rd x7_1 4, rd x7_1 5, rd x7_1 6] : List Int)) (wrap64 (x23_1 + 1)) t156)) else (none)))) = some r := by first | (rw [hy179]; with_reducible exact H) | (have H2_ := (Option.bind_some _ _).symm.trans H; rw [hy179]; with_reducible exact H2_) | (have H2_ := (Option.bind_some _ _).symm.trans H; with_reducible exact H2_) | with_reducible exact H | (rw [hy179]; exact H) | exact H
             have Ny179 := Aside0.mk hy179
             clear hy179
             replace H := Option.bind_eq_some_iff.mp H
             obtain ⟨t182, A280, H⟩ := H
             replace H : ((impl_addWords.f k1 (([t175, t182] : List Int))).bind fun t186 => (if 3 < (x7_1.length : Int) then ((impl_addWords.f k1 (([rd x7_1 3, t175] : List Int))).bind fun t191 => (impl_compress.l0 k1 l0 t153 (([t186, rd x7_1 0, rd x7_1 1, rd x7_1 2, t191, rd x7_1 4, rd x7_1 5, rd x7_1 6] : List Int)) (wrap64 (x23_1 + 1)) t156)) else (none))) = some r := H
             have A28 := Aside0.mk A280
             clear A280
             obtain ⟨y183, hy183⟩ : ∃ y_ : List Int, y_ = (([t175, t182] : List Int)) := ⟨_, rfl⟩
             replace H : ((impl_addWords.f k1 y183).bind fun t186 => (if 3 < (x7_1.length : Int) then ((impl_addWords.f k1 (([rd x7_1 3, t175] : List Int))).bind fun t191 => (impl_compress.l0 k1 l0 t153 (([t186, rd x7_1 0, rd x7_1 1, rd x7_1 2, t191, rd x7_1 4, rd x7_1 5, rd x7_1 6] : List Int)) (wrap64 (x23_1 + 1)) t156)) else (none))) = some r := by first | (rw [hy183]; with_reducible exact H) | (have H2_ := (Option.bind_some _ _).symm.trans H; rw [hy183]; with_reducible exact H2_) | (have H2_ := (Option.bind_some _ _).symm.trans H; with_reducible exact H2_) | with_reducible exact H | (rw [hy183]; exact H) | exact H
             have Ny183 := Aside0.mk hy183
             clear hy183
             replace H := Option.bind_eq_some_iff.mp H
             obtain ⟨t186, A290, H⟩ := H
             replace H : (if 3 < (x7_1.length : Int) then ((impl_addWords.f k1 (([rd x7_1 3, t175] : List Int))).bind fun t191 => (impl_compress.l0 k1 l0 t153 (([t186, rd x7_1 0, rd x7_1 1, rd x7_1 2, t191, rd x7_1 4, rd x7_1 5, rd x7_1 6] : List Int)) (wrap64 (x23_1 + 1)) t156)) else (none)) = some r := H
             have A29 := Aside0.mk A290
             clear A290
             by_cases c30 : 3 < (x7_1.length : Int)
             ·
              rw [if_pos c30] at H
              have c30b0 : decide (3 < (x7_1.length : Int)) = true := decide_eq_true c30
              have c30b1 : decide (3 < x7_1.length) = true := decide_eq_true (by omega)
              clear c30
              obtain ⟨y188, hy188⟩ : ∃ y_ : List Int, y_ = (([rd x7_1 3, t175] : List Int)) := ⟨_, rfl⟩
              replace H : ((impl_addWords.f k1 y188).bind fun t191 => (impl_compress.l0 k1 l0 t153 (([t186, rd x7_1 0, rd x7_1 1, rd x7_1 2, t191, rd x7_1 4, rd x7_1 5, rd x7_1 6] : List Int)) (wrap64 (x23_1 + 1)) t156)) = some r := by first | (rw [hy188]; with_reducible exact H) | (have H2_ := (Option.bind_some _ _).symm.trans H; rw [hy188]; with_reducible exact H2_) | (have H2_ := (Option.bind_some _ _).symm.trans H; with_reducible exact H2_) | with_reducible exact H | (rw [hy188]; exact H) | exact H
              have Ny188 := Aside0.mk hy188
              clear hy188
              replace H := Option.bind_eq_some_iff.mp H
              obtain ⟨t191, A310, H⟩ := H
              replace H : (impl_compress.l0 k1 l0 t153 (([t186, rd x7_1 0, rd x7_1 1, rd x7_1 2, t191, rd x7_1 4, rd x7_1 5, rd x7_1 6] : List Int)) (wrap64 (x23_1 + 1)) t156) = some r := H
              have A31 := Aside0.mk A310
              clear A310
              obtain ⟨y192, hy192⟩ : ∃ y_ : List Int, y_ = (([t186, rd x7_1 0, rd x7_1 1, rd x7_1 2, t191, rd x7_1 4, rd x7_1 5, rd x7_1 6] : List Int)) := ⟨_, rfl⟩
              replace H : (impl_compress.l0 k1 l0 t153 y192 (wrap64 (x23_1 + 1)) t156) = some r := by first | (rw [hy192]; with_reducible exact H) | (have H2_ := (Option.bind_some _ _).symm.trans H; rw [hy192]; with_reducible exact H2_) | (have H2_ := (Option.bind_some _ _).symm.trans H; with_reducible exact H2_) | with_reducible exact H | (rw [hy192]; exact H) | exact H
              have Ny192 := Aside0.mk hy192
              clear hy192
              have H' := Aside0.mk H
              clear H
              try go_wp2
              have n0_ := Aside0.mk (Kd.R_drew HO_5.out)
              have n1_ := Aside0.mk (Kd.R_drew HO_7.out)
              have n2_ := Aside0.mk (blk_drew BK160.out)
              have n3_ := Aside0.mk (below_drew1 HB.out)
              clear HO_5
              clear HO_7
              clear BK160
              clear HB
              have HO_5 := n0_
              have HO_7 := n1_
              have BK160 := n2_
              have HB := n3_
              clear n0_ n1_ n2_ n3_
              obtain ⟨Ao33, co33, eo33⟩ := Kd.R_slice HO_7.out
              (first | subst eo33 | (injection eo33 with f1_ f2_ f3_; have f4_ := f1_.symm; have f5_ := f3_.symm; clear f1_ f2_ f3_; subst f4_; subst f5_))
              have p161 : 0 ≤ (0 : Int) := (by omega)
              have q161 : 0 < (x7_1.length : Int) := of_decide_eq_true (by first | (with_reducible assumption) | assumption)
              obtain ⟨ad161, e161, hx161_0⟩ := Kd.at_int (Kd.R_reads' HO_7.out).2.2 0 p161 q161
              cases e161
              have qi161 : (0 < x7_1.length) = True := eq_true (by omega)
              (try rw [show ((0 : Int)).toNat = 0 from rfl] at hx161_0)
              (try rw [Addr.add_zero'] at hx161_0)
              replace p161 := eq_true p161
              replace q161 := eq_true q161
              have p162 : 0 ≤ (1 : Int) := (by omega)
              have q162 : 1 < (x7_1.length : Int) := of_decide_eq_true (by first | (with_reducible assumption) | assumption)
              obtain ⟨ad162, e162, hx162_0⟩ := Kd.at_int (Kd.R_reads' HO_7.out).2.2 1 p162 q162
              obtain rfl : ad161 = ad162 := (by injection e162)
              (try simp only [show (1 : Int).toNat = 1 from rfl, Nat.reduceMul, Nat.reduceEqDiff, Go.Addr.add, ↓reduceIte] at hx162_0)
              have qi162 : (1 < x7_1.length) = True := eq_true (by omega)
              (try rw [show ((1 : Int)).toNat = 1 from rfl] at hx162_0)
              replace p162 := eq_true p162
              replace q162 := eq_true q162
              have p163 : 0 ≤ (2 : Int) := (by omega)
              have q163 : 2 < (x7_1.length : Int) := of_decide_eq_true (by first | (with_reducible assumption) | assumption)
              obtain ⟨ad163, e163, hx163_0⟩ := Kd.at_int (Kd.R_reads' HO_7.out).2.2 2 p163 q163
              obtain rfl : ad161 = ad163 := (by injection e163)
              (try simp only [show (2 : Int).toNat = 2 from rfl, Nat.reduceMul, Nat.reduceEqDiff, Go.Addr.add, ↓reduceIte] at hx163_0)
              have qi163 : (2 < x7_1.length) = True := eq_true (by omega)
              (try rw [show ((2 : Int)).toNat = 2 from rfl] at hx163_0)
              replace p163 := eq_true p163
              replace q163 := eq_true q163
              have p164 : 0 ≤ (4 : Int) := (by omega)
              have q164 : 4 < (x7_1.length : Int) := of_decide_eq_true (by first | (with_reducible assumption) | assumption)
              obtain ⟨ad164, e164, hx164_0⟩ := Kd.at_int (Kd.R_reads' HO_7.out).2.2 4 p164 q164
              obtain rfl : ad161 = ad164 := (by injection e164)
              (try simp only [show (4 : Int).toNat = 4 from rfl, Nat.reduceMul, Nat.reduceEqDiff, Go.Addr.add, ↓reduceIte] at hx164_0)
              have qi164 : (4 < x7_1.length) = True := eq_true (by omega)
              (try rw [show ((4 : Int)).toNat = 4 from rfl] at hx164_0)
              replace p164 := eq_true p164
              replace q164 := eq_true q164
              have p165 : 0 ≤ (5 : Int) := (by omega)
              have q165 : 5 < (x7_1.length : Int) := of_decide_eq_true (by first | (with_reducible assumption) | assumption)
              obtain ⟨ad165, e165, hx165_0⟩ := Kd.at_int (Kd.R_reads' HO_7.out).2.2 5 p165 q165
              obtain rfl : ad161 = ad165 := (by injection e165)
              (try simp only [show (5 : Int).toNat = 5 from rfl, Nat.reduceMul, Nat.reduceEqDiff, Go.Addr.add, ↓reduceIte] at hx165_0)
              have qi165 : (5 < x7_1.length) = True := eq_true (by omega)
              (try rw [show ((5 : Int)).toNat = 5 from rfl] at hx165_0)
              replace p165 := eq_true p165
              replace q165 := eq_true q165
              have p166 : 0 ≤ (6 : Int) := (by omega)
              have q166 : 6 < (x7_1.length : Int) := of_decide_eq_true (by first | (with_reducible assumption) | assumption)
              obtain ⟨ad166, e166, hx166_0⟩ := Kd.at_int (Kd.R_reads' HO_7.out).2.2 6 p166 q166
              obtain rfl : ad161 = ad166 := (by injection e166)
              (try simp only [show (6 : Int).toNat = 6 from rfl, Nat.reduceMul, Nat.reduceEqDiff, Go.Addr.add, ↓reduceIte] at hx166_0)
              have qi166 : (6 < x7_1.length) = True := eq_true (by omega)
              (try rw [show ((6 : Int)).toNat = 6 from rfl] at hx166_0)
              replace p166 := eq_true p166
              replace q166 := eq_true q166
              refine start_ (n := 24) (S := fun w' => w'.cell? ad161 = some (.int .i64 (rd x7_1 0)) ∧ w'.cell? ⟨ad161.block, ad161.off + 1, none⟩ = some (.int .i64 (rd x7_1 1)) ∧ w'.cell? ⟨ad161.block, ad161.off + 2, none⟩ = some (.int .i64 (rd x7_1 2)) ∧ w'.cell? ⟨ad161.block, ad161.off + 4, none⟩ = some (.int .i64 (rd x7_1 4)) ∧ w'.cell? ⟨ad161.block, ad161.off + 5, none⟩ = some (.int .i64 (rd x7_1 5)) ∧ w'.cell? ⟨ad161.block, ad161.off + 6, none⟩ = some (.int .i64 (rd x7_1 6))) (ds := []) #[false, false, false, false, false, false, false, false, false, false, false, false, false, false, false, false, false, false, false, false, false, false, false, false] (by kernel_rfl) rfl rfl ⟨hx161_0, hx162_0, hx163_0, hx164_0, hx165_0, hx166_0⟩ (fun hHeld => ?_); refine with_tabW impl_compress.tab5 impl_compress.bits5 (fun HT_ HW_ => ?_)
              generalize wr.drew = w32 at HO_5 HO_7 BK160 HB hx161_0 hx162_0 hx163_0 hx164_0 hx165_0 hx166_0 hHeld ⊢
              refine pure_ (i := 0) (N := some 26) (v := ?_) (a' := ?_) #[true, false, false, false, false, false, false, false, false, false, false, false, false, false, false, false, false, false, false, false, false, false, false, false] rfl rfl (any_of HT_.out (by kernel_rfl)) (fun _ _ _ h => h) (Or.inl ⟨by rfl, ?_⟩) ?_ ?_
              rotate_left
              ·
               intro w'
               go_simp
               first | (with_reducible rfl) | (rw [if_pos (of_decide_eq_true kx_)]; done) | (rw [if_pos (of_decide_eq_true kx_)]; with_reducible rfl)
              rotate_left
              ·
               simp only [Act.put, List.setIfInBounds_toArray, List.set_cons_zero, List.set_cons_succ, i64_w, i32_w]
               rfl
              refine pure_ (i := 1) (N := some 27) (v := ?_) (a' := ?_) #[true, true, false, false, false, false, false, false, false, false, false, false, false, false, false, false, false, false, false, false, false, false, false, false] rfl rfl (any_of HT_.out (by kernel_rfl)) (fun _ _ _ h => h) (Or.inl ⟨by rfl, ?_⟩) ?_ ?_
              rotate_left
              ·
               intro w'
               go_simp
               first | (with_reducible rfl) | (rw [if_pos (of_decide_eq_true kx_)]; done) | (rw [if_pos (of_decide_eq_true kx_)]; with_reducible rfl)
              rotate_left
              ·
               simp only [Act.put, List.setIfInBounds_toArray, List.set_cons_zero, List.set_cons_succ, i64_w, i32_w]
               rfl
              refine pure_ (i := 3) (N := some 29) (v := ?_) (a' := ?_) #[true, true, false, true, false, false, false, false, false, false, false, false, false, false, false, false, false, false, false, false, false, false, false, false] rfl rfl (any_of HT_.out (by kernel_rfl)) (fun _ _ _ h => h) (Or.inl ⟨by rfl, ?_⟩) ?_ ?_
              rotate_left
              ·
               intro w'
               go_simp
               first | (with_reducible rfl) | (rw [if_pos (of_decide_eq_true kx_)]; done) | (rw [if_pos (of_decide_eq_true kx_)]; with_reducible rfl)
              rotate_left
              ·
               simp only [Act.put, List.setIfInBounds_toArray, List.set_cons_zero, List.set_cons_succ, i64_w, i32_w]
               rfl
              refine pure_ (i := 4) (N := some 30) (v := ?_) (a' := ?_) #[true, true, false, true, true, false, false, false, false, false, false, false, false, false, false, false, false, false, false, false, false, false, false, false] rfl rfl (any_of HT_.out (by kernel_rfl)) (fun _ _ _ h => h) (Or.inl ⟨by rfl, ?_⟩) ?_ ?_
              rotate_left
              ·
               intro w'
               go_simp
               first | (with_reducible rfl) | (rw [if_pos (of_decide_eq_true kx_)]; done) | (rw [if_pos (of_decide_eq_true kx_)]; with_reducible rfl)
              rotate_left
              ·
               simp only [Act.put, List.setIfInBounds_toArray, List.set_cons_zero, List.set_cons_succ, i64_w, i32_w]
               rfl
              refine pure_ (i := 6) (N := some 32) (v := ?_) (a' := ?_) #[true, true, false, true, true, false, true, false, false, false, false, false, false, false, false, false, false, false, false, false, false, false, false, false] rfl rfl (any_of HT_.out (by kernel_rfl)) (fun _ _ _ h => h) (Or.inl ⟨by rfl, ?_⟩) ?_ ?_
              rotate_left
              ·
               intro w'
               go_simp
               first | (with_reducible rfl) | (rw [if_pos (of_decide_eq_true kx_)]; done) | (rw [if_pos (of_decide_eq_true kx_)]; with_reducible rfl)
              rotate_left
              ·
               simp only [Act.put, List.setIfInBounds_toArray, List.set_cons_zero, List.set_cons_succ, i64_w, i32_w]
               rfl
              refine pure_ (i := 7) (N := some 33) (v := ?_) (a' := ?_) #[true, true, false, true, true, false, true, true, false, false, false, false, false, false, false, false, false, false, false, false, false, false, false, false] rfl rfl (any_of HT_.out (by kernel_rfl)) (fun _ _ _ h => h) (Or.inl ⟨by rfl, ?_⟩) ?_ ?_
              rotate_left
              ·
               intro w'
               go_simp
               first | (with_reducible rfl) | (rw [if_pos (of_decide_eq_true kx_)]; done) | (rw [if_pos (of_decide_eq_true kx_)]; with_reducible rfl)
              rotate_left
              ·
               simp only [Act.put, List.setIfInBounds_toArray, List.set_cons_zero, List.set_cons_succ, i64_w, i32_w]
               rfl
              refine pure_ (i := 9) (N := some 35) (v := ?_) (a' := ?_) #[true, true, false, true, true, false, true, true, false, true, false, false, false, false, false, false, false, false, false, false, false, false, false, false] rfl rfl (any_of HT_.out (by kernel_rfl)) (fun _ _ _ h => h) (Or.inl ⟨by rfl, ?_⟩) ?_ ?_
              rotate_left
              ·
               intro w'
               go_simp
               first | (with_reducible rfl) | (rw [if_pos (of_decide_eq_true kx_)]; done) | (rw [if_pos (of_decide_eq_true kx_)]; with_reducible rfl)
              rotate_left
              ·
               simp only [Act.put, List.setIfInBounds_toArray, List.set_cons_zero, List.set_cons_succ, i64_w, i32_w]
               rfl
              refine pure_ (i := 10) (N := some 36) (v := ?_) (a' := ?_) #[true, true, false, true, true, false, true, true, false, true, true, false, false, false, false, false, false, false, false, false, false, false, false, false] rfl rfl (any_of HT_.out (by kernel_rfl)) (fun _ _ _ h => h) (Or.inl ⟨by rfl, ?_⟩) ?_ ?_
              rotate_left
              ·
               intro w'
               go_simp
               first | (with_reducible rfl) | (rw [if_pos (of_decide_eq_true kx_)]; done) | (rw [if_pos (of_decide_eq_true kx_)]; with_reducible rfl)
              rotate_left
              ·
               simp only [Act.put, List.setIfInBounds_toArray, List.set_cons_zero, List.set_cons_succ, i64_w, i32_w]
               rfl
              refine pure_ (i := 12) (N := some 38) (v := ?_) (a' := ?_) #[true, true, false, true, true, false, true, true, false, true, true, false, true, false, false, false, false, false, false, false, false, false, false, false] rfl rfl (any_of HT_.out (by kernel_rfl)) (fun _ _ _ h => h) (Or.inl ⟨by rfl, ?_⟩) ?_ ?_
              rotate_left
              ·
               intro w'
               go_simp
               first | (with_reducible rfl) | (rw [if_pos (of_decide_eq_true kx_)]; done) | (rw [if_pos (of_decide_eq_true kx_)]; with_reducible rfl)
              rotate_left
              ·
               simp only [Act.put, List.setIfInBounds_toArray, List.set_cons_zero, List.set_cons_succ, i64_w, i32_w]
               rfl
              refine pure_ (i := 13) (N := some 39) (v := ?_) (a' := ?_) #[true, true, false, true, true, false, true, true, false, true, true, false, true, true, false, false, false, false, false, false, false, false, false, false] rfl rfl (any_of HT_.out (by kernel_rfl)) (fun _ _ _ h => h) (Or.inl ⟨by rfl, ?_⟩) ?_ ?_
              rotate_left
              ·
               intro w'
               go_simp
               first | (with_reducible rfl) | (rw [if_pos (of_decide_eq_true kx_)]; done) | (rw [if_pos (of_decide_eq_true kx_)]; with_reducible rfl)
              rotate_left
              ·
               simp only [Act.put, List.setIfInBounds_toArray, List.set_cons_zero, List.set_cons_succ, i64_w, i32_w]
               rfl
              refine pure_ (i := 15) (N := some 41) (v := ?_) (a' := ?_) #[true, true, false, true, true, false, true, true, false, true, true, false, true, true, false, true, false, false, false, false, false, false, false, false] rfl rfl (any_of HT_.out (by kernel_rfl)) (fun _ _ _ h => h) (Or.inl ⟨by rfl, ?_⟩) ?_ ?_
              rotate_left
              ·
               intro w'
               go_simp
               first | (with_reducible rfl) | (rw [if_pos (of_decide_eq_true kx_)]; done) | (rw [if_pos (of_decide_eq_true kx_)]; with_reducible rfl)
              rotate_left
              ·
               simp only [Act.put, List.setIfInBounds_toArray, List.set_cons_zero, List.set_cons_succ, i64_w, i32_w]
               rfl
              refine pure_ (i := 16) (N := some 42) (v := ?_) (a' := ?_) #[true, true, false, true, true, false, true, true, false, true, true, false, true, true, false, true, true, false, false, false, false, false, false, false] rfl rfl (any_of HT_.out (by kernel_rfl)) (fun _ _ _ h => h) (Or.inl ⟨by rfl, ?_⟩) ?_ ?_
              rotate_left
              ·
               intro w'
               go_simp
               first | (with_reducible rfl) | (rw [if_pos (of_decide_eq_true kx_)]; done) | (rw [if_pos (of_decide_eq_true kx_)]; with_reducible rfl)
              rotate_left
              ·
               simp only [Act.put, List.setIfInBounds_toArray, List.set_cons_zero, List.set_cons_succ, i64_w, i32_w]
               rfl
              refine take_ (i := 2) (N := some 28) (v := ?_) (a' := ?_) #[true, true, true, true, true, false, true, true, false, true, true, false, true, true, false, true, true, false, false, false, false, false, false, false] rfl rfl (take_ofW HT_.out HW_.out (by kernel_rfl)) (fun _ _ _ h => h) (Or.inl ⟨by rfl, ?_⟩) hHeld ?_ ?_
              rotate_left
              ·
               rintro w' ⟨s0, s1, s2, s3, s4, s5⟩
               go_simp
               first | (with_reducible rfl) | (rw [if_pos (of_decide_eq_true kx_)]; done) | (rw [if_pos (of_decide_eq_true kx_)]; with_reducible rfl)
              rotate_left
              ·
               simp only [Act.put, List.setIfInBounds_toArray, List.set_cons_zero, List.set_cons_succ, i64_w, i32_w]
               rfl
              refine pure_ (i := 18) (N := some 9) (v := ?_) (a' := ?_) #[true, true, true, true, true, false, true, true, false, true, true, false, true, true, false, true, true, false, true, false, false, false, false, false] rfl rfl (any_of HT_.out (by kernel_rfl)) (fun _ _ _ h => h) (Or.inl ⟨by rfl, ?_⟩) ?_ ?_
              rotate_left
              ·
               intro w'
               go_simp
               first | (with_reducible rfl) | (rw [if_pos (of_decide_eq_true kx_)]; done) | (rw [if_pos (of_decide_eq_true kx_)]; with_reducible rfl)
              rotate_left
              ·
               simp only [Act.put, List.setIfInBounds_toArray, List.set_cons_zero, List.set_cons_succ, i64_w, i32_w]
               rfl
              refine take_ (i := 5) (N := some 31) (v := ?_) (a' := ?_) #[true, true, true, true, true, true, true, true, false, true, true, false, true, true, false, true, true, false, true, false, false, false, false, false] rfl rfl (take_ofW HT_.out HW_.out (by kernel_rfl)) (fun _ _ _ h => h) (Or.inl ⟨by rfl, ?_⟩) hHeld ?_ ?_
              rotate_left
              ·
               rintro w' ⟨s0, s1, s2, s3, s4, s5⟩
               go_simp
               first | (with_reducible rfl) | (rw [if_pos (of_decide_eq_true kx_)]; done) | (rw [if_pos (of_decide_eq_true kx_)]; with_reducible rfl)
              rotate_left
              ·
               simp only [Act.put, List.setIfInBounds_toArray, List.set_cons_zero, List.set_cons_succ, i64_w, i32_w]
               rfl
              refine pure_ (i := 19) (N := some 10) (v := ?_) (a' := ?_) #[true, true, true, true, true, true, true, true, false, true, true, false, true, true, false, true, true, false, true, true, false, false, false, false] rfl rfl (any_of HT_.out (by kernel_rfl)) (fun _ _ _ h => h) (Or.inl ⟨by rfl, ?_⟩) ?_ ?_
              rotate_left
              ·
               intro w'
               go_simp
               first | (with_reducible rfl) | (rw [if_pos (of_decide_eq_true kx_)]; done) | (rw [if_pos (of_decide_eq_true kx_)]; with_reducible rfl)
              rotate_left
              ·
               simp only [Act.put, List.setIfInBounds_toArray, List.set_cons_zero, List.set_cons_succ, i64_w, i32_w]
               rfl
              refine take_ (i := 8) (N := some 34) (v := ?_) (a' := ?_) #[true, true, true, true, true, true, true, true, true, true, true, false, true, true, false, true, true, false, true, true, false, false, false, false] rfl rfl (take_ofW HT_.out HW_.out (by kernel_rfl)) (fun _ _ _ h => h) (Or.inl ⟨by rfl, ?_⟩) hHeld ?_ ?_
              rotate_left
              ·
               rintro w' ⟨s0, s1, s2, s3, s4, s5⟩
               go_simp
               first | (with_reducible rfl) | (rw [if_pos (of_decide_eq_true kx_)]; done) | (rw [if_pos (of_decide_eq_true kx_)]; with_reducible rfl)
              rotate_left
              ·
               simp only [Act.put, List.setIfInBounds_toArray, List.set_cons_zero, List.set_cons_succ, i64_w, i32_w]
               rfl
              refine pure_ (i := 20) (N := some 11) (v := ?_) (a' := ?_) #[true, true, true, true, true, true, true, true, true, true, true, false, true, true, false, true, true, false, true, true, true, false, false, false] rfl rfl (any_of HT_.out (by kernel_rfl)) (fun _ _ _ h => h) (Or.inl ⟨by rfl, ?_⟩) ?_ ?_
              rotate_left
              ·
               intro w'
               go_simp
               first | (with_reducible rfl) | (rw [if_pos (of_decide_eq_true kx_)]; done) | (rw [if_pos (of_decide_eq_true kx_)]; with_reducible rfl)
              rotate_left
              ·
               simp only [Act.put, List.setIfInBounds_toArray, List.set_cons_zero, List.set_cons_succ, i64_w, i32_w]
               rfl
              refine take_ (i := 11) (N := some 37) (v := ?_) (a' := ?_) #[true, true, true, true, true, true, true, true, true, true, true, true, true, true, false, true, true, false, true, true, true, false, false, false] rfl rfl (take_ofW HT_.out HW_.out (by kernel_rfl)) (fun _ _ _ h => h) (Or.inl ⟨by rfl, ?_⟩) hHeld ?_ ?_
              rotate_left
              ·
               rintro w' ⟨s0, s1, s2, s3, s4, s5⟩
               go_simp
               first | (with_reducible rfl) | (rw [if_pos (of_decide_eq_true kx_)]; done) | (rw [if_pos (of_decide_eq_true kx_)]; with_reducible rfl)
              rotate_left
              ·
               simp only [Act.put, List.setIfInBounds_toArray, List.set_cons_zero, List.set_cons_succ, i64_w, i32_w]
               rfl
              refine pure_ (i := 21) (N := some 12) (v := ?_) (a' := ?_) #[true, true, true, true, true, true, true, true, true, true, true, true, true, true, false, true, true, false, true, true, true, true, false, false] rfl rfl (any_of HT_.out (by kernel_rfl)) (fun _ _ _ h => h) (Or.inl ⟨by rfl, ?_⟩) ?_ ?_
              rotate_left
              ·
               intro w'
               go_simp
               first | (with_reducible rfl) | (rw [if_pos (of_decide_eq_true kx_)]; done) | (rw [if_pos (of_decide_eq_true kx_)]; with_reducible rfl)
              rotate_left
              ·
               simp only [Act.put, List.setIfInBounds_toArray, List.set_cons_zero, List.set_cons_succ, i64_w, i32_w]
               rfl
              refine take_ (i := 14) (N := some 40) (v := ?_) (a' := ?_) #[true, true, true, true, true, true, true, true, true, true, true, true, true, true, true, true, true, false, true, true, true, true, false, false] rfl rfl (take_ofW HT_.out HW_.out (by kernel_rfl)) (fun _ _ _ h => h) (Or.inl ⟨by rfl, ?_⟩) hHeld ?_ ?_
              rotate_left
              ·
               rintro w' ⟨s0, s1, s2, s3, s4, s5⟩
               go_simp
               first | (with_reducible rfl) | (rw [if_pos (of_decide_eq_true kx_)]; done) | (rw [if_pos (of_decide_eq_true kx_)]; with_reducible rfl)
              rotate_left
              ·
               simp only [Act.put, List.setIfInBounds_toArray, List.set_cons_zero, List.set_cons_succ, i64_w, i32_w]
               rfl
              refine pure_ (i := 22) (N := some 13) (v := ?_) (a' := ?_) #[true, true, true, true, true, true, true, true, true, true, true, true, true, true, true, true, true, false, true, true, true, true, true, false] rfl rfl (any_of HT_.out (by kernel_rfl)) (fun _ _ _ h => h) (Or.inl ⟨by rfl, ?_⟩) ?_ ?_
              rotate_left
              ·
               intro w'
               go_simp
               first | (with_reducible rfl) | (rw [if_pos (of_decide_eq_true kx_)]; done) | (rw [if_pos (of_decide_eq_true kx_)]; with_reducible rfl)
              rotate_left
              ·
               simp only [Act.put, List.setIfInBounds_toArray, List.set_cons_zero, List.set_cons_succ, i64_w, i32_w]
               rfl
              refine take_ (i := 17) (N := some 43) (v := ?_) (a' := ?_) #[true, true, true, true, true, true, true, true, true, true, true, true, true, true, true, true, true, true, true, true, true, true, true, false] rfl rfl (take_ofW HT_.out HW_.out (by kernel_rfl)) (fun _ _ _ h => h) (Or.inl ⟨by rfl, ?_⟩) hHeld ?_ ?_
              rotate_left
              ·
               rintro w' ⟨s0, s1, s2, s3, s4, s5⟩
               go_simp
               first | (with_reducible rfl) | (rw [if_pos (of_decide_eq_true kx_)]; done) | (rw [if_pos (of_decide_eq_true kx_)]; with_reducible rfl)
              rotate_left
              ·
               simp only [Act.put, List.setIfInBounds_toArray, List.set_cons_zero, List.set_cons_succ, i64_w, i32_w]
               rfl
              refine pure_ (i := 23) (N := some 14) (v := ?_) (a' := ?_) #[true, true, true, true, true, true, true, true, true, true, true, true, true, true, true, true, true, true, true, true, true, true, true, true] rfl rfl (any_of HT_.out (by kernel_rfl)) (fun _ _ _ h => h) (Or.inl ⟨by rfl, ?_⟩) ?_ ?_
              rotate_left
              ·
               intro w'
               go_simp
               first | (with_reducible rfl) | (rw [if_pos (of_decide_eq_true kx_)]; done) | (rw [if_pos (of_decide_eq_true kx_)]; with_reducible rfl)
              rotate_left
              ·
               simp only [Act.put, List.setIfInBounds_toArray, List.set_cons_zero, List.set_cons_succ, i64_w, i32_w]
               rfl
              refine done_ (done_of HT_.out (by kernel_rfl)) ?_
              try go_wp2
              have n0_ := Aside0.mk (Kd.R_drew HO_5.out)
              have n1_ := Aside0.mk (Kd.R_drew HO_7.out)
              have n2_ := Aside0.mk (blk_drew BK160.out)
              have n3_ := Aside0.mk (below_drew1 HB.out)
              clear HO_5
              clear HO_7
              clear BK160
              clear HB
              have HO_5 := n0_
              have HO_7 := n1_
              have BK160 := n2_
              have HB := n3_
              clear n0_ n1_ n2_ n3_
              have p167 : 0 ≤ (7 : Int) := (by omega)
              have q167 : 7 < (x7_1.length : Int) := of_decide_eq_true (by first | (with_reducible assumption) | assumption)
              obtain ⟨ad167, e167, hx167_0⟩ := Kd.at_int (Kd.R_reads' HO_7.out).2.2 7 p167 q167
              obtain rfl : ad161 = ad167 := (by injection e167)
              (try simp only [show (7 : Int).toNat = 7 from rfl, Nat.reduceMul, Nat.reduceEqDiff, Go.Addr.add, ↓reduceIte] at hx167_0)
              have qi167 : (7 < x7_1.length) = True := eq_true (by omega)
              (try rw [show ((7 : Int)).toNat = 7 from rfl] at hx167_0)
              replace p167 := eq_true p167
              replace q167 := eq_true q167
              obtain ⟨Ao35, co35, eo35⟩ := Kd.R_slice HO_5.out
              (first | subst eo35 | (injection eo35 with f1_ f2_ f3_; have f4_ := f1_.symm; have f5_ := f3_.symm; clear f1_ f2_ f3_; subst f4_; subst f5_))
              have p171 : 0 ≤ (x23_1 : Int) := of_decide_eq_true (by first | (with_reducible assumption) | assumption)
              have q171 : x23_1 < (t153.length : Int) := of_decide_eq_true (by first | (with_reducible assumption) | assumption)
              obtain ⟨ad171, e171, hx171_0⟩ := Kd.at_int (Kd.R_reads' HO_5.out).2.2 x23_1 p171 q171
              cases e171
              replace p171 := eq_true p171
              replace q171 := eq_true q171
              refine start_ (n := 30) (S := fun w' => w'.cell? ⟨gb160, (x23_1).toNat, none⟩ = some (.int .i64 (rd KAL_ x23_1)) ∧ w'.cell? ⟨ad161.block, ad161.off + 7, none⟩ = some (.int .i64 (rd x7_1 7)) ∧ w'.cell? (ad171.add (x23_1).toNat) = some (.int .i64 (rd t153 x23_1))) (ds := []) #[false, false, false, false, false, false, false, false, false, false, false, false, false, false, false, false, false, false, false, false, false, false, false, false, false, false, false, false, false, false] (by kernel_rfl) rfl rfl ⟨(blk_cell BK160.out _).trans (KA_get x23_1 (of_decide_eq_true (by assumption)) (of_decide_eq_true (by assumption))), hx167_0, hx171_0⟩ (fun hHeld => ?_); refine with_tabW impl_compress.tab6 impl_compress.bits6 (fun HT_ HW_ => ?_)
              generalize w32.drew = w34 at HO_5 HO_7 BK160 HB hx167_0 hx171_0 hHeld ⊢
              refine pure_ (i := 0) (N := some 44) (v := ?_) (a' := ?_) #[true, false, false, false, false, false, false, false, false, false, false, false, false, false, false, false, false, false, false, false, false, false, false, false, false, false, false, false, false, false] rfl rfl (any_of HT_.out (by kernel_rfl)) (fun _ _ _ h => h) (Or.inl ⟨by rfl, ?_⟩) ?_ ?_
              rotate_left
              ·
               intro w'
               go_simp
               first | (with_reducible rfl) | (rw [if_pos (of_decide_eq_true kx_)]; done) | (rw [if_pos (of_decide_eq_true kx_)]; with_reducible rfl)
              rotate_left
              ·
               simp only [Act.put, List.setIfInBounds_toArray, List.set_cons_zero, List.set_cons_succ, i64_w, i32_w]
               rfl
              refine pure_ (i := 1) (N := some 45) (v := ?_) (a' := ?_) #[true, true, false, false, false, false, false, false, false, false, false, false, false, false, false, false, false, false, false, false, false, false, false, false, false, false, false, false, false, false] rfl rfl (any_of HT_.out (by kernel_rfl)) (fun _ _ _ h => h) (Or.inl ⟨by rfl, ?_⟩) ?_ ?_
              rotate_left
              ·
               intro w'
               go_simp
               first | (with_reducible rfl) | (rw [if_pos (of_decide_eq_true kx_)]; done) | (rw [if_pos (of_decide_eq_true kx_)]; with_reducible rfl)
              rotate_left
              ·
               simp only [Act.put, List.setIfInBounds_toArray, List.set_cons_zero, List.set_cons_succ, i64_w, i32_w]
               rfl
              refine pure_ (i := 3) (N := some 47) (v := ?_) (a' := ?_) #[true, true, false, true, false, false, false, false, false, false, false, false, false, false, false, false, false, false, false, false, false, false, false, false, false, false, false, false, false, false] rfl rfl (any_of HT_.out (by kernel_rfl)) (fun _ _ _ h => h) (Or.inl ⟨by rfl, ?_⟩) ?_ ?_
              rotate_left
              ·
               intro w'
               go_simp
               first | (with_reducible rfl) | (rw [if_pos (of_decide_eq_true kx_)]; done) | (rw [if_pos (of_decide_eq_true kx_)]; with_reducible rfl)
              rotate_left
              ·
               simp only [Act.put, List.setIfInBounds_toArray, List.set_cons_zero, List.set_cons_succ, i64_w, i32_w]
               rfl
              refine pure_ (i := 5) (N := some 49) (v := ?_) (a' := ?_) #[true, true, false, true, false, true, false, false, false, false, false, false, false, false, false, false, false, false, false, false, false, false, false, false, false, false, false, false, false, false] rfl rfl (any_of HT_.out (by kernel_rfl)) (fun _ _ _ h => h) (Or.inl ⟨by rfl, ?_⟩) ?_ ?_
              rotate_left
              ·
               intro w'
               go_simp
               first | (with_reducible rfl) | (rw [if_pos (of_decide_eq_true kx_)]; done) | (rw [if_pos (of_decide_eq_true kx_)]; with_reducible rfl)
              rotate_left
              ·
               simp only [Act.put, List.setIfInBounds_toArray, List.set_cons_zero, List.set_cons_succ, i64_w, i32_w]
               rfl
              refine pure_ (i := 8) (N := some 52) (v := ?_) (a' := ?_) #[true, true, false, true, false, true, false, false, true, false, false, false, false, false, false, false, false, false, false, false, false, false, false, false, false, false, false, false, false, false] rfl rfl (any_of HT_.out (by kernel_rfl)) (fun _ _ _ h => h) (Or.inl ⟨by rfl, ?_⟩) ?_ ?_
              rotate_left
              ·
               intro w'
               go_simp
               first | (with_reducible rfl) | (rw [if_pos (of_decide_eq_true kx_)]; done) | (rw [if_pos (of_decide_eq_true kx_)]; with_reducible rfl)
              rotate_left
              ·
               simp only [Act.put, List.setIfInBounds_toArray, List.set_cons_zero, List.set_cons_succ, i64_w, i32_w]
               rfl
              refine pure_ (i := 11) (N := some 55) (v := ?_) (a' := ?_) #[true, true, false, true, false, true, false, false, true, false, false, true, false, false, false, false, false, false, false, false, false, false, false, false, false, false, false, false, false, false] rfl rfl (any_of HT_.out (by kernel_rfl)) (fun _ _ _ h => h) (Or.inl ⟨by rfl, ?_⟩) ?_ ?_
              rotate_left
              ·
               intro w'
               go_simp
               first | (with_reducible rfl) | (rw [if_pos (of_decide_eq_true kx_)]; done) | (rw [if_pos (of_decide_eq_true kx_)]; with_reducible rfl)
              rotate_left
              ·
               simp only [Act.put, List.setIfInBounds_toArray, List.set_cons_zero, List.set_cons_succ, i64_w, i32_w]
               rfl
              refine pure_ (i := 12) (N := some 56) (v := ?_) (a' := ?_) #[true, true, false, true, false, true, false, false, true, false, false, true, true, false, false, false, false, false, false, false, false, false, false, false, false, false, false, false, false, false] rfl rfl (any_of HT_.out (by kernel_rfl)) (fun _ _ _ h => h) (Or.inl ⟨by rfl, ?_⟩) ?_ ?_
              rotate_left
              ·
               intro w'
               go_simp
               first | (with_reducible rfl) | (rw [if_pos (of_decide_eq_true kx_)]; done) | (rw [if_pos (of_decide_eq_true kx_)]; with_reducible rfl)
              rotate_left
              ·
               simp only [Act.put, List.setIfInBounds_toArray, List.set_cons_zero, List.set_cons_succ, i64_w, i32_w]
               rfl
              refine pure_ (i := 13) (N := some 57) (v := ?_) (a' := ?_) #[true, true, false, true, false, true, false, false, true, false, false, true, true, true, false, false, false, false, false, false, false, false, false, false, false, false, false, false, false, false] rfl rfl (any_of HT_.out (by kernel_rfl)) (fun _ _ _ h => h) (Or.inl ⟨by rfl, ?_⟩) ?_ ?_
              rotate_left
              ·
               intro w'
               go_simp
               first | (with_reducible rfl) | (rw [if_pos (of_decide_eq_true kx_)]; done) | (rw [if_pos (of_decide_eq_true kx_)]; with_reducible rfl)
              rotate_left
              ·
               simp only [Act.put, List.setIfInBounds_toArray, List.set_cons_zero, List.set_cons_succ, i64_w, i32_w]
               rfl
              refine pure_ (i := 14) (N := some 58) (v := ?_) (a' := ?_) #[true, true, false, true, false, true, false, false, true, false, false, true, true, true, true, false, false, false, false, false, false, false, false, false, false, false, false, false, false, false] rfl rfl (any_of HT_.out (by kernel_rfl)) (fun _ _ _ h => h) (Or.inl ⟨by rfl, ?_⟩) ?_ ?_
              rotate_left
              ·
               intro w'
               go_simp
               first | (with_reducible rfl) | (rw [if_pos (of_decide_eq_true kx_)]; done) | (rw [if_pos (of_decide_eq_true kx_)]; with_reducible rfl)
              rotate_left
              ·
               simp only [Act.put, List.setIfInBounds_toArray, List.set_cons_zero, List.set_cons_succ, i64_w, i32_w]
               rfl
              refine pure_ (i := 15) (N := some 59) (v := ?_) (a' := ?_) #[true, true, false, true, false, true, false, false, true, false, false, true, true, true, true, true, false, false, false, false, false, false, false, false, false, false, false, false, false, false] rfl rfl (any_of HT_.out (by kernel_rfl)) (fun _ _ _ h => h) (Or.inl ⟨by rfl, ?_⟩) ?_ ?_
              rotate_left
              ·
               intro w'
               go_simp
               first | (with_reducible rfl) | (rw [if_pos (of_decide_eq_true kx_)]; done) | (rw [if_pos (of_decide_eq_true kx_)]; with_reducible rfl)
              rotate_left
              ·
               simp only [Act.put, List.setIfInBounds_toArray, List.set_cons_zero, List.set_cons_succ, i64_w, i32_w]
               rfl
              refine pure_ (i := 16) (N := some 60) (v := ?_) (a' := ?_) #[true, true, false, true, false, true, false, false, true, false, false, true, true, true, true, true, true, false, false, false, false, false, false, false, false, false, false, false, false, false] rfl rfl (any_of HT_.out (by kernel_rfl)) (fun _ _ _ h => h) (Or.inl ⟨by rfl, ?_⟩) ?_ ?_
              rotate_left
              ·
               intro w'
               go_simp
               first | (with_reducible rfl) | (rw [if_pos (of_decide_eq_true kx_)]; done) | (rw [if_pos (of_decide_eq_true kx_)]; with_reducible rfl)
              rotate_left
              ·
               simp only [Act.put, List.setIfInBounds_toArray, List.set_cons_zero, List.set_cons_succ, i64_w, i32_w]
               rfl
              refine pure_ (i := 17) (N := some 61) (v := ?_) (a' := ?_) #[true, true, false, true, false, true, false, false, true, false, false, true, true, true, true, true, true, true, false, false, false, false, false, false, false, false, false, false, false, false] rfl rfl (any_of HT_.out (by kernel_rfl)) (fun _ _ _ h => h) (Or.inl ⟨by rfl, ?_⟩) ?_ ?_
              rotate_left
              ·
               intro w'
               go_simp
               first | (with_reducible rfl) | (rw [if_pos (of_decide_eq_true kx_)]; done) | (rw [if_pos (of_decide_eq_true kx_)]; with_reducible rfl)
              rotate_left
              ·
               simp only [Act.put, List.setIfInBounds_toArray, List.set_cons_zero, List.set_cons_succ, i64_w, i32_w]
               rfl
              refine pure_ (i := 18) (N := some 62) (v := ?_) (a' := ?_) #[true, true, false, true, false, true, false, false, true, false, false, true, true, true, true, true, true, true, true, false, false, false, false, false, false, false, false, false, false, false] rfl rfl (any_of HT_.out (by kernel_rfl)) (fun _ _ _ h => h) (Or.inl ⟨by rfl, ?_⟩) ?_ ?_
              rotate_left
              ·
               intro w'
               go_simp
               first | (with_reducible rfl) | (rw [if_pos (of_decide_eq_true kx_)]; done) | (rw [if_pos (of_decide_eq_true kx_)]; with_reducible rfl)
              rotate_left
              ·
               simp only [Act.put, List.setIfInBounds_toArray, List.set_cons_zero, List.set_cons_succ, i64_w, i32_w]
               rfl
              refine pure_ (i := 19) (N := some 63) (v := ?_) (a' := ?_) #[true, true, false, true, false, true, false, false, true, false, false, true, true, true, true, true, true, true, true, true, false, false, false, false, false, false, false, false, false, false] rfl rfl (any_of HT_.out (by kernel_rfl)) (fun _ _ _ h => h) (Or.inl ⟨by rfl, ?_⟩) ?_ ?_
              rotate_left
              ·
               intro w'
               go_simp
               first | (with_reducible rfl) | (rw [if_pos (of_decide_eq_true kx_)]; done) | (rw [if_pos (of_decide_eq_true kx_)]; with_reducible rfl)
              rotate_left
              ·
               simp only [Act.put, List.setIfInBounds_toArray, List.set_cons_zero, List.set_cons_succ, i64_w, i32_w]
               rfl
              refine pure_ (i := 20) (N := some 64) (v := ?_) (a' := ?_) #[true, true, false, true, false, true, false, false, true, false, false, true, true, true, true, true, true, true, true, true, true, false, false, false, false, false, false, false, false, false] rfl rfl (any_of HT_.out (by kernel_rfl)) (fun _ _ _ h => h) (Or.inl ⟨by rfl, ?_⟩) ?_ ?_
              rotate_left
              ·
               intro w'
               go_simp
               first | (with_reducible rfl) | (rw [if_pos (of_decide_eq_true kx_)]; done) | (rw [if_pos (of_decide_eq_true kx_)]; with_reducible rfl)
              rotate_left
              ·
               simp only [Act.put, List.setIfInBounds_toArray, List.set_cons_zero, List.set_cons_succ, i64_w, i32_w]
               rfl
              refine pure_ (i := 21) (N := some 65) (v := ?_) (a' := ?_) #[true, true, false, true, false, true, false, false, true, false, false, true, true, true, true, true, true, true, true, true, true, true, false, false, false, false, false, false, false, false] rfl rfl (any_of HT_.out (by kernel_rfl)) (fun _ _ _ h => h) (Or.inl ⟨by rfl, ?_⟩) ?_ ?_
              rotate_left
              ·
               intro w'
               go_simp
               first | (with_reducible rfl) | (rw [if_pos (of_decide_eq_true kx_)]; done) | (rw [if_pos (of_decide_eq_true kx_)]; with_reducible rfl)
              rotate_left
              ·
               simp only [Act.put, List.setIfInBounds_toArray, List.set_cons_zero, List.set_cons_succ, i64_w, i32_w]
               rfl
              refine pure_ (i := 23) (N := some 67) (v := ?_) (a' := ?_) #[true, true, false, true, false, true, false, false, true, false, false, true, true, true, true, true, true, true, true, true, true, true, false, true, false, false, false, false, false, false] rfl rfl (any_of HT_.out (by kernel_rfl)) (fun _ _ _ h => h) (Or.inl ⟨by rfl, ?_⟩) ?_ ?_
              rotate_left
              ·
               intro w'
               go_simp
               first | (with_reducible rfl) | (rw [if_pos (of_decide_eq_true kx_)]; done) | (rw [if_pos (of_decide_eq_true kx_)]; with_reducible rfl)
              rotate_left
              ·
               simp only [Act.put, List.setIfInBounds_toArray, List.set_cons_zero, List.set_cons_succ, i64_w, i32_w]
               rfl
              refine pure_ (i := 24) (N := some 68) (v := ?_) (a' := ?_) #[true, true, false, true, false, true, false, false, true, false, false, true, true, true, true, true, true, true, true, true, true, true, false, true, true, false, false, false, false, false] rfl rfl (any_of HT_.out (by kernel_rfl)) (fun _ _ _ h => h) (Or.inl ⟨by rfl, ?_⟩) ?_ ?_
              rotate_left
              ·
               intro w'
               go_simp
               first | (with_reducible rfl) | (rw [if_pos (of_decide_eq_true kx_)]; done) | (rw [if_pos (of_decide_eq_true kx_)]; with_reducible rfl)
              rotate_left
              ·
               simp only [Act.put, List.setIfInBounds_toArray, List.set_cons_zero, List.set_cons_succ, i64_w, i32_w]
               rfl
              refine pure_ (i := 25) (N := some 69) (v := ?_) (a' := ?_) #[true, true, false, true, false, true, false, false, true, false, false, true, true, true, true, true, true, true, true, true, true, true, false, true, true, true, false, false, false, false] rfl rfl (any_of HT_.out (by kernel_rfl)) (fun _ _ _ h => h) (Or.inl ⟨by rfl, ?_⟩) ?_ ?_
              rotate_left
              ·
               intro w'
               go_simp
               first | (with_reducible rfl) | (rw [if_pos (of_decide_eq_true kx_)]; done) | (rw [if_pos (of_decide_eq_true kx_)]; with_reducible rfl)
              rotate_left
              ·
               simp only [Act.put, List.setIfInBounds_toArray, List.set_cons_zero, List.set_cons_succ, i64_w, i32_w]
               rfl
              refine take_ (i := 2) (N := some 46) (v := ?_) (a' := ?_) #[true, true, true, true, false, true, false, false, true, false, false, true, true, true, true, true, true, true, true, true, true, true, false, true, true, true, false, false, false, false] rfl rfl (take_ofW HT_.out HW_.out (by kernel_rfl)) (fun _ _ _ h => h) (Or.inl ⟨by rfl, ?_⟩) hHeld ?_ ?_
              rotate_left
              ·
               rintro w' ⟨s0, s1, s2⟩
               go_simp
               first | (with_reducible rfl) | (rw [if_pos (of_decide_eq_true kx_)]; done) | (rw [if_pos (of_decide_eq_true kx_)]; with_reducible rfl)
              rotate_left
              ·
               simp only [Act.put, List.setIfInBounds_toArray, List.set_cons_zero, List.set_cons_succ, i64_w, i32_w]
               rfl
              refine take_ (i := 22) (N := some 66) (v := ?_) (a' := ?_) #[true, true, true, true, false, true, false, false, true, false, false, true, true, true, true, true, true, true, true, true, true, true, true, true, true, true, false, false, false, false] rfl rfl (take_ofW HT_.out HW_.out (by kernel_rfl)) (fun _ _ _ h => h) (Or.inl ⟨by rfl, ?_⟩) hHeld ?_ ?_
              rotate_left
              ·
               rintro w' ⟨s0, s1, s2⟩
               go_simp
               first | (with_reducible rfl) | (rw [if_pos (of_decide_eq_true kx_)]; done) | (rw [if_pos (of_decide_eq_true kx_)]; with_reducible rfl)
              rotate_left
              ·
               simp only [Act.put, List.setIfInBounds_toArray, List.set_cons_zero, List.set_cons_succ, i64_w, i32_w]
               rfl
              refine take_ (i := 26) (N := some 70) (v := ?_) (a' := ?_) #[true, true, true, true, false, true, false, false, true, false, false, true, true, true, true, true, true, true, true, true, true, true, true, true, true, true, true, false, false, false] rfl rfl (take_ofW HT_.out HW_.out (by kernel_rfl)) (fun _ _ _ h => h) (Or.inl ⟨by rfl, ?_⟩) hHeld ?_ ?_
              rotate_left
              ·
               rintro w' ⟨s0, s1, s2⟩
               go_simp
               first | (with_reducible rfl) | (rw [if_pos (of_decide_eq_true kx_)]; done) | (rw [if_pos (of_decide_eq_true kx_)]; with_reducible rfl)
              rotate_left
              ·
               simp only [Act.put, List.setIfInBounds_toArray, List.set_cons_zero, List.set_cons_succ, i64_w, i32_w]
               rfl
              refine one_ (i := 4) (N := some 48) #[true, true, true, true, true, true, false, false, true, false, false, true, true, true, true, true, true, true, true, true, true, true, true, true, true, true, true, false, false, false] rfl rfl (one_of HT_.out (by kernel_rfl)) (by decide) (fun K hK => ?_)
              refine goes_ Try.func129 (by kernel_rfl) rfl #[.int .i64 (rd x7_1 4), .int .i64 6] (by rfl) rfl rfl (by (try simp only [List.map_toArray, List.map_cons, List.map_nil]); first | done | rfl | (simp only [List.length_drop, List.length_take]; rfl)) ?_
              with_reducible refine (impl_rotate.calls (rd x7_1 4) 6 t168 _ A19.out).mono ?_
              rintro e w' ⟨rfl, ⟨nd, rfl⟩⟩
              refine ⟨_, rfl, ?_⟩
              refine hK.out _ _ ⟨(blk_cell BK160.out _).trans (KA_get x23_1 (of_decide_eq_true (by assumption)) (of_decide_eq_true (by assumption))), hHeld.2.1, hHeld.2.2⟩ (fun hHeld => ?_)
              clear hK K
              refine norm_ (a' := ?_) ?_ ?_
              rotate_left
              ·
               show Act.put _ (some 48) _ = _
               simp only [Act.put, List.setIfInBounds_toArray, List.set_cons_zero, List.set_cons_succ, i64_w, i32_w]
               rfl
              refine one_ (i := 6) (N := some 50) #[true, true, true, true, true, true, true, false, true, false, false, true, true, true, true, true, true, true, true, true, true, true, true, true, true, true, true, false, false, false] rfl rfl (one_of HT_.out (by kernel_rfl)) (by decide) (fun K hK => ?_)
              refine goes_ Try.func129 (by kernel_rfl) rfl #[.int .i64 (rd x7_1 4), .int .i64 11] (by rfl) rfl rfl (by (try simp only [List.map_toArray, List.map_cons, List.map_nil]); first | done | rfl | (simp only [List.length_drop, List.length_take]; rfl)) ?_
              with_reducible refine (impl_rotate.calls (rd x7_1 4) 11 t169 _ A20.out).mono ?_
              rintro e w' ⟨rfl, ⟨nd, rfl⟩⟩
              refine ⟨_, rfl, ?_⟩
              refine hK.out _ _ ⟨(blk_cell BK160.out _).trans (KA_get x23_1 (of_decide_eq_true (by assumption)) (of_decide_eq_true (by assumption))), hHeld.2.1, hHeld.2.2⟩ (fun hHeld => ?_)
              clear hK K
              refine norm_ (a' := ?_) ?_ ?_
              rotate_left
              ·
               show Act.put _ (some 50) _ = _
               simp only [Act.put, List.setIfInBounds_toArray, List.set_cons_zero, List.set_cons_succ, i64_w, i32_w]
               rfl
              refine pure_ (i := 7) (N := some 51) (v := ?_) (a' := ?_) #[true, true, true, true, true, true, true, true, true, false, false, true, true, true, true, true, true, true, true, true, true, true, true, true, true, true, true, false, false, false] rfl rfl (any_of HT_.out (by kernel_rfl)) (fun _ _ _ h => h) (Or.inl ⟨by rfl, ?_⟩) ?_ ?_
              rotate_left
              ·
               intro w'
               go_simp
               first | (with_reducible rfl) | (rw [if_pos (of_decide_eq_true kx_)]; done) | (rw [if_pos (of_decide_eq_true kx_)]; with_reducible rfl)
              rotate_left
              ·
               simp only [Act.put, List.setIfInBounds_toArray, List.set_cons_zero, List.set_cons_succ, i64_w, i32_w]
               rfl
              refine one_ (i := 9) (N := some 53) #[true, true, true, true, true, true, true, true, true, true, false, true, true, true, true, true, true, true, true, true, true, true, true, true, true, true, true, false, false, false] rfl rfl (one_of HT_.out (by kernel_rfl)) (by decide) (fun K hK => ?_)
              refine goes_ Try.func129 (by kernel_rfl) rfl #[.int .i64 (rd x7_1 4), .int .i64 25] (by rfl) rfl rfl (by (try simp only [List.map_toArray, List.map_cons, List.map_nil]); first | done | rfl | (simp only [List.length_drop, List.length_take]; rfl)) ?_
              with_reducible refine (impl_rotate.calls (rd x7_1 4) 25 t170 _ A21.out).mono ?_
              rintro e w' ⟨rfl, ⟨nd, rfl⟩⟩
              refine ⟨_, rfl, ?_⟩
              refine hK.out _ _ ⟨(blk_cell BK160.out _).trans (KA_get x23_1 (of_decide_eq_true (by assumption)) (of_decide_eq_true (by assumption))), hHeld.2.1, hHeld.2.2⟩ (fun hHeld => ?_)
              clear hK K
              refine norm_ (a' := ?_) ?_ ?_
              rotate_left
              ·
               show Act.put _ (some 53) _ = _
               simp only [Act.put, List.setIfInBounds_toArray, List.set_cons_zero, List.set_cons_succ, i64_w, i32_w]
               rfl
              refine pure_ (i := 10) (N := some 54) (v := ?_) (a' := ?_) #[true, true, true, true, true, true, true, true, true, true, true, true, true, true, true, true, true, true, true, true, true, true, true, true, true, true, true, false, false, false] rfl rfl (any_of HT_.out (by kernel_rfl)) (fun _ _ _ h => h) (Or.inl ⟨by rfl, ?_⟩) ?_ ?_
              rotate_left
              ·
               intro w'
               go_simp
               first | (with_reducible rfl) | (rw [if_pos (of_decide_eq_true kx_)]; done) | (rw [if_pos (of_decide_eq_true kx_)]; with_reducible rfl)
              rotate_left
              ·
               simp only [Act.put, List.setIfInBounds_toArray, List.set_cons_zero, List.set_cons_succ, i64_w, i32_w]
               rfl
              refine one_ (i := 27) (N := some 71) #[true, true, true, true, true, true, true, true, true, true, true, true, true, true, true, true, true, true, true, true, true, true, true, true, true, true, true, true, false, false] rfl rfl (one_of HT_.out (by kernel_rfl)) (by decide) (fun K hK => ?_)
              refine Kd.R_lit_step (Kd.int .i64) _ 2 ?hg (N := 71) ?hd (xs := ([rd x7_1 7, Go.bits .xor .i64 (Go.bits .xor .i64 t168 t169) t170, Go.bits .xor .i64 (Go.bits .and .i64 (rd x7_1 4) (rd x7_1 5)) (Go.bits .and .i64 (Go.bits .and .i64 (Go.bits .xor .i64 (-1) (rd x7_1 4)) 4294967295) (rd x7_1 6)), rd KAL_ x23_1, rd t153 x23_1] : List Int)) (inner := [.int .i64 (rd x7_1 7), .int .i64 (Go.bits .xor .i64 (Go.bits .xor .i64 t168 t169) t170), .int .i64 (Go.bits .xor .i64 (Go.bits .and .i64 (rd x7_1 4) (rd x7_1 5)) (Go.bits .and .i64 (Go.bits .and .i64 (Go.bits .xor .i64 (-1) (rd x7_1 4)) 4294967295) (rd x7_1 6))), .int .i64 (rd KAL_ x23_1), .int .i64 (rd t153 x23_1)]) (ok := fun _ => True) (okp := fun _ => True) ?hr ?hp (fun _ hk => hk) trivial (Below.refl _ _) (Nat.le_refl _) (by simp) ?_; (case hd => rfl); (case hg => rfl); (case hr => first | (go_simp; done) | (go_simp; rfl)); (case hp => exact (Reps.one (show Kd.M (Kd.int .i64) _ _ _ (rd x7_1 7) [.int .i64 (rd x7_1 7)] from rfl) (Reps.one (show Kd.M (Kd.int .i64) _ _ _ (Go.bits .xor .i64 (Go.bits .xor .i64 t168 t169) t170) [.int .i64 (Go.bits .xor .i64 (Go.bits .xor .i64 t168 t169) t170)] from rfl) (Reps.one (show Kd.M (Kd.int .i64) _ _ _ (Go.bits .xor .i64 (Go.bits .and .i64 (rd x7_1 4) (rd x7_1 5)) (Go.bits .and .i64 (Go.bits .and .i64 (Go.bits .xor .i64 (-1) (rd x7_1 4)) 4294967295) (rd x7_1 6))) [.int .i64 (Go.bits .xor .i64 (Go.bits .and .i64 (rd x7_1 4) (rd x7_1 5)) (Go.bits .and .i64 (Go.bits .and .i64 (Go.bits .xor .i64 (-1) (rd x7_1 4)) 4294967295) (rd x7_1 6)))] from rfl) (Reps.one (show Kd.M (Kd.int .i64) _ _ _ (rd KAL_ x23_1) [.int .i64 (rd KAL_ x23_1)] from rfl) (Reps.one (show Kd.M (Kd.int .i64) _ _ _ (rd t153 x23_1) [.int .i64 (rd t153 x23_1)] from rfl) (Reps.none _ _)))))))
              intro v173 w36 ho37 hb hg_ hnew_
              have HS1_ := (hb.cell (World.block_lt_of_cell? _ _ (hHeld.2.1))).trans (hHeld.2.1)
              have HS2_ := (hb.cell (World.block_lt_of_cell? _ _ (hHeld.2.2))).trans (hHeld.2.2)
              clear hg_ hnew_
              (first | rw [← Ny172.out] at ho37 | (simp only [Int.reduceToNat] at ho37; rw [← Ny172.out] at ho37))
              have n0_ := Aside0.mk (Kd.R_elder' (by (with_reducible repeat (first | apply Kd.R_alloc | apply Kd.R_drewN | apply Kd.R_drew)); exact HO_5.out) (Kd.R_base ho37) hb)
              have n1_ := Aside0.mk (Kd.R_elder' (by (with_reducible repeat (first | apply Kd.R_alloc | apply Kd.R_drewN | apply Kd.R_drew)); exact HO_7.out) (Kd.R_base ho37) hb)
              have n2_ := Aside0.mk (Kd.R_lower (Kd.R_new' (Kd.R_new' ho37 (Kd.R_lt (by (with_reducible repeat (first | apply Kd.R_alloc | apply Kd.R_drewN | apply Kd.R_drew)); exact HO_5.out))) (Kd.R_lt (by (with_reducible repeat (first | apply Kd.R_alloc | apply Kd.R_drewN | apply Kd.R_drew)); exact HO_7.out))) (below_size (by repeat (first | (with_reducible first | exact HB.out | apply below_alloc | apply pw_below_drewN | apply below_drew1 | refine below_set ?_ GE160.out) | exact HB.out))))
              have n3_ := Aside0.mk (blk_below (g := gb160) (o := .cells KA_ 95 (0, 0)) (by (with_reducible repeat (first | refine blk_drewN ?_ _ | refine blk_drew ?_ | refine blk_alloc ?_ _)); exact BK160.out) hb)
              have n4_ := Aside0.mk (below_step (by repeat (first | (with_reducible first | exact HB.out | apply below_alloc | apply pw_below_drewN | apply below_drew1 | refine below_set ?_ GE160.out) | exact HB.out)) hb)
              clear HO_5
              clear HO_7
              clear BK160
              clear HB
              have HO_5 := n0_
              have HO_7 := n1_
              have HO174 := n2_
              have BK160 := n3_
              have HB := n4_
              clear n0_ n1_ n2_ n3_ n4_
              clear hb ho37
              obtain ⟨Ao38, co38, eo38⟩ := Kd.R_slice HO174.out
              (first | subst eo38 | (injection eo38 with f1_ f2_ f3_; have f4_ := f1_.symm; have f5_ := f3_.symm; clear f1_ f2_ f3_; subst f4_; subst f5_))
              refine hK.out _ _ ⟨(blk_cell BK160.out _).trans (KA_get x23_1 (of_decide_eq_true (by assumption)) (of_decide_eq_true (by assumption))), HS1_, HS2_⟩ (fun hHeld => ?_)
              clear hK K
              refine norm_ (a' := ?_) ?_ ?_
              rotate_left
              ·
               show Act.put _ (some 71) _ = _
               simp only [Act.put, List.setIfInBounds_toArray, List.set_cons_zero, List.set_cons_succ, i64_w, i32_w]
               rfl
              refine one_ (i := 28) (N := some 72) #[true, true, true, true, true, true, true, true, true, true, true, true, true, true, true, true, true, true, true, true, true, true, true, true, true, true, true, true, true, false] rfl rfl (one_of HT_.out (by kernel_rfl)) (by decide) (fun K hK => ?_)
              refine goes_ Try.func130 (by kernel_rfl) rfl #[.slice Ao38 y172.length co38] (by rfl) rfl rfl (by (try simp only [List.map_toArray, List.map_cons, List.map_nil]); first | done | rfl | (simp only [List.length_drop, List.length_take]; rfl)) ?_
              with_reducible refine (impl_addWords.calls k1 _ _ y172 t175 _ ?side1 ?side2 A24.out).mono ?_
              (case side1 => repeat (first | exact (Kd.R_reads' HO174.out).2.2 | (with_reducible refine Kd.C_alloc ?_ _) | (with_reducible refine Kd.C_drewN ?_ _) | (with_reducible refine Kd.C_drew ?_)))
              (case side2 => exact (Kd.R_reads' HO174.out).2.1)
              rintro e w' ⟨rfl, ⟨nd, rfl⟩⟩
              refine ⟨_, rfl, ?_⟩
              refine hK.out _ _ ⟨(blk_cell BK160.out _).trans (KA_get x23_1 (of_decide_eq_true (by assumption)) (of_decide_eq_true (by assumption))), hHeld.2.1, hHeld.2.2⟩ (fun hHeld => ?_)
              clear hK K
              refine norm_ (a' := ?_) ?_ ?_
              rotate_left
              ·
               show Act.put _ (some 72) _ = _
               simp only [Act.put, List.setIfInBounds_toArray, List.set_cons_zero, List.set_cons_succ, i64_w, i32_w]
               rfl
              refine pure_ (i := 29) (N := some 15) (v := ?_) (a' := ?_) #[true, true, true, true, true, true, true, true, true, true, true, true, true, true, true, true, true, true, true, true, true, true, true, true, true, true, true, true, true, true] rfl rfl (any_of HT_.out (by kernel_rfl)) (fun _ _ _ h => h) (Or.inl ⟨by rfl, ?_⟩) ?_ ?_
              rotate_left
              ·
               intro w'
               go_simp
               first | (with_reducible rfl) | (rw [if_pos (of_decide_eq_true kx_)]; done) | (rw [if_pos (of_decide_eq_true kx_)]; with_reducible rfl)
              rotate_left
              ·
               simp only [Act.put, List.setIfInBounds_toArray, List.set_cons_zero, List.set_cons_succ, i64_w, i32_w]
               rfl
              refine done_ (done_of HT_.out (by kernel_rfl)) ?_
              try go_wp2_with (first | ((with_reducible refine gate_callee (f := 129) rfl ?_); refine goesL_ (some 74) rfl rfl Try.func129 (by kernel_rfl) rfl #[.int .i64 (rd x7_1 0), .int .i64 2] rfl (by (try simp only [List.map_toArray, List.map_cons, List.map_nil]); first | done | rfl | (simp only [List.length_drop, List.length_take]; rfl)) ?_; (with_reducible refine (impl_rotate.calls (rd x7_1 0) 2 t176 _ A25.out).mono ?_); rintro e w' ⟨rfl, ⟨nd, rfl⟩⟩; refine ⟨_, rfl, ?_⟩) | ((with_reducible refine gate_callee (f := 129) rfl ?_); refine goesL_ (some 76) rfl rfl Try.func129 (by kernel_rfl) rfl #[.int .i64 (rd x7_1 0), .int .i64 13] rfl (by (try simp only [List.map_toArray, List.map_cons, List.map_nil]); first | done | rfl | (simp only [List.length_drop, List.length_take]; rfl)) ?_; (with_reducible refine (impl_rotate.calls (rd x7_1 0) 13 t177 _ A26.out).mono ?_); rintro e w' ⟨rfl, ⟨nd, rfl⟩⟩; refine ⟨_, rfl, ?_⟩) | ((with_reducible refine gate_callee (f := 129) rfl ?_); refine goesL_ (some 79) rfl rfl Try.func129 (by kernel_rfl) rfl #[.int .i64 (rd x7_1 0), .int .i64 22] rfl (by (try simp only [List.map_toArray, List.map_cons, List.map_nil]); first | done | rfl | (simp only [List.length_drop, List.length_take]; rfl)) ?_; (with_reducible refine (impl_rotate.calls (rd x7_1 0) 22 t178 _ A27.out).mono ?_); rintro e w' ⟨rfl, ⟨nd, rfl⟩⟩; refine ⟨_, rfl, ?_⟩) | ((with_reducible refine gate_dst (N := 92) rfl ?_); refine Kd.R_lit (Kd.int .i64) _ 2 ?hg (N := 92) ?hd (xs := ([Go.bits .xor .i64 (Go.bits .xor .i64 t176 t177) t178, Go.bits .xor .i64 (Go.bits .xor .i64 (Go.bits .and .i64 (rd x7_1 0) (rd x7_1 1)) (Go.bits .and .i64 (rd x7_1 0) (rd x7_1 2))) (Go.bits .and .i64 (rd x7_1 1) (rd x7_1 2))] : List Int)) (inner := [.int .i64 (Go.bits .xor .i64 (Go.bits .xor .i64 t176 t177) t178), .int .i64 (Go.bits .xor .i64 (Go.bits .xor .i64 (Go.bits .and .i64 (rd x7_1 0) (rd x7_1 1)) (Go.bits .and .i64 (rd x7_1 0) (rd x7_1 2))) (Go.bits .and .i64 (rd x7_1 1) (rd x7_1 2)))]) (ok := fun _ => True) (okp := fun _ => True) ?hr ?hp (fun _ hk => hk) trivial (Below.refl _ _) (Nat.le_refl _) (by simp) ?_; (case hd => rfl); (case hg => rfl); (case hr => first | (go_simp; done) | (go_simp; rfl)); (case hp => exact (Reps.one (show Kd.M (Kd.int .i64) _ _ _ (Go.bits .xor .i64 (Go.bits .xor .i64 t176 t177) t178) [.int .i64 (Go.bits .xor .i64 (Go.bits .xor .i64 t176 t177) t178)] from rfl) (Reps.one (show Kd.M (Kd.int .i64) _ _ _ (Go.bits .xor .i64 (Go.bits .xor .i64 (Go.bits .and .i64 (rd x7_1 0) (rd x7_1 1)) (Go.bits .and .i64 (rd x7_1 0) (rd x7_1 2))) (Go.bits .and .i64 (rd x7_1 1) (rd x7_1 2))) [.int .i64 (Go.bits .xor .i64 (Go.bits .xor .i64 (Go.bits .and .i64 (rd x7_1 0) (rd x7_1 1)) (Go.bits .and .i64 (rd x7_1 0) (rd x7_1 2))) (Go.bits .and .i64 (rd x7_1 1) (rd x7_1 2)))] from rfl) (Reps.none _ _)))); intro v180 w39 ho40 hb hg_ hnew_; clear hg_ hnew_; (first | rw [← Ny179.out] at ho40 | (simp only [Int.reduceToNat] at ho40; rw [← Ny179.out] at ho40)); have n0_ := Aside0.mk (Kd.R_elder' (by (with_reducible repeat (first | apply Kd.R_alloc | apply Kd.R_drewN | apply Kd.R_drew)); exact HO_5.out) (Kd.R_base ho40) hb); have n1_ := Aside0.mk (Kd.R_elder' (by (with_reducible repeat (first | apply Kd.R_alloc | apply Kd.R_drewN | apply Kd.R_drew)); exact HO_7.out) (Kd.R_base ho40) hb); have n2_ := Aside0.mk (Kd.R_elder' (by (with_reducible repeat (first | apply Kd.R_alloc | apply Kd.R_drewN | apply Kd.R_drew)); exact HO174.out) (Kd.R_base ho40) hb); have n3_ := Aside0.mk (Kd.R_lower (Kd.R_new' (Kd.R_new' (Kd.R_new' ho40 (Kd.R_lt (by (with_reducible repeat (first | apply Kd.R_alloc | apply Kd.R_drewN | apply Kd.R_drew)); exact HO_5.out))) (Kd.R_lt (by (with_reducible repeat (first | apply Kd.R_alloc | apply Kd.R_drewN | apply Kd.R_drew)); exact HO_7.out))) (Kd.R_lt (by (with_reducible repeat (first | apply Kd.R_alloc | apply Kd.R_drewN | apply Kd.R_drew)); exact HO174.out))) (below_size (by repeat (first | (with_reducible first | exact HB.out | apply below_alloc | apply pw_below_drewN | apply below_drew1 | refine below_set ?_ GE160.out) | exact HB.out)))); have n4_ := Aside0.mk (blk_below (g := gb160) (o := .cells KA_ 95 (0, 0)) (by (with_reducible repeat (first | refine blk_drewN ?_ _ | refine blk_drew ?_ | refine blk_alloc ?_ _)); exact BK160.out) hb); have n5_ := Aside0.mk (below_step (by repeat (first | (with_reducible first | exact HB.out | apply below_alloc | apply pw_below_drewN | apply below_drew1 | refine below_set ?_ GE160.out) | exact HB.out)) hb); clear HO_5; clear HO_7; clear HO174; clear BK160; clear HB; have HO_5 := n0_; have HO_7 := n1_; have HO174 := n2_; have HO181 := n3_; have BK160 := n4_; have HB := n5_; clear n0_ n1_ n2_ n3_ n4_ n5_; clear hb ho40; obtain ⟨Ao41, co41, eo41⟩ := Kd.R_slice HO181.out; subst eo41) | ((with_reducible refine gate_callee (f := 130) rfl ?_); refine goesL_ (some 93) rfl rfl Try.func130 (by kernel_rfl) rfl #[.slice Ao41 y179.length co41] rfl (by (try simp only [List.map_toArray, List.map_cons, List.map_nil]); first | done | rfl | (simp only [List.length_drop, List.length_take]; rfl)) ?_; (with_reducible refine (impl_addWords.calls k1 _ _ y179 t182 _ ?side1 ?side2 A28.out).mono ?_); (case side1 => repeat (first | exact (Kd.R_reads' HO181.out).2.2 | (with_reducible refine Kd.C_alloc ?_ _) | (with_reducible refine Kd.C_drewN ?_ _) | (with_reducible refine Kd.C_drew ?_))); (case side2 => exact (Kd.R_reads' HO181.out).2.1); rintro e w' ⟨rfl, ⟨nd, rfl⟩⟩; refine ⟨_, rfl, ?_⟩))
              (try (rw [drewN_self w39]; generalize hq_ : World.drewN w39 _ = w39; have n0_ := Aside0.mk (Kd.R_at hq_ HO_5.out); have n1_ := Aside0.mk (Kd.R_at hq_ HO_7.out); have n2_ := Aside0.mk (Kd.R_at hq_ HO174.out); have n3_ := Aside0.mk (Kd.R_at hq_ HO181.out); have n4_ := Aside0.mk (blk_at hq_ BK160.out); have n5_ := Aside0.mk (below_at hq_ HB.out); clear hq_ HO_5 HO_7 HO174 HO181 BK160 HB; have HO_5 := n0_; have HO_7 := n1_; have HO174 := n2_; have HO181 := n3_; have BK160 := n4_; have HB := n5_; clear n0_ n1_ n2_ n3_ n4_ n5_))
              have n0_ := Aside0.mk (Kd.R_drew HO_5.out)
              have n1_ := Aside0.mk (Kd.R_drew HO_7.out)
              have n2_ := Aside0.mk (Kd.R_drew HO174.out)
              have n3_ := Aside0.mk (Kd.R_drew HO181.out)
              have n4_ := Aside0.mk (blk_drew BK160.out)
              have n5_ := Aside0.mk (below_drew1 HB.out)
              clear HO_5
              clear HO_7
              clear HO174
              clear HO181
              clear BK160
              clear HB
              have HO_5 := n0_
              have HO_7 := n1_
              have HO174 := n2_
              have HO181 := n3_
              have BK160 := n4_
              have HB := n5_
              clear n0_ n1_ n2_ n3_ n4_ n5_
              have p187 : 0 ≤ (3 : Int) := (by omega)
              have q187 : 3 < (x7_1.length : Int) := of_decide_eq_true (by first | (with_reducible assumption) | assumption)
              obtain ⟨ad187, e187, hx187_0⟩ := Kd.at_int (Kd.R_reads' HO_7.out).2.2 3 p187 q187
              obtain rfl : ad161 = ad187 := (by injection e187)
              (try simp only [show (3 : Int).toNat = 3 from rfl, Nat.reduceMul, Nat.reduceEqDiff, Go.Addr.add, ↓reduceIte] at hx187_0)
              have qi187 : (3 < x7_1.length) = True := eq_true (by omega)
              (try rw [show ((3 : Int)).toNat = 3 from rfl] at hx187_0)
              replace p187 := eq_true p187
              replace q187 := eq_true q187
              refine start_ (n := 18) (S := fun w' => w'.cell? ⟨ad161.block, ad161.off + 3, none⟩ = some (.int .i64 (rd x7_1 3))) (ds := []) #[false, false, false, false, false, false, false, false, false, false, false, false, false, false, false, false, false, false] (by kernel_rfl) rfl rfl (hx187_0) (fun hHeld => ?_); refine with_tabW impl_compress.tab8 impl_compress.bits8 (fun HT_ HW_ => ?_)
              generalize w39.drew = w42 at HO_5 HO_7 HO174 HO181 BK160 HB hx187_0 hHeld ⊢
              refine pure_ (i := 0) (N := some 94) (v := ?_) (a' := ?_) #[true, false, false, false, false, false, false, false, false, false, false, false, false, false, false, false, false, false] rfl rfl (any_of HT_.out (by kernel_rfl)) (fun _ _ _ h => h) (Or.inl ⟨by rfl, ?_⟩) ?_ ?_
              rotate_left
              ·
               intro w'
               go_simp
               first | (with_reducible rfl) | (rw [if_pos (of_decide_eq_true kx_)]; done) | (rw [if_pos (of_decide_eq_true kx_)]; with_reducible rfl)
              rotate_left
              ·
               simp only [Act.put, List.setIfInBounds_toArray, List.set_cons_zero, List.set_cons_succ, i64_w, i32_w]
               rfl
              refine pure_ (i := 1) (N := some 95) (v := ?_) (a' := ?_) #[true, true, false, false, false, false, false, false, false, false, false, false, false, false, false, false, false, false] rfl rfl (any_of HT_.out (by kernel_rfl)) (fun _ _ _ h => h) (Or.inl ⟨by rfl, ?_⟩) ?_ ?_
              rotate_left
              ·
               intro w'
               go_simp
               first | (with_reducible rfl) | (rw [if_pos (of_decide_eq_true kx_)]; done) | (rw [if_pos (of_decide_eq_true kx_)]; with_reducible rfl)
              rotate_left
              ·
               simp only [Act.put, List.setIfInBounds_toArray, List.set_cons_zero, List.set_cons_succ, i64_w, i32_w]
               rfl
              refine pure_ (i := 4) (N := some 98) (v := ?_) (a' := ?_) #[true, true, false, false, true, false, false, false, false, false, false, false, false, false, false, false, false, false] rfl rfl (any_of HT_.out (by kernel_rfl)) (fun _ _ _ h => h) (Or.inl ⟨by rfl, ?_⟩) ?_ ?_
              rotate_left
              ·
               intro w'
               go_simp
               first | (with_reducible rfl) | (rw [if_pos (of_decide_eq_true kx_)]; done) | (rw [if_pos (of_decide_eq_true kx_)]; with_reducible rfl)
              rotate_left
              ·
               simp only [Act.put, List.setIfInBounds_toArray, List.set_cons_zero, List.set_cons_succ, i64_w, i32_w]
               rfl
              refine pure_ (i := 5) (N := some 99) (v := ?_) (a' := ?_) #[true, true, false, false, true, true, false, false, false, false, false, false, false, false, false, false, false, false] rfl rfl (any_of HT_.out (by kernel_rfl)) (fun _ _ _ h => h) (Or.inl ⟨by rfl, ?_⟩) ?_ ?_
              rotate_left
              ·
               intro w'
               go_simp
               first | (with_reducible rfl) | (rw [if_pos (of_decide_eq_true kx_)]; done) | (rw [if_pos (of_decide_eq_true kx_)]; with_reducible rfl)
              rotate_left
              ·
               simp only [Act.put, List.setIfInBounds_toArray, List.set_cons_zero, List.set_cons_succ, i64_w, i32_w]
               rfl
              refine pure_ (i := 6) (N := some 100) (v := ?_) (a' := ?_) #[true, true, false, false, true, true, true, false, false, false, false, false, false, false, false, false, false, false] rfl rfl (any_of HT_.out (by kernel_rfl)) (fun _ _ _ h => h) (Or.inl ⟨by rfl, ?_⟩) ?_ ?_
              rotate_left
              ·
               intro w'
               go_simp
               first | (with_reducible rfl) | (rw [if_pos (of_decide_eq_true kx_)]; done) | (rw [if_pos (of_decide_eq_true kx_)]; with_reducible rfl)
              rotate_left
              ·
               simp only [Act.put, List.setIfInBounds_toArray, List.set_cons_zero, List.set_cons_succ, i64_w, i32_w]
               rfl
              refine pure_ (i := 7) (N := some 101) (v := ?_) (a' := ?_) #[true, true, false, false, true, true, true, true, false, false, false, false, false, false, false, false, false, false] rfl rfl (any_of HT_.out (by kernel_rfl)) (fun _ _ _ h => h) (Or.inl ⟨by rfl, ?_⟩) ?_ ?_
              rotate_left
              ·
               intro w'
               go_simp
               first | (with_reducible rfl) | (rw [if_pos (of_decide_eq_true kx_)]; done) | (rw [if_pos (of_decide_eq_true kx_)]; with_reducible rfl)
              rotate_left
              ·
               simp only [Act.put, List.setIfInBounds_toArray, List.set_cons_zero, List.set_cons_succ, i64_w, i32_w]
               rfl
              refine pure_ (i := 8) (N := some 102) (v := ?_) (a' := ?_) #[true, true, false, false, true, true, true, true, true, false, false, false, false, false, false, false, false, false] rfl rfl (any_of HT_.out (by kernel_rfl)) (fun _ _ _ h => h) (Or.inl ⟨by rfl, ?_⟩) ?_ ?_
              rotate_left
              ·
               intro w'
               go_simp
               first | (with_reducible rfl) | (rw [if_pos (of_decide_eq_true kx_)]; done) | (rw [if_pos (of_decide_eq_true kx_)]; with_reducible rfl)
              rotate_left
              ·
               simp only [Act.put, List.setIfInBounds_toArray, List.set_cons_zero, List.set_cons_succ, i64_w, i32_w]
               rfl
              refine pure_ (i := 10) (N := some 104) (v := ?_) (a' := ?_) #[true, true, false, false, true, true, true, true, true, false, true, false, false, false, false, false, false, false] rfl rfl (any_of HT_.out (by kernel_rfl)) (fun _ _ _ h => h) (Or.inl ⟨by rfl, ?_⟩) ?_ ?_
              rotate_left
              ·
               intro w'
               go_simp
               first | (with_reducible rfl) | (rw [if_pos (of_decide_eq_true kx_)]; done) | (rw [if_pos (of_decide_eq_true kx_)]; with_reducible rfl)
              rotate_left
              ·
               simp only [Act.put, List.setIfInBounds_toArray, List.set_cons_zero, List.set_cons_succ, i64_w, i32_w]
               rfl
              refine pure_ (i := 13) (N := some 107) (v := ?_) (a' := ?_) #[true, true, false, false, true, true, true, true, true, false, true, false, false, true, false, false, false, false] rfl rfl (any_of HT_.out (by kernel_rfl)) (fun _ _ _ h => h) (Or.inl ⟨by rfl, ?_⟩) ?_ ?_
              rotate_left
              ·
               intro w'
               go_simp
               first | (with_reducible rfl) | (rw [if_pos (of_decide_eq_true kx_)]; done) | (rw [if_pos (of_decide_eq_true kx_)]; with_reducible rfl)
              rotate_left
              ·
               simp only [Act.put, List.setIfInBounds_toArray, List.set_cons_zero, List.set_cons_succ, i64_w, i32_w]
               rfl
              refine pure_ (i := 14) (N := some 108) (v := ?_) (a' := ?_) #[true, true, false, false, true, true, true, true, true, false, true, false, false, true, true, false, false, false] rfl rfl (any_of HT_.out (by kernel_rfl)) (fun _ _ _ h => h) (Or.inl ⟨by rfl, ?_⟩) ?_ ?_
              rotate_left
              ·
               intro w'
               go_simp
               first | (with_reducible rfl) | (rw [if_pos (of_decide_eq_true kx_)]; done) | (rw [if_pos (of_decide_eq_true kx_)]; with_reducible rfl)
              rotate_left
              ·
               simp only [Act.put, List.setIfInBounds_toArray, List.set_cons_zero, List.set_cons_succ, i64_w, i32_w]
               rfl
              refine pure_ (i := 15) (N := some 109) (v := ?_) (a' := ?_) #[true, true, false, false, true, true, true, true, true, false, true, false, false, true, true, true, false, false] rfl rfl (any_of HT_.out (by kernel_rfl)) (fun _ _ _ h => h) (Or.inl ⟨by rfl, ?_⟩) ?_ ?_
              rotate_left
              ·
               intro w'
               go_simp
               first | (with_reducible rfl) | (rw [if_pos (of_decide_eq_true kx_)]; done) | (rw [if_pos (of_decide_eq_true kx_)]; with_reducible rfl)
              rotate_left
              ·
               simp only [Act.put, List.setIfInBounds_toArray, List.set_cons_zero, List.set_cons_succ, i64_w, i32_w]
               rfl
              refine take_ (i := 9) (N := some 103) (v := ?_) (a' := ?_) #[true, true, false, false, true, true, true, true, true, true, true, false, false, true, true, true, false, false] rfl rfl (take_ofW HT_.out HW_.out (by kernel_rfl)) (fun _ _ _ h => h) (Or.inl ⟨by rfl, ?_⟩) hHeld ?_ ?_
              rotate_left
              ·
               intro w' s0
               go_simp
               first | (with_reducible rfl) | (rw [if_pos (of_decide_eq_true kx_)]; done) | (rw [if_pos (of_decide_eq_true kx_)]; with_reducible rfl)
              rotate_left
              ·
               simp only [Act.put, List.setIfInBounds_toArray, List.set_cons_zero, List.set_cons_succ, i64_w, i32_w]
               rfl
              refine join_ (σ := Value × Value) 3 #[true, true, true, true, true, true, true, true, true, true, true, true, false, true, true, true, false, false] (fun s_ => [(96, s_.1), (97, .int .i64 t186), (105, s_.2)]) (fun s_ w' => (w'.cell? ⟨ad161.block, ad161.off + 3, none⟩ = some (.int .i64 (rd x7_1 3))) ∧ (Kd.R (Kd.int .i64) 2 w' w.heap.size (fun k_ => some k_ ≠ (.slice Ao41 y179.length co41 : Value).ownBlock ∧ some k_ ≠ (s_.1 : Value).ownBlock ∧ some k_ ≠ (s_.2 : Value).ownBlock ∧ some k_ ≠ (.slice (some ad171) t153.length co35 : Value).ownBlock ∧ some k_ ≠ (.slice (some ad161) x7_1.length co33 : Value).ownBlock) (.slice Ao38 y172.length co38) y172) ∧ (Kd.R (Kd.int .i64) 2 w' w.heap.size (fun k_ => some k_ ≠ (.slice Ao38 y172.length co38 : Value).ownBlock ∧ some k_ ≠ (s_.1 : Value).ownBlock ∧ some k_ ≠ (s_.2 : Value).ownBlock ∧ some k_ ≠ (.slice (some ad171) t153.length co35 : Value).ownBlock ∧ some k_ ≠ (.slice (some ad161) x7_1.length co33 : Value).ownBlock) (.slice Ao41 y179.length co41) y179) ∧ (Kd.R (Kd.int .i64) 2 w' w.heap.size (fun k_ => some k_ ≠ (.slice Ao38 y172.length co38 : Value).ownBlock ∧ some k_ ≠ (.slice Ao41 y179.length co41 : Value).ownBlock ∧ some k_ ≠ (s_.2 : Value).ownBlock ∧ some k_ ≠ (.slice (some ad171) t153.length co35 : Value).ownBlock ∧ some k_ ≠ (.slice (some ad161) x7_1.length co33 : Value).ownBlock) s_.1 y183) ∧ (Kd.R (Kd.int .i64) 2 w' w.heap.size (fun k_ => some k_ ≠ (.slice Ao38 y172.length co38 : Value).ownBlock ∧ some k_ ≠ (.slice Ao41 y179.length co41 : Value).ownBlock ∧ some k_ ≠ (s_.1 : Value).ownBlock ∧ some k_ ≠ (.slice (some ad171) t153.length co35 : Value).ownBlock ∧ some k_ ≠ (.slice (some ad161) x7_1.length co33 : Value).ownBlock) s_.2 y188) ∧ (Kd.R (Kd.int .i64) 2 w' w.heap.size (fun k_ => some k_ ≠ (.slice Ao38 y172.length co38 : Value).ownBlock ∧ some k_ ≠ (.slice Ao41 y179.length co41 : Value).ownBlock ∧ some k_ ≠ (s_.1 : Value).ownBlock ∧ some k_ ≠ (s_.2 : Value).ownBlock ∧ some k_ ≠ (.slice (some ad161) x7_1.length co33 : Value).ownBlock) (.slice (some ad171) t153.length co35) t153) ∧ (Kd.R (Kd.int .i64) 2 w' w.heap.size (fun k_ => some k_ ≠ (.slice Ao38 y172.length co38 : Value).ownBlock ∧ some k_ ≠ (.slice Ao41 y179.length co41 : Value).ownBlock ∧ some k_ ≠ (s_.1 : Value).ownBlock ∧ some k_ ≠ (s_.2 : Value).ownBlock ∧ some k_ ≠ (.slice (some ad171) t153.length co35 : Value).ownBlock) (.slice (some ad161) x7_1.length co33) x7_1) ∧ (w'.heap[gb160]? = some (.cells KA_ 95 (0, 0))) ∧ (Below w.heap.size w w')) ?_ ?_
              rotate_left
              ·
               intro hCont
               refine two_ (i := 2) (j := 11) (Ni := some 96) (Nj := some 105) #[true, true, true, false, true, true, true, true, true, true, true, false, false, true, true, true, false, false] #[true, true, false, false, true, true, true, true, true, true, true, true, false, true, true, true, false, false] rfl rfl rfl rfl (two_of HT_.out (by kernel_rfl)) (by decide) (by decide) (fun K hK => ?_) (fun K hK => ?_)
               ·
                skip
                refine Kd.R_lit_step (Kd.int .i64) _ 2 ?hg (N := 96) ?hd (xs := ([t175, t182] : List Int)) (inner := [.int .i64 t175, .int .i64 t182]) (ok := fun _ => True) (okp := fun _ => True) ?hr ?hp (fun _ hk => hk) trivial (Below.refl _ _) (Nat.le_refl _) (by simp) ?_; (case hd => rfl); (case hg => rfl); (case hr => first | (go_simp; done) | (go_simp; rfl)); (case hp => exact (Reps.one (show Kd.M (Kd.int .i64) _ _ _ t175 [.int .i64 t175] from rfl) (Reps.one (show Kd.M (Kd.int .i64) _ _ _ t182 [.int .i64 t182] from rfl) (Reps.none _ _))))
                intro v184 w43 ho44 hb hg_ hnew_
                have HS0_ := (hb.cell (World.block_lt_of_cell? _ _ (hHeld))).trans (hHeld)
                clear hg_ hnew_
                (first | rw [← Ny183.out] at ho44 | (simp only [Int.reduceToNat] at ho44; rw [← Ny183.out] at ho44))
                have n0_ := Aside0.mk (Kd.R_elder' (by (with_reducible repeat (first | apply Kd.R_alloc | apply Kd.R_drewN | apply Kd.R_drew)); exact HO_5.out) (Kd.R_base ho44) hb)
                have n1_ := Aside0.mk (Kd.R_elder' (by (with_reducible repeat (first | apply Kd.R_alloc | apply Kd.R_drewN | apply Kd.R_drew)); exact HO_7.out) (Kd.R_base ho44) hb)
                have n2_ := Aside0.mk (Kd.R_elder' (by (with_reducible repeat (first | apply Kd.R_alloc | apply Kd.R_drewN | apply Kd.R_drew)); exact HO174.out) (Kd.R_base ho44) hb)
                have n3_ := Aside0.mk (Kd.R_elder' (by (with_reducible repeat (first | apply Kd.R_alloc | apply Kd.R_drewN | apply Kd.R_drew)); exact HO181.out) (Kd.R_base ho44) hb)
                have n4_ := Aside0.mk (Kd.R_lower (Kd.R_new' (Kd.R_new' (Kd.R_new' (Kd.R_new' ho44 (Kd.R_lt (by (with_reducible repeat (first | apply Kd.R_alloc | apply Kd.R_drewN | apply Kd.R_drew)); exact HO_5.out))) (Kd.R_lt (by (with_reducible repeat (first | apply Kd.R_alloc | apply Kd.R_drewN | apply Kd.R_drew)); exact HO_7.out))) (Kd.R_lt (by (with_reducible repeat (first | apply Kd.R_alloc | apply Kd.R_drewN | apply Kd.R_drew)); exact HO174.out))) (Kd.R_lt (by (with_reducible repeat (first | apply Kd.R_alloc | apply Kd.R_drewN | apply Kd.R_drew)); exact HO181.out))) (below_size (by repeat (first | (with_reducible first | exact HB.out | apply below_alloc | apply pw_below_drewN | apply below_drew1 | refine below_set ?_ GE160.out) | exact HB.out))))
                have n5_ := Aside0.mk (blk_below (g := gb160) (o := .cells KA_ 95 (0, 0)) (by (with_reducible repeat (first | refine blk_drewN ?_ _ | refine blk_drew ?_ | refine blk_alloc ?_ _)); exact BK160.out) hb)
                have n6_ := Aside0.mk (below_step (by repeat (first | (with_reducible first | exact HB.out | apply below_alloc | apply pw_below_drewN | apply below_drew1 | refine below_set ?_ GE160.out) | exact HB.out)) hb)
                clear HO_5
                clear HO_7
                clear HO174
                clear HO181
                clear BK160
                clear HB
                have HO_5 := n0_
                have HO_7 := n1_
                have HO174 := n2_
                have HO181 := n3_
                have HO185 := n4_
                have BK160 := n5_
                have HB := n6_
                clear n0_ n1_ n2_ n3_ n4_ n5_ n6_
                clear hb ho44
                obtain ⟨Ao45, co45, eo45⟩ := Kd.R_slice HO185.out
                (first | subst eo45 | (injection eo45 with f1_ f2_ f3_; have f4_ := f1_.symm; have f5_ := f3_.symm; clear f1_ f2_ f3_; subst f4_; subst f5_))
                refine hK.out _ _ (HS0_) (fun hHeld => ?_)
                clear hK K
                refine norm_ (a' := ?_) ?_ ?_
                rotate_left
                ·
                 show Act.put _ (some 96) _ = _
                 simp only [Act.put, List.setIfInBounds_toArray, List.set_cons_zero, List.set_cons_succ, i64_w, i32_w]
                 rfl
                refine two_ (i := 3) (j := 11) (Ni := some 97) (Nj := some 105) #[true, true, true, true, true, true, true, true, true, true, true, false, false, true, true, true, false, false] #[true, true, true, false, true, true, true, true, true, true, true, true, false, true, true, true, false, false] rfl rfl rfl rfl (two_of HT_.out (by kernel_rfl)) (by decide) (by decide) (fun K hK => ?_) (fun K hK => ?_)
                ·
                 skip
                 refine goes_ Try.func130 (by kernel_rfl) rfl #[.slice Ao45 y183.length co45] (by rfl) rfl rfl (by (try simp only [List.map_toArray, List.map_cons, List.map_nil]); first | done | rfl | (simp only [List.length_drop, List.length_take]; rfl)) ?_
                 with_reducible refine (impl_addWords.calls k1 _ _ y183 t186 _ ?side1 ?side2 A29.out).mono ?_
                 (case side1 => repeat (first | exact (Kd.R_reads' HO185.out).2.2 | (with_reducible refine Kd.C_alloc ?_ _) | (with_reducible refine Kd.C_drewN ?_ _) | (with_reducible refine Kd.C_drew ?_)))
                 (case side2 => exact (Kd.R_reads' HO185.out).2.1)
                 rintro e w' ⟨rfl, ⟨nd, rfl⟩⟩
                 refine ⟨_, rfl, ?_⟩
                 refine hK.out _ _ (hHeld) (fun hHeld => ?_)
                 clear hK K
                 refine norm_ (a' := ?_) ?_ ?_
                 rotate_left
                 ·
                  show Act.put _ (some 97) _ = _
                  simp only [Act.put, List.setIfInBounds_toArray, List.set_cons_zero, List.set_cons_succ, i64_w, i32_w]
                  rfl
                 refine one_ (i := 11) (N := some 105) #[true, true, true, true, true, true, true, true, true, true, true, true, false, true, true, true, false, false] rfl rfl (one_of HT_.out (by kernel_rfl)) (by decide) (fun K hK => ?_)
                 refine Kd.R_lit_step (Kd.int .i64) _ 2 ?hg (N := 105) ?hd (xs := ([rd x7_1 3, t175] : List Int)) (inner := [.int .i64 (rd x7_1 3), .int .i64 t175]) (ok := fun _ => True) (okp := fun _ => True) ?hr ?hp (fun _ hk => hk) trivial (Below.refl _ _) (Nat.le_refl _) (by simp) ?_; (case hd => rfl); (case hg => rfl); (case hr => first | (go_simp; done) | (go_simp; rfl)); (case hp => exact (Reps.one (show Kd.M (Kd.int .i64) _ _ _ (rd x7_1 3) [.int .i64 (rd x7_1 3)] from rfl) (Reps.one (show Kd.M (Kd.int .i64) _ _ _ t175 [.int .i64 t175] from rfl) (Reps.none _ _))))
                 intro v189 w46 ho47 hb hg_ hnew_
                 have HS0_ := (hb.cell (World.block_lt_of_cell? _ _ (hHeld))).trans (hHeld)
                 clear hg_ hnew_
                 (first | rw [← Ny188.out] at ho47 | (simp only [Int.reduceToNat] at ho47; rw [← Ny188.out] at ho47))
                 have n0_ := Aside0.mk (Kd.R_elder' (by (with_reducible repeat (first | apply Kd.R_alloc | apply Kd.R_drewN | apply Kd.R_drew)); exact HO_5.out) (Kd.R_base ho47) hb)
                 have n1_ := Aside0.mk (Kd.R_elder' (by (with_reducible repeat (first | apply Kd.R_alloc | apply Kd.R_drewN | apply Kd.R_drew)); exact HO_7.out) (Kd.R_base ho47) hb)
                 have n2_ := Aside0.mk (Kd.R_elder' (by (with_reducible repeat (first | apply Kd.R_alloc | apply Kd.R_drewN | apply Kd.R_drew)); exact HO174.out) (Kd.R_base ho47) hb)
                 have n3_ := Aside0.mk (Kd.R_elder' (by (with_reducible repeat (first | apply Kd.R_alloc | apply Kd.R_drewN | apply Kd.R_drew)); exact HO181.out) (Kd.R_base ho47) hb)
                 have n4_ := Aside0.mk (Kd.R_elder' (by (with_reducible repeat (first | apply Kd.R_alloc | apply Kd.R_drewN | apply Kd.R_drew)); exact HO185.out) (Kd.R_base ho47) hb)
                 have n5_ := Aside0.mk (Kd.R_lower (Kd.R_new' (Kd.R_new' (Kd.R_new' (Kd.R_new' (Kd.R_new' ho47 (Kd.R_lt (by (with_reducible repeat (first | apply Kd.R_alloc | apply Kd.R_drewN | apply Kd.R_drew)); exact HO_5.out))) (Kd.R_lt (by (with_reducible repeat (first | apply Kd.R_alloc | apply Kd.R_drewN | apply Kd.R_drew)); exact HO_7.out))) (Kd.R_lt (by (with_reducible repeat (first | apply Kd.R_alloc | apply Kd.R_drewN | apply Kd.R_drew)); exact HO174.out))) (Kd.R_lt (by (with_reducible repeat (first | apply Kd.R_alloc | apply Kd.R_drewN | apply Kd.R_drew)); exact HO181.out))) (Kd.R_lt (by (with_reducible repeat (first | apply Kd.R_alloc | apply Kd.R_drewN | apply Kd.R_drew)); exact HO185.out))) (below_size (by repeat (first | (with_reducible first | exact HB.out | apply below_alloc | apply pw_below_drewN | apply below_drew1 | refine below_set ?_ GE160.out) | exact HB.out))))
                 have n6_ := Aside0.mk (blk_below (g := gb160) (o := .cells KA_ 95 (0, 0)) (by (with_reducible repeat (first | refine blk_drewN ?_ _ | refine blk_drew ?_ | refine blk_alloc ?_ _)); exact BK160.out) hb)
                 have n7_ := Aside0.mk (below_step (by repeat (first | (with_reducible first | exact HB.out | apply below_alloc | apply pw_below_drewN | apply below_drew1 | refine below_set ?_ GE160.out) | exact HB.out)) hb)
                 clear HO_5
                 clear HO_7
                 clear HO174
                 clear HO181
                 clear HO185
                 clear BK160
                 clear HB
                 have HO_5 := n0_
                 have HO_7 := n1_
                 have HO174 := n2_
                 have HO181 := n3_
                 have HO185 := n4_
                 have HO190 := n5_
                 have BK160 := n6_
                 have HB := n7_
                 clear n0_ n1_ n2_ n3_ n4_ n5_ n6_ n7_
                 clear hb ho47
                 refine hK.out _ _ (HS0_) (fun hHeld => ?_)
                 clear hK K
                 refine norm_ (a' := ?_) ?_ ?_
                 rotate_left
                 ·
                  show Act.put _ (some 105) _ = _
                  simp only [Act.put, List.setIfInBounds_toArray, List.set_cons_zero, List.set_cons_succ, i64_w, i32_w]
                  rfl
                 exact norm_ (by simp only [putAll, Act.put, List.setIfInBounds_toArray, List.set_cons_zero, List.set_cons_succ]) (hCont (.slice Ao45 y183.length co45, v189) _ ⟨hHeld, (by (with_reducible repeat (first | apply Kd.R_alloc | apply Kd.R_drewN | apply Kd.R_drew)); exact Kd.R_mono HO174.out (fun _ hk => ⟨hk.1.1.2, ⟨hk.1.2, ⟨hk.2, ⟨hk.1.1.1.1.2, hk.1.1.1.2⟩⟩⟩⟩)), (by (with_reducible repeat (first | apply Kd.R_alloc | apply Kd.R_drewN | apply Kd.R_drew)); exact Kd.R_mono HO181.out (fun _ hk => ⟨hk.1.1.2, ⟨hk.1.2, ⟨hk.2, ⟨hk.1.1.1.1.2, hk.1.1.1.2⟩⟩⟩⟩)), (by (with_reducible repeat (first | apply Kd.R_alloc | apply Kd.R_drewN | apply Kd.R_drew)); exact Kd.R_mono HO185.out (fun _ hk => ⟨hk.1.1.2, ⟨hk.1.2, ⟨hk.2, ⟨hk.1.1.1.1.2, hk.1.1.1.2⟩⟩⟩⟩)), (by (with_reducible repeat (first | apply Kd.R_alloc | apply Kd.R_drewN | apply Kd.R_drew)); exact Kd.R_mono HO190.out (fun _ hk => ⟨hk.1.1.2, ⟨hk.1.2, ⟨hk.2, ⟨hk.1.1.1.1.2, hk.1.1.1.2⟩⟩⟩⟩)), (by (with_reducible repeat (first | apply Kd.R_alloc | apply Kd.R_drewN | apply Kd.R_drew)); exact Kd.R_mono HO_5.out (fun _ hk => ⟨hk.1.1.1.2, ⟨hk.1.1.2, ⟨hk.1.2, ⟨hk.2, hk.1.1.1.1⟩⟩⟩⟩)), (by (with_reducible repeat (first | apply Kd.R_alloc | apply Kd.R_drewN | apply Kd.R_drew)); exact Kd.R_mono HO_7.out (fun _ hk => ⟨hk.1.1.1.2, ⟨hk.1.1.2, ⟨hk.1.2, ⟨hk.2, hk.1.1.1.1⟩⟩⟩⟩)), (by (with_reducible repeat (first | refine blk_drewN ?_ _ | refine blk_drew ?_ | refine blk_alloc ?_ _)); exact BK160.out), (by repeat (first | (with_reducible first | exact HB.out | apply below_alloc | apply pw_below_drewN | apply below_drew1 | refine below_set ?_ GE160.out) | exact HB.out))⟩)
                ·
                 skip
                 refine Kd.R_lit_step (Kd.int .i64) _ 2 ?hg (N := 105) ?hd (xs := ([rd x7_1 3, t175] : List Int)) (inner := [.int .i64 (rd x7_1 3), .int .i64 t175]) (ok := fun _ => True) (okp := fun _ => True) ?hr ?hp (fun _ hk => hk) trivial (Below.refl _ _) (Nat.le_refl _) (by simp) ?_; (case hd => rfl); (case hg => rfl); (case hr => first | (go_simp; done) | (go_simp; rfl)); (case hp => exact (Reps.one (show Kd.M (Kd.int .i64) _ _ _ (rd x7_1 3) [.int .i64 (rd x7_1 3)] from rfl) (Reps.one (show Kd.M (Kd.int .i64) _ _ _ t175 [.int .i64 t175] from rfl) (Reps.none _ _))))
                 intro v189 w45 ho46 hb hg_ hnew_
                 have HS0_ := (hb.cell (World.block_lt_of_cell? _ _ (hHeld))).trans (hHeld)
                 clear hg_ hnew_
                 (first | rw [← Ny188.out] at ho46 | (simp only [Int.reduceToNat] at ho46; rw [← Ny188.out] at ho46))
                 have n0_ := Aside0.mk (Kd.R_elder' (by (with_reducible repeat (first | apply Kd.R_alloc | apply Kd.R_drewN | apply Kd.R_drew)); exact HO_5.out) (Kd.R_base ho46) hb)
                 have n1_ := Aside0.mk (Kd.R_elder' (by (with_reducible repeat (first | apply Kd.R_alloc | apply Kd.R_drewN | apply Kd.R_drew)); exact HO_7.out) (Kd.R_base ho46) hb)
                 have n2_ := Aside0.mk (Kd.R_elder' (by (with_reducible repeat (first | apply Kd.R_alloc | apply Kd.R_drewN | apply Kd.R_drew)); exact HO174.out) (Kd.R_base ho46) hb)
                 have n3_ := Aside0.mk (Kd.R_elder' (by (with_reducible repeat (first | apply Kd.R_alloc | apply Kd.R_drewN | apply Kd.R_drew)); exact HO181.out) (Kd.R_base ho46) hb)
                 have n4_ := Aside0.mk (Kd.R_elder' (by (with_reducible repeat (first | apply Kd.R_alloc | apply Kd.R_drewN | apply Kd.R_drew)); exact HO185.out) (Kd.R_base ho46) hb)
                 have n5_ := Aside0.mk (Kd.R_lower (Kd.R_new' (Kd.R_new' (Kd.R_new' (Kd.R_new' (Kd.R_new' ho46 (Kd.R_lt (by (with_reducible repeat (first | apply Kd.R_alloc | apply Kd.R_drewN | apply Kd.R_drew)); exact HO_5.out))) (Kd.R_lt (by (with_reducible repeat (first | apply Kd.R_alloc | apply Kd.R_drewN | apply Kd.R_drew)); exact HO_7.out))) (Kd.R_lt (by (with_reducible repeat (first | apply Kd.R_alloc | apply Kd.R_drewN | apply Kd.R_drew)); exact HO174.out))) (Kd.R_lt (by (with_reducible repeat (first | apply Kd.R_alloc | apply Kd.R_drewN | apply Kd.R_drew)); exact HO181.out))) (Kd.R_lt (by (with_reducible repeat (first | apply Kd.R_alloc | apply Kd.R_drewN | apply Kd.R_drew)); exact HO185.out))) (below_size (by repeat (first | (with_reducible first | exact HB.out | apply below_alloc | apply pw_below_drewN | apply below_drew1 | refine below_set ?_ GE160.out) | exact HB.out))))
                 have n6_ := Aside0.mk (blk_below (g := gb160) (o := .cells KA_ 95 (0, 0)) (by (with_reducible repeat (first | refine blk_drewN ?_ _ | refine blk_drew ?_ | refine blk_alloc ?_ _)); exact BK160.out) hb)
                 have n7_ := Aside0.mk (below_step (by repeat (first | (with_reducible first | exact HB.out | apply below_alloc | apply pw_below_drewN | apply below_drew1 | refine below_set ?_ GE160.out) | exact HB.out)) hb)
                 clear HO_5
                 clear HO_7
                 clear HO174
                 clear HO181
                 clear HO185
                 clear BK160
                 clear HB
                 have HO_5 := n0_
                 have HO_7 := n1_
                 have HO174 := n2_
                 have HO181 := n3_
                 have HO185 := n4_
                 have HO190 := n5_
                 have BK160 := n6_
                 have HB := n7_
                 clear n0_ n1_ n2_ n3_ n4_ n5_ n6_ n7_
                 clear hb ho46
                 obtain ⟨Ao47, co47, eo47⟩ := Kd.R_slice HO185.out
                 (first | subst eo47 | (injection eo47 with f1_ f2_ f3_; have f4_ := f1_.symm; have f5_ := f3_.symm; clear f1_ f2_ f3_; subst f4_; subst f5_))
                 refine hK.out _ _ (HS0_) (fun hHeld => ?_)
                 clear hK K
                 refine norm_ (a' := ?_) ?_ ?_
                 rotate_left
                 ·
                  show Act.put _ (some 105) _ = _
                  simp only [Act.put, List.setIfInBounds_toArray, List.set_cons_zero, List.set_cons_succ, i64_w, i32_w]
                  rfl
                 refine one_ (i := 3) (N := some 97) #[true, true, true, true, true, true, true, true, true, true, true, true, false, true, true, true, false, false] rfl rfl (one_of HT_.out (by kernel_rfl)) (by decide) (fun K hK => ?_)
                 refine goes_ Try.func130 (by kernel_rfl) rfl #[.slice Ao47 y183.length co47] (by rfl) rfl rfl (by (try simp only [List.map_toArray, List.map_cons, List.map_nil]); first | done | rfl | (simp only [List.length_drop, List.length_take]; rfl)) ?_
                 with_reducible refine (impl_addWords.calls k1 _ _ y183 t186 _ ?side1 ?side2 A29.out).mono ?_
                 (case side1 => repeat (first | exact (Kd.R_reads' HO185.out).2.2 | (with_reducible refine Kd.C_alloc ?_ _) | (with_reducible refine Kd.C_drewN ?_ _) | (with_reducible refine Kd.C_drew ?_)))
                 (case side2 => exact (Kd.R_reads' HO185.out).2.1)
                 rintro e w' ⟨rfl, ⟨nd, rfl⟩⟩
                 refine ⟨_, rfl, ?_⟩
                 refine hK.out _ _ (hHeld) (fun hHeld => ?_)
                 clear hK K
                 refine norm_ (a' := ?_) ?_ ?_
                 rotate_left
                 ·
                  show Act.put _ (some 97) _ = _
                  simp only [Act.put, List.setIfInBounds_toArray, List.set_cons_zero, List.set_cons_succ, i64_w, i32_w]
                  rfl
                 exact norm_ (by simp only [putAll, Act.put, List.setIfInBounds_toArray, List.set_cons_zero, List.set_cons_succ]) (hCont (.slice Ao47 y183.length co47, v189) _ ⟨hHeld, (by (with_reducible repeat (first | apply Kd.R_alloc | apply Kd.R_drewN | apply Kd.R_drew)); exact Kd.R_mono HO174.out (fun _ hk => ⟨hk.1.1.2, ⟨hk.1.2, ⟨hk.2, ⟨hk.1.1.1.1.2, hk.1.1.1.2⟩⟩⟩⟩)), (by (with_reducible repeat (first | apply Kd.R_alloc | apply Kd.R_drewN | apply Kd.R_drew)); exact Kd.R_mono HO181.out (fun _ hk => ⟨hk.1.1.2, ⟨hk.1.2, ⟨hk.2, ⟨hk.1.1.1.1.2, hk.1.1.1.2⟩⟩⟩⟩)), (by (with_reducible repeat (first | apply Kd.R_alloc | apply Kd.R_drewN | apply Kd.R_drew)); exact Kd.R_mono HO185.out (fun _ hk => ⟨hk.1.1.2, ⟨hk.1.2, ⟨hk.2, ⟨hk.1.1.1.1.2, hk.1.1.1.2⟩⟩⟩⟩)), (by (with_reducible repeat (first | apply Kd.R_alloc | apply Kd.R_drewN | apply Kd.R_drew)); exact Kd.R_mono HO190.out (fun _ hk => ⟨hk.1.1.2, ⟨hk.1.2, ⟨hk.2, ⟨hk.1.1.1.1.2, hk.1.1.1.2⟩⟩⟩⟩)), (by (with_reducible repeat (first | apply Kd.R_alloc | apply Kd.R_drewN | apply Kd.R_drew)); exact Kd.R_mono HO_5.out (fun _ hk => ⟨hk.1.1.1.2, ⟨hk.1.1.2, ⟨hk.1.2, ⟨hk.2, hk.1.1.1.1⟩⟩⟩⟩)), (by (with_reducible repeat (first | apply Kd.R_alloc | apply Kd.R_drewN | apply Kd.R_drew)); exact Kd.R_mono HO_7.out (fun _ hk => ⟨hk.1.1.1.2, ⟨hk.1.1.2, ⟨hk.1.2, ⟨hk.2, hk.1.1.1.1⟩⟩⟩⟩)), (by (with_reducible repeat (first | refine blk_drewN ?_ _ | refine blk_drew ?_ | refine blk_alloc ?_ _)); exact BK160.out), (by repeat (first | (with_reducible first | exact HB.out | apply below_alloc | apply pw_below_drewN | apply below_drew1 | refine below_set ?_ GE160.out) | exact HB.out))⟩)
               ·
                skip
                refine Kd.R_lit_step (Kd.int .i64) _ 2 ?hg (N := 105) ?hd (xs := ([rd x7_1 3, t175] : List Int)) (inner := [.int .i64 (rd x7_1 3), .int .i64 t175]) (ok := fun _ => True) (okp := fun _ => True) ?hr ?hp (fun _ hk => hk) trivial (Below.refl _ _) (Nat.le_refl _) (by simp) ?_; (case hd => rfl); (case hg => rfl); (case hr => first | (go_simp; done) | (go_simp; rfl)); (case hp => exact (Reps.one (show Kd.M (Kd.int .i64) _ _ _ (rd x7_1 3) [.int .i64 (rd x7_1 3)] from rfl) (Reps.one (show Kd.M (Kd.int .i64) _ _ _ t175 [.int .i64 t175] from rfl) (Reps.none _ _))))
                intro v189 w43 ho44 hb hg_ hnew_
                have HS0_ := (hb.cell (World.block_lt_of_cell? _ _ (hHeld))).trans (hHeld)
                clear hg_ hnew_
                (first | rw [← Ny188.out] at ho44 | (simp only [Int.reduceToNat] at ho44; rw [← Ny188.out] at ho44))
                have n0_ := Aside0.mk (Kd.R_elder' (by (with_reducible repeat (first | apply Kd.R_alloc | apply Kd.R_drewN | apply Kd.R_drew)); exact HO_5.out) (Kd.R_base ho44) hb)
                have n1_ := Aside0.mk (Kd.R_elder' (by (with_reducible repeat (first | apply Kd.R_alloc | apply Kd.R_drewN | apply Kd.R_drew)); exact HO_7.out) (Kd.R_base ho44) hb)
                have n2_ := Aside0.mk (Kd.R_elder' (by (with_reducible repeat (first | apply Kd.R_alloc | apply Kd.R_drewN | apply Kd.R_drew)); exact HO174.out) (Kd.R_base ho44) hb)
                have n3_ := Aside0.mk (Kd.R_elder' (by (with_reducible repeat (first | apply Kd.R_alloc | apply Kd.R_drewN | apply Kd.R_drew)); exact HO181.out) (Kd.R_base ho44) hb)
                have n4_ := Aside0.mk (Kd.R_lower (Kd.R_new' (Kd.R_new' (Kd.R_new' (Kd.R_new' ho44 (Kd.R_lt (by (with_reducible repeat (first | apply Kd.R_alloc | apply Kd.R_drewN | apply Kd.R_drew)); exact HO_5.out))) (Kd.R_lt (by (with_reducible repeat (first | apply Kd.R_alloc | apply Kd.R_drewN | apply Kd.R_drew)); exact HO_7.out))) (Kd.R_lt (by (with_reducible repeat (first | apply Kd.R_alloc | apply Kd.R_drewN | apply Kd.R_drew)); exact HO174.out))) (Kd.R_lt (by (with_reducible repeat (first | apply Kd.R_alloc | apply Kd.R_drewN | apply Kd.R_drew)); exact HO181.out))) (below_size (by repeat (first | (with_reducible first | exact HB.out | apply below_alloc | apply pw_below_drewN | apply below_drew1 | refine below_set ?_ GE160.out) | exact HB.out))))
                have n5_ := Aside0.mk (blk_below (g := gb160) (o := .cells KA_ 95 (0, 0)) (by (with_reducible repeat (first | refine blk_drewN ?_ _ | refine blk_drew ?_ | refine blk_alloc ?_ _)); exact BK160.out) hb)
                have n6_ := Aside0.mk (below_step (by repeat (first | (with_reducible first | exact HB.out | apply below_alloc | apply pw_below_drewN | apply below_drew1 | refine below_set ?_ GE160.out) | exact HB.out)) hb)
                clear HO_5
                clear HO_7
                clear HO174
                clear HO181
                clear BK160
                clear HB
                have HO_5 := n0_
                have HO_7 := n1_
                have HO174 := n2_
                have HO181 := n3_
                have HO190 := n4_
                have BK160 := n5_
                have HB := n6_
                clear n0_ n1_ n2_ n3_ n4_ n5_ n6_
                clear hb ho44
                refine hK.out _ _ (HS0_) (fun hHeld => ?_)
                clear hK K
                refine norm_ (a' := ?_) ?_ ?_
                rotate_left
                ·
                 show Act.put _ (some 105) _ = _
                 simp only [Act.put, List.setIfInBounds_toArray, List.set_cons_zero, List.set_cons_succ, i64_w, i32_w]
                 rfl
                refine one_ (i := 2) (N := some 96) #[true, true, true, false, true, true, true, true, true, true, true, true, false, true, true, true, false, false] rfl rfl (one_of HT_.out (by kernel_rfl)) (by decide) (fun K hK => ?_)
                refine Kd.R_lit_step (Kd.int .i64) _ 2 ?hg (N := 96) ?hd (xs := ([t175, t182] : List Int)) (inner := [.int .i64 t175, .int .i64 t182]) (ok := fun _ => True) (okp := fun _ => True) ?hr ?hp (fun _ hk => hk) trivial (Below.refl _ _) (Nat.le_refl _) (by simp) ?_; (case hd => rfl); (case hg => rfl); (case hr => first | (go_simp; done) | (go_simp; rfl)); (case hp => exact (Reps.one (show Kd.M (Kd.int .i64) _ _ _ t175 [.int .i64 t175] from rfl) (Reps.one (show Kd.M (Kd.int .i64) _ _ _ t182 [.int .i64 t182] from rfl) (Reps.none _ _))))
                intro v184 w45 ho46 hb hg_ hnew_
                have HS0_ := (hb.cell (World.block_lt_of_cell? _ _ (hHeld))).trans (hHeld)
                clear hg_ hnew_
                (first | rw [← Ny183.out] at ho46 | (simp only [Int.reduceToNat] at ho46; rw [← Ny183.out] at ho46))
                have n0_ := Aside0.mk (Kd.R_elder' (by (with_reducible repeat (first | apply Kd.R_alloc | apply Kd.R_drewN | apply Kd.R_drew)); exact HO_5.out) (Kd.R_base ho46) hb)
                have n1_ := Aside0.mk (Kd.R_elder' (by (with_reducible repeat (first | apply Kd.R_alloc | apply Kd.R_drewN | apply Kd.R_drew)); exact HO_7.out) (Kd.R_base ho46) hb)
                have n2_ := Aside0.mk (Kd.R_elder' (by (with_reducible repeat (first | apply Kd.R_alloc | apply Kd.R_drewN | apply Kd.R_drew)); exact HO174.out) (Kd.R_base ho46) hb)
                have n3_ := Aside0.mk (Kd.R_elder' (by (with_reducible repeat (first | apply Kd.R_alloc | apply Kd.R_drewN | apply Kd.R_drew)); exact HO181.out) (Kd.R_base ho46) hb)
                have n4_ := Aside0.mk (Kd.R_elder' (by (with_reducible repeat (first | apply Kd.R_alloc | apply Kd.R_drewN | apply Kd.R_drew)); exact HO190.out) (Kd.R_base ho46) hb)
                have n5_ := Aside0.mk (Kd.R_lower (Kd.R_new' (Kd.R_new' (Kd.R_new' (Kd.R_new' (Kd.R_new' ho46 (Kd.R_lt (by (with_reducible repeat (first | apply Kd.R_alloc | apply Kd.R_drewN | apply Kd.R_drew)); exact HO_5.out))) (Kd.R_lt (by (with_reducible repeat (first | apply Kd.R_alloc | apply Kd.R_drewN | apply Kd.R_drew)); exact HO_7.out))) (Kd.R_lt (by (with_reducible repeat (first | apply Kd.R_alloc | apply Kd.R_drewN | apply Kd.R_drew)); exact HO174.out))) (Kd.R_lt (by (with_reducible repeat (first | apply Kd.R_alloc | apply Kd.R_drewN | apply Kd.R_drew)); exact HO181.out))) (Kd.R_lt (by (with_reducible repeat (first | apply Kd.R_alloc | apply Kd.R_drewN | apply Kd.R_drew)); exact HO190.out))) (below_size (by repeat (first | (with_reducible first | exact HB.out | apply below_alloc | apply pw_below_drewN | apply below_drew1 | refine below_set ?_ GE160.out) | exact HB.out))))
                have n6_ := Aside0.mk (blk_below (g := gb160) (o := .cells KA_ 95 (0, 0)) (by (with_reducible repeat (first | refine blk_drewN ?_ _ | refine blk_drew ?_ | refine blk_alloc ?_ _)); exact BK160.out) hb)
                have n7_ := Aside0.mk (below_step (by repeat (first | (with_reducible first | exact HB.out | apply below_alloc | apply pw_below_drewN | apply below_drew1 | refine below_set ?_ GE160.out) | exact HB.out)) hb)
                clear HO_5
                clear HO_7
                clear HO174
                clear HO181
                clear HO190
                clear BK160
                clear HB
                have HO_5 := n0_
                have HO_7 := n1_
                have HO174 := n2_
                have HO181 := n3_
                have HO190 := n4_
                have HO185 := n5_
                have BK160 := n6_
                have HB := n7_
                clear n0_ n1_ n2_ n3_ n4_ n5_ n6_ n7_
                clear hb ho46
                obtain ⟨Ao47, co47, eo47⟩ := Kd.R_slice HO185.out
                (first | subst eo47 | (injection eo47 with f1_ f2_ f3_; have f4_ := f1_.symm; have f5_ := f3_.symm; clear f1_ f2_ f3_; subst f4_; subst f5_))
                refine hK.out _ _ (HS0_) (fun hHeld => ?_)
                clear hK K
                refine norm_ (a' := ?_) ?_ ?_
                rotate_left
                ·
                 show Act.put _ (some 96) _ = _
                 simp only [Act.put, List.setIfInBounds_toArray, List.set_cons_zero, List.set_cons_succ, i64_w, i32_w]
                 rfl
                refine one_ (i := 3) (N := some 97) #[true, true, true, true, true, true, true, true, true, true, true, true, false, true, true, true, false, false] rfl rfl (one_of HT_.out (by kernel_rfl)) (by decide) (fun K hK => ?_)
                refine goes_ Try.func130 (by kernel_rfl) rfl #[.slice Ao47 y183.length co47] (by rfl) rfl rfl (by (try simp only [List.map_toArray, List.map_cons, List.map_nil]); first | done | rfl | (simp only [List.length_drop, List.length_take]; rfl)) ?_
                with_reducible refine (impl_addWords.calls k1 _ _ y183 t186 _ ?side1 ?side2 A29.out).mono ?_
                (case side1 => repeat (first | exact (Kd.R_reads' HO185.out).2.2 | (with_reducible refine Kd.C_alloc ?_ _) | (with_reducible refine Kd.C_drewN ?_ _) | (with_reducible refine Kd.C_drew ?_)))
                (case side2 => exact (Kd.R_reads' HO185.out).2.1)
                rintro e w' ⟨rfl, ⟨nd, rfl⟩⟩
                refine ⟨_, rfl, ?_⟩
                refine hK.out _ _ (hHeld) (fun hHeld => ?_)
                clear hK K
                refine norm_ (a' := ?_) ?_ ?_
                rotate_left
                ·
                 show Act.put _ (some 97) _ = _
                 simp only [Act.put, List.setIfInBounds_toArray, List.set_cons_zero, List.set_cons_succ, i64_w, i32_w]
                 rfl
                exact norm_ (by simp only [putAll, Act.put, List.setIfInBounds_toArray, List.set_cons_zero, List.set_cons_succ]) (hCont (.slice Ao47 y183.length co47, v189) _ ⟨hHeld, (by (with_reducible repeat (first | apply Kd.R_alloc | apply Kd.R_drewN | apply Kd.R_drew)); exact Kd.R_mono HO174.out (fun _ hk => ⟨hk.1.1.2, ⟨hk.2, ⟨hk.1.2, ⟨hk.1.1.1.1.2, hk.1.1.1.2⟩⟩⟩⟩)), (by (with_reducible repeat (first | apply Kd.R_alloc | apply Kd.R_drewN | apply Kd.R_drew)); exact Kd.R_mono HO181.out (fun _ hk => ⟨hk.1.1.2, ⟨hk.2, ⟨hk.1.2, ⟨hk.1.1.1.1.2, hk.1.1.1.2⟩⟩⟩⟩)), (by (with_reducible repeat (first | apply Kd.R_alloc | apply Kd.R_drewN | apply Kd.R_drew)); exact Kd.R_mono HO185.out (fun _ hk => ⟨hk.1.1.2, ⟨hk.1.2, ⟨hk.2, ⟨hk.1.1.1.1.2, hk.1.1.1.2⟩⟩⟩⟩)), (by (with_reducible repeat (first | apply Kd.R_alloc | apply Kd.R_drewN | apply Kd.R_drew)); exact Kd.R_mono HO190.out (fun _ hk => ⟨hk.1.1.2, ⟨hk.1.2, ⟨hk.2, ⟨hk.1.1.1.1.2, hk.1.1.1.2⟩⟩⟩⟩)), (by (with_reducible repeat (first | apply Kd.R_alloc | apply Kd.R_drewN | apply Kd.R_drew)); exact Kd.R_mono HO_5.out (fun _ hk => ⟨hk.1.1.1.2, ⟨hk.1.1.2, ⟨hk.2, ⟨hk.1.2, hk.1.1.1.1⟩⟩⟩⟩)), (by (with_reducible repeat (first | apply Kd.R_alloc | apply Kd.R_drewN | apply Kd.R_drew)); exact Kd.R_mono HO_7.out (fun _ hk => ⟨hk.1.1.1.2, ⟨hk.1.1.2, ⟨hk.2, ⟨hk.1.2, hk.1.1.1.1⟩⟩⟩⟩)), (by (with_reducible repeat (first | refine blk_drewN ?_ _ | refine blk_drew ?_ | refine blk_alloc ?_ _)); exact BK160.out), (by repeat (first | (with_reducible first | exact HB.out | apply below_alloc | apply pw_below_drewN | apply below_drew1 | refine below_set ?_ GE160.out) | exact HB.out))⟩)
              rintro ⟨v184, v189⟩ w48 ⟨hS_, h0_, h1_, h2_, h3_, h4_, h5_, h6_, h7_⟩
              have n0_ : Aside0 (Kd.R (Kd.int .i64) 2 w48 w.heap.size (fun k_ => some k_ ≠ (.slice Ao41 y179.length co41 : Value).ownBlock ∧ some k_ ≠ (v184 : Value).ownBlock ∧ some k_ ≠ (v189 : Value).ownBlock ∧ some k_ ≠ (.slice (some ad171) t153.length co35 : Value).ownBlock ∧ some k_ ≠ (.slice (some ad161) x7_1.length co33 : Value).ownBlock) (.slice Ao38 y172.length co38) y172) := ⟨h0_⟩
              have n1_ : Aside0 (Kd.R (Kd.int .i64) 2 w48 w.heap.size (fun k_ => some k_ ≠ (.slice Ao38 y172.length co38 : Value).ownBlock ∧ some k_ ≠ (v184 : Value).ownBlock ∧ some k_ ≠ (v189 : Value).ownBlock ∧ some k_ ≠ (.slice (some ad171) t153.length co35 : Value).ownBlock ∧ some k_ ≠ (.slice (some ad161) x7_1.length co33 : Value).ownBlock) (.slice Ao41 y179.length co41) y179) := ⟨h1_⟩
              have n2_ : Aside0 (Kd.R (Kd.int .i64) 2 w48 w.heap.size (fun k_ => some k_ ≠ (.slice Ao38 y172.length co38 : Value).ownBlock ∧ some k_ ≠ (.slice Ao41 y179.length co41 : Value).ownBlock ∧ some k_ ≠ (v189 : Value).ownBlock ∧ some k_ ≠ (.slice (some ad171) t153.length co35 : Value).ownBlock ∧ some k_ ≠ (.slice (some ad161) x7_1.length co33 : Value).ownBlock) v184 y183) := ⟨h2_⟩
              have n3_ : Aside0 (Kd.R (Kd.int .i64) 2 w48 w.heap.size (fun k_ => some k_ ≠ (.slice Ao38 y172.length co38 : Value).ownBlock ∧ some k_ ≠ (.slice Ao41 y179.length co41 : Value).ownBlock ∧ some k_ ≠ (v184 : Value).ownBlock ∧ some k_ ≠ (.slice (some ad171) t153.length co35 : Value).ownBlock ∧ some k_ ≠ (.slice (some ad161) x7_1.length co33 : Value).ownBlock) v189 y188) := ⟨h3_⟩
              have n4_ : Aside0 (Kd.R (Kd.int .i64) 2 w48 w.heap.size (fun k_ => some k_ ≠ (.slice Ao38 y172.length co38 : Value).ownBlock ∧ some k_ ≠ (.slice Ao41 y179.length co41 : Value).ownBlock ∧ some k_ ≠ (v184 : Value).ownBlock ∧ some k_ ≠ (v189 : Value).ownBlock ∧ some k_ ≠ (.slice (some ad161) x7_1.length co33 : Value).ownBlock) (.slice (some ad171) t153.length co35) t153) := ⟨h4_⟩
              have n5_ : Aside0 (Kd.R (Kd.int .i64) 2 w48 w.heap.size (fun k_ => some k_ ≠ (.slice Ao38 y172.length co38 : Value).ownBlock ∧ some k_ ≠ (.slice Ao41 y179.length co41 : Value).ownBlock ∧ some k_ ≠ (v184 : Value).ownBlock ∧ some k_ ≠ (v189 : Value).ownBlock ∧ some k_ ≠ (.slice (some ad171) t153.length co35 : Value).ownBlock) (.slice (some ad161) x7_1.length co33) x7_1) := ⟨h5_⟩
              have n6_ : Aside0 (w48.heap[gb160]? = some (.cells KA_ 95 (0, 0))) := ⟨h6_⟩
              have n7_ : Aside0 (Below w.heap.size w w48) := ⟨h7_⟩
              clear HO_5
              clear HO_7
              clear HO174
              clear HO181
              clear BK160
              clear HB
              clear h0_ h1_ h2_ h3_ h4_ h5_ h6_ h7_
              have HO174 := n0_
              have HO181 := n1_
              have HO185 := n2_
              have HO190 := n3_
              have HO_5 := n4_
              have HO_7 := n5_
              have BK160 := n6_
              have HB := n7_
              clear n0_ n1_ n2_ n3_ n4_ n5_ n6_ n7_
              have hHeld : w48.cell? ⟨ad161.block, ad161.off + 3, none⟩ = some (.int .i64 (rd x7_1 3)) := hS_
              obtain ⟨Ao49, co49, eo49⟩ := Kd.R_slice HO190.out
              (first | subst eo49 | (injection eo49 with f1_ f2_ f3_; have f4_ := f1_.symm; have f5_ := f3_.symm; clear f1_ f2_ f3_; subst f4_; subst f5_))
              refine norm_ (a' := ?_) ?_ ?_
              rotate_left
              ·
               simp only [putAll, Act.put, List.setIfInBounds_toArray, List.set_cons_zero, List.set_cons_succ]
               rfl
              refine one_ (i := 12) (N := some 106) #[true, true, true, true, true, true, true, true, true, true, true, true, true, true, true, true, false, false] rfl rfl (one_of HT_.out (by kernel_rfl)) (by decide) (fun K hK => ?_)
              refine goes_ Try.func130 (by kernel_rfl) rfl #[.slice Ao49 y188.length co49] (by rfl) rfl rfl (by (try simp only [List.map_toArray, List.map_cons, List.map_nil]); first | done | rfl | (simp only [List.length_drop, List.length_take]; rfl)) ?_
              with_reducible refine (impl_addWords.calls k1 _ _ y188 t191 _ ?side1 ?side2 A31.out).mono ?_
              (case side1 => repeat (first | exact (Kd.R_reads' HO190.out).2.2 | (with_reducible refine Kd.C_alloc ?_ _) | (with_reducible refine Kd.C_drewN ?_ _) | (with_reducible refine Kd.C_drew ?_)))
              (case side2 => exact (Kd.R_reads' HO190.out).2.1)
              rintro e w' ⟨rfl, ⟨nd, rfl⟩⟩
              refine ⟨_, rfl, ?_⟩
              refine hK.out _ _ (hHeld) (fun hHeld => ?_)
              clear hK K
              refine norm_ (a' := ?_) ?_ ?_
              rotate_left
              ·
               show Act.put _ (some 106) _ = _
               simp only [Act.put, List.setIfInBounds_toArray, List.set_cons_zero, List.set_cons_succ, i64_w, i32_w]
               rfl
              refine one_ (i := 16) (N := some 110) #[true, true, true, true, true, true, true, true, true, true, true, true, true, true, true, true, true, false] rfl rfl (one_of HT_.out (by kernel_rfl)) (by decide) (fun K hK => ?_)
              refine Kd.R_lit_step (Kd.int .i64) _ 2 ?hg (N := 110) ?hd (xs := ([t186, rd x7_1 0, rd x7_1 1, rd x7_1 2, t191, rd x7_1 4, rd x7_1 5, rd x7_1 6] : List Int)) (inner := [.int .i64 t186, .int .i64 (rd x7_1 0), .int .i64 (rd x7_1 1), .int .i64 (rd x7_1 2), .int .i64 t191, .int .i64 (rd x7_1 4), .int .i64 (rd x7_1 5), .int .i64 (rd x7_1 6)]) (ok := fun _ => True) (okp := fun _ => True) ?hr ?hp (fun _ hk => hk) trivial (Below.refl _ _) (Nat.le_refl _) (by simp) ?_; (case hd => rfl); (case hg => rfl); (case hr => first | (go_simp; done) | (go_simp; rfl)); (case hp => exact (Reps.one (show Kd.M (Kd.int .i64) _ _ _ t186 [.int .i64 t186] from rfl) (Reps.one (show Kd.M (Kd.int .i64) _ _ _ (rd x7_1 0) [.int .i64 (rd x7_1 0)] from rfl) (Reps.one (show Kd.M (Kd.int .i64) _ _ _ (rd x7_1 1) [.int .i64 (rd x7_1 1)] from rfl) (Reps.one (show Kd.M (Kd.int .i64) _ _ _ (rd x7_1 2) [.int .i64 (rd x7_1 2)] from rfl) (Reps.one (show Kd.M (Kd.int .i64) _ _ _ t191 [.int .i64 t191] from rfl) (Reps.one (show Kd.M (Kd.int .i64) _ _ _ (rd x7_1 4) [.int .i64 (rd x7_1 4)] from rfl) (Reps.one (show Kd.M (Kd.int .i64) _ _ _ (rd x7_1 5) [.int .i64 (rd x7_1 5)] from rfl) (Reps.one (show Kd.M (Kd.int .i64) _ _ _ (rd x7_1 6) [.int .i64 (rd x7_1 6)] from rfl) (Reps.none _ _))))))))))
              intro v193 w50 ho51 hb hg_ hnew_
              have HS0_ := (hb.cell (World.block_lt_of_cell? _ _ (hHeld))).trans (hHeld)
              clear hg_ hnew_
              (first | rw [← Ny192.out] at ho51 | (simp only [Int.reduceToNat] at ho51; rw [← Ny192.out] at ho51))
              have n0_ := Aside0.mk (Kd.R_elder' (by (with_reducible repeat (first | apply Kd.R_alloc | apply Kd.R_drewN | apply Kd.R_drew)); exact HO_5.out) (Kd.R_base ho51) hb)
              have n1_ := Aside0.mk (Kd.R_elder' (by (with_reducible repeat (first | apply Kd.R_alloc | apply Kd.R_drewN | apply Kd.R_drew)); exact HO_7.out) (Kd.R_base ho51) hb)
              have n2_ := Aside0.mk (Kd.R_elder' (by (with_reducible repeat (first | apply Kd.R_alloc | apply Kd.R_drewN | apply Kd.R_drew)); exact HO174.out) (Kd.R_base ho51) hb)
              have n3_ := Aside0.mk (Kd.R_elder' (by (with_reducible repeat (first | apply Kd.R_alloc | apply Kd.R_drewN | apply Kd.R_drew)); exact HO181.out) (Kd.R_base ho51) hb)
              have n4_ := Aside0.mk (Kd.R_elder' (by (with_reducible repeat (first | apply Kd.R_alloc | apply Kd.R_drewN | apply Kd.R_drew)); exact HO185.out) (Kd.R_base ho51) hb)
              have n5_ := Aside0.mk (Kd.R_elder' (by (with_reducible repeat (first | apply Kd.R_alloc | apply Kd.R_drewN | apply Kd.R_drew)); exact HO190.out) (Kd.R_base ho51) hb)
              have n6_ := Aside0.mk (Kd.R_lower (Kd.R_new' (Kd.R_new' (Kd.R_new' (Kd.R_new' (Kd.R_new' (Kd.R_new' ho51 (Kd.R_lt (by (with_reducible repeat (first | apply Kd.R_alloc | apply Kd.R_drewN | apply Kd.R_drew)); exact HO_5.out))) (Kd.R_lt (by (with_reducible repeat (first | apply Kd.R_alloc | apply Kd.R_drewN | apply Kd.R_drew)); exact HO_7.out))) (Kd.R_lt (by (with_reducible repeat (first | apply Kd.R_alloc | apply Kd.R_drewN | apply Kd.R_drew)); exact HO174.out))) (Kd.R_lt (by (with_reducible repeat (first | apply Kd.R_alloc | apply Kd.R_drewN | apply Kd.R_drew)); exact HO181.out))) (Kd.R_lt (by (with_reducible repeat (first | apply Kd.R_alloc | apply Kd.R_drewN | apply Kd.R_drew)); exact HO185.out))) (Kd.R_lt (by (with_reducible repeat (first | apply Kd.R_alloc | apply Kd.R_drewN | apply Kd.R_drew)); exact HO190.out))) (below_size (by repeat (first | (with_reducible first | exact HB.out | apply below_alloc | apply pw_below_drewN | apply below_drew1 | refine below_set ?_ GE160.out) | exact HB.out))))
              have n7_ := Aside0.mk (blk_below (g := gb160) (o := .cells KA_ 95 (0, 0)) (by (with_reducible repeat (first | refine blk_drewN ?_ _ | refine blk_drew ?_ | refine blk_alloc ?_ _)); exact BK160.out) hb)
              have n8_ := Aside0.mk (below_step (by repeat (first | (with_reducible first | exact HB.out | apply below_alloc | apply pw_below_drewN | apply below_drew1 | refine below_set ?_ GE160.out) | exact HB.out)) hb)
              clear HO_5
              clear HO_7
              clear HO174
              clear HO181
              clear HO185
              clear HO190
              clear BK160
              clear HB
              have HO_5 := n0_
              have HO_7 := n1_
              have HO174 := n2_
              have HO181 := n3_
              have HO185 := n4_
              have HO190 := n5_
              have HO194 := n6_
              have BK160 := n7_
              have HB := n8_
              clear n0_ n1_ n2_ n3_ n4_ n5_ n6_ n7_ n8_
              clear hb ho51
              refine hK.out _ _ (HS0_) (fun hHeld => ?_)
              clear hK K
              refine norm_ (a' := ?_) ?_ ?_
              rotate_left
              ·
               show Act.put _ (some 110) _ = _
               simp only [Act.put, List.setIfInBounds_toArray, List.set_cons_zero, List.set_cons_succ, i64_w, i32_w]
               rfl
              refine pure_ (i := 17) (N := some 7) (v := ?_) (a' := ?_) #[true, true, true, true, true, true, true, true, true, true, true, true, true, true, true, true, true, true] rfl rfl (any_of HT_.out (by kernel_rfl)) (fun _ _ _ h => h) (Or.inl ⟨by rfl, ?_⟩) ?_ ?_
              rotate_left
              ·
               intro w'
               go_simp
               first | (with_reducible rfl) | (rw [if_pos (of_decide_eq_true kx_)]; done) | (rw [if_pos (of_decide_eq_true kx_)]; with_reducible rfl)
              rotate_left
              ·
               simp only [Act.put, List.setIfInBounds_toArray, List.set_cons_zero, List.set_cons_succ, i64_w, i32_w]
               rfl
              refine done_ (done_of HT_.out (by kernel_rfl)) ?_
              try go_wp2
              go_roundg k1
              case measure => have := HK1.out; omega
              case rel => exact ⟨(y192), (wrap64 (x23_1 + 1)), (by first | rfl | (simp; done) | (simp [*]; done) | (simp [Int.tmod_eq_emod_of_nonneg (Int.natCast_nonneg _), *]; done)), H', ⟨by have := HK1.out; omega⟩, ⟨by (with_reducible repeat (first | apply Kd.R_alloc | apply Kd.R_drewN | apply Kd.R_drew)); exact Kd.R_mono HO_5.out (fun _ hk => hk.2)⟩, ⟨by (with_reducible repeat (first | apply Kd.R_alloc | apply Kd.R_drewN | apply Kd.R_drew)); exact Kd.R_mono HO194.out (fun _ hk => hk.1.1.1.1.1.2)⟩, ⟨by (with_reducible repeat (first | refine blk_drewN ?_ _ | refine blk_drew ?_ | refine blk_alloc ?_ _)); exact BK160.out⟩, ⟨by repeat (first | (with_reducible first | exact HB.out | apply below_alloc | apply pw_below_drewN | apply below_drew1 | refine below_set ?_ GE160.out) | exact HB.out)⟩⟩
             ·
              rw [if_neg c30] at H
              exact absurd H (by simp)
            ·
             rw [if_neg c23] at H
             exact absurd H (by simp)
           ·
            rw [if_neg c22] at H
            exact absurd H (by simp)
          ·
           rw [if_neg c18] at H
           exact absurd H (by simp)
         ·
          rw [if_neg c17] at H
          exact absurd H (by simp)
        ·
         rw [if_neg c16] at H
         exact absurd H (by simp)
       ·
        rw [if_neg c15] at H
        exact absurd H (by simp)
      ·
       rw [if_neg c14] at H
       exact absurd H (by simp)
     ·
      rw [if_neg c13] at H
      exact absurd H (by simp)
    ·
     rw [if_neg c12] at H
     exact absurd H (by simp)
   ·
    rw [if_neg c11] at H
    have c11b0 : decide (x23_1 < 64) = false := decide_eq_false c11
    clear c11
    have H' := Aside0.mk H
    clear H
    obtain ⟨Ao52, co52, eo52⟩ := Kd.R_slice HO_7.out
    subst eo52
    go_wp2
    go_loopg [114] k1 (fun kq v114 w' => ∃ (x7_2 : List Int) (x114_2 : Int), v114 = .int .i64 x114_2 ∧ Aside0 (impl_compress.l1 kq l0 x7_2 (x7_1.length : Int) x114_2 = some r) ∧ Aside0 (kq ≤ k1) ∧ Aside0 (Kd.R (Kd.int .i64) 2 w' w.heap.size (fun _ => True) (.slice Ao52 x7_1.length co52) x7_2) ∧ Aside0 (w'.heap[gb160]? = some (.cells KA_ 95 (0, 0))) ∧ Aside0 (Below w.heap.size w w'))
    case atStart => exact ⟨(x7_1), (0), (by first | rfl | (simp; done) | (simp [*]; done) | (simp [Int.tmod_eq_emod_of_nonneg (Int.natCast_nonneg _), *]; done)), H', ⟨Nat.le_refl _⟩, ⟨by (with_reducible repeat (first | apply Kd.R_alloc | apply Kd.R_drewN | apply Kd.R_drew)); exact Kd.R_mono HO_7.out (fun _ hk => trivial)⟩, ⟨by (with_reducible repeat (first | refine blk_drewN ?_ _ | refine blk_drew ?_ | refine blk_alloc ?_ _)); exact BK160.out⟩, ⟨by repeat (first | (with_reducible first | exact HB.out | apply below_alloc | apply pw_below_drewN | apply below_drew1 | refine below_set ?_ GE160.out) | exact HB.out)⟩⟩
    case round =>
     clear H'
     try clear c1
     try clear p1
     try clear q1
     try clear hx1
     try clear qi1
     try clear c2
     try clear p2
     try clear c3
     try clear p6
     try clear c11
     try clear c11b0
     try clear c12
     try clear c13
     try clear c14
     try clear c15
     try clear c16
     try clear c17
     try clear c18
     try clear p18
     try clear q18
     try clear hx18
     try clear qi18
     try clear c22
     try clear c23
     try clear c30
     try clear hx187_0
     try clear p187
     try clear q187
     obtain ⟨x7_2, x114_2, rfl, HA, HK2, HO_7, BK160, HB⟩ := hrel
     have hl7_2 := (Kd.R_reads' HO_7.out).1
     rw [hl7_2] at HO_7
     (try simp only [hl7_2])
     (try simp only [hl7_2] at BK160)
     cases gk with
     | zero => exact absurd HA.out (by simp [impl_compress.l1])
     | succ k2 =>
      have H := HA.out
      clear HA
      simp only [impl_compress.l1] at H
      by_cases c53 : x114_2 < (x7_1.length : Int)
      ·
       rw [if_pos c53] at H
       have c53b0 : decide (x114_2 < (x7_1.length : Int)) = true := decide_eq_true c53
       clear c53
       by_cases c54 : 0 ≤ x114_2
       ·
        rw [if_pos c54] at H
        have c54b0 : decide (0 ≤ x114_2) = true := decide_eq_true c54
        clear c54
        by_cases c55 : x114_2 < (x7_2.length : Int)
        ·
         rw [if_pos c55] at H
         have c55b0 : decide (x114_2 < (x7_2.length : Int)) = true := decide_eq_true c55
         clear c55
         by_cases c56 : x114_2 < (l0.length : Int)
         ·
          rw [if_pos c56] at H
          have c56b0 : decide (x114_2 < (l0.length : Int)) = true := decide_eq_true c56
          clear c56
          obtain ⟨y197, hy197⟩ : ∃ y_ : List Int, y_ = (([rd x7_2 x114_2, rd l0 x114_2] : List Int)) := ⟨_, rfl⟩
          replace H : ((impl_addWords.f k2 y197).bind fun t200 => (impl_compress.l1 k2 l0 (x7_2.set (x114_2 : Int).toNat t200) (x7_1.length : Int) (wrap64 (x114_2 + 1)))) = some r := by first | (rw [hy197]; with_reducible exact H) | (have H2_ := (Option.bind_some _ _).symm.trans H; rw [hy197]; with_reducible exact H2_) | (have H2_ := (Option.bind_some _ _).symm.trans H; with_reducible exact H2_) | with_reducible exact H | (rw [hy197]; exact H) | exact H
          have Ny197 := Aside0.mk hy197
          clear hy197
          replace H := Option.bind_eq_some_iff.mp H
          obtain ⟨t200, A570, H⟩ := H
          replace H : (impl_compress.l1 k2 l0 (x7_2.set (x114_2 : Int).toNat t200) (x7_1.length : Int) (wrap64 (x114_2 + 1))) = some r := H
          have A57 := Aside0.mk A570
          clear A570
          obtain ⟨y201, hy201⟩ : ∃ y_ : List Int, y_ = (x7_2.set (x114_2 : Int).toNat t200) := ⟨_, rfl⟩
          replace H : (impl_compress.l1 k2 l0 y201 (x7_1.length : Int) (wrap64 (x114_2 + 1))) = some r := by first | (rw [hy201]; with_reducible exact H) | (have H2_ := (Option.bind_some _ _).symm.trans H; rw [hy201]; with_reducible exact H2_) | (have H2_ := (Option.bind_some _ _).symm.trans H; with_reducible exact H2_) | with_reducible exact H | (rw [hy201]; exact H) | exact H
          have Ny201 := Aside0.mk hy201
          clear hy201
          have H' := Aside0.mk H
          clear H
          try go_wp2
          have n0_ := Aside0.mk (Kd.R_drew HO_7.out)
          have n1_ := Aside0.mk (blk_drew BK160.out)
          have n2_ := Aside0.mk (below_drew1 HB.out)
          clear HO_7
          clear BK160
          clear HB
          have HO_7 := n0_
          have BK160 := n1_
          have HB := n2_
          clear n0_ n1_ n2_
          have p195 : 0 ≤ (x114_2 : Int) := of_decide_eq_true (by first | (with_reducible assumption) | assumption)
          have q195 : x114_2 < (x7_2.length : Int) := of_decide_eq_true (by first | (with_reducible assumption) | assumption)
          obtain ⟨ad195, e195, hx195_0⟩ := Kd.at_int (Kd.R_reads' HO_7.out).2.2 x114_2 p195 q195
          cases e195
          replace p195 := eq_true p195
          replace q195 := eq_true q195
          have p196 : 0 ≤ (x114_2 : Int) := of_decide_eq_true (by first | (with_reducible assumption) | assumption)
          have q196 : x114_2 < (l0.length : Int) := of_decide_eq_true (by first | (with_reducible assumption) | assumption)
          obtain ⟨ad196, e196, hx196_0⟩ := Kd.at_int HR0.out x114_2 p196 q196
          have hw196_0 := hx196_0
          cases e196
          replace hx196_0 := (HB.out.cell (World.block_lt_of_cell? w _ hx196_0)).trans hx196_0
          replace p196 := eq_true p196
          replace q196 := eq_true q196
          refine start_ (n := 14) (S := fun w' => w'.cell? (ad195.add (x114_2).toNat) = some (.int .i64 (rd x7_2 x114_2)) ∧ w'.cell? (ad196.add (x114_2).toNat) = some (.int .i64 (rd l0 x114_2))) (ds := [13]) #[false, false, false, false, false, false, false, false, false, false, false, false, false, false] (by kernel_rfl) rfl rfl ⟨hx195_0, ((HB.out.cell (World.block_lt_of_cell? w _ hw196_0)).trans hw196_0)⟩ (fun hHeld => ?_); refine with_tabW impl_compress.tab13 impl_compress.bits13 (fun HT_ HW_ => ?_)
          generalize wr.drew = w59 at HO_7 BK160 HB hx195_0 hx196_0 hHeld ⊢
          refine pure_ (i := 0) (N := some 117) (v := ?_) (a' := ?_) #[true, false, false, false, false, false, false, false, false, false, false, false, false, false] rfl rfl (any_of HT_.out (by kernel_rfl)) (fun _ _ _ h => h) (Or.inl ⟨by rfl, ?_⟩) ?_ ?_
          rotate_left
          ·
           intro w'
           go_simp
           first | (with_reducible rfl) | (rw [if_pos (of_decide_eq_true kx_)]; done) | (rw [if_pos (of_decide_eq_true kx_)]; with_reducible rfl)
          rotate_left
          ·
           simp only [Act.put, List.setIfInBounds_toArray, List.set_cons_zero, List.set_cons_succ, i64_w, i32_w]
           rfl
          refine pure_ (i := 1) (N := some 118) (v := ?_) (a' := ?_) #[true, true, false, false, false, false, false, false, false, false, false, false, false, false] rfl rfl (any_of HT_.out (by kernel_rfl)) (fun _ _ _ h => h) (Or.inl ⟨by rfl, ?_⟩) ?_ ?_
          rotate_left
          ·
           intro w'
           go_simp
           first | (with_reducible rfl) | (rw [if_pos (of_decide_eq_true kx_)]; done) | (rw [if_pos (of_decide_eq_true kx_)]; with_reducible rfl)
          rotate_left
          ·
           simp only [Act.put, List.setIfInBounds_toArray, List.set_cons_zero, List.set_cons_succ, i64_w, i32_w]
           rfl
          refine pure_ (i := 2) (N := some 119) (v := ?_) (a' := ?_) #[true, true, true, false, false, false, false, false, false, false, false, false, false, false] rfl rfl (any_of HT_.out (by kernel_rfl)) (fun _ _ _ h => h) (Or.inl ⟨by rfl, ?_⟩) ?_ ?_
          rotate_left
          ·
           intro w'
           go_simp
           first | (with_reducible rfl) | (rw [if_pos (of_decide_eq_true kx_)]; done) | (rw [if_pos (of_decide_eq_true kx_)]; with_reducible rfl)
          rotate_left
          ·
           simp only [Act.put, List.setIfInBounds_toArray, List.set_cons_zero, List.set_cons_succ, i64_w, i32_w]
           rfl
          refine pure_ (i := 3) (N := some 120) (v := ?_) (a' := ?_) #[true, true, true, true, false, false, false, false, false, false, false, false, false, false] rfl rfl (any_of HT_.out (by kernel_rfl)) (fun _ _ _ h => h) (Or.inl ⟨by rfl, ?_⟩) ?_ ?_
          rotate_left
          ·
           intro w'
           go_simp
           first | (with_reducible rfl) | (rw [if_pos (of_decide_eq_true kx_)]; done) | (rw [if_pos (of_decide_eq_true kx_)]; with_reducible rfl)
          rotate_left
          ·
           simp only [Act.put, List.setIfInBounds_toArray, List.set_cons_zero, List.set_cons_succ, i64_w, i32_w]
           rfl
          refine pure_ (i := 4) (N := some 121) (v := ?_) (a' := ?_) #[true, true, true, true, true, false, false, false, false, false, false, false, false, false] rfl rfl (any_of HT_.out (by kernel_rfl)) (fun _ _ _ h => h) (Or.inl ⟨by rfl, ?_⟩) ?_ ?_
          rotate_left
          ·
           intro w'
           go_simp
           first | (with_reducible rfl) | (rw [if_pos (of_decide_eq_true kx_)]; done) | (rw [if_pos (of_decide_eq_true kx_)]; with_reducible rfl)
          rotate_left
          ·
           simp only [Act.put, List.setIfInBounds_toArray, List.set_cons_zero, List.set_cons_succ, i64_w, i32_w]
           rfl
          refine pure_ (i := 6) (N := some 123) (v := ?_) (a' := ?_) #[true, true, true, true, true, false, true, false, false, false, false, false, false, false] rfl rfl (any_of HT_.out (by kernel_rfl)) (fun _ _ _ h => h) (Or.inl ⟨by rfl, ?_⟩) ?_ ?_
          rotate_left
          ·
           intro w'
           go_simp
           first | (with_reducible rfl) | (rw [if_pos (of_decide_eq_true kx_)]; done) | (rw [if_pos (of_decide_eq_true kx_)]; with_reducible rfl)
          rotate_left
          ·
           simp only [Act.put, List.setIfInBounds_toArray, List.set_cons_zero, List.set_cons_succ, i64_w, i32_w]
           rfl
          refine pure_ (i := 7) (N := some 124) (v := ?_) (a' := ?_) #[true, true, true, true, true, false, true, true, false, false, false, false, false, false] rfl rfl (any_of HT_.out (by kernel_rfl)) (fun _ _ _ h => h) (Or.inl ⟨by rfl, ?_⟩) ?_ ?_
          rotate_left
          ·
           intro w'
           go_simp
           first | (with_reducible rfl) | (rw [if_pos (of_decide_eq_true kx_)]; done) | (rw [if_pos (of_decide_eq_true kx_)]; with_reducible rfl)
          rotate_left
          ·
           simp only [Act.put, List.setIfInBounds_toArray, List.set_cons_zero, List.set_cons_succ, i64_w, i32_w]
           rfl
          refine pure_ (i := 8) (N := some 125) (v := ?_) (a' := ?_) #[true, true, true, true, true, false, true, true, true, false, false, false, false, false] rfl rfl (any_of HT_.out (by kernel_rfl)) (fun _ _ _ h => h) (Or.inl ⟨by rfl, ?_⟩) ?_ ?_
          rotate_left
          ·
           intro w'
           go_simp
           first | (with_reducible rfl) | (rw [if_pos (of_decide_eq_true kx_)]; done) | (rw [if_pos (of_decide_eq_true kx_)]; with_reducible rfl)
          rotate_left
          ·
           simp only [Act.put, List.setIfInBounds_toArray, List.set_cons_zero, List.set_cons_succ, i64_w, i32_w]
           rfl
          refine take_ (i := 5) (N := some 122) (v := ?_) (a' := ?_) #[true, true, true, true, true, true, true, true, true, false, false, false, false, false] rfl rfl (take_ofW HT_.out HW_.out (by kernel_rfl)) (fun _ _ _ h => h) (Or.inl ⟨by rfl, ?_⟩) hHeld ?_ ?_
          rotate_left
          ·
           rintro w' ⟨s0, s1⟩
           go_simp
           first | (with_reducible rfl) | (rw [if_pos (of_decide_eq_true kx_)]; done) | (rw [if_pos (of_decide_eq_true kx_)]; with_reducible rfl)
          rotate_left
          ·
           simp only [Act.put, List.setIfInBounds_toArray, List.set_cons_zero, List.set_cons_succ, i64_w, i32_w]
           rfl
          refine take_ (i := 9) (N := some 126) (v := ?_) (a' := ?_) #[true, true, true, true, true, true, true, true, true, true, false, false, false, false] rfl rfl (take_ofW HT_.out HW_.out (by kernel_rfl)) (fun _ _ _ h => h) (Or.inl ⟨by rfl, ?_⟩) hHeld ?_ ?_
          rotate_left
          ·
           rintro w' ⟨s0, s1⟩
           go_simp
           first | (with_reducible rfl) | (rw [if_pos (of_decide_eq_true kx_)]; done) | (rw [if_pos (of_decide_eq_true kx_)]; with_reducible rfl)
          rotate_left
          ·
           simp only [Act.put, List.setIfInBounds_toArray, List.set_cons_zero, List.set_cons_succ, i64_w, i32_w]
           rfl
          refine one_ (i := 10) (N := some 127) #[true, true, true, true, true, true, true, true, true, true, true, false, false, false] rfl rfl (one_of HT_.out (by kernel_rfl)) (by decide) (fun K hK => ?_)
          refine Kd.R_lit_step (Kd.int .i64) _ 2 ?hg (N := 127) ?hd (xs := ([rd x7_2 x114_2, rd l0 x114_2] : List Int)) (inner := [.int .i64 (rd x7_2 x114_2), .int .i64 (rd l0 x114_2)]) (ok := fun _ => True) (okp := fun _ => True) ?hr ?hp (fun _ hk => hk) trivial (Below.refl _ _) (Nat.le_refl _) (by simp) ?_; (case hd => rfl); (case hg => rfl); (case hr => first | (go_simp; done) | (go_simp; rfl)); (case hp => exact (Reps.one (show Kd.M (Kd.int .i64) _ _ _ (rd x7_2 x114_2) [.int .i64 (rd x7_2 x114_2)] from rfl) (Reps.one (show Kd.M (Kd.int .i64) _ _ _ (rd l0 x114_2) [.int .i64 (rd l0 x114_2)] from rfl) (Reps.none _ _))))
          intro v198 w60 ho61 hb hg_ hnew_
          have HS0_ := (hb.cell (World.block_lt_of_cell? _ _ (hHeld.1))).trans (hHeld.1)
          clear hg_ hnew_
          (first | rw [← Ny197.out] at ho61 | (simp only [Int.reduceToNat] at ho61; rw [← Ny197.out] at ho61))
          have n0_ := Aside0.mk (Kd.R_elder' (by (with_reducible repeat (first | apply Kd.R_alloc | apply Kd.R_drewN | apply Kd.R_drew)); exact HO_7.out) (Kd.R_base ho61) hb)
          have n1_ := Aside0.mk (Kd.R_lower (Kd.R_new' ho61 (Kd.R_lt (by (with_reducible repeat (first | apply Kd.R_alloc | apply Kd.R_drewN | apply Kd.R_drew)); exact HO_7.out))) (below_size (by repeat (first | (with_reducible first | exact HB.out | apply below_alloc | apply pw_below_drewN | apply below_drew1 | refine below_set ?_ GE160.out) | exact HB.out))))
          have n2_ := Aside0.mk (blk_below (g := gb160) (o := .cells KA_ 95 (0, 0)) (by (with_reducible repeat (first | refine blk_drewN ?_ _ | refine blk_drew ?_ | refine blk_alloc ?_ _)); exact BK160.out) hb)
          have n3_ := Aside0.mk (below_step (by repeat (first | (with_reducible first | exact HB.out | apply below_alloc | apply pw_below_drewN | apply below_drew1 | refine below_set ?_ GE160.out) | exact HB.out)) hb)
          clear HO_7
          clear BK160
          clear HB
          have HO_7 := n0_
          have HO199 := n1_
          have BK160 := n2_
          have HB := n3_
          clear n0_ n1_ n2_ n3_
          clear hb ho61
          obtain ⟨Ao62, co62, eo62⟩ := Kd.R_slice HO199.out
          (first | subst eo62 | (injection eo62 with f1_ f2_ f3_; have f4_ := f1_.symm; have f5_ := f3_.symm; clear f1_ f2_ f3_; subst f4_; subst f5_))
          refine hK.out _ _ ⟨HS0_, ((HB.out.cell (World.block_lt_of_cell? w _ hw196_0)).trans hw196_0)⟩ (fun hHeld => ?_)
          clear hK K
          refine norm_ (a' := ?_) ?_ ?_
          rotate_left
          ·
           show Act.put _ (some 127) _ = _
           simp only [Act.put, List.setIfInBounds_toArray, List.set_cons_zero, List.set_cons_succ, i64_w, i32_w]
           rfl
          refine one_ (i := 11) (N := some 128) #[true, true, true, true, true, true, true, true, true, true, true, true, false, false] rfl rfl (one_of HT_.out (by kernel_rfl)) (by decide) (fun K hK => ?_)
          refine goes_ Try.func130 (by kernel_rfl) rfl #[.slice Ao62 y197.length co62] (by rfl) rfl rfl (by (try simp only [List.map_toArray, List.map_cons, List.map_nil]); first | done | rfl | (simp only [List.length_drop, List.length_take]; rfl)) ?_
          with_reducible refine (impl_addWords.calls k2 _ _ y197 t200 _ ?side1 ?side2 A57.out).mono ?_
          (case side1 => repeat (first | exact (Kd.R_reads' HO199.out).2.2 | (with_reducible refine Kd.C_alloc ?_ _) | (with_reducible refine Kd.C_drewN ?_ _) | (with_reducible refine Kd.C_drew ?_)))
          (case side2 => exact (Kd.R_reads' HO199.out).2.1)
          rintro e w' ⟨rfl, ⟨nd, rfl⟩⟩
          refine ⟨_, rfl, ?_⟩
          have p58 : 0 ≤ (x114_2 : Int) := of_decide_eq_true (by first | (with_reducible assumption) | assumption)
          have q58 : (x114_2 : Int) < ((x7_2.length : Int) : Int) := of_decide_eq_true (by first | (with_reducible assumption) | assumption)
          obtain ⟨go58, co58, eo58, gb58, gl58, cl58, HG58⟩ := Kd.R_form HO_7.out (by omega)
          (first | cases eo58 | (injection eo58 with ea_ en_ ec_; (first | subst ea_ | (injection ea_ with ea_; subst ea_)); subst ec_; clear en_))
          have GB58 := Aside0.mk gb58
          have GG58 := Aside0.mk HG58
          clear gb58 gl58 HG58
          (first | simp only [add_plain] at hx195_0 | skip)
          obtain ⟨hx58_0, hf58_0⟩ := Kd.R_celln 0 HO_7.out (x114_2 : Int) p58 q58
          replace p58 := eq_true p58
          replace q58 := eq_true q58
          have HP63 := Kd.R_putn HO_7.out (x114_2 : Int) t200
          rw [← Ny201.out] at HP63
          have HQ63 := Aside0.mk HP63
          clear HP63
          refine hK.out _ _ ⟨hHeld.1, ((HB.out.cell (World.block_lt_of_cell? w _ hw196_0)).trans hw196_0)⟩ (fun hHeld => ?_)
          clear hK K
          refine norm_ (a' := ?_) ?_ ?_
          rotate_left
          ·
           show Act.put _ (some 128) _ = _
           simp only [Act.put, List.setIfInBounds_toArray, List.set_cons_zero, List.set_cons_succ, i64_w, i32_w]
           rfl
          refine pure_ (i := 12) (N := some 129) (v := ?_) (a' := ?_) #[true, true, true, true, true, true, true, true, true, true, true, true, true, false] rfl rfl (any_of HT_.out (by kernel_rfl)) (fun _ _ _ h => h) (Or.inl ⟨by rfl, ?_⟩) ?_ ?_
          rotate_left
          ·
           intro w'
           go_simp
           first | (with_reducible rfl) | (rw [if_pos (of_decide_eq_true kx_)]; done) | (rw [if_pos (of_decide_eq_true kx_)]; with_reducible rfl)
          rotate_left
          ·
           simp only [Act.put, List.setIfInBounds_toArray, List.set_cons_zero, List.set_cons_succ, i64_w, i32_w]
           rfl
          refine last_ (i := 13) (N := none) #[true, true, true, true, true, true, true, true, true, true, true, true, true, true] rfl rfl (one_of HT_.out (by kernel_rfl)) (by decide) (fun K hK => ?_)
          refine skip_ (w1 := ?_) (by rfl) rfl ?_ ?_
          rotate_left
          ·
           go_simp
           rfl
          refine hK.out _ _ ?_
          clear hK K
          refine done_ (done_of HT_.out (by kernel_rfl)) ?_
          try go_wp2
          (try simp only [← hl7_2])
          go_roundg k2
          case measure => have := HK1.out; have := HK2.out; omega
          case rel => exact ⟨(y201), (wrap64 (x114_2 + 1)), (by first | rfl | (simp; done) | (simp [*]; done) | (simp [Int.tmod_eq_emod_of_nonneg (Int.natCast_nonneg _), *]; done)), H', ⟨by have := HK1.out; have := HK2.out; omega⟩, ⟨by (try simp only [hl7_2]); (with_reducible repeat (first | apply Kd.R_alloc | apply Kd.R_drewN | apply Kd.R_drew)); exact Kd.R_mono HQ63.out (fun _ hk => trivial)⟩, ⟨by (try simp only [hl7_2]); (with_reducible repeat (first | refine blk_drewN ?_ _ | refine blk_drew ?_ | refine blk_alloc ?_ _)); refine blk_far ?_ (by have h_ := Kd.R_ne HO_7.out BK160.out (by decide); intro e_; exact h_ (by rw [e_]; rfl)) _; (with_reducible repeat (first | refine blk_drewN ?_ _ | refine blk_drew ?_ | refine blk_alloc ?_ _)); exact BK160.out⟩, ⟨by repeat (first | (with_reducible first | exact HB.out | apply below_alloc | apply pw_below_drewN | apply below_drew1 | refine below_set ?_ GB58.out | refine below_set ?_ GE160.out) | exact HB.out)⟩⟩
         ·
          rw [if_neg c56] at H
          exact absurd H (by simp)
        ·
         rw [if_neg c55] at H
         exact absurd H (by simp)
       ·
        rw [if_neg c54] at H
        exact absurd H (by simp)
      ·
       rw [if_neg c53] at H
       have c53b0 : decide (x114_2 < (x7_1.length : Int)) = false := decide_eq_false c53
       (try have c53z_ : decide (x114_2 < (x7_2.length : Int)) = false := by rw [← hl7_2]; exact c53b0)
       clear c53
       obtain rfl := Option.some.inj H
       go_wp2
       go_ret
       exact ⟨_, by first | rfl | (simp [errW_none, errW_some] <;> rfl) | (simp [*, errW_none, errW_some] <;> rfl), by (with_reducible repeat (first | apply Kd.R_alloc | apply Kd.R_drewN | apply Kd.R_drew)); exact HO_7.out, by repeat (first | (with_reducible first | exact HB.out | apply below_alloc | apply pw_below_drewN | apply below_drew1 | refine below_set ?_ GE160.out) | exact HB.out)⟩

end Go.Proofs.Ytceobpekmladdaa.PFnMacs
