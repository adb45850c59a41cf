-- Laid by a program of this session (wip/print): the kit's printer with changes of this session's own.
import Derived.Test.YtceobpekmladdaaPFnDigestsx0
import Derived.Test.YtceobpekmladdaaPFnDigestsx4
import Derived.Test.YtceobpekmladdaaPFnDigestsx5
namespace Go.Proofs.Ytceobpekmladdaa.PFnDigests
open Go.RowKit Go.Proofs.YtceobpekmladdaaW.PrintWords Go.Proofs.YtceobpekmladdaaW.PrintLast Go.Proofs.YtceobpekmladdaaW.PrintMore
attribute [local go_sem] max2_int min2_int max_two min_two max_three min_three max_four min_four   -- for this text's walks alone
set_option linter.unusedVariables false
set_option linter.unusedSimpArgs false

/-! ### spec_l2Compress: function 77 -/
mutual
def spec_l2Compress.l0 : Nat → List Int → List Int → List Int → List Int → Int → Option (List Int)
  | 0, _, _, _, _, _ => none
  | k + 1, x0, x5, x6, x7, x8 => if x8 < 64 then (if 4 < (x7.length : Int) then (if 5 < (x7.length : Int) then ((spec_l2And.f k (rd x7 4) (rd x7 5)).bind fun t239 => (if 6 < (x7.length : Int) then ((spec_l2And.f k (wrap64 (4294967295 - (rd x7 4))) (rd x7 6)).bind fun t242 => ((spec_l2Xor.f k t239 t242).bind fun t243 => (if 0 < (x7.length : Int) then (if 1 < (x7.length : Int) then ((spec_l2And.f k (rd x7 0) (rd x7 1)).bind fun t246 => (if 2 < (x7.length : Int) then ((spec_l2And.f k (rd x7 0) (rd x7 2)).bind fun t249 => ((spec_l2Xor.f k t246 t249).bind fun t250 => ((spec_l2And.f k (rd x7 1) (rd x7 2)).bind fun t253 => ((spec_l2Xor.f k t250 t253).bind fun t254 => (if 7 < (x7.length : Int) then ((spec_l2Big.f k (rd x7 4) 6 11 25).bind fun t257 => ((spec_l1Add.f (rd x7 7) t257).bind fun t258 => ((spec_l1Add.f t258 t243).bind fun t259 => (if 0 ≤ x8 then (if x8 < (x5.length : Int) then (if x8 < (x6.length : Int) then ((spec_l1Add.f (rd x5 x8) (rd x6 x8)).bind fun t262 => ((spec_l1Add.f t259 t262).bind fun t263 => ((spec_l2Big.f k (rd x7 0) 2 13 22).bind fun t265 => ((spec_l1Add.f t265 t254).bind fun t266 => ((spec_l1Add.f t263 t266).bind fun t267 => (if 3 < (x7.length : Int) then ((spec_l1Add.f (rd x7 3) t263).bind fun t272 => (spec_l2Compress.l0 k x0 x5 x6 (([t267, rd x7 0, rd x7 1, rd x7 2, t272, rd x7 4, rd x7 5, rd x7 6] : List Int)) (wrap64 (x8 + 1)))) else (none))))))) else (none)) else (none)) else (none))))) else (none)))))) else (none))) else (none)) else (none)))) else (none))) else (none)) else (none)) else (spec_l2Compress.l1 k x0 x7 (([] : List Int)) 0)
def spec_l2Compress.l1 : Nat → List Int → List Int → List Int → Int → Option (List Int)
  | 0, _, _, _, _ => none
  | k + 1, x0, x7, x13, x14 => if x14 < 8 then (if 0 ≤ x14 then (if x14 < (x0.length : Int) then (if x14 < (x7.length : Int) then ((spec_l1Add.f (rd x0 x14) (rd x7 x14)).bind fun t284 => (if x13.length < 17592186044416 then (spec_l2Compress.l1 k x0 x7 (x13 ++ [t284]) (wrap64 (x14 + 1))) else (none))) else (none)) else (none)) else (none)) else (some x13)
end
def spec_l2Compress.f (k : Nat) (l0 : List Int) (l1 : List Int) : Option (List Int) := (spec_l2Keys.f).bind fun t228 => ((spec_l2Schedule.f k l1).bind fun t231 => ((spec_l1Ints.f l0).bind fun t234 => (spec_l2Compress.l0 k l0 t228 t231 t234 0)))
theorem spec_l2Compress.mono_l : ∀ k, (∀ y0 y1 y2 y3 y4, LeO (spec_l2Compress.l0 k y0 y1 y2 y3 y4) (spec_l2Compress.l0 (k + 1) y0 y1 y2 y3 y4)) ∧ (∀ y0 y1 y2 y3, LeO (spec_l2Compress.l1 k y0 y1 y2 y3) (spec_l2Compress.l1 (k + 1) y0 y1 y2 y3))
  | 0 => ⟨fun _ _ _ _ _ r h => by simp [spec_l2Compress.l0] at h, fun _ _ _ _ r h => by simp [spec_l2Compress.l1] at h⟩
  | k + 1 => by
    obtain ⟨ih0, ih1⟩ := spec_l2Compress.mono_l k
    refine ⟨?_, ?_⟩
    · intro y0 y1 y2 y3 y4
      unfold spec_l2Compress.l0
      repeat' first
      | (with_reducible exact ih0 _ _ _ _ _)
      | (with_reducible exact ih1 _ _ _ _)
      | (with_reducible exact spec_l2And.mono _ _ _)
      | (with_reducible exact spec_l2Big.mono _ _ _ _ _)
      | (with_reducible exact spec_l2Schedule.mono _ _)
      | (with_reducible exact spec_l2Xor.mono _ _ _)
      | (with_reducible exact LeO.refl _)
      | (with_reducible exact LeO.none _)
      | (with_reducible refine LeO.ite ?_ ?_)
      | (with_reducible refine LeO.bind ?_ (fun _ => ?_))
      | exact ih0 _ _ _ _ _
      | exact ih1 _ _ _ _
      | exact spec_l2And.mono _ _ _
      | exact spec_l2Big.mono _ _ _ _ _
      | exact spec_l2Schedule.mono _ _
      | exact spec_l2Xor.mono _ _ _
      | exact LeO.none _
      | refine LeO.ite ?_ ?_
      | refine LeO.bind ?_ (fun _ => ?_)
    · intro y0 y1 y2 y3
      unfold spec_l2Compress.l1
      repeat' first
      | (with_reducible exact ih0 _ _ _ _ _)
      | (with_reducible exact ih1 _ _ _ _)
      | (with_reducible exact spec_l2And.mono _ _ _)
      | (with_reducible exact spec_l2Big.mono _ _ _ _ _)
      | (with_reducible exact spec_l2Schedule.mono _ _)
      | (with_reducible exact spec_l2Xor.mono _ _ _)
      | (with_reducible exact LeO.refl _)
      | (with_reducible exact LeO.none _)
      | (with_reducible refine LeO.ite ?_ ?_)
      | (with_reducible refine LeO.bind ?_ (fun _ => ?_))
      | exact ih0 _ _ _ _ _
      | exact ih1 _ _ _ _
      | exact spec_l2And.mono _ _ _
      | exact spec_l2Big.mono _ _ _ _ _
      | exact spec_l2Schedule.mono _ _
      | exact spec_l2Xor.mono _ _ _
      | exact LeO.none _
      | refine LeO.ite ?_ ?_
      | refine LeO.bind ?_ (fun _ => ?_)
theorem spec_l2Compress.mono : ∀ a0 a1 k, LeO (spec_l2Compress.f k a0 a1) (spec_l2Compress.f (k + 1) a0 a1) := by
  intro a0 a1 k
  obtain ⟨ih0, ih1⟩ := spec_l2Compress.mono_l k
  unfold spec_l2Compress.f
  repeat' first
      | (with_reducible exact ih0 _ _ _ _ _)
      | (with_reducible exact ih1 _ _ _ _)
      | (with_reducible exact spec_l2And.mono _ _ _)
      | (with_reducible exact spec_l2Big.mono _ _ _ _ _)
      | (with_reducible exact spec_l2Schedule.mono _ _)
      | (with_reducible exact spec_l2Xor.mono _ _ _)
      | (with_reducible exact LeO.refl _)
      | (with_reducible exact LeO.none _)
      | (with_reducible refine LeO.ite ?_ ?_)
      | (with_reducible refine LeO.bind ?_ (fun _ => ?_))
      | exact ih0 _ _ _ _ _
      | exact ih1 _ _ _ _
      | exact spec_l2And.mono _ _ _
      | exact spec_l2Big.mono _ _ _ _ _
      | exact spec_l2Schedule.mono _ _
      | exact spec_l2Xor.mono _ _ _
      | exact LeO.none _
      | refine LeO.ite ?_ ?_
      | refine LeO.bind ?_ (fun _ => ?_)
def spec_l2Compress.T7 : Bool × List (List Nat × List Nat) := (true, [([], []), ([0], [0]), ([1], [1]), ([], []), ([3], [3]), ([4], [4]), ([2, 5], [2, 5]), ([], []), ([7], [7]), ([8], [8]), ([9], [9]), ([], []), ([11], [11]), ([12], [12]), ([10, 13, 6], [10, 13]), ([6, 14, 14], [6, 14]), ([15, 15, 0, 1, 2, 3, 4, 5, 6, 7, 8, 9, 10, 11, 12, 13, 14, 15], [15])])
def spec_l2Compress.B7 : List Nat := [0, 1, 3, 0, 8, 24, 63, 0, 128, 384, 896, 0, 2048, 6144, 16383, 32767, 65535]
theorem spec_l2Compress.tab7 : rtab .any (opsOf Try.f77 7) = spec_l2Compress.T7 := by kernel_rfl
theorem spec_l2Compress.bits7 : waitsOk spec_l2Compress.T7.2 spec_l2Compress.B7 = true := by kernel_rfl
def spec_l2Compress.T8 : Bool × List (List Nat × List Nat) := (true, [([], []), ([0], [0]), ([1], [1]), ([], []), ([3], [3]), ([4], [4]), ([2, 5], [2, 5]), ([], []), ([7], [7]), ([8], [8]), ([], []), ([10], [10]), ([11], [11]), ([9, 12, 6], [9, 12]), ([6, 13, 13], [6, 13]), ([], []), ([15], [15]), ([16], [16]), ([], []), ([18], [18]), ([19], [19]), ([17, 20, 14], [17, 20]), ([14, 21, 21], [14, 21]), ([22, 22, 0, 1, 2, 3, 4, 5, 6, 7, 8, 9, 10, 11, 12, 13, 14, 15, 16, 17, 18, 19, 20, 21, 22], [22])])
def spec_l2Compress.B8 : List Nat := [0, 1, 3, 0, 8, 24, 63, 0, 128, 384, 0, 1024, 3072, 8191, 16383, 0, 32768, 98304, 0, 262144, 786432, 2097151, 4194303, 8388607]
theorem spec_l2Compress.tab8 : rtab .any (opsOf Try.f77 8) = spec_l2Compress.T8 := by kernel_rfl
theorem spec_l2Compress.bits8 : waitsOk spec_l2Compress.T8.2 spec_l2Compress.B8 = true := by kernel_rfl
def spec_l2Compress.T9 : Bool × List (List Nat × List Nat) := (true, [([], []), ([0], [0]), ([1], [1]), ([], []), ([3], [3]), ([4], [4]), ([5], [5]), ([2, 6, 6], [2, 6]), ([], []), ([7, 8, 7], [7, 8]), ([], []), ([], []), ([10, 11], [10, 11]), ([12], [12]), ([], []), ([], []), ([14, 15], [14, 15]), ([16], [16]), ([13, 17, 9], [13, 17]), ([9, 18, 18], [9, 18]), ([19, 19, 0, 1, 2, 3, 4, 5, 6, 7, 8, 9, 10, 11, 12, 13, 14, 15, 16, 17, 18, 19], [19])])
def spec_l2Compress.B9 : List Nat := [0, 1, 3, 0, 8, 24, 56, 127, 0, 511, 0, 0, 3072, 7168, 0, 0, 49152, 114688, 262143, 524287, 1048575]
theorem spec_l2Compress.tab9 : rtab .any (opsOf Try.f77 9) = spec_l2Compress.T9 := by kernel_rfl
theorem spec_l2Compress.bits9 : waitsOk spec_l2Compress.T9.2 spec_l2Compress.B9 = true := by kernel_rfl
def spec_l2Compress.T11 : Bool × List (List Nat × List Nat) := (true, [([], []), ([], []), ([0, 1], [0, 1]), ([], []), ([3], [3]), ([4], [4]), ([], []), ([6], [6]), ([7], [7]), ([], []), ([9], [9]), ([10], [10]), ([], []), ([12], [12]), ([13], [13]), ([], []), ([14, 15, 2], [14, 15]), ([], []), ([17], [17]), ([18], [18]), ([], []), ([20], [20]), ([21], [21]), ([], []), ([23], [23]), ([24], [24]), ([2, 5, 8, 11, 16, 19, 22, 25], [2, 5, 8, 11, 16, 19, 22, 25]), ([26, 16, 0, 1, 2, 3, 4, 5, 6, 7, 8, 9, 10, 11, 12, 13, 14, 15, 16, 17, 18, 19, 20, 21, 22, 23, 24, 25, 26], [3, 6, 9, 12, 17, 20, 23, 26])])
def spec_l2Compress.B11 : List Nat := [0, 0, 3, 0, 8, 24, 0, 64, 192, 0, 512, 1536, 0, 4096, 12288, 0, 61447, 0, 131072, 393216, 0, 1048576, 3145728, 0, 8388608, 25165824, 67108863, 134217727]
theorem spec_l2Compress.tab11 : rtab .any (opsOf Try.f77 11) = spec_l2Compress.T11 := by kernel_rfl
theorem spec_l2Compress.bits11 : waitsOk spec_l2Compress.T11.2 spec_l2Compress.B11 = true := by kernel_rfl
def spec_l2Compress.T16 : Bool × List (List Nat × List Nat) := (true, [([], []), ([], []), ([], []), ([1, 2], [1, 2]), ([3], [3]), ([], []), ([], []), ([5, 6], [5, 6]), ([7], [7]), ([4, 8], [4, 8]), ([9], [9]), ([0, 10, 9], [0, 10]), ([11, 11, 0, 1, 2, 3, 4, 5, 6, 7, 8, 9, 10, 11], [0, 11])])
def spec_l2Compress.B16 : List Nat := [0, 0, 0, 6, 14, 0, 0, 96, 224, 510, 1022, 2047, 4095]
theorem spec_l2Compress.tab16 : rtab .any (opsOf Try.f77 16) = spec_l2Compress.T16 := by kernel_rfl
theorem spec_l2Compress.bits16 : waitsOk spec_l2Compress.T16.2 spec_l2Compress.B16 = true := by kernel_rfl
set_option maxHeartbeats 8000000 in
set_option maxRecDepth 100000 in
theorem spec_l2Compress.calls (k : Nat) (A0 : Option Addr) (c0 : Nat) (l0 : List Int) (A1 : Option Addr) (c1 : Nat) (l1 : List Int) (r : List Int) (w : World) (hr0 : Kd.C (Kd.int .i64) w A0 l0.length l0) (hc0 : l0.length ≤ c0) (hr1 : Kd.C (Kd.int .u8) w A1 l1.length l1) (hc1 : l1.length ≤ c1) (h : spec_l2Compress.f k l0 l1 = some r) :
    Calls Try.prog 77 #[.slice A0 l0.length c0, .slice A1 l1.length c1] w fun e w' => ∃ v0_ : Value, e = .returned (v0_) ∧ Kd.R (Kd.int .i64) 2 w' w.heap.size (fun _ => True) v0_ r ∧ Below w.heap.size w w' := by
  have HR0 := Aside0.mk hr0
  have HC0 := Aside0.mk hc0
  clear hr0 hc0
  have HR1 := Aside0.mk hr1
  have HC1 := Aside0.mk hc1
  clear hr1 hc1
  have HB := Aside0.mk (Below.refl w.heap.size w)
  have H : ((spec_l2Keys.f).bind fun t228 => ((spec_l2Schedule.f k l1).bind fun t231 => ((spec_l1Ints.f l0).bind fun t234 => (spec_l2Compress.l0 k l0 t228 t231 t234 0)))) = some r := h
  clear h
  replace H := Option.bind_eq_some_iff.mp H
  obtain ⟨t228, A30, H⟩ := H
  replace H : ((spec_l2Schedule.f k l1).bind fun t231 => ((spec_l1Ints.f l0).bind fun t234 => (spec_l2Compress.l0 k l0 t228 t231 t234 0))) = some r := H
  have A3 := Aside0.mk A30
  clear A30
  replace H := Option.bind_eq_some_iff.mp H
  obtain ⟨t231, A40, H⟩ := H
  replace H : ((spec_l1Ints.f l0).bind fun t234 => (spec_l2Compress.l0 k l0 t228 t231 t234 0)) = some r := H
  have A4 := Aside0.mk A40
  clear A40
  replace H := Option.bind_eq_some_iff.mp H
  obtain ⟨t234, A50, H⟩ := H
  replace H : (spec_l2Compress.l0 k l0 t228 t231 t234 0) = some r := H
  have A5 := Aside0.mk A50
  clear A50
  have H' := Aside0.mk H
  clear H
  go_enter Try.func77, Try.ntmps77
  go_wp2_with (first | ((with_reducible refine gate_callee (f := 97) rfl ?_); refine goesL_ (some 15) rfl rfl Try.func97 (by kernel_rfl) rfl #[] rfl (by (try simp only [List.map_toArray, List.map_cons, List.map_nil]); first | done | rfl | (simp only [List.length_drop, List.length_take]; rfl)) ?_; (with_reducible refine (spec_l2Keys.calls  t228 _ A3.out).mono ?_); rintro e w6 ⟨v229, rfl, ho0, hb⟩; refine ⟨_, rfl, ?_⟩; have n0_ := Aside0.mk (Kd.R_lower ho0 (below_size (by repeat (first | (with_reducible first | exact HB.out | apply below_alloc | apply pw_below_drewN | apply below_drew1) | exact HB.out)))); have n1_ := Aside0.mk (below_step (by repeat (first | (with_reducible first | exact HB.out | apply below_alloc | apply pw_below_drewN | apply below_drew1) | exact HB.out)) hb); clear HB; have HO230 := n0_; have HB := n1_; clear n0_ n1_; (try clear hb); (try clear hb2); (try clear hk); (try clear hi); (try clear ho0)) | ((with_reducible refine gate_callee (f := 73) rfl ?_); refine goesL_ (some 17) rfl rfl Try.func73 (by kernel_rfl) rfl #[.slice A1 l1.length c1] rfl (by (try simp only [List.map_toArray, List.map_cons, List.map_nil]); first | done | rfl | (simp only [List.length_drop, List.length_take]; rfl)) ?_; (with_reducible refine (spec_l2Schedule.calls k _ _ l1 t231 _ ?side1 ?side2 A4.out).mono ?_); (case side1 => repeat (first | exact (Kd.C_below HR1.out HB.out) | (with_reducible refine Kd.C_alloc ?_ _) | (with_reducible refine Kd.C_drewN ?_ _) | (with_reducible refine Kd.C_drew ?_))); (case side2 => exact HC1.out); rintro e w7 ⟨v232, rfl, ho0, hb⟩; refine ⟨_, rfl, ?_⟩; have n0_ := Aside0.mk (Kd.R_elder' (by (with_reducible repeat (first | apply Kd.R_alloc | apply Kd.R_drewN | apply Kd.R_drew)); exact HO230.out) (Kd.R_base ho0) hb); have n1_ := Aside0.mk (Kd.R_lower (Kd.R_new' ho0 (Kd.R_lt (by (with_reducible repeat (first | apply Kd.R_alloc | apply Kd.R_drewN | apply Kd.R_drew)); exact HO230.out))) (below_size (by repeat (first | (with_reducible first | exact HB.out | apply below_alloc | apply pw_below_drewN | apply below_drew1) | exact HB.out)))); have n2_ := Aside0.mk (below_step (by repeat (first | (with_reducible first | exact HB.out | apply below_alloc | apply pw_below_drewN | apply below_drew1) | exact HB.out)) hb); clear HO230; clear HB; have HO230 := n0_; have HO233 := n1_; have HB := n2_; clear n0_ n1_ n2_; (try clear hb); (try clear hb2); (try clear hk); (try clear hi); (try clear ho0)) | ((with_reducible refine gate_callee (f := 131) rfl ?_); refine goesL_ (some 19) rfl rfl Try.func131 (by kernel_rfl) rfl #[.slice A0 l0.length c0] rfl (by (try simp only [List.map_toArray, List.map_cons, List.map_nil]); first | done | rfl | (simp only [List.length_drop, List.length_take]; rfl)) ?_; (with_reducible refine (spec_l1Ints.calls _ _ l0 t234 _ ?side1 ?side2 A5.out).mono ?_); (case side1 => repeat (first | exact (Kd.C_below HR0.out HB.out) | (with_reducible refine Kd.C_alloc ?_ _) | (with_reducible refine Kd.C_drewN ?_ _) | (with_reducible refine Kd.C_drew ?_))); (case side2 => exact HC0.out); rintro e w8 ⟨v235, rfl, ho0, hb⟩; refine ⟨_, rfl, ?_⟩; have n0_ := Aside0.mk (Kd.R_elder' (by (with_reducible repeat (first | apply Kd.R_alloc | apply Kd.R_drewN | apply Kd.R_drew)); exact HO230.out) (Kd.R_base ho0) hb); have n1_ := Aside0.mk (Kd.R_elder' (by (with_reducible repeat (first | apply Kd.R_alloc | apply Kd.R_drewN | apply Kd.R_drew)); exact HO233.out) (Kd.R_base ho0) hb); have n2_ := Aside0.mk (Kd.R_lower (Kd.R_new' (Kd.R_new' ho0 (Kd.R_lt (by (with_reducible repeat (first | apply Kd.R_alloc | apply Kd.R_drewN | apply Kd.R_drew)); exact HO230.out))) (Kd.R_lt (by (with_reducible repeat (first | apply Kd.R_alloc | apply Kd.R_drewN | apply Kd.R_drew)); exact HO233.out))) (below_size (by repeat (first | (with_reducible first | exact HB.out | apply below_alloc | apply pw_below_drewN | apply below_drew1) | exact HB.out)))); have n3_ := Aside0.mk (below_step (by repeat (first | (with_reducible first | exact HB.out | apply below_alloc | apply pw_below_drewN | apply below_drew1) | exact HB.out)) hb); clear HO230; clear HO233; clear HB; have HO230 := n0_; have HO233 := n1_; have HO236 := n2_; have HB := n3_; clear n0_ n1_ n2_ n3_; (try clear hb); (try clear hb2); (try clear hk); (try clear hi); (try clear ho0)))
  go_loopg [7, 8] k (fun kq v7 v8 w' => ∃ (x7_1 : List Int) (x8_1 : Int), v8 = .int .i64 x8_1 ∧ Aside0 (spec_l2Compress.l0 kq l0 t228 t231 x7_1 x8_1 = some r) ∧ Aside0 (kq ≤ k) ∧ Aside0 (Kd.R (Kd.int .i64) 2 w' w.heap.size (fun k_ => some k_ ≠ (v232 : Value).ownBlock ∧ some k_ ≠ (v7 : Value).ownBlock) v229 t228) ∧ Aside0 (Kd.R (Kd.int .i64) 2 w' w.heap.size (fun k_ => some k_ ≠ (v229 : Value).ownBlock ∧ some k_ ≠ (v7 : Value).ownBlock) v232 t231) ∧ Aside0 (Kd.R (Kd.int .i64) 2 w' w.heap.size (fun k_ => some k_ ≠ (v229 : Value).ownBlock ∧ some k_ ≠ (v232 : Value).ownBlock) v7 x7_1) ∧ Aside0 (Below w.heap.size w w'))
  case atStart => exact ⟨(t234), (0), (by first | rfl | (simp; done) | (simp [*]; done) | (simp [Int.tmod_eq_emod_of_nonneg (Int.natCast_nonneg _), *]; done)), H', ⟨Nat.le_refl _⟩, ⟨by (with_reducible repeat (first | apply Kd.R_alloc | apply Kd.R_drewN | apply Kd.R_drew)); exact Kd.R_mono HO230.out (fun _ hk => ⟨hk.1.2, hk.2⟩)⟩, ⟨by (with_reducible repeat (first | apply Kd.R_alloc | apply Kd.R_drewN | apply Kd.R_drew)); exact Kd.R_mono HO233.out (fun _ hk => ⟨hk.1.2, hk.2⟩)⟩, ⟨by (with_reducible repeat (first | apply Kd.R_alloc | apply Kd.R_drewN | apply Kd.R_drew)); exact Kd.R_mono HO236.out (fun _ hk => ⟨hk.1.2, hk.2⟩)⟩, ⟨by repeat (first | (with_reducible first | exact HB.out | apply below_alloc | apply pw_below_drewN | apply below_drew1) | exact HB.out)⟩⟩
  case round =>
    clear H'
    try clear c1
    try clear p2
    try clear c7
    obtain ⟨x7_1, x8_1, rfl, HA, HK1, HO_5, HO_6, HO_7, HB⟩ := hrel
    cases gk with
    | zero => exact absurd HA.out (by simp [spec_l2Compress.l0])
    | succ k1 =>
      have H := HA.out
      clear HA
      simp only [spec_l2Compress.l0] at H
      by_cases c9 : x8_1 < 64
      · rw [if_pos c9] at H
        have c9b0 : decide (x8_1 < 64) = true := decide_eq_true c9
        clear c9
        by_cases c10 : 4 < (x7_1.length : Int)
        · rw [if_pos c10] at H
          have c10b0 : decide (4 < (x7_1.length : Int)) = true := decide_eq_true c10
          have c10b1 : decide (4 < x7_1.length) = true := decide_eq_true (by omega)
          clear c10
          by_cases c11 : 5 < (x7_1.length : Int)
          · rw [if_pos c11] at H
            have c11b0 : decide (5 < (x7_1.length : Int)) = true := decide_eq_true c11
            have c11b1 : decide (5 < x7_1.length) = true := decide_eq_true (by omega)
            clear c11
            replace H := Option.bind_eq_some_iff.mp H
            obtain ⟨t239, A120, H⟩ := H
            replace H : (if 6 < (x7_1.length : Int) then ((spec_l2And.f k1 (wrap64 (4294967295 - (rd x7_1 4))) (rd x7_1 6)).bind fun t242 => ((spec_l2Xor.f k1 t239 t242).bind fun t243 => (if 0 < (x7_1.length : Int) then (if 1 < (x7_1.length : Int) then ((spec_l2And.f k1 (rd x7_1 0) (rd x7_1 1)).bind fun t246 => (if 2 < (x7_1.length : Int) then ((spec_l2And.f k1 (rd x7_1 0) (rd x7_1 2)).bind fun t249 => ((spec_l2Xor.f k1 t246 t249).bind fun t250 => ((spec_l2And.f k1 (rd x7_1 1) (rd x7_1 2)).bind fun t253 => ((spec_l2Xor.f k1 t250 t253).bind fun t254 => (if 7 < (x7_1.length : Int) then ((spec_l2Big.f k1 (rd x7_1 4) 6 11 25).bind fun t257 => ((spec_l1Add.f (rd x7_1 7) t257).bind fun t258 => ((spec_l1Add.f t258 t243).bind fun t259 => (if 0 ≤ x8_1 then (if x8_1 < (t228.length : Int) then (if x8_1 < (t231.length : Int) then ((spec_l1Add.f (rd t228 x8_1) (rd t231 x8_1)).bind fun t262 => ((spec_l1Add.f t259 t262).bind fun t263 => ((spec_l2Big.f k1 (rd x7_1 0) 2 13 22).bind fun t265 => ((spec_l1Add.f t265 t254).bind fun t266 => ((spec_l1Add.f t263 t266).bind fun t267 => (if 3 < (x7_1.length : Int) then ((spec_l1Add.f (rd x7_1 3) t263).bind fun t272 => (spec_l2Compress.l0 k1 l0 t228 t231 (([t267, rd x7_1 0, rd x7_1 1, rd x7_1 2, t272, rd x7_1 4, rd x7_1 5, rd x7_1 6] : List Int)) (wrap64 (x8_1 + 1)))) else (none))))))) else (none)) else (none)) else (none))))) else (none)))))) else (none))) else (none)) else (none)))) else (none)) = some r := H
            have A12 := Aside0.mk A120
            clear A120
            by_cases c13 : 6 < (x7_1.length : Int)
            · rw [if_pos c13] at H
              have c13b0 : decide (6 < (x7_1.length : Int)) = true := decide_eq_true c13
              have c13b1 : decide (6 < x7_1.length) = true := decide_eq_true (by omega)
              clear c13
              replace H := Option.bind_eq_some_iff.mp H
              obtain ⟨t242, A140, H⟩ := H
              replace H : ((spec_l2Xor.f k1 t239 t242).bind fun t243 => (if 0 < (x7_1.length : Int) then (if 1 < (x7_1.length : Int) then ((spec_l2And.f k1 (rd x7_1 0) (rd x7_1 1)).bind fun t246 => (if 2 < (x7_1.length : Int) then ((spec_l2And.f k1 (rd x7_1 0) (rd x7_1 2)).bind fun t249 => ((spec_l2Xor.f k1 t246 t249).bind fun t250 => ((spec_l2And.f k1 (rd x7_1 1) (rd x7_1 2)).bind fun t253 => ((spec_l2Xor.f k1 t250 t253).bind fun t254 => (if 7 < (x7_1.length : Int) then ((spec_l2Big.f k1 (rd x7_1 4) 6 11 25).bind fun t257 => ((spec_l1Add.f (rd x7_1 7) t257).bind fun t258 => ((spec_l1Add.f t258 t243).bind fun t259 => (if 0 ≤ x8_1 then (if x8_1 < (t228.length : Int) then (if x8_1 < (t231.length : Int) then ((spec_l1Add.f (rd t228 x8_1) (rd t231 x8_1)).bind fun t262 => ((spec_l1Add.f t259 t262).bind fun t263 => ((spec_l2Big.f k1 (rd x7_1 0) 2 13 22).bind fun t265 => ((spec_l1Add.f t265 t254).bind fun t266 => ((spec_l1Add.f t263 t266).bind fun t267 => (if 3 < (x7_1.length : Int) then ((spec_l1Add.f (rd x7_1 3) t263).bind fun t272 => (spec_l2Compress.l0 k1 l0 t228 t231 (([t267, rd x7_1 0, rd x7_1 1, rd x7_1 2, t272, rd x7_1 4, rd x7_1 5, rd x7_1 6] : List Int)) (wrap64 (x8_1 + 1)))) else (none))))))) else (none)) else (none)) else (none))))) else (none)))))) else (none))) else (none)) else (none))) = some r := H
              have A14 := Aside0.mk A140
              clear A140
              replace H := Option.bind_eq_some_iff.mp H
              obtain ⟨t243, A150, H⟩ := H
              replace H : (if 0 < (x7_1.length : Int) then (if 1 < (x7_1.length : Int) then ((spec_l2And.f k1 (rd x7_1 0) (rd x7_1 1)).bind fun t246 => (if 2 < (x7_1.length : Int) then ((spec_l2And.f k1 (rd x7_1 0) (rd x7_1 2)).bind fun t249 => ((spec_l2Xor.f k1 t246 t249).bind fun t250 => ((spec_l2And.f k1 (rd x7_1 1) (rd x7_1 2)).bind fun t253 => ((spec_l2Xor.f k1 t250 t253).bind fun t254 => (if 7 < (x7_1.length : Int) then ((spec_l2Big.f k1 (rd x7_1 4) 6 11 25).bind fun t257 => ((spec_l1Add.f (rd x7_1 7) t257).bind fun t258 => ((spec_l1Add.f t258 t243).bind fun t259 => (if 0 ≤ x8_1 then (if x8_1 < (t228.length : Int) then (if x8_1 < (t231.length : Int) then ((spec_l1Add.f (rd t228 x8_1) (rd t231 x8_1)).bind fun t262 => ((spec_l1Add.f t259 t262).bind fun t263 => ((spec_l2Big.f k1 (rd x7_1 0) 2 13 22).bind fun t265 => ((spec_l1Add.f t265 t254).bind fun t266 => ((spec_l1Add.f t263 t266).bind fun t267 => (if 3 < (x7_1.length : Int) then ((spec_l1Add.f (rd x7_1 3) t263).bind fun t272 => (spec_l2Compress.l0 k1 l0 t228 t231 (([t267, rd x7_1 0, rd x7_1 1, rd x7_1 2, t272, rd x7_1 4, rd x7_1 5, rd x7_1 6] : List Int)) (wrap64 (x8_1 + 1)))) else (none))))))) else (none)) else (none)) else (none))))) else (none)))))) else (none))) else (none)) else (none)) = some r := H
              have A15 := Aside0.mk A150
              clear A150
              by_cases c16 : 0 < (x7_1.length : Int)
              · rw [if_pos c16] at H
                have c16b0 : decide (0 < (x7_1.length : Int)) = true := decide_eq_true c16
                have c16b1 : decide (0 < x7_1.length) = true := decide_eq_true (by omega)
                clear c16
                by_cases c17 : 1 < (x7_1.length : Int)
                · rw [if_pos c17] at H
                  have c17b0 : decide (1 < (x7_1.length : Int)) = true := decide_eq_true c17
                  have c17b1 : decide (1 < x7_1.length) = true := decide_eq_true (by omega)
                  clear c17
                  replace H := Option.bind_eq_some_iff.mp H
                  obtain ⟨t246, A180, H⟩ := H
                  replace H : (if 2 < (x7_1.length : Int) then ((spec_l2And.f k1 (rd x7_1 0) (rd x7_1 2)).bind fun t249 => ((spec_l2Xor.f k1 t246 t249).bind fun t250 => ((spec_l2And.f k1 (rd x7_1 1) (rd x7_1 2)).bind fun t253 => ((spec_l2Xor.f k1 t250 t253).bind fun t254 => (if 7 < (x7_1.length : Int) then ((spec_l2Big.f k1 (rd x7_1 4) 6 11 25).bind fun t257 => ((spec_l1Add.f (rd x7_1 7) t257).bind fun t258 => ((spec_l1Add.f t258 t243).bind fun t259 => (if 0 ≤ x8_1 then (if x8_1 < (t228.length : Int) then (if x8_1 < (t231.length : Int) then ((spec_l1Add.f (rd t228 x8_1) (rd t231 x8_1)).bind fun t262 => ((spec_l1Add.f t259 t262).bind fun t263 => ((spec_l2Big.f k1 (rd x7_1 0) 2 13 22).bind fun t265 => ((spec_l1Add.f t265 t254).bind fun t266 => ((spec_l1Add.f t263 t266).bind fun t267 => (if 3 < (x7_1.length : Int) then ((spec_l1Add.f (rd x7_1 3) t263).bind fun t272 => (spec_l2Compress.l0 k1 l0 t228 t231 (([t267, rd x7_1 0, rd x7_1 1, rd x7_1 2, t272, rd x7_1 4, rd x7_1 5, rd x7_1 6] : List Int)) (wrap64 (x8_1 + 1)))) else (none))))))) else (none)) else (none)) else (none))))) else (none)))))) else (none)) = some r := H
                  have A18 := Aside0.mk A180
                  clear A180
                  by_cases c19 : 2 < (x7_1.length : Int)
                  · rw [if_pos c19] at H
                    have c19b0 : decide (2 < (x7_1.length : Int)) = true := decide_eq_true c19
                    have c19b1 : decide (2 < x7_1.length) = true := decide_eq_true (by omega)
                    clear c19
                    replace H := Option.bind_eq_some_iff.mp H
                    obtain ⟨t249, A200, H⟩ := H
                    replace H : ((spec_l2Xor.f k1 t246 t249).bind fun t250 => ((spec_l2And.f k1 (rd x7_1 1) (rd x7_1 2)).bind fun t253 => ((spec_l2Xor.f k1 t250 t253).bind fun t254 => (if 7 < (x7_1.length : Int) then ((spec_l2Big.f k1 (rd x7_1 4) 6 11 25).bind fun t257 => ((spec_l1Add.f (rd x7_1 7) t257).bind fun t258 => ((spec_l1Add.f t258 t243).bind fun t259 => (if 0 ≤ x8_1 then (if x8_1 < (t228.length : Int) then (if x8_1 < (t231.length : Int) then ((spec_l1Add.f (rd t228 x8_1) (rd t231 x8_1)).bind fun t262 => ((spec_l1Add.f t259 t262).bind fun t263 => ((spec_l2Big.f k1 (rd x7_1 0) 2 13 22).bind fun t265 => ((spec_l1Add.f t265 t254).bind fun t266 => ((spec_l1Add.f t263 t266).bind fun t267 => (if 3 < (x7_1.length : Int) then ((spec_l1Add.f (rd x7_1 3) t263).bind fun t272 => (spec_l2Compress.l0 k1 l0 t228 t231 (([t267, rd x7_1 0, rd x7_1 1, rd x7_1 2, t272, rd x7_1 4, rd x7_1 5, rd x7_1 6] : List Int)) (wrap64 (x8_1 + 1)))) else (none))))))) else (none)) else (none)) else (none))))) else (none))))) = some r := H
                    have A20 := Aside0.mk A200
                    clear A200
                    replace H := Option.bind_eq_some_iff.mp H
                    obtain ⟨t250, A210, H⟩ := H
                    replace H : ((spec_l2And.f k1 (rd x7_1 1) (rd x7_1 2)).bind fun t253 => ((spec_l2Xor.f k1 t250 t253).bind fun t254 => (if 7 < (x7_1.length : Int) then ((spec_l2Big.f k1 (rd x7_1 4) 6 11 25).bind fun t257 => ((spec_l1Add.f (rd x7_1 7) t257).bind fun t258 => ((spec_l1Add.f t258 t243).bind fun t259 => (if 0 ≤ x8_1 then (if x8_1 < (t228.length : Int) then (if x8_1 < (t231.length : Int) then ((spec_l1Add.f (rd t228 x8_1) (rd t231 x8_1)).bind fun t262 => ((spec_l1Add.f t259 t262).bind fun t263 => ((spec_l2Big.f k1 (rd x7_1 0) 2 13 22).bind fun t265 => ((spec_l1Add.f t265 t254).bind fun t266 => ((spec_l1Add.f t263 t266).bind fun t267 => (if 3 < (x7_1.length : Int) then ((spec_l1Add.f (rd x7_1 3) t263).bind fun t272 => (spec_l2Compress.l0 k1 l0 t228 t231 (([t267, rd x7_1 0, rd x7_1 1, rd x7_1 2, t272, rd x7_1 4, rd x7_1 5, rd x7_1 6] : List Int)) (wrap64 (x8_1 + 1)))) else (none))))))) else (none)) else (none)) else (none))))) else (none)))) = some r := H
                    have A21 := Aside0.mk A210
                    clear A210
                    replace H := Option.bind_eq_some_iff.mp H
                    obtain ⟨t253, A220, H⟩ := H
                    replace H : ((spec_l2Xor.f k1 t250 t253).bind fun t254 => (if 7 < (x7_1.length : Int) then ((spec_l2Big.f k1 (rd x7_1 4) 6 11 25).bind fun t257 => ((spec_l1Add.f (rd x7_1 7) t257).bind fun t258 => ((spec_l1Add.f t258 t243).bind fun t259 => (if 0 ≤ x8_1 then (if x8_1 < (t228.length : Int) then (if x8_1 < (t231.length : Int) then ((spec_l1Add.f (rd t228 x8_1) (rd t231 x8_1)).bind fun t262 => ((spec_l1Add.f t259 t262).bind fun t263 => ((spec_l2Big.f k1 (rd x7_1 0) 2 13 22).bind fun t265 => ((spec_l1Add.f t265 t254).bind fun t266 => ((spec_l1Add.f t263 t266).bind fun t267 => (if 3 < (x7_1.length : Int) then ((spec_l1Add.f (rd x7_1 3) t263).bind fun t272 => (spec_l2Compress.l0 k1 l0 t228 t231 (([t267, rd x7_1 0, rd x7_1 1, rd x7_1 2, t272, rd x7_1 4, rd x7_1 5, rd x7_1 6] : List Int)) (wrap64 (x8_1 + 1)))) else (none))))))) else (none)) else (none)) else (none))))) else (none))) = some r := H
                    have A22 := Aside0.mk A220
                    clear A220
                    replace H := Option.bind_eq_some_iff.mp H
                    obtain ⟨t254, A230, H⟩ := H
                    replace H : (if 7 < (x7_1.length : Int) then ((spec_l2Big.f k1 (rd x7_1 4) 6 11 25).bind fun t257 => ((spec_l1Add.f (rd x7_1 7) t257).bind fun t258 => ((spec_l1Add.f t258 t243).bind fun t259 => (if 0 ≤ x8_1 then (if x8_1 < (t228.length : Int) then (if x8_1 < (t231.length : Int) then ((spec_l1Add.f (rd t228 x8_1) (rd t231 x8_1)).bind fun t262 => ((spec_l1Add.f t259 t262).bind fun t263 => ((spec_l2Big.f k1 (rd x7_1 0) 2 13 22).bind fun t265 => ((spec_l1Add.f t265 t254).bind fun t266 => ((spec_l1Add.f t263 t266).bind fun t267 => (if 3 < (x7_1.length : Int) then ((spec_l1Add.f (rd x7_1 3) t263).bind fun t272 => (spec_l2Compress.l0 k1 l0 t228 t231 (([t267, rd x7_1 0, rd x7_1 1, rd x7_1 2, t272, rd x7_1 4, rd x7_1 5, rd x7_1 6] : List Int)) (wrap64 (x8_1 + 1)))) else (none))))))) else (none)) else (none)) else (none))))) else (none)) = some r := H
                    have A23 := Aside0.mk A230
                    clear A230
                    by_cases c24 : 7 < (x7_1.length : Int)
                    · rw [if_pos c24] at H
                      have c24b0 : decide (7 < (x7_1.length : Int)) = true := decide_eq_true c24
                      have c24b1 : decide (7 < x7_1.length) = true := decide_eq_true (by omega)
                      clear c24
                      replace H := Option.bind_eq_some_iff.mp H
                      obtain ⟨t257, A250, H⟩ := H
                      replace H : ((spec_l1Add.f (rd x7_1 7) t257).bind fun t258 => ((spec_l1Add.f t258 t243).bind fun t259 => (if 0 ≤ x8_1 then (if x8_1 < (t228.length : Int) then (if x8_1 < (t231.length : Int) then ((spec_l1Add.f (rd t228 x8_1) (rd t231 x8_1)).bind fun t262 => ((spec_l1Add.f t259 t262).bind fun t263 => ((spec_l2Big.f k1 (rd x7_1 0) 2 13 22).bind fun t265 => ((spec_l1Add.f t265 t254).bind fun t266 => ((spec_l1Add.f t263 t266).bind fun t267 => (if 3 < (x7_1.length : Int) then ((spec_l1Add.f (rd x7_1 3) t263).bind fun t272 => (spec_l2Compress.l0 k1 l0 t228 t231 (([t267, rd x7_1 0, rd x7_1 1, rd x7_1 2, t272, rd x7_1 4, rd x7_1 5, rd x7_1 6] : List Int)) (wrap64 (x8_1 + 1)))) else (none))))))) else (none)) else (none)) else (none)))) = some r := H
                      have A25 := Aside0.mk A250
                      clear A250
                      replace H := Option.bind_eq_some_iff.mp H
                      obtain ⟨t258, A260, H⟩ := H
                      replace H : ((spec_l1Add.f t258 t243).bind fun t259 => (if 0 ≤ x8_1 then (if x8_1 < (t228.length : Int) then (if x8_1 < (t231.length : Int) then ((spec_l1Add.f (rd t228 x8_1) (rd t231 x8_1)).bind fun t262 => ((spec_l1Add.f t259 t262).bind fun t263 => ((spec_l2Big.f k1 (rd x7_1 0) 2 13 22).bind fun t265 => ((spec_l1Add.f t265 t254).bind fun t266 => ((spec_l1Add.f t263 t266).bind fun t267 => (if 3 < (x7_1.length : Int) then ((spec_l1Add.f (rd x7_1 3) t263).bind fun t272 => (spec_l2Compress.l0 k1 l0 t228 t231 (([t267, rd x7_1 0, rd x7_1 1, rd x7_1 2, t272, rd x7_1 4, rd x7_1 5, rd x7_1 6] : List Int)) (wrap64 (x8_1 + 1)))) else (none))))))) else (none)) else (none)) else (none))) = some r := H
                      have A26 := Aside0.mk A260
                      clear A260
                      replace H := Option.bind_eq_some_iff.mp H
                      obtain ⟨t259, A270, H⟩ := H
                      replace H : (if 0 ≤ x8_1 then (if x8_1 < (t228.length : Int) then (if x8_1 < (t231.length : Int) then ((spec_l1Add.f (rd t228 x8_1) (rd t231 x8_1)).bind fun t262 => ((spec_l1Add.f t259 t262).bind fun t263 => ((spec_l2Big.f k1 (rd x7_1 0) 2 13 22).bind fun t265 => ((spec_l1Add.f t265 t254).bind fun t266 => ((spec_l1Add.f t263 t266).bind fun t267 => (if 3 < (x7_1.length : Int) then ((spec_l1Add.f (rd x7_1 3) t263).bind fun t272 => (spec_l2Compress.l0 k1 l0 t228 t231 (([t267, rd x7_1 0, rd x7_1 1, rd x7_1 2, t272, rd x7_1 4, rd x7_1 5, rd x7_1 6] : List Int)) (wrap64 (x8_1 + 1)))) else (none))))))) else (none)) else (none)) else (none)) = some r := H
                      have A27 := Aside0.mk A270
                      clear A270
                      by_cases c28 : 0 ≤ x8_1
                      · rw [if_pos c28] at H
                        have c28b0 : decide (0 ≤ x8_1) = true := decide_eq_true c28
                        clear c28
                        by_cases c29 : x8_1 < (t228.length : Int)
                        · rw [if_pos c29] at H
                          have c29b0 : decide (x8_1 < (t228.length : Int)) = true := decide_eq_true c29
                          clear c29
                          by_cases c30 : x8_1 < (t231.length : Int)
                          · rw [if_pos c30] at H
                            have c30b0 : decide (x8_1 < (t231.length : Int)) = true := decide_eq_true c30
                            clear c30
                            replace H := Option.bind_eq_some_iff.mp H
                            obtain ⟨t262, A310, H⟩ := H
                            replace H : ((spec_l1Add.f t259 t262).bind fun t263 => ((spec_l2Big.f k1 (rd x7_1 0) 2 13 22).bind fun t265 => ((spec_l1Add.f t265 t254).bind fun t266 => ((spec_l1Add.f t263 t266).bind fun t267 => (if 3 < (x7_1.length : Int) then ((spec_l1Add.f (rd x7_1 3) t263).bind fun t272 => (spec_l2Compress.l0 k1 l0 t228 t231 (([t267, rd x7_1 0, rd x7_1 1, rd x7_1 2, t272, rd x7_1 4, rd x7_1 5, rd x7_1 6] : List Int)) (wrap64 (x8_1 + 1)))) else (none)))))) = some r := H
                            have A31 := Aside0.mk A310
                            clear A310
                            replace H := Option.bind_eq_some_iff.mp H
                            obtain ⟨t263, A320, H⟩ := H
                            replace H : ((spec_l2Big.f k1 (rd x7_1 0) 2 13 22).bind fun t265 => ((spec_l1Add.f t265 t254).bind fun t266 => ((spec_l1Add.f t263 t266).bind fun t267 => (if 3 < (x7_1.length : Int) then ((spec_l1Add.f (rd x7_1 3) t263).bind fun t272 => (spec_l2Compress.l0 k1 l0 t228 t231 (([t267, rd x7_1 0, rd x7_1 1, rd x7_1 2, t272, rd x7_1 4, rd x7_1 5, rd x7_1 6] : List Int)) (wrap64 (x8_1 + 1)))) else (none))))) = some r := H
                            have A32 := Aside0.mk A320
                            clear A320
                            replace H := Option.bind_eq_some_iff.mp H
                            obtain ⟨t265, A330, H⟩ := H
                            replace H : ((spec_l1Add.f t265 t254).bind fun t266 => ((spec_l1Add.f t263 t266).bind fun t267 => (if 3 < (x7_1.length : Int) then ((spec_l1Add.f (rd x7_1 3) t263).bind fun t272 => (spec_l2Compress.l0 k1 l0 t228 t231 (([t267, rd x7_1 0, rd x7_1 1, rd x7_1 2, t272, rd x7_1 4, rd x7_1 5, rd x7_1 6] : List Int)) (wrap64 (x8_1 + 1)))) else (none)))) = some r := H
                            have A33 := Aside0.mk A330
                            clear A330
                            replace H := Option.bind_eq_some_iff.mp H
                            obtain ⟨t266, A340, H⟩ := H
                            replace H : ((spec_l1Add.f t263 t266).bind fun t267 => (if 3 < (x7_1.length : Int) then ((spec_l1Add.f (rd x7_1 3) t263).bind fun t272 => (spec_l2Compress.l0 k1 l0 t228 t231 (([t267, rd x7_1 0, rd x7_1 1, rd x7_1 2, t272, rd x7_1 4, rd x7_1 5, rd x7_1 6] : List Int)) (wrap64 (x8_1 + 1)))) else (none))) = some r := H
                            have A34 := Aside0.mk A340
                            clear A340
                            replace H := Option.bind_eq_some_iff.mp H
                            obtain ⟨t267, A350, H⟩ := H
                            replace H : (if 3 < (x7_1.length : Int) then ((spec_l1Add.f (rd x7_1 3) t263).bind fun t272 => (spec_l2Compress.l0 k1 l0 t228 t231 (([t267, rd x7_1 0, rd x7_1 1, rd x7_1 2, t272, rd x7_1 4, rd x7_1 5, rd x7_1 6] : List Int)) (wrap64 (x8_1 + 1)))) else (none)) = some r := H
                            have A35 := Aside0.mk A350
                            clear A350
                            by_cases c36 : 3 < (x7_1.length : Int)
                            · rw [if_pos c36] at H
                              have c36b0 : decide (3 < (x7_1.length : Int)) = true := decide_eq_true c36
                              have c36b1 : decide (3 < x7_1.length) = true := decide_eq_true (by omega)
                              clear c36
                              replace H := Option.bind_eq_some_iff.mp H
                              obtain ⟨t272, A370, H⟩ := H
                              replace H : (spec_l2Compress.l0 k1 l0 t228 t231 (([t267, rd x7_1 0, rd x7_1 1, rd x7_1 2, t272, rd x7_1 4, rd x7_1 5, rd x7_1 6] : List Int)) (wrap64 (x8_1 + 1))) = some r := H
                              have A37 := Aside0.mk A370
                              clear A370
                              obtain ⟨y276, hy276⟩ : ∃ y_ : List Int, y_ = (([t267, rd x7_1 0, rd x7_1 1, rd x7_1 2, t272, rd x7_1 4, rd x7_1 5, rd x7_1 6] : List Int)) := ⟨_, rfl⟩
                              replace H : (spec_l2Compress.l0 k1 l0 t228 t231 y276 (wrap64 (x8_1 + 1))) = some r := by first | (rw [hy276]; with_reducible exact H) | (have H2_ := (Option.bind_some _ _).symm.trans H; rw [hy276]; with_reducible exact H2_) | (have H2_ := (Option.bind_some _ _).symm.trans H; with_reducible exact H2_) | with_reducible exact H | (rw [hy276]; exact H) | exact H
                              have Ny276 := Aside0.mk hy276
                              clear hy276
                              have H' := Aside0.mk H
                              clear H
                              try go_wp2
                              have n0_ := Aside0.mk (Kd.R_drew HO_5.out)
                              have n1_ := Aside0.mk (Kd.R_drew HO_6.out)
                              have n2_ := Aside0.mk (Kd.R_drew HO_7.out)
                              have n3_ := Aside0.mk (below_drew1 HB.out)
                              clear HO_5
                              clear HO_6
                              clear HO_7
                              clear HB
                              have HO_5 := n0_
                              have HO_6 := n1_
                              have HO_7 := n2_
                              have HB := n3_
                              clear n0_ n1_ n2_ n3_
                              obtain ⟨Ao39, co39, eo39⟩ := Kd.R_slice HO_7.out
                              (first | subst eo39 | (injection eo39 with f1_ f2_ f3_; have f4_ := f1_.symm; have f5_ := f3_.symm; clear f1_ f2_ f3_; subst f4_; subst f5_))
                              have p237 : 0 ≤ (4 : Int) := (by omega)
                              have q237 : 4 < (x7_1.length : Int) := of_decide_eq_true (by first | (with_reducible assumption) | assumption)
                              obtain ⟨ad237, e237, hx237_0⟩ := Kd.at_int (Kd.R_reads' HO_7.out).2.2 4 p237 q237
                              cases e237
                              (try simp only [show (4 : Int).toNat = 4 from rfl, Nat.reduceMul, Nat.reduceEqDiff, Go.Addr.add, ↓reduceIte] at hx237_0)
                              have qi237 : (4 < x7_1.length) = True := eq_true (by omega)
                              (try rw [show ((4 : Int)).toNat = 4 from rfl] at hx237_0)
                              replace p237 := eq_true p237
                              replace q237 := eq_true q237
                              have p238 : 0 ≤ (5 : Int) := (by omega)
                              have q238 : 5 < (x7_1.length : Int) := of_decide_eq_true (by first | (with_reducible assumption) | assumption)
                              obtain ⟨ad238, e238, hx238_0⟩ := Kd.at_int (Kd.R_reads' HO_7.out).2.2 5 p238 q238
                              obtain rfl : ad237 = ad238 := (by injection e238)
                              (try simp only [show (5 : Int).toNat = 5 from rfl, Nat.reduceMul, Nat.reduceEqDiff, Go.Addr.add, ↓reduceIte] at hx238_0)
                              have qi238 : (5 < x7_1.length) = True := eq_true (by omega)
                              (try rw [show ((5 : Int)).toNat = 5 from rfl] at hx238_0)
                              replace p238 := eq_true p238
                              replace q238 := eq_true q238
                              have p240 : 0 ≤ (4 : Int) := (by omega)
                              have q240 : 4 < (x7_1.length : Int) := of_decide_eq_true (by first | (with_reducible assumption) | assumption)
                              obtain ⟨ad240, e240, hx240_0⟩ := Kd.at_int (Kd.R_reads' HO_7.out).2.2 4 p240 q240
                              obtain rfl : ad237 = ad240 := (by injection e240)
                              (try simp only [show (4 : Int).toNat = 4 from rfl, Nat.reduceMul, Nat.reduceEqDiff, Go.Addr.add, ↓reduceIte] at hx240_0)
                              have qi240 : (4 < x7_1.length) = True := eq_true (by omega)
                              (try rw [show ((4 : Int)).toNat = 4 from rfl] at hx240_0)
                              replace p240 := eq_true p240
                              replace q240 := eq_true q240
                              have p241 : 0 ≤ (6 : Int) := (by omega)
                              have q241 : 6 < (x7_1.length : Int) := of_decide_eq_true (by first | (with_reducible assumption) | assumption)
                              obtain ⟨ad241, e241, hx241_0⟩ := Kd.at_int (Kd.R_reads' HO_7.out).2.2 6 p241 q241
                              obtain rfl : ad237 = ad241 := (by injection e241)
                              (try simp only [show (6 : Int).toNat = 6 from rfl, Nat.reduceMul, Nat.reduceEqDiff, Go.Addr.add, ↓reduceIte] at hx241_0)
                              have qi241 : (6 < x7_1.length) = True := eq_true (by omega)
                              (try rw [show ((6 : Int)).toNat = 6 from rfl] at hx241_0)
                              replace p241 := eq_true p241
                              replace q241 := eq_true q241
                              refine start_ (n := 17) (S := fun w' => w'.cell? ⟨ad237.block, ad237.off + 4, none⟩ = some (.int .i64 (rd x7_1 4)) ∧ w'.cell? ⟨ad237.block, ad237.off + 5, none⟩ = some (.int .i64 (rd x7_1 5)) ∧ w'.cell? ⟨ad237.block, ad237.off + 4, none⟩ = some (.int .i64 (rd x7_1 4)) ∧ w'.cell? ⟨ad237.block, ad237.off + 6, none⟩ = some (.int .i64 (rd x7_1 6))) (ds := []) #[false, false, false, false, false, false, false, false, false, false, false, false, false, false, false, false, false] (by kernel_rfl) rfl rfl ⟨hx237_0, hx238_0, hx240_0, hx241_0⟩ (fun hHeld => ?_); refine with_tabW spec_l2Compress.tab7 spec_l2Compress.bits7 (fun HT_ HW_ => ?_)
                              generalize wr.drew = w38 at HO_5 HO_6 HO_7 HB hx237_0 hx238_0 hx240_0 hx241_0 hHeld ⊢
                              refine pure_ (i := 0) (N := some 24) (v := ?_) (a' := ?_) #[true, false, false, false, false, false, false, false, false, false, false, false, false, false, false, false, false] rfl rfl (any_of HT_.out (by kernel_rfl)) (fun _ _ _ h => h) (Or.inl ⟨by first | rfl | (simp [Region.wanted, yielded, *]; done) | (simp [Region.wanted, yielded, Int.tmod_eq_emod_of_nonneg (Int.natCast_nonneg _), *]; done) | (simp [Region.wanted, yielded]; omega), ?_⟩) ?_ ?_
                              rotate_left
                              · intro w'
                                go_simp
                                with_reducible rfl
                              rotate_left
                              · simp only [Act.put, List.setIfInBounds_toArray, List.set_cons_zero, List.set_cons_succ, i64_w, i32_w]
                                rfl
                              refine pure_ (i := 1) (N := some 25) (v := ?_) (a' := ?_) #[true, true, false, false, false, false, false, false, false, false, false, false, false, false, false, false, false] rfl rfl (any_of HT_.out (by kernel_rfl)) (fun _ _ _ h => h) (Or.inl ⟨by first | rfl | (simp [Region.wanted, yielded, *]; done) | (simp [Region.wanted, yielded, Int.tmod_eq_emod_of_nonneg (Int.natCast_nonneg _), *]; done) | (simp [Region.wanted, yielded]; omega), ?_⟩) ?_ ?_
                              rotate_left
                              · intro w'
                                go_simp
                                with_reducible rfl
                              rotate_left
                              · simp only [Act.put, List.setIfInBounds_toArray, List.set_cons_zero, List.set_cons_succ, i64_w, i32_w]
                                rfl
                              refine pure_ (i := 3) (N := some 27) (v := ?_) (a' := ?_) #[true, true, false, true, false, false, false, false, false, false, false, false, false, false, false, false, false] rfl rfl (any_of HT_.out (by kernel_rfl)) (fun _ _ _ h => h) (Or.inl ⟨by first | rfl | (simp [Region.wanted, yielded, *]; done) | (simp [Region.wanted, yielded, Int.tmod_eq_emod_of_nonneg (Int.natCast_nonneg _), *]; done) | (simp [Region.wanted, yielded]; omega), ?_⟩) ?_ ?_
                              rotate_left
                              · intro w'
                                go_simp
                                with_reducible rfl
                              rotate_left
                              · simp only [Act.put, List.setIfInBounds_toArray, List.set_cons_zero, List.set_cons_succ, i64_w, i32_w]
                                rfl
                              refine pure_ (i := 4) (N := some 28) (v := ?_) (a' := ?_) #[true, true, false, true, true, false, false, false, false, false, false, false, false, false, false, false, false] rfl rfl (any_of HT_.out (by kernel_rfl)) (fun _ _ _ h => h) (Or.inl ⟨by first | rfl | (simp [Region.wanted, yielded, *]; done) | (simp [Region.wanted, yielded, Int.tmod_eq_emod_of_nonneg (Int.natCast_nonneg _), *]; done) | (simp [Region.wanted, yielded]; omega), ?_⟩) ?_ ?_
                              rotate_left
                              · intro w'
                                go_simp
                                with_reducible rfl
                              rotate_left
                              · simp only [Act.put, List.setIfInBounds_toArray, List.set_cons_zero, List.set_cons_succ, i64_w, i32_w]
                                rfl
                              refine pure_ (i := 7) (N := some 31) (v := ?_) (a' := ?_) #[true, true, false, true, true, false, false, true, false, false, false, false, false, false, false, false, false] rfl rfl (any_of HT_.out (by kernel_rfl)) (fun _ _ _ h => h) (Or.inl ⟨by first | rfl | (simp [Region.wanted, yielded, *]; done) | (simp [Region.wanted, yielded, Int.tmod_eq_emod_of_nonneg (Int.natCast_nonneg _), *]; done) | (simp [Region.wanted, yielded]; omega), ?_⟩) ?_ ?_
                              rotate_left
                              · intro w'
                                go_simp
                                with_reducible rfl
                              rotate_left
                              · simp only [Act.put, List.setIfInBounds_toArray, List.set_cons_zero, List.set_cons_succ, i64_w, i32_w]
                                rfl
                              refine pure_ (i := 8) (N := some 32) (v := ?_) (a' := ?_) #[true, true, false, true, true, false, false, true, true, false, false, false, false, false, false, false, false] rfl rfl (any_of HT_.out (by kernel_rfl)) (fun _ _ _ h => h) (Or.inl ⟨by first | rfl | (simp [Region.wanted, yielded, *]; done) | (simp [Region.wanted, yielded, Int.tmod_eq_emod_of_nonneg (Int.natCast_nonneg _), *]; done) | (simp [Region.wanted, yielded]; omega), ?_⟩) ?_ ?_
                              rotate_left
                              · intro w'
                                go_simp
                                with_reducible rfl
                              rotate_left
                              · simp only [Act.put, List.setIfInBounds_toArray, List.set_cons_zero, List.set_cons_succ, i64_w, i32_w]
                                rfl
                              refine pure_ (i := 11) (N := some 35) (v := ?_) (a' := ?_) #[true, true, false, true, true, false, false, true, true, false, false, true, false, false, false, false, false] rfl rfl (any_of HT_.out (by kernel_rfl)) (fun _ _ _ h => h) (Or.inl ⟨by first | rfl | (simp [Region.wanted, yielded, *]; done) | (simp [Region.wanted, yielded, Int.tmod_eq_emod_of_nonneg (Int.natCast_nonneg _), *]; done) | (simp [Region.wanted, yielded]; omega), ?_⟩) ?_ ?_
                              rotate_left
                              · intro w'
                                go_simp
                                with_reducible rfl
                              rotate_left
                              · simp only [Act.put, List.setIfInBounds_toArray, List.set_cons_zero, List.set_cons_succ, i64_w, i32_w]
                                rfl
                              refine pure_ (i := 12) (N := some 36) (v := ?_) (a' := ?_) #[true, true, false, true, true, false, false, true, true, false, false, true, true, false, false, false, false] rfl rfl (any_of HT_.out (by kernel_rfl)) (fun _ _ _ h => h) (Or.inl ⟨by first | rfl | (simp [Region.wanted, yielded, *]; done) | (simp [Region.wanted, yielded, Int.tmod_eq_emod_of_nonneg (Int.natCast_nonneg _), *]; done) | (simp [Region.wanted, yielded]; omega), ?_⟩) ?_ ?_
                              rotate_left
                              · intro w'
                                go_simp
                                with_reducible rfl
                              rotate_left
                              · simp only [Act.put, List.setIfInBounds_toArray, List.set_cons_zero, List.set_cons_succ, i64_w, i32_w]
                                rfl
                              refine take_ (i := 2) (N := some 26) (v := ?_) (a' := ?_) #[true, true, true, true, true, false, false, true, true, false, false, true, true, false, false, false, false] rfl rfl (take_ofW HT_.out HW_.out (by kernel_rfl)) (fun _ _ _ h => h) (Or.inl ⟨by first | rfl | (simp [Region.wanted, yielded, *]; done) | (simp [Region.wanted, yielded, Int.tmod_eq_emod_of_nonneg (Int.natCast_nonneg _), *]; done) | (simp [Region.wanted, yielded]; omega), ?_⟩) hHeld ?_ ?_
                              rotate_left
                              · rintro w' ⟨s0, s1, s2, s3⟩
                                go_simp
                                with_reducible rfl
                              rotate_left
                              · simp only [Act.put, List.setIfInBounds_toArray, List.set_cons_zero, List.set_cons_succ, i64_w, i32_w]
                                rfl
                              refine take_ (i := 5) (N := some 29) (v := ?_) (a' := ?_) #[true, true, true, true, true, true, false, true, true, false, false, true, true, false, false, false, false] rfl rfl (take_ofW HT_.out HW_.out (by kernel_rfl)) (fun _ _ _ h => h) (Or.inl ⟨by first | rfl | (simp [Region.wanted, yielded, *]; done) | (simp [Region.wanted, yielded, Int.tmod_eq_emod_of_nonneg (Int.natCast_nonneg _), *]; done) | (simp [Region.wanted, yielded]; omega), ?_⟩) hHeld ?_ ?_
                              rotate_left
                              · rintro w' ⟨s0, s1, s2, s3⟩
                                go_simp
                                with_reducible rfl
                              rotate_left
                              · simp only [Act.put, List.setIfInBounds_toArray, List.set_cons_zero, List.set_cons_succ, i64_w, i32_w]
                                rfl
                              refine take_ (i := 9) (N := some 33) (v := ?_) (a' := ?_) #[true, true, true, true, true, true, false, true, true, true, false, true, true, false, false, false, false] rfl rfl (take_ofW HT_.out HW_.out (by kernel_rfl)) (fun _ _ _ h => h) (Or.inl ⟨by first | rfl | (simp [Region.wanted, yielded, *]; done) | (simp [Region.wanted, yielded, Int.tmod_eq_emod_of_nonneg (Int.natCast_nonneg _), *]; done) | (simp [Region.wanted, yielded]; omega), ?_⟩) hHeld ?_ ?_
                              rotate_left
                              · rintro w' ⟨s0, s1, s2, s3⟩
                                go_simp
                                with_reducible rfl
                              rotate_left
                              · simp only [Act.put, List.setIfInBounds_toArray, List.set_cons_zero, List.set_cons_succ, i64_w, i32_w]
                                rfl
                              refine pure_ (i := 10) (N := some 34) (v := ?_) (a' := ?_) #[true, true, true, true, true, true, false, true, true, true, true, true, true, false, false, false, false] rfl rfl (any_of HT_.out (by kernel_rfl)) (fun _ _ _ h => h) (Or.inl ⟨by first | rfl | (simp [Region.wanted, yielded, *]; done) | (simp [Region.wanted, yielded, Int.tmod_eq_emod_of_nonneg (Int.natCast_nonneg _), *]; done) | (simp [Region.wanted, yielded]; omega), ?_⟩) ?_ ?_
                              rotate_left
                              · intro w'
                                go_simp
                                with_reducible rfl
                              rotate_left
                              · simp only [Act.put, List.setIfInBounds_toArray, List.set_cons_zero, List.set_cons_succ, i64_w, i32_w]
                                rfl
                              refine take_ (i := 13) (N := some 37) (v := ?_) (a' := ?_) #[true, true, true, true, true, true, false, true, true, true, true, true, true, true, false, false, false] rfl rfl (take_ofW HT_.out HW_.out (by kernel_rfl)) (fun _ _ _ h => h) (Or.inl ⟨by first | rfl | (simp [Region.wanted, yielded, *]; done) | (simp [Region.wanted, yielded, Int.tmod_eq_emod_of_nonneg (Int.natCast_nonneg _), *]; done) | (simp [Region.wanted, yielded]; omega), ?_⟩) hHeld ?_ ?_
                              rotate_left
                              · rintro w' ⟨s0, s1, s2, s3⟩
                                go_simp
                                with_reducible rfl
                              rotate_left
                              · simp only [Act.put, List.setIfInBounds_toArray, List.set_cons_zero, List.set_cons_succ, i64_w, i32_w]
                                rfl
                              refine one_ (i := 6) (N := some 30) #[true, true, true, true, true, true, true, true, true, true, true, true, true, true, false, false, false] rfl rfl (one_of HT_.out (by kernel_rfl)) (by decide) (fun K hK => ?_)
                              refine goes_ Try.func133 (by kernel_rfl) rfl #[.int .i64 (rd x7_1 4), .int .i64 (rd x7_1 5)] (by first | rfl | (simp [Region.wanted, yielded, *]; done) | (simp [Region.wanted, yielded, Int.tmod_eq_emod_of_nonneg (Int.natCast_nonneg _), *]; done)) rfl rfl (by (try simp only [List.map_toArray, List.map_cons, List.map_nil]); first | done | rfl | (simp only [List.length_drop, List.length_take]; rfl)) ?_
                              with_reducible refine (spec_l2And.calls k1 (rd x7_1 4) (rd x7_1 5) t239 _ A12.out).mono ?_
                              rintro e w' ⟨rfl, ⟨nd, rfl⟩⟩
                              refine ⟨_, rfl, ?_⟩
                              refine hK.out _ _ ⟨hHeld.1, hHeld.2.1, hHeld.2.2.1, hHeld.2.2.2⟩ (fun hHeld => ?_)
                              clear hK K
                              refine norm_ (a' := ?_) ?_ ?_
                              rotate_left
                              · show Act.put _ (some 30) _ = _
                                simp only [Act.put, List.setIfInBounds_toArray, List.set_cons_zero, List.set_cons_succ, i64_w, i32_w]
                                rfl
                              refine one_ (i := 14) (N := some 38) #[true, true, true, true, true, true, true, true, true, true, true, true, true, true, true, false, false] rfl rfl (one_of HT_.out (by kernel_rfl)) (by decide) (fun K hK => ?_)
                              refine goes_ Try.func133 (by kernel_rfl) rfl #[.int .i64 (wrap64 (4294967295 - (rd x7_1 4))), .int .i64 (rd x7_1 6)] (by first | rfl | (simp [Region.wanted, yielded, *]; done) | (simp [Region.wanted, yielded, Int.tmod_eq_emod_of_nonneg (Int.natCast_nonneg _), *]; done)) rfl rfl (by (try simp only [List.map_toArray, List.map_cons, List.map_nil]); first | done | rfl | (simp only [List.length_drop, List.length_take]; rfl)) ?_
                              with_reducible refine (spec_l2And.calls k1 (wrap64 (4294967295 - (rd x7_1 4))) (rd x7_1 6) t242 _ A14.out).mono ?_
                              rintro e w' ⟨rfl, ⟨nd, rfl⟩⟩
                              refine ⟨_, rfl, ?_⟩
                              refine hK.out _ _ ⟨hHeld.1, hHeld.2.1, hHeld.2.2.1, hHeld.2.2.2⟩ (fun hHeld => ?_)
                              clear hK K
                              refine norm_ (a' := ?_) ?_ ?_
                              rotate_left
                              · show Act.put _ (some 38) _ = _
                                simp only [Act.put, List.setIfInBounds_toArray, List.set_cons_zero, List.set_cons_succ, i64_w, i32_w]
                                rfl
                              refine one_ (i := 15) (N := some 39) #[true, true, true, true, true, true, true, true, true, true, true, true, true, true, true, true, false] rfl rfl (one_of HT_.out (by kernel_rfl)) (by decide) (fun K hK => ?_)
                              refine goes_ Try.func132 (by kernel_rfl) rfl #[.int .i64 t239, .int .i64 t242] (by first | rfl | (simp [Region.wanted, yielded, *]; done) | (simp [Region.wanted, yielded, Int.tmod_eq_emod_of_nonneg (Int.natCast_nonneg _), *]; done)) rfl rfl (by (try simp only [List.map_toArray, List.map_cons, List.map_nil]); first | done | rfl | (simp only [List.length_drop, List.length_take]; rfl)) ?_
                              with_reducible refine (spec_l2Xor.calls k1 t239 t242 t243 _ A15.out).mono ?_
                              rintro e w' ⟨rfl, ⟨nd, rfl⟩⟩
                              refine ⟨_, rfl, ?_⟩
                              refine hK.out _ _ ⟨hHeld.1, hHeld.2.1, hHeld.2.2.1, hHeld.2.2.2⟩ (fun hHeld => ?_)
                              clear hK K
                              refine norm_ (a' := ?_) ?_ ?_
                              rotate_left
                              · show Act.put _ (some 39) _ = _
                                simp only [Act.put, List.setIfInBounds_toArray, List.set_cons_zero, List.set_cons_succ, i64_w, i32_w]
                                rfl
                              refine pure_ (i := 16) (N := some 9) (v := ?_) (a' := ?_) #[true, true, true, true, true, true, true, true, true, true, true, true, true, true, true, true, true] rfl rfl (any_of HT_.out (by kernel_rfl)) (fun _ _ _ h => h) (Or.inl ⟨by first | rfl | (simp [Region.wanted, yielded, *]; done) | (simp [Region.wanted, yielded, Int.tmod_eq_emod_of_nonneg (Int.natCast_nonneg _), *]; done) | (simp [Region.wanted, yielded]; omega), ?_⟩) ?_ ?_
                              rotate_left
                              · intro w'
                                go_simp
                                with_reducible rfl
                              rotate_left
                              · simp only [Act.put, List.setIfInBounds_toArray, List.set_cons_zero, List.set_cons_succ, i64_w, i32_w]
                                rfl
                              refine done_ (done_of HT_.out (by kernel_rfl)) ?_
                              try go_wp2
                              (try (rw [drewN_self w38]; generalize hq_ : World.drewN w38 _ = w38; have n0_ := Aside0.mk (Kd.R_at hq_ HO_5.out); have n1_ := Aside0.mk (Kd.R_at hq_ HO_6.out); have n2_ := Aside0.mk (Kd.R_at hq_ HO_7.out); have n3_ := Aside0.mk (below_at hq_ HB.out); clear hq_ HO_5 HO_6 HO_7 HB; have HO_5 := n0_; have HO_6 := n1_; have HO_7 := n2_; have HB := n3_; clear n0_ n1_ n2_ n3_))
                              have n0_ := Aside0.mk (Kd.R_drew HO_5.out)
                              have n1_ := Aside0.mk (Kd.R_drew HO_6.out)
                              have n2_ := Aside0.mk (Kd.R_drew HO_7.out)
                              have n3_ := Aside0.mk (below_drew1 HB.out)
                              clear HO_5
                              clear HO_6
                              clear HO_7
                              clear HB
                              have HO_5 := n0_
                              have HO_6 := n1_
                              have HO_7 := n2_
                              have HB := n3_
                              clear n0_ n1_ n2_ n3_
                              have p244 : 0 ≤ (0 : Int) := (by omega)
                              have q244 : 0 < (x7_1.length : Int) := of_decide_eq_true (by first | (with_reducible assumption) | assumption)
                              obtain ⟨ad244, e244, hx244_0⟩ := Kd.at_int (Kd.R_reads' HO_7.out).2.2 0 p244 q244
                              obtain rfl : ad237 = ad244 := (by injection e244)
                              have qi244 : (0 < x7_1.length) = True := eq_true (by omega)
                              (try rw [show ((0 : Int)).toNat = 0 from rfl] at hx244_0)
                              (try rw [Addr.add_zero'] at hx244_0)
                              replace p244 := eq_true p244
                              replace q244 := eq_true q244
                              have p245 : 0 ≤ (1 : Int) := (by omega)
                              have q245 : 1 < (x7_1.length : Int) := of_decide_eq_true (by first | (with_reducible assumption) | assumption)
                              obtain ⟨ad245, e245, hx245_0⟩ := Kd.at_int (Kd.R_reads' HO_7.out).2.2 1 p245 q245
                              obtain rfl : ad237 = ad245 := (by injection e245)
                              (try simp only [show (1 : Int).toNat = 1 from rfl, Nat.reduceMul, Nat.reduceEqDiff, Go.Addr.add, ↓reduceIte] at hx245_0)
                              have qi245 : (1 < x7_1.length) = True := eq_true (by omega)
                              (try rw [show ((1 : Int)).toNat = 1 from rfl] at hx245_0)
                              replace p245 := eq_true p245
                              replace q245 := eq_true q245
                              have p247 : 0 ≤ (0 : Int) := (by omega)
                              have q247 : 0 < (x7_1.length : Int) := of_decide_eq_true (by first | (with_reducible assumption) | assumption)
                              obtain ⟨ad247, e247, hx247_0⟩ := Kd.at_int (Kd.R_reads' HO_7.out).2.2 0 p247 q247
                              obtain rfl : ad237 = ad247 := (by injection e247)
                              have qi247 : (0 < x7_1.length) = True := eq_true (by omega)
                              (try rw [show ((0 : Int)).toNat = 0 from rfl] at hx247_0)
                              (try rw [Addr.add_zero'] at hx247_0)
                              replace p247 := eq_true p247
                              replace q247 := eq_true q247
                              have p248 : 0 ≤ (2 : Int) := (by omega)
                              have q248 : 2 < (x7_1.length : Int) := of_decide_eq_true (by first | (with_reducible assumption) | assumption)
                              obtain ⟨ad248, e248, hx248_0⟩ := Kd.at_int (Kd.R_reads' HO_7.out).2.2 2 p248 q248
                              obtain rfl : ad237 = ad248 := (by injection e248)
                              (try simp only [show (2 : Int).toNat = 2 from rfl, Nat.reduceMul, Nat.reduceEqDiff, Go.Addr.add, ↓reduceIte] at hx248_0)
                              have qi248 : (2 < x7_1.length) = True := eq_true (by omega)
                              (try rw [show ((2 : Int)).toNat = 2 from rfl] at hx248_0)
                              replace p248 := eq_true p248
                              replace q248 := eq_true q248
                              have p251 : 0 ≤ (1 : Int) := (by omega)
                              have q251 : 1 < (x7_1.length : Int) := of_decide_eq_true (by first | (with_reducible assumption) | assumption)
                              obtain ⟨ad251, e251, hx251_0⟩ := Kd.at_int (Kd.R_reads' HO_7.out).2.2 1 p251 q251
                              obtain rfl : ad237 = ad251 := (by injection e251)
                              (try simp only [show (1 : Int).toNat = 1 from rfl, Nat.reduceMul, Nat.reduceEqDiff, Go.Addr.add, ↓reduceIte] at hx251_0)
                              have qi251 : (1 < x7_1.length) = True := eq_true (by omega)
                              (try rw [show ((1 : Int)).toNat = 1 from rfl] at hx251_0)
                              replace p251 := eq_true p251
                              replace q251 := eq_true q251
                              have p252 : 0 ≤ (2 : Int) := (by omega)
                              have q252 : 2 < (x7_1.length : Int) := of_decide_eq_true (by first | (with_reducible assumption) | assumption)
                              obtain ⟨ad252, e252, hx252_0⟩ := Kd.at_int (Kd.R_reads' HO_7.out).2.2 2 p252 q252
                              obtain rfl : ad237 = ad252 := (by injection e252)
                              (try simp only [show (2 : Int).toNat = 2 from rfl, Nat.reduceMul, Nat.reduceEqDiff, Go.Addr.add, ↓reduceIte] at hx252_0)
                              have qi252 : (2 < x7_1.length) = True := eq_true (by omega)
                              (try rw [show ((2 : Int)).toNat = 2 from rfl] at hx252_0)
                              replace p252 := eq_true p252
                              replace q252 := eq_true q252
                              refine start_ (n := 24) (S := fun w' => w'.cell? ad237 = some (.int .i64 (rd x7_1 0)) ∧ w'.cell? ⟨ad237.block, ad237.off + 1, none⟩ = some (.int .i64 (rd x7_1 1)) ∧ w'.cell? ad237 = some (.int .i64 (rd x7_1 0)) ∧ w'.cell? ⟨ad237.block, ad237.off + 2, none⟩ = some (.int .i64 (rd x7_1 2)) ∧ w'.cell? ⟨ad237.block, ad237.off + 1, none⟩ = some (.int .i64 (rd x7_1 1)) ∧ w'.cell? ⟨ad237.block, ad237.off + 2, none⟩ = some (.int .i64 (rd x7_1 2))) (ds := []) #[false, false, false, false, false, false, false, false, false, false, false, false, false, false, false, false, false, false, false, false, false, false, false, false] (by kernel_rfl) rfl rfl ⟨hx244_0, hx245_0, hx247_0, hx248_0, hx251_0, hx252_0⟩ (fun hHeld => ?_); refine with_tabW spec_l2Compress.tab8 spec_l2Compress.bits8 (fun HT_ HW_ => ?_)
                              generalize w38.drew = w40 at HO_5 HO_6 HO_7 HB hx244_0 hx245_0 hx247_0 hx248_0 hx251_0 hx252_0 hHeld ⊢
                              refine pure_ (i := 0) (N := some 40) (v := ?_) (a' := ?_) #[true, false, false, false, false, false, false, false, false, false, false, false, false, false, false, false, false, false, false, false, false, false, false, false] rfl rfl (any_of HT_.out (by kernel_rfl)) (fun _ _ _ h => h) (Or.inl ⟨by first | rfl | (simp [Region.wanted, yielded, *]; done) | (simp [Region.wanted, yielded, Int.tmod_eq_emod_of_nonneg (Int.natCast_nonneg _), *]; done) | (simp [Region.wanted, yielded]; omega), ?_⟩) ?_ ?_
                              rotate_left
                              · intro w'
                                go_simp
                                with_reducible rfl
                              rotate_left
                              · simp only [Act.put, List.setIfInBounds_toArray, List.set_cons_zero, List.set_cons_succ, i64_w, i32_w]
                                rfl
                              refine pure_ (i := 1) (N := some 41) (v := ?_) (a' := ?_) #[true, true, false, false, false, false, false, false, false, false, false, false, false, false, false, false, false, false, false, false, false, false, false, false] rfl rfl (any_of HT_.out (by kernel_rfl)) (fun _ _ _ h => h) (Or.inl ⟨by first | rfl | (simp [Region.wanted, yielded, *]; done) | (simp [Region.wanted, yielded, Int.tmod_eq_emod_of_nonneg (Int.natCast_nonneg _), *]; done) | (simp [Region.wanted, yielded]; omega), ?_⟩) ?_ ?_
                              rotate_left
                              · intro w'
                                go_simp
                                with_reducible rfl
                              rotate_left
                              · simp only [Act.put, List.setIfInBounds_toArray, List.set_cons_zero, List.set_cons_succ, i64_w, i32_w]
                                rfl
                              refine pure_ (i := 3) (N := some 43) (v := ?_) (a' := ?_) #[true, true, false, true, false, false, false, false, false, false, false, false, false, false, false, false, false, false, false, false, false, false, false, false] rfl rfl (any_of HT_.out (by kernel_rfl)) (fun _ _ _ h => h) (Or.inl ⟨by first | rfl | (simp [Region.wanted, yielded, *]; done) | (simp [Region.wanted, yielded, Int.tmod_eq_emod_of_nonneg (Int.natCast_nonneg _), *]; done) | (simp [Region.wanted, yielded]; omega), ?_⟩) ?_ ?_
                              rotate_left
                              · intro w'
                                go_simp
                                with_reducible rfl
                              rotate_left
                              · simp only [Act.put, List.setIfInBounds_toArray, List.set_cons_zero, List.set_cons_succ, i64_w, i32_w]
                                rfl
                              refine pure_ (i := 4) (N := some 44) (v := ?_) (a' := ?_) #[true, true, false, true, true, false, false, false, false, false, false, false, false, false, false, false, false, false, false, false, false, false, false, false] rfl rfl (any_of HT_.out (by kernel_rfl)) (fun _ _ _ h => h) (Or.inl ⟨by first | rfl | (simp [Region.wanted, yielded, *]; done) | (simp [Region.wanted, yielded, Int.tmod_eq_emod_of_nonneg (Int.natCast_nonneg _), *]; done) | (simp [Region.wanted, yielded]; omega), ?_⟩) ?_ ?_
                              rotate_left
                              · intro w'
                                go_simp
                                with_reducible rfl
                              rotate_left
                              · simp only [Act.put, List.setIfInBounds_toArray, List.set_cons_zero, List.set_cons_succ, i64_w, i32_w]
                                rfl
                              refine pure_ (i := 7) (N := some 47) (v := ?_) (a' := ?_) #[true, true, false, true, true, false, false, true, false, false, false, false, false, false, false, false, false, false, false, false, false, false, false, false] rfl rfl (any_of HT_.out (by kernel_rfl)) (fun _ _ _ h => h) (Or.inl ⟨by first | rfl | (simp [Region.wanted, yielded, *]; done) | (simp [Region.wanted, yielded, Int.tmod_eq_emod_of_nonneg (Int.natCast_nonneg _), *]; done) | (simp [Region.wanted, yielded]; omega), ?_⟩) ?_ ?_
                              rotate_left
                              · intro w'
                                go_simp
                                with_reducible rfl
                              rotate_left
                              · simp only [Act.put, List.setIfInBounds_toArray, List.set_cons_zero, List.set_cons_succ, i64_w, i32_w]
                                rfl
                              refine pure_ (i := 8) (N := some 48) (v := ?_) (a' := ?_) #[true, true, false, true, true, false, false, true, true, false, false, false, false, false, false, false, false, false, false, false, false, false, false, false] rfl rfl (any_of HT_.out (by kernel_rfl)) (fun _ _ _ h => h) (Or.inl ⟨by first | rfl | (simp [Region.wanted, yielded, *]; done) | (simp [Region.wanted, yielded, Int.tmod_eq_emod_of_nonneg (Int.natCast_nonneg _), *]; done) | (simp [Region.wanted, yielded]; omega), ?_⟩) ?_ ?_
                              rotate_left
                              · intro w'
                                go_simp
                                with_reducible rfl
                              rotate_left
                              · simp only [Act.put, List.setIfInBounds_toArray, List.set_cons_zero, List.set_cons_succ, i64_w, i32_w]
                                rfl
                              refine pure_ (i := 10) (N := some 50) (v := ?_) (a' := ?_) #[true, true, false, true, true, false, false, true, true, false, true, false, false, false, false, false, false, false, false, false, false, false, false, false] rfl rfl (any_of HT_.out (by kernel_rfl)) (fun _ _ _ h => h) (Or.inl ⟨by first | rfl | (simp [Region.wanted, yielded, *]; done) | (simp [Region.wanted, yielded, Int.tmod_eq_emod_of_nonneg (Int.natCast_nonneg _), *]; done) | (simp [Region.wanted, yielded]; omega), ?_⟩) ?_ ?_
                              rotate_left
                              · intro w'
                                go_simp
                                with_reducible rfl
                              rotate_left
                              · simp only [Act.put, List.setIfInBounds_toArray, List.set_cons_zero, List.set_cons_succ, i64_w, i32_w]
                                rfl
                              refine pure_ (i := 11) (N := some 51) (v := ?_) (a' := ?_) #[true, true, false, true, true, false, false, true, true, false, true, true, false, false, false, false, false, false, false, false, false, false, false, false] rfl rfl (any_of HT_.out (by kernel_rfl)) (fun _ _ _ h => h) (Or.inl ⟨by first | rfl | (simp [Region.wanted, yielded, *]; done) | (simp [Region.wanted, yielded, Int.tmod_eq_emod_of_nonneg (Int.natCast_nonneg _), *]; done) | (simp [Region.wanted, yielded]; omega), ?_⟩) ?_ ?_
                              rotate_left
                              · intro w'
                                go_simp
                                with_reducible rfl
                              rotate_left
                              · simp only [Act.put, List.setIfInBounds_toArray, List.set_cons_zero, List.set_cons_succ, i64_w, i32_w]
                                rfl
                              refine pure_ (i := 15) (N := some 55) (v := ?_) (a' := ?_) #[true, true, false, true, true, false, false, true, true, false, true, true, false, false, false, true, false, false, false, false, false, false, false, false] rfl rfl (any_of HT_.out (by kernel_rfl)) (fun _ _ _ h => h) (Or.inl ⟨by first | rfl | (simp [Region.wanted, yielded, *]; done) | (simp [Region.wanted, yielded, Int.tmod_eq_emod_of_nonneg (Int.natCast_nonneg _), *]; done) | (simp [Region.wanted, yielded]; omega), ?_⟩) ?_ ?_
                              rotate_left
                              · intro w'
                                go_simp
                                with_reducible rfl
                              rotate_left
                              · simp only [Act.put, List.setIfInBounds_toArray, List.set_cons_zero, List.set_cons_succ, i64_w, i32_w]
                                rfl
                              refine pure_ (i := 16) (N := some 56) (v := ?_) (a' := ?_) #[true, true, false, true, true, false, false, true, true, false, true, true, false, false, false, true, true, false, false, false, false, false, false, false] rfl rfl (any_of HT_.out (by kernel_rfl)) (fun _ _ _ h => h) (Or.inl ⟨by first | rfl | (simp [Region.wanted, yielded, *]; done) | (simp [Region.wanted, yielded, Int.tmod_eq_emod_of_nonneg (Int.natCast_nonneg _), *]; done) | (simp [Region.wanted, yielded]; omega), ?_⟩) ?_ ?_
                              rotate_left
                              · intro w'
                                go_simp
                                with_reducible rfl
                              rotate_left
                              · simp only [Act.put, List.setIfInBounds_toArray, List.set_cons_zero, List.set_cons_succ, i64_w, i32_w]
                                rfl
                              refine pure_ (i := 18) (N := some 58) (v := ?_) (a' := ?_) #[true, true, false, true, true, false, false, true, true, false, true, true, false, false, false, true, true, false, true, false, false, false, false, false] rfl rfl (any_of HT_.out (by kernel_rfl)) (fun _ _ _ h => h) (Or.inl ⟨by first | rfl | (simp [Region.wanted, yielded, *]; done) | (simp [Region.wanted, yielded, Int.tmod_eq_emod_of_nonneg (Int.natCast_nonneg _), *]; done) | (simp [Region.wanted, yielded]; omega), ?_⟩) ?_ ?_
                              rotate_left
                              · intro w'
                                go_simp
                                with_reducible rfl
                              rotate_left
                              · simp only [Act.put, List.setIfInBounds_toArray, List.set_cons_zero, List.set_cons_succ, i64_w, i32_w]
                                rfl
                              refine pure_ (i := 19) (N := some 59) (v := ?_) (a' := ?_) #[true, true, false, true, true, false, false, true, true, false, true, true, false, false, false, true, true, false, true, true, false, false, false, false] rfl rfl (any_of HT_.out (by kernel_rfl)) (fun _ _ _ h => h) (Or.inl ⟨by first | rfl | (simp [Region.wanted, yielded, *]; done) | (simp [Region.wanted, yielded, Int.tmod_eq_emod_of_nonneg (Int.natCast_nonneg _), *]; done) | (simp [Region.wanted, yielded]; omega), ?_⟩) ?_ ?_
                              rotate_left
                              · intro w'
                                go_simp
                                with_reducible rfl
                              rotate_left
                              · simp only [Act.put, List.setIfInBounds_toArray, List.set_cons_zero, List.set_cons_succ, i64_w, i32_w]
                                rfl
                              refine take_ (i := 2) (N := some 42) (v := ?_) (a' := ?_) #[true, true, true, true, true, false, false, true, true, false, true, true, false, false, false, true, true, false, true, true, false, false, false, false] rfl rfl (take_ofW HT_.out HW_.out (by kernel_rfl)) (fun _ _ _ h => h) (Or.inl ⟨by first | rfl | (simp [Region.wanted, yielded, *]; done) | (simp [Region.wanted, yielded, Int.tmod_eq_emod_of_nonneg (Int.natCast_nonneg _), *]; done) | (simp [Region.wanted, yielded]; omega), ?_⟩) hHeld ?_ ?_
                              rotate_left
                              · rintro w' ⟨s0, s1, s2, s3, s4, s5⟩
                                go_simp
                                with_reducible rfl
                              rotate_left
                              · simp only [Act.put, List.setIfInBounds_toArray, List.set_cons_zero, List.set_cons_succ, i64_w, i32_w]
                                rfl
                              refine take_ (i := 5) (N := some 45) (v := ?_) (a' := ?_) #[true, true, true, true, true, true, false, true, true, false, true, true, false, false, false, true, true, false, true, true, false, false, false, false] rfl rfl (take_ofW HT_.out HW_.out (by kernel_rfl)) (fun _ _ _ h => h) (Or.inl ⟨by first | rfl | (simp [Region.wanted, yielded, *]; done) | (simp [Region.wanted, yielded, Int.tmod_eq_emod_of_nonneg (Int.natCast_nonneg _), *]; done) | (simp [Region.wanted, yielded]; omega), ?_⟩) hHeld ?_ ?_
                              rotate_left
                              · rintro w' ⟨s0, s1, s2, s3, s4, s5⟩
                                go_simp
                                with_reducible rfl
                              rotate_left
                              · simp only [Act.put, List.setIfInBounds_toArray, List.set_cons_zero, List.set_cons_succ, i64_w, i32_w]
                                rfl
                              refine take_ (i := 9) (N := some 49) (v := ?_) (a' := ?_) #[true, true, true, true, true, true, false, true, true, true, true, true, false, false, false, true, true, false, true, true, false, false, false, false] rfl rfl (take_ofW HT_.out HW_.out (by kernel_rfl)) (fun _ _ _ h => h) (Or.inl ⟨by first | rfl | (simp [Region.wanted, yielded, *]; done) | (simp [Region.wanted, yielded, Int.tmod_eq_emod_of_nonneg (Int.natCast_nonneg _), *]; done) | (simp [Region.wanted, yielded]; omega), ?_⟩) hHeld ?_ ?_
                              rotate_left
                              · rintro w' ⟨s0, s1, s2, s3, s4, s5⟩
                                go_simp
                                with_reducible rfl
                              rotate_left
                              · simp only [Act.put, List.setIfInBounds_toArray, List.set_cons_zero, List.set_cons_succ, i64_w, i32_w]
                                rfl
                              refine take_ (i := 12) (N := some 52) (v := ?_) (a' := ?_) #[true, true, true, true, true, true, false, true, true, true, true, true, true, false, false, true, true, false, true, true, false, false, false, false] rfl rfl (take_ofW HT_.out HW_.out (by kernel_rfl)) (fun _ _ _ h => h) (Or.inl ⟨by first | rfl | (simp [Region.wanted, yielded, *]; done) | (simp [Region.wanted, yielded, Int.tmod_eq_emod_of_nonneg (Int.natCast_nonneg _), *]; done) | (simp [Region.wanted, yielded]; omega), ?_⟩) hHeld ?_ ?_
                              rotate_left
                              · rintro w' ⟨s0, s1, s2, s3, s4, s5⟩
                                go_simp
                                with_reducible rfl
                              rotate_left
                              · simp only [Act.put, List.setIfInBounds_toArray, List.set_cons_zero, List.set_cons_succ, i64_w, i32_w]
                                rfl
                              refine take_ (i := 17) (N := some 57) (v := ?_) (a' := ?_) #[true, true, true, true, true, true, false, true, true, true, true, true, true, false, false, true, true, true, true, true, false, false, false, false] rfl rfl (take_ofW HT_.out HW_.out (by kernel_rfl)) (fun _ _ _ h => h) (Or.inl ⟨by first | rfl | (simp [Region.wanted, yielded, *]; done) | (simp [Region.wanted, yielded, Int.tmod_eq_emod_of_nonneg (Int.natCast_nonneg _), *]; done) | (simp [Region.wanted, yielded]; omega), ?_⟩) hHeld ?_ ?_
                              rotate_left
                              · rintro w' ⟨s0, s1, s2, s3, s4, s5⟩
                                go_simp
                                with_reducible rfl
                              rotate_left
                              · simp only [Act.put, List.setIfInBounds_toArray, List.set_cons_zero, List.set_cons_succ, i64_w, i32_w]
                                rfl
                              refine take_ (i := 20) (N := some 60) (v := ?_) (a' := ?_) #[true, true, true, true, true, true, false, true, true, true, true, true, true, false, false, true, true, true, true, true, true, false, false, false] rfl rfl (take_ofW HT_.out HW_.out (by kernel_rfl)) (fun _ _ _ h => h) (Or.inl ⟨by first | rfl | (simp [Region.wanted, yielded, *]; done) | (simp [Region.wanted, yielded, Int.tmod_eq_emod_of_nonneg (Int.natCast_nonneg _), *]; done) | (simp [Region.wanted, yielded]; omega), ?_⟩) hHeld ?_ ?_
                              rotate_left
                              · rintro w' ⟨s0, s1, s2, s3, s4, s5⟩
                                go_simp
                                with_reducible rfl
                              rotate_left
                              · simp only [Act.put, List.setIfInBounds_toArray, List.set_cons_zero, List.set_cons_succ, i64_w, i32_w]
                                rfl
                              refine one_ (i := 6) (N := some 46) #[true, true, true, true, true, true, true, true, true, true, true, true, true, false, false, true, true, true, true, true, true, false, false, false] rfl rfl (one_of HT_.out (by kernel_rfl)) (by decide) (fun K hK => ?_)
                              refine goes_ Try.func133 (by kernel_rfl) rfl #[.int .i64 (rd x7_1 0), .int .i64 (rd x7_1 1)] (by first | rfl | (simp [Region.wanted, yielded, *]; done) | (simp [Region.wanted, yielded, Int.tmod_eq_emod_of_nonneg (Int.natCast_nonneg _), *]; done)) rfl rfl (by (try simp only [List.map_toArray, List.map_cons, List.map_nil]); first | done | rfl | (simp only [List.length_drop, List.length_take]; rfl)) ?_
                              with_reducible refine (spec_l2And.calls k1 (rd x7_1 0) (rd x7_1 1) t246 _ A18.out).mono ?_
                              rintro e w' ⟨rfl, ⟨nd, rfl⟩⟩
                              refine ⟨_, rfl, ?_⟩
                              refine hK.out _ _ ⟨hHeld.1, hHeld.2.1, hHeld.2.2.1, hHeld.2.2.2.1, hHeld.2.2.2.2.1, hHeld.2.2.2.2.2⟩ (fun hHeld => ?_)
                              clear hK K
                              refine norm_ (a' := ?_) ?_ ?_
                              rotate_left
                              · show Act.put _ (some 46) _ = _
                                simp only [Act.put, List.setIfInBounds_toArray, List.set_cons_zero, List.set_cons_succ, i64_w, i32_w]
                                rfl
                              refine one_ (i := 13) (N := some 53) #[true, true, true, true, true, true, true, true, true, true, true, true, true, true, false, true, true, true, true, true, true, false, false, false] rfl rfl (one_of HT_.out (by kernel_rfl)) (by decide) (fun K hK => ?_)
                              refine goes_ Try.func133 (by kernel_rfl) rfl #[.int .i64 (rd x7_1 0), .int .i64 (rd x7_1 2)] (by first | rfl | (simp [Region.wanted, yielded, *]; done) | (simp [Region.wanted, yielded, Int.tmod_eq_emod_of_nonneg (Int.natCast_nonneg _), *]; done)) rfl rfl (by (try simp only [List.map_toArray, List.map_cons, List.map_nil]); first | done | rfl | (simp only [List.length_drop, List.length_take]; rfl)) ?_
                              with_reducible refine (spec_l2And.calls k1 (rd x7_1 0) (rd x7_1 2) t249 _ A20.out).mono ?_
                              rintro e w' ⟨rfl, ⟨nd, rfl⟩⟩
                              refine ⟨_, rfl, ?_⟩
                              refine hK.out _ _ ⟨hHeld.1, hHeld.2.1, hHeld.2.2.1, hHeld.2.2.2.1, hHeld.2.2.2.2.1, hHeld.2.2.2.2.2⟩ (fun hHeld => ?_)
                              clear hK K
                              refine norm_ (a' := ?_) ?_ ?_
                              rotate_left
                              · show Act.put _ (some 53) _ = _
                                simp only [Act.put, List.setIfInBounds_toArray, List.set_cons_zero, List.set_cons_succ, i64_w, i32_w]
                                rfl
                              refine one_ (i := 14) (N := some 54) #[true, true, true, true, true, true, true, true, true, true, true, true, true, true, true, true, true, true, true, true, true, false, false, false] rfl rfl (one_of HT_.out (by kernel_rfl)) (by decide) (fun K hK => ?_)
                              refine goes_ Try.func132 (by kernel_rfl) rfl #[.int .i64 t246, .int .i64 t249] (by first | rfl | (simp [Region.wanted, yielded, *]; done) | (simp [Region.wanted, yielded, Int.tmod_eq_emod_of_nonneg (Int.natCast_nonneg _), *]; done)) rfl rfl (by (try simp only [List.map_toArray, List.map_cons, List.map_nil]); first | done | rfl | (simp only [List.length_drop, List.length_take]; rfl)) ?_
                              with_reducible refine (spec_l2Xor.calls k1 t246 t249 t250 _ A21.out).mono ?_
                              rintro e w' ⟨rfl, ⟨nd, rfl⟩⟩
                              refine ⟨_, rfl, ?_⟩
                              refine hK.out _ _ ⟨hHeld.1, hHeld.2.1, hHeld.2.2.1, hHeld.2.2.2.1, hHeld.2.2.2.2.1, hHeld.2.2.2.2.2⟩ (fun hHeld => ?_)
                              clear hK K
                              refine norm_ (a' := ?_) ?_ ?_
                              rotate_left
                              · show Act.put _ (some 54) _ = _
                                simp only [Act.put, List.setIfInBounds_toArray, List.set_cons_zero, List.set_cons_succ, i64_w, i32_w]
                                rfl
                              refine one_ (i := 21) (N := some 61) #[true, true, true, true, true, true, true, true, true, true, true, true, true, true, true, true, true, true, true, true, true, true, false, false] rfl rfl (one_of HT_.out (by kernel_rfl)) (by decide) (fun K hK => ?_)
                              refine goes_ Try.func133 (by kernel_rfl) rfl #[.int .i64 (rd x7_1 1), .int .i64 (rd x7_1 2)] (by first | rfl | (simp [Region.wanted, yielded, *]; done) | (simp [Region.wanted, yielded, Int.tmod_eq_emod_of_nonneg (Int.natCast_nonneg _), *]; done)) rfl rfl (by (try simp only [List.map_toArray, List.map_cons, List.map_nil]); first | done | rfl | (simp only [List.length_drop, List.length_take]; rfl)) ?_
                              with_reducible refine (spec_l2And.calls k1 (rd x7_1 1) (rd x7_1 2) t253 _ A22.out).mono ?_
                              rintro e w' ⟨rfl, ⟨nd, rfl⟩⟩
                              refine ⟨_, rfl, ?_⟩
                              refine hK.out _ _ ⟨hHeld.1, hHeld.2.1, hHeld.2.2.1, hHeld.2.2.2.1, hHeld.2.2.2.2.1, hHeld.2.2.2.2.2⟩ (fun hHeld => ?_)
                              clear hK K
                              refine norm_ (a' := ?_) ?_ ?_
                              rotate_left
                              · show Act.put _ (some 61) _ = _
                                simp only [Act.put, List.setIfInBounds_toArray, List.set_cons_zero, List.set_cons_succ, i64_w, i32_w]
                                rfl
                              refine one_ (i := 22) (N := some 62) #[true, true, true, true, true, true, true, true, true, true, true, true, true, true, true, true, true, true, true, true, true, true, true, false] rfl rfl (one_of HT_.out (by kernel_rfl)) (by decide) (fun K hK => ?_)
                              refine goes_ Try.func132 (by kernel_rfl) rfl #[.int .i64 t250, .int .i64 t253] (by first | rfl | (simp [Region.wanted, yielded, *]; done) | (simp [Region.wanted, yielded, Int.tmod_eq_emod_of_nonneg (Int.natCast_nonneg _), *]; done)) rfl rfl (by (try simp only [List.map_toArray, List.map_cons, List.map_nil]); first | done | rfl | (simp only [List.length_drop, List.length_take]; rfl)) ?_
                              with_reducible refine (spec_l2Xor.calls k1 t250 t253 t254 _ A23.out).mono ?_
                              rintro e w' ⟨rfl, ⟨nd, rfl⟩⟩
                              refine ⟨_, rfl, ?_⟩
                              refine hK.out _ _ ⟨hHeld.1, hHeld.2.1, hHeld.2.2.1, hHeld.2.2.2.1, hHeld.2.2.2.2.1, hHeld.2.2.2.2.2⟩ (fun hHeld => ?_)
                              clear hK K
                              refine norm_ (a' := ?_) ?_ ?_
                              rotate_left
                              · show Act.put _ (some 62) _ = _
                                simp only [Act.put, List.setIfInBounds_toArray, List.set_cons_zero, List.set_cons_succ, i64_w, i32_w]
                                rfl
                              refine pure_ (i := 23) (N := some 10) (v := ?_) (a' := ?_) #[true, true, true, true, true, true, true, true, true, true, true, true, true, true, true, true, true, true, true, true, true, true, true, true] rfl rfl (any_of HT_.out (by kernel_rfl)) (fun _ _ _ h => h) (Or.inl ⟨by first | rfl | (simp [Region.wanted, yielded, *]; done) | (simp [Region.wanted, yielded, Int.tmod_eq_emod_of_nonneg (Int.natCast_nonneg _), *]; done) | (simp [Region.wanted, yielded]; omega), ?_⟩) ?_ ?_
                              rotate_left
                              · intro w'
                                go_simp
                                with_reducible rfl
                              rotate_left
                              · simp only [Act.put, List.setIfInBounds_toArray, List.set_cons_zero, List.set_cons_succ, i64_w, i32_w]
                                rfl
                              refine done_ (done_of HT_.out (by kernel_rfl)) ?_
                              try go_wp2
                              (try (rw [drewN_self w40]; generalize hq_ : World.drewN w40 _ = w40; have n0_ := Aside0.mk (Kd.R_at hq_ HO_5.out); have n1_ := Aside0.mk (Kd.R_at hq_ HO_6.out); have n2_ := Aside0.mk (Kd.R_at hq_ HO_7.out); have n3_ := Aside0.mk (below_at hq_ HB.out); clear hq_ HO_5 HO_6 HO_7 HB; have HO_5 := n0_; have HO_6 := n1_; have HO_7 := n2_; have HB := n3_; clear n0_ n1_ n2_ n3_))
                              have n0_ := Aside0.mk (Kd.R_drew HO_5.out)
                              have n1_ := Aside0.mk (Kd.R_drew HO_6.out)
                              have n2_ := Aside0.mk (Kd.R_drew HO_7.out)
                              have n3_ := Aside0.mk (below_drew1 HB.out)
                              clear HO_5
                              clear HO_6
                              clear HO_7
                              clear HB
                              have HO_5 := n0_
                              have HO_6 := n1_
                              have HO_7 := n2_
                              have HB := n3_
                              clear n0_ n1_ n2_ n3_
                              have p255 : 0 ≤ (7 : Int) := (by omega)
                              have q255 : 7 < (x7_1.length : Int) := of_decide_eq_true (by first | (with_reducible assumption) | assumption)
                              obtain ⟨ad255, e255, hx255_0⟩ := Kd.at_int (Kd.R_reads' HO_7.out).2.2 7 p255 q255
                              obtain rfl : ad237 = ad255 := (by injection e255)
                              (try simp only [show (7 : Int).toNat = 7 from rfl, Nat.reduceMul, Nat.reduceEqDiff, Go.Addr.add, ↓reduceIte] at hx255_0)
                              have qi255 : (7 < x7_1.length) = True := eq_true (by omega)
                              (try rw [show ((7 : Int)).toNat = 7 from rfl] at hx255_0)
                              replace p255 := eq_true p255
                              replace q255 := eq_true q255
                              have p256 : 0 ≤ (4 : Int) := (by omega)
                              have q256 : 4 < (x7_1.length : Int) := of_decide_eq_true (by first | (with_reducible assumption) | assumption)
                              obtain ⟨ad256, e256, hx256_0⟩ := Kd.at_int (Kd.R_reads' HO_7.out).2.2 4 p256 q256
                              obtain rfl : ad237 = ad256 := (by injection e256)
                              (try simp only [show (4 : Int).toNat = 4 from rfl, Nat.reduceMul, Nat.reduceEqDiff, Go.Addr.add, ↓reduceIte] at hx256_0)
                              have qi256 : (4 < x7_1.length) = True := eq_true (by omega)
                              (try rw [show ((4 : Int)).toNat = 4 from rfl] at hx256_0)
                              replace p256 := eq_true p256
                              replace q256 := eq_true q256
                              obtain ⟨Ao42, co42, eo42⟩ := Kd.R_slice HO_5.out
                              (first | subst eo42 | (injection eo42 with f1_ f2_ f3_; have f4_ := f1_.symm; have f5_ := f3_.symm; clear f1_ f2_ f3_; subst f4_; subst f5_))
                              have p260 : 0 ≤ (x8_1 : Int) := of_decide_eq_true (by first | (with_reducible assumption) | assumption)
                              have q260 : x8_1 < (t228.length : Int) := of_decide_eq_true (by first | (with_reducible assumption) | assumption)
                              obtain ⟨ad260, e260, hx260_0⟩ := Kd.at_int (Kd.R_reads' HO_5.out).2.2 x8_1 p260 q260
                              cases e260
                              replace p260 := eq_true p260
                              replace q260 := eq_true q260
                              obtain ⟨Ao43, co43, eo43⟩ := Kd.R_slice HO_6.out
                              (first | subst eo43 | (injection eo43 with f1_ f2_ f3_; have f4_ := f1_.symm; have f5_ := f3_.symm; clear f1_ f2_ f3_; subst f4_; subst f5_))
                              have p261 : 0 ≤ (x8_1 : Int) := of_decide_eq_true (by first | (with_reducible assumption) | assumption)
                              have q261 : x8_1 < (t231.length : Int) := of_decide_eq_true (by first | (with_reducible assumption) | assumption)
                              obtain ⟨ad261, e261, hx261_0⟩ := Kd.at_int (Kd.R_reads' HO_6.out).2.2 x8_1 p261 q261
                              cases e261
                              replace p261 := eq_true p261
                              replace q261 := eq_true q261
                              refine start_ (n := 21) (S := fun w' => w'.cell? ⟨ad237.block, ad237.off + 7, none⟩ = some (.int .i64 (rd x7_1 7)) ∧ w'.cell? ⟨ad237.block, ad237.off + 4, none⟩ = some (.int .i64 (rd x7_1 4)) ∧ w'.cell? (ad260.add (x8_1).toNat) = some (.int .i64 (rd t228 x8_1)) ∧ w'.cell? (ad261.add (x8_1).toNat) = some (.int .i64 (rd t231 x8_1))) (ds := []) #[false, false, false, false, false, false, false, false, false, false, false, false, false, false, false, false, false, false, false, false, false] (by kernel_rfl) rfl rfl ⟨hx255_0, hx256_0, hx260_0, hx261_0⟩ (fun hHeld => ?_); refine with_tabW spec_l2Compress.tab9 spec_l2Compress.bits9 (fun HT_ HW_ => ?_)
                              generalize w40.drew = w41 at HO_5 HO_6 HO_7 HB hx255_0 hx256_0 hx260_0 hx261_0 hHeld ⊢
                              refine pure_ (i := 0) (N := some 63) (v := ?_) (a' := ?_) #[true, false, false, false, false, false, false, false, false, false, false, false, false, false, false, false, false, false, false, false, false] rfl rfl (any_of HT_.out (by kernel_rfl)) (fun _ _ _ h => h) (Or.inl ⟨by first | rfl | (simp [Region.wanted, yielded, *]; done) | (simp [Region.wanted, yielded, Int.tmod_eq_emod_of_nonneg (Int.natCast_nonneg _), *]; done) | (simp [Region.wanted, yielded]; omega), ?_⟩) ?_ ?_
                              rotate_left
                              · intro w'
                                go_simp
                                with_reducible rfl
                              rotate_left
                              · simp only [Act.put, List.setIfInBounds_toArray, List.set_cons_zero, List.set_cons_succ, i64_w, i32_w]
                                rfl
                              refine pure_ (i := 1) (N := some 64) (v := ?_) (a' := ?_) #[true, true, false, false, false, false, false, false, false, false, false, false, false, false, false, false, false, false, false, false, false] rfl rfl (any_of HT_.out (by kernel_rfl)) (fun _ _ _ h => h) (Or.inl ⟨by first | rfl | (simp [Region.wanted, yielded, *]; done) | (simp [Region.wanted, yielded, Int.tmod_eq_emod_of_nonneg (Int.natCast_nonneg _), *]; done) | (simp [Region.wanted, yielded]; omega), ?_⟩) ?_ ?_
                              rotate_left
                              · intro w'
                                go_simp
                                with_reducible rfl
                              rotate_left
                              · simp only [Act.put, List.setIfInBounds_toArray, List.set_cons_zero, List.set_cons_succ, i64_w, i32_w]
                                rfl
                              refine pure_ (i := 3) (N := some 66) (v := ?_) (a' := ?_) #[true, true, false, true, false, false, false, false, false, false, false, false, false, false, false, false, false, false, false, false, false] rfl rfl (any_of HT_.out (by kernel_rfl)) (fun _ _ _ h => h) (Or.inl ⟨by first | rfl | (simp [Region.wanted, yielded, *]; done) | (simp [Region.wanted, yielded, Int.tmod_eq_emod_of_nonneg (Int.natCast_nonneg _), *]; done) | (simp [Region.wanted, yielded]; omega), ?_⟩) ?_ ?_
                              rotate_left
                              · intro w'
                                go_simp
                                with_reducible rfl
                              rotate_left
                              · simp only [Act.put, List.setIfInBounds_toArray, List.set_cons_zero, List.set_cons_succ, i64_w, i32_w]
                                rfl
                              refine pure_ (i := 4) (N := some 67) (v := ?_) (a' := ?_) #[true, true, false, true, true, false, false, false, false, false, false, false, false, false, false, false, false, false, false, false, false] rfl rfl (any_of HT_.out (by kernel_rfl)) (fun _ _ _ h => h) (Or.inl ⟨by first | rfl | (simp [Region.wanted, yielded, *]; done) | (simp [Region.wanted, yielded, Int.tmod_eq_emod_of_nonneg (Int.natCast_nonneg _), *]; done) | (simp [Region.wanted, yielded]; omega), ?_⟩) ?_ ?_
                              rotate_left
                              · intro w'
                                go_simp
                                with_reducible rfl
                              rotate_left
                              · simp only [Act.put, List.setIfInBounds_toArray, List.set_cons_zero, List.set_cons_succ, i64_w, i32_w]
                                rfl
                              refine pure_ (i := 8) (N := some 71) (v := ?_) (a' := ?_) #[true, true, false, true, true, false, false, false, true, false, false, false, false, false, false, false, false, false, false, false, false] rfl rfl (any_of HT_.out (by kernel_rfl)) (fun _ _ _ h => h) (Or.inl ⟨by first | rfl | (simp [Region.wanted, yielded, *]; done) | (simp [Region.wanted, yielded, Int.tmod_eq_emod_of_nonneg (Int.natCast_nonneg _), *]; done) | (simp [Region.wanted, yielded]; omega), ?_⟩) ?_ ?_
                              rotate_left
                              · intro w'
                                go_simp
                                with_reducible rfl
                              rotate_left
                              · simp only [Act.put, List.setIfInBounds_toArray, List.set_cons_zero, List.set_cons_succ, i64_w, i32_w]
                                rfl
                              refine pure_ (i := 10) (N := some 73) (v := ?_) (a' := ?_) #[true, true, false, true, true, false, false, false, true, false, true, false, false, false, false, false, false, false, false, false, false] rfl rfl (any_of HT_.out (by kernel_rfl)) (fun _ _ _ h => h) (Or.inl ⟨by first | rfl | (simp [Region.wanted, yielded, *]; done) | (simp [Region.wanted, yielded, Int.tmod_eq_emod_of_nonneg (Int.natCast_nonneg _), *]; done) | (simp [Region.wanted, yielded]; omega), ?_⟩) ?_ ?_
                              rotate_left
                              · intro w'
                                go_simp
                                with_reducible rfl
                              rotate_left
                              · simp only [Act.put, List.setIfInBounds_toArray, List.set_cons_zero, List.set_cons_succ, i64_w, i32_w]
                                rfl
                              refine pure_ (i := 11) (N := some 74) (v := ?_) (a' := ?_) #[true, true, false, true, true, false, false, false, true, false, true, true, false, false, false, false, false, false, false, false, false] rfl rfl (any_of HT_.out (by kernel_rfl)) (fun _ _ _ h => h) (Or.inl ⟨by first | rfl | (simp [Region.wanted, yielded, *]; done) | (simp [Region.wanted, yielded, Int.tmod_eq_emod_of_nonneg (Int.natCast_nonneg _), *]; done) | (simp [Region.wanted, yielded]; omega), ?_⟩) ?_ ?_
                              rotate_left
                              · intro w'
                                go_simp
                                with_reducible rfl
                              rotate_left
                              · simp only [Act.put, List.setIfInBounds_toArray, List.set_cons_zero, List.set_cons_succ, i64_w, i32_w]
                                rfl
                              refine pure_ (i := 12) (N := some 75) (v := ?_) (a' := ?_) #[true, true, false, true, true, false, false, false, true, false, true, true, true, false, false, false, false, false, false, false, false] rfl rfl (any_of HT_.out (by kernel_rfl)) (fun _ _ _ h => h) (Or.inl ⟨by first | rfl | (simp [Region.wanted, yielded, *]; done) | (simp [Region.wanted, yielded, Int.tmod_eq_emod_of_nonneg (Int.natCast_nonneg _), *]; done) | (simp [Region.wanted, yielded]; omega), ?_⟩) ?_ ?_
                              rotate_left
                              · intro w'
                                go_simp
                                with_reducible rfl
                              rotate_left
                              · simp only [Act.put, List.setIfInBounds_toArray, List.set_cons_zero, List.set_cons_succ, i64_w, i32_w]
                                rfl
                              refine pure_ (i := 14) (N := some 77) (v := ?_) (a' := ?_) #[true, true, false, true, true, false, false, false, true, false, true, true, true, false, true, false, false, false, false, false, false] rfl rfl (any_of HT_.out (by kernel_rfl)) (fun _ _ _ h => h) (Or.inl ⟨by first | rfl | (simp [Region.wanted, yielded, *]; done) | (simp [Region.wanted, yielded, Int.tmod_eq_emod_of_nonneg (Int.natCast_nonneg _), *]; done) | (simp [Region.wanted, yielded]; omega), ?_⟩) ?_ ?_
                              rotate_left
                              · intro w'
                                go_simp
                                with_reducible rfl
                              rotate_left
                              · simp only [Act.put, List.setIfInBounds_toArray, List.set_cons_zero, List.set_cons_succ, i64_w, i32_w]
                                rfl
                              refine pure_ (i := 15) (N := some 78) (v := ?_) (a' := ?_) #[true, true, false, true, true, false, false, false, true, false, true, true, true, false, true, true, false, false, false, false, false] rfl rfl (any_of HT_.out (by kernel_rfl)) (fun _ _ _ h => h) (Or.inl ⟨by first | rfl | (simp [Region.wanted, yielded, *]; done) | (simp [Region.wanted, yielded, Int.tmod_eq_emod_of_nonneg (Int.natCast_nonneg _), *]; done) | (simp [Region.wanted, yielded]; omega), ?_⟩) ?_ ?_
                              rotate_left
                              · intro w'
                                go_simp
                                with_reducible rfl
                              rotate_left
                              · simp only [Act.put, List.setIfInBounds_toArray, List.set_cons_zero, List.set_cons_succ, i64_w, i32_w]
                                rfl
                              refine pure_ (i := 16) (N := some 79) (v := ?_) (a' := ?_) #[true, true, false, true, true, false, false, false, true, false, true, true, true, false, true, true, true, false, false, false, false] rfl rfl (any_of HT_.out (by kernel_rfl)) (fun _ _ _ h => h) (Or.inl ⟨by first | rfl | (simp [Region.wanted, yielded, *]; done) | (simp [Region.wanted, yielded, Int.tmod_eq_emod_of_nonneg (Int.natCast_nonneg _), *]; done) | (simp [Region.wanted, yielded]; omega), ?_⟩) ?_ ?_
                              rotate_left
                              · intro w'
                                go_simp
                                with_reducible rfl
                              rotate_left
                              · simp only [Act.put, List.setIfInBounds_toArray, List.set_cons_zero, List.set_cons_succ, i64_w, i32_w]
                                rfl
                              refine take_ (i := 2) (N := some 65) (v := ?_) (a' := ?_) #[true, true, true, true, true, false, false, false, true, false, true, true, true, false, true, true, true, false, false, false, false] rfl rfl (take_ofW HT_.out HW_.out (by kernel_rfl)) (fun _ _ _ h => h) (Or.inl ⟨by first | rfl | (simp [Region.wanted, yielded, *]; done) | (simp [Region.wanted, yielded, Int.tmod_eq_emod_of_nonneg (Int.natCast_nonneg _), *]; done) | (simp [Region.wanted, yielded]; omega), ?_⟩) hHeld ?_ ?_
                              rotate_left
                              · rintro w' ⟨s0, s1, s2, s3⟩
                                go_simp
                                with_reducible rfl
                              rotate_left
                              · simp only [Act.put, List.setIfInBounds_toArray, List.set_cons_zero, List.set_cons_succ, i64_w, i32_w]
                                rfl
                              refine take_ (i := 5) (N := some 68) (v := ?_) (a' := ?_) #[true, true, true, true, true, true, false, false, true, false, true, true, true, false, true, true, true, false, false, false, false] rfl rfl (take_ofW HT_.out HW_.out (by kernel_rfl)) (fun _ _ _ h => h) (Or.inl ⟨by first | rfl | (simp [Region.wanted, yielded, *]; done) | (simp [Region.wanted, yielded, Int.tmod_eq_emod_of_nonneg (Int.natCast_nonneg _), *]; done) | (simp [Region.wanted, yielded]; omega), ?_⟩) hHeld ?_ ?_
                              rotate_left
                              · rintro w' ⟨s0, s1, s2, s3⟩
                                go_simp
                                with_reducible rfl
                              rotate_left
                              · simp only [Act.put, List.setIfInBounds_toArray, List.set_cons_zero, List.set_cons_succ, i64_w, i32_w]
                                rfl
                              refine take_ (i := 13) (N := some 76) (v := ?_) (a' := ?_) #[true, true, true, true, true, true, false, false, true, false, true, true, true, true, true, true, true, false, false, false, false] rfl rfl (take_ofW HT_.out HW_.out (by kernel_rfl)) (fun _ _ _ h => h) (Or.inl ⟨by first | rfl | (simp [Region.wanted, yielded, *]; done) | (simp [Region.wanted, yielded, Int.tmod_eq_emod_of_nonneg (Int.natCast_nonneg _), *]; done) | (simp [Region.wanted, yielded]; omega), ?_⟩) hHeld ?_ ?_
                              rotate_left
                              · rintro w' ⟨s0, s1, s2, s3⟩
                                go_simp
                                with_reducible rfl
                              rotate_left
                              · simp only [Act.put, List.setIfInBounds_toArray, List.set_cons_zero, List.set_cons_succ, i64_w, i32_w]
                                rfl
                              refine take_ (i := 17) (N := some 80) (v := ?_) (a' := ?_) #[true, true, true, true, true, true, false, false, true, false, true, true, true, true, true, true, true, true, false, false, false] rfl rfl (take_ofW HT_.out HW_.out (by kernel_rfl)) (fun _ _ _ h => h) (Or.inl ⟨by first | rfl | (simp [Region.wanted, yielded, *]; done) | (simp [Region.wanted, yielded, Int.tmod_eq_emod_of_nonneg (Int.natCast_nonneg _), *]; done) | (simp [Region.wanted, yielded]; omega), ?_⟩) hHeld ?_ ?_
                              rotate_left
                              · rintro w' ⟨s0, s1, s2, s3⟩
                                go_simp
                                with_reducible rfl
                              rotate_left
                              · simp only [Act.put, List.setIfInBounds_toArray, List.set_cons_zero, List.set_cons_succ, i64_w, i32_w]
                                rfl
                              refine one_ (i := 6) (N := some 69) #[true, true, true, true, true, true, true, false, true, false, true, true, true, true, true, true, true, true, false, false, false] rfl rfl (one_of HT_.out (by kernel_rfl)) (by decide) (fun K hK => ?_)
                              refine goes_ Try.func134 (by kernel_rfl) rfl #[.int .i64 (rd x7_1 4), .int .i64 6, .int .i64 11, .int .i64 25] (by first | rfl | (simp [Region.wanted, yielded, *]; done) | (simp [Region.wanted, yielded, Int.tmod_eq_emod_of_nonneg (Int.natCast_nonneg _), *]; done)) rfl rfl (by (try simp only [List.map_toArray, List.map_cons, List.map_nil]); first | done | rfl | (simp only [List.length_drop, List.length_take]; rfl)) ?_
                              with_reducible refine (spec_l2Big.calls k1 (rd x7_1 4) 6 11 25 t257 _ A25.out).mono ?_
                              rintro e w' ⟨rfl, ⟨nd, rfl⟩⟩
                              refine ⟨_, rfl, ?_⟩
                              refine hK.out _ _ ⟨hHeld.1, hHeld.2.1, hHeld.2.2.1, hHeld.2.2.2⟩ (fun hHeld => ?_)
                              clear hK K
                              refine norm_ (a' := ?_) ?_ ?_
                              rotate_left
                              · show Act.put _ (some 69) _ = _
                                simp only [Act.put, List.setIfInBounds_toArray, List.set_cons_zero, List.set_cons_succ, i64_w, i32_w]
                                rfl
                              refine one_ (i := 7) (N := some 70) #[true, true, true, true, true, true, true, true, true, false, true, true, true, true, true, true, true, true, false, false, false] rfl rfl (one_of HT_.out (by kernel_rfl)) (by decide) (fun K hK => ?_)
                              refine goes_ Try.func128 (by kernel_rfl) rfl #[.int .i64 (rd x7_1 7), .int .i64 t257] (by first | rfl | (simp [Region.wanted, yielded, *]; done) | (simp [Region.wanted, yielded, Int.tmod_eq_emod_of_nonneg (Int.natCast_nonneg _), *]; done)) rfl rfl (by (try simp only [List.map_toArray, List.map_cons, List.map_nil]); first | done | rfl | (simp only [List.length_drop, List.length_take]; rfl)) ?_
                              with_reducible refine (spec_l1Add.calls (rd x7_1 7) t257 t258 _ A26.out).mono ?_
                              rintro e w' ⟨rfl, ⟨nd, rfl⟩⟩
                              refine ⟨_, rfl, ?_⟩
                              refine hK.out _ _ ⟨hHeld.1, hHeld.2.1, hHeld.2.2.1, hHeld.2.2.2⟩ (fun hHeld => ?_)
                              clear hK K
                              refine norm_ (a' := ?_) ?_ ?_
                              rotate_left
                              · show Act.put _ (some 70) _ = _
                                simp only [Act.put, List.setIfInBounds_toArray, List.set_cons_zero, List.set_cons_succ, i64_w, i32_w]
                                rfl
                              refine one_ (i := 9) (N := some 72) #[true, true, true, true, true, true, true, true, true, true, true, true, true, true, true, true, true, true, false, false, false] rfl rfl (one_of HT_.out (by kernel_rfl)) (by decide) (fun K hK => ?_)
                              refine goes_ Try.func128 (by kernel_rfl) rfl #[.int .i64 t258, .int .i64 t243] (by first | rfl | (simp [Region.wanted, yielded, *]; done) | (simp [Region.wanted, yielded, Int.tmod_eq_emod_of_nonneg (Int.natCast_nonneg _), *]; done)) rfl rfl (by (try simp only [List.map_toArray, List.map_cons, List.map_nil]); first | done | rfl | (simp only [List.length_drop, List.length_take]; rfl)) ?_
                              with_reducible refine (spec_l1Add.calls t258 t243 t259 _ A27.out).mono ?_
                              rintro e w' ⟨rfl, ⟨nd, rfl⟩⟩
                              refine ⟨_, rfl, ?_⟩
                              refine hK.out _ _ ⟨hHeld.1, hHeld.2.1, hHeld.2.2.1, hHeld.2.2.2⟩ (fun hHeld => ?_)
                              clear hK K
                              refine norm_ (a' := ?_) ?_ ?_
                              rotate_left
                              · show Act.put _ (some 72) _ = _
                                simp only [Act.put, List.setIfInBounds_toArray, List.set_cons_zero, List.set_cons_succ, i64_w, i32_w]
                                rfl
                              refine one_ (i := 18) (N := some 81) #[true, true, true, true, true, true, true, true, true, true, true, true, true, true, true, true, true, true, true, false, false] rfl rfl (one_of HT_.out (by kernel_rfl)) (by decide) (fun K hK => ?_)
                              refine goes_ Try.func128 (by kernel_rfl) rfl #[.int .i64 (rd t228 x8_1), .int .i64 (rd t231 x8_1)] (by first | rfl | (simp [Region.wanted, yielded, *]; done) | (simp [Region.wanted, yielded, Int.tmod_eq_emod_of_nonneg (Int.natCast_nonneg _), *]; done)) rfl rfl (by (try simp only [List.map_toArray, List.map_cons, List.map_nil]); first | done | rfl | (simp only [List.length_drop, List.length_take]; rfl)) ?_
                              with_reducible refine (spec_l1Add.calls (rd t228 x8_1) (rd t231 x8_1) t262 _ A31.out).mono ?_
                              rintro e w' ⟨rfl, ⟨nd, rfl⟩⟩
                              refine ⟨_, rfl, ?_⟩
                              refine hK.out _ _ ⟨hHeld.1, hHeld.2.1, hHeld.2.2.1, hHeld.2.2.2⟩ (fun hHeld => ?_)
                              clear hK K
                              refine norm_ (a' := ?_) ?_ ?_
                              rotate_left
                              · show Act.put _ (some 81) _ = _
                                simp only [Act.put, List.setIfInBounds_toArray, List.set_cons_zero, List.set_cons_succ, i64_w, i32_w]
                                rfl
                              refine one_ (i := 19) (N := some 82) #[true, true, true, true, true, true, true, true, true, true, true, true, true, true, true, true, true, true, true, true, false] rfl rfl (one_of HT_.out (by kernel_rfl)) (by decide) (fun K hK => ?_)
                              refine goes_ Try.func128 (by kernel_rfl) rfl #[.int .i64 t259, .int .i64 t262] (by first | rfl | (simp [Region.wanted, yielded, *]; done) | (simp [Region.wanted, yielded, Int.tmod_eq_emod_of_nonneg (Int.natCast_nonneg _), *]; done)) rfl rfl (by (try simp only [List.map_toArray, List.map_cons, List.map_nil]); first | done | rfl | (simp only [List.length_drop, List.length_take]; rfl)) ?_
                              with_reducible refine (spec_l1Add.calls t259 t262 t263 _ A32.out).mono ?_
                              rintro e w' ⟨rfl, ⟨nd, rfl⟩⟩
                              refine ⟨_, rfl, ?_⟩
                              refine hK.out _ _ ⟨hHeld.1, hHeld.2.1, hHeld.2.2.1, hHeld.2.2.2⟩ (fun hHeld => ?_)
                              clear hK K
                              refine norm_ (a' := ?_) ?_ ?_
                              rotate_left
                              · show Act.put _ (some 82) _ = _
                                simp only [Act.put, List.setIfInBounds_toArray, List.set_cons_zero, List.set_cons_succ, i64_w, i32_w]
                                rfl
                              refine pure_ (i := 20) (N := some 11) (v := ?_) (a' := ?_) #[true, true, true, true, true, true, true, true, true, true, true, true, true, true, true, true, true, true, true, true, true] rfl rfl (any_of HT_.out (by kernel_rfl)) (fun _ _ _ h => h) (Or.inl ⟨by first | rfl | (simp [Region.wanted, yielded, *]; done) | (simp [Region.wanted, yielded, Int.tmod_eq_emod_of_nonneg (Int.natCast_nonneg _), *]; done) | (simp [Region.wanted, yielded]; omega), ?_⟩) ?_ ?_
                              rotate_left
                              · intro w'
                                go_simp
                                with_reducible rfl
                              rotate_left
                              · simp only [Act.put, List.setIfInBounds_toArray, List.set_cons_zero, List.set_cons_succ, i64_w, i32_w]
                                rfl
                              refine done_ (done_of HT_.out (by kernel_rfl)) ?_
                              have p264 : 0 ≤ (0 : Int) := (by omega)
                              have q264 : 0 < (x7_1.length : Int) := of_decide_eq_true (by first | (with_reducible assumption) | assumption)
                              obtain ⟨ad264, e264, hx264_0⟩ := Kd.at_int (Kd.R_reads' HO_7.out).2.2 0 p264 q264
                              obtain rfl : ad237 = ad264 := (by injection e264)
                              have qi264 : (0 < x7_1.length) = True := eq_true (by omega)
                              (try rw [show ((0 : Int)).toNat = 0 from rfl] at hx264_0)
                              (try rw [Addr.add_zero'] at hx264_0)
                              replace p264 := eq_true p264
                              replace q264 := eq_true q264
                              try go_wp2_with (first | ((with_reducible refine gate_callee (f := 134) rfl ?_); refine goesL_ (some 86) rfl rfl Try.func134 (by kernel_rfl) rfl #[.int .i64 (rd x7_1 0), .int .i64 2, .int .i64 13, .int .i64 22] rfl (by (try simp only [List.map_toArray, List.map_cons, List.map_nil]); first | done | rfl | (simp only [List.length_drop, List.length_take]; rfl)) ?_; (with_reducible refine (spec_l2Big.calls k1 (rd x7_1 0) 2 13 22 t265 _ A33.out).mono ?_); rintro e w' ⟨rfl, ⟨nd, rfl⟩⟩; refine ⟨_, rfl, ?_⟩) | ((with_reducible refine gate_callee (f := 128) rfl ?_); refine goesL_ (some 88) rfl rfl Try.func128 (by kernel_rfl) rfl #[.int .i64 t265, .int .i64 t254] rfl (by (try simp only [List.map_toArray, List.map_cons, List.map_nil]); first | done | rfl | (simp only [List.length_drop, List.length_take]; rfl)) ?_; (with_reducible refine (spec_l1Add.calls t265 t254 t266 _ A34.out).mono ?_); rintro e w' ⟨rfl, ⟨nd, rfl⟩⟩; refine ⟨_, rfl, ?_⟩))
                              (try (rw [drewN_self w41]; generalize hq_ : World.drewN w41 _ = w41; have n0_ := Aside0.mk (Kd.R_at hq_ HO_5.out); have n1_ := Aside0.mk (Kd.R_at hq_ HO_6.out); have n2_ := Aside0.mk (Kd.R_at hq_ HO_7.out); have n3_ := Aside0.mk (below_at hq_ HB.out); clear hq_ HO_5 HO_6 HO_7 HB; have HO_5 := n0_; have HO_6 := n1_; have HO_7 := n2_; have HB := n3_; clear n0_ n1_ n2_ n3_))
                              have n0_ := Aside0.mk (Kd.R_drew HO_5.out)
                              have n1_ := Aside0.mk (Kd.R_drew HO_6.out)
                              have n2_ := Aside0.mk (Kd.R_drew HO_7.out)
                              have n3_ := Aside0.mk (below_drew1 HB.out)
                              clear HO_5
                              clear HO_6
                              clear HO_7
                              clear HB
                              have HO_5 := n0_
                              have HO_6 := n1_
                              have HO_7 := n2_
                              have HB := n3_
                              clear n0_ n1_ n2_ n3_
                              have p268 : 0 ≤ (0 : Int) := (by omega)
                              have q268 : 0 < (x7_1.length : Int) := of_decide_eq_true (by first | (with_reducible assumption) | assumption)
                              obtain ⟨ad268, e268, hx268_0⟩ := Kd.at_int (Kd.R_reads' HO_7.out).2.2 0 p268 q268
                              obtain rfl : ad237 = ad268 := (by injection e268)
                              have qi268 : (0 < x7_1.length) = True := eq_true (by omega)
                              (try rw [show ((0 : Int)).toNat = 0 from rfl] at hx268_0)
                              (try rw [Addr.add_zero'] at hx268_0)
                              replace p268 := eq_true p268
                              replace q268 := eq_true q268
                              have p269 : 0 ≤ (1 : Int) := (by omega)
                              have q269 : 1 < (x7_1.length : Int) := of_decide_eq_true (by first | (with_reducible assumption) | assumption)
                              obtain ⟨ad269, e269, hx269_0⟩ := Kd.at_int (Kd.R_reads' HO_7.out).2.2 1 p269 q269
                              obtain rfl : ad237 = ad269 := (by injection e269)
                              (try simp only [show (1 : Int).toNat = 1 from rfl, Nat.reduceMul, Nat.reduceEqDiff, Go.Addr.add, ↓reduceIte] at hx269_0)
                              have qi269 : (1 < x7_1.length) = True := eq_true (by omega)
                              (try rw [show ((1 : Int)).toNat = 1 from rfl] at hx269_0)
                              replace p269 := eq_true p269
                              replace q269 := eq_true q269
                              have p270 : 0 ≤ (2 : Int) := (by omega)
                              have q270 : 2 < (x7_1.length : Int) := of_decide_eq_true (by first | (with_reducible assumption) | assumption)
                              obtain ⟨ad270, e270, hx270_0⟩ := Kd.at_int (Kd.R_reads' HO_7.out).2.2 2 p270 q270
                              obtain rfl : ad237 = ad270 := (by injection e270)
                              (try simp only [show (2 : Int).toNat = 2 from rfl, Nat.reduceMul, Nat.reduceEqDiff, Go.Addr.add, ↓reduceIte] at hx270_0)
                              have qi270 : (2 < x7_1.length) = True := eq_true (by omega)
                              (try rw [show ((2 : Int)).toNat = 2 from rfl] at hx270_0)
                              replace p270 := eq_true p270
                              replace q270 := eq_true q270
                              have p271 : 0 ≤ (3 : Int) := (by omega)
                              have q271 : 3 < (x7_1.length : Int) := of_decide_eq_true (by first | (with_reducible assumption) | assumption)
                              obtain ⟨ad271, e271, hx271_0⟩ := Kd.at_int (Kd.R_reads' HO_7.out).2.2 3 p271 q271
                              obtain rfl : ad237 = ad271 := (by injection e271)
                              (try simp only [show (3 : Int).toNat = 3 from rfl, Nat.reduceMul, Nat.reduceEqDiff, Go.Addr.add, ↓reduceIte] at hx271_0)
                              have qi271 : (3 < x7_1.length) = True := eq_true (by omega)
                              (try rw [show ((3 : Int)).toNat = 3 from rfl] at hx271_0)
                              replace p271 := eq_true p271
                              replace q271 := eq_true q271
                              have p273 : 0 ≤ (4 : Int) := (by omega)
                              have q273 : 4 < (x7_1.length : Int) := of_decide_eq_true (by first | (with_reducible assumption) | assumption)
                              obtain ⟨ad273, e273, hx273_0⟩ := Kd.at_int (Kd.R_reads' HO_7.out).2.2 4 p273 q273
                              obtain rfl : ad237 = ad273 := (by injection e273)
                              (try simp only [show (4 : Int).toNat = 4 from rfl, Nat.reduceMul, Nat.reduceEqDiff, Go.Addr.add, ↓reduceIte] at hx273_0)
                              have qi273 : (4 < x7_1.length) = True := eq_true (by omega)
                              (try rw [show ((4 : Int)).toNat = 4 from rfl] at hx273_0)
                              replace p273 := eq_true p273
                              replace q273 := eq_true q273
                              have p274 : 0 ≤ (5 : Int) := (by omega)
                              have q274 : 5 < (x7_1.length : Int) := of_decide_eq_true (by first | (with_reducible assumption) | assumption)
                              obtain ⟨ad274, e274, hx274_0⟩ := Kd.at_int (Kd.R_reads' HO_7.out).2.2 5 p274 q274
                              obtain rfl : ad237 = ad274 := (by injection e274)
                              (try simp only [show (5 : Int).toNat = 5 from rfl, Nat.reduceMul, Nat.reduceEqDiff, Go.Addr.add, ↓reduceIte] at hx274_0)
                              have qi274 : (5 < x7_1.length) = True := eq_true (by omega)
                              (try rw [show ((5 : Int)).toNat = 5 from rfl] at hx274_0)
                              replace p274 := eq_true p274
                              replace q274 := eq_true q274
                              have p275 : 0 ≤ (6 : Int) := (by omega)
                              have q275 : 6 < (x7_1.length : Int) := of_decide_eq_true (by first | (with_reducible assumption) | assumption)
                              obtain ⟨ad275, e275, hx275_0⟩ := Kd.at_int (Kd.R_reads' HO_7.out).2.2 6 p275 q275
                              obtain rfl : ad237 = ad275 := (by injection e275)
                              (try simp only [show (6 : Int).toNat = 6 from rfl, Nat.reduceMul, Nat.reduceEqDiff, Go.Addr.add, ↓reduceIte] at hx275_0)
                              have qi275 : (6 < x7_1.length) = True := eq_true (by omega)
                              (try rw [show ((6 : Int)).toNat = 6 from rfl] at hx275_0)
                              replace p275 := eq_true p275
                              replace q275 := eq_true q275
                              refine start_ (n := 28) (S := fun w' => w'.cell? ad237 = some (.int .i64 (rd x7_1 0)) ∧ w'.cell? ⟨ad237.block, ad237.off + 1, none⟩ = some (.int .i64 (rd x7_1 1)) ∧ w'.cell? ⟨ad237.block, ad237.off + 2, none⟩ = some (.int .i64 (rd x7_1 2)) ∧ w'.cell? ⟨ad237.block, ad237.off + 3, none⟩ = some (.int .i64 (rd x7_1 3)) ∧ w'.cell? ⟨ad237.block, ad237.off + 4, none⟩ = some (.int .i64 (rd x7_1 4)) ∧ w'.cell? ⟨ad237.block, ad237.off + 5, none⟩ = some (.int .i64 (rd x7_1 5)) ∧ w'.cell? ⟨ad237.block, ad237.off + 6, none⟩ = some (.int .i64 (rd x7_1 6))) (ds := []) #[false, false, false, false, false, false, false, false, false, false, false, false, false, false, false, false, false, false, false, false, false, false, false, false, false, false, false, false] (by kernel_rfl) rfl rfl ⟨hx268_0, hx269_0, hx270_0, hx271_0, hx273_0, hx274_0, hx275_0⟩ (fun hHeld => ?_); refine with_tabW spec_l2Compress.tab11 spec_l2Compress.bits11 (fun HT_ HW_ => ?_)
                              generalize w41.drew = w44 at HO_5 HO_6 HO_7 HB hx268_0 hx269_0 hx270_0 hx271_0 hx273_0 hx274_0 hx275_0 hHeld ⊢
                              refine pure_ (i := 0) (N := some 89) (v := ?_) (a' := ?_) #[true, false, false, false, false, false, false, false, false, false, false, false, false, false, false, false, false, false, false, false, false, false, false, false, false, false, false, false] rfl rfl (any_of HT_.out (by kernel_rfl)) (fun _ _ _ h => h) (Or.inl ⟨by first | rfl | (simp [Region.wanted, yielded, *]; done) | (simp [Region.wanted, yielded, Int.tmod_eq_emod_of_nonneg (Int.natCast_nonneg _), *]; done) | (simp [Region.wanted, yielded]; omega), ?_⟩) ?_ ?_
                              rotate_left
                              · intro w'
                                go_simp
                                with_reducible rfl
                              rotate_left
                              · simp only [Act.put, List.setIfInBounds_toArray, List.set_cons_zero, List.set_cons_succ, i64_w, i32_w]
                                rfl
                              refine pure_ (i := 1) (N := some 90) (v := ?_) (a' := ?_) #[true, true, false, false, false, false, false, false, false, false, false, false, false, false, false, false, false, false, false, false, false, false, false, false, false, false, false, false] rfl rfl (any_of HT_.out (by kernel_rfl)) (fun _ _ _ h => h) (Or.inl ⟨by first | rfl | (simp [Region.wanted, yielded, *]; done) | (simp [Region.wanted, yielded, Int.tmod_eq_emod_of_nonneg (Int.natCast_nonneg _), *]; done) | (simp [Region.wanted, yielded]; omega), ?_⟩) ?_ ?_
                              rotate_left
                              · intro w'
                                go_simp
                                with_reducible rfl
                              rotate_left
                              · simp only [Act.put, List.setIfInBounds_toArray, List.set_cons_zero, List.set_cons_succ, i64_w, i32_w]
                                rfl
                              refine pure_ (i := 3) (N := some 92) (v := ?_) (a' := ?_) #[true, true, false, true, false, false, false, false, false, false, false, false, false, false, false, false, false, false, false, false, false, false, false, false, false, false, false, false] rfl rfl (any_of HT_.out (by kernel_rfl)) (fun _ _ _ h => h) (Or.inl ⟨by first | rfl | (simp [Region.wanted, yielded, *]; done) | (simp [Region.wanted, yielded, Int.tmod_eq_emod_of_nonneg (Int.natCast_nonneg _), *]; done) | (simp [Region.wanted, yielded]; omega), ?_⟩) ?_ ?_
                              rotate_left
                              · intro w'
                                go_simp
                                with_reducible rfl
                              rotate_left
                              · simp only [Act.put, List.setIfInBounds_toArray, List.set_cons_zero, List.set_cons_succ, i64_w, i32_w]
                                rfl
                              refine pure_ (i := 4) (N := some 93) (v := ?_) (a' := ?_) #[true, true, false, true, true, false, false, false, false, false, false, false, false, false, false, false, false, false, false, false, false, false, false, false, false, false, false, false] rfl rfl (any_of HT_.out (by kernel_rfl)) (fun _ _ _ h => h) (Or.inl ⟨by first | rfl | (simp [Region.wanted, yielded, *]; done) | (simp [Region.wanted, yielded, Int.tmod_eq_emod_of_nonneg (Int.natCast_nonneg _), *]; done) | (simp [Region.wanted, yielded]; omega), ?_⟩) ?_ ?_
                              rotate_left
                              · intro w'
                                go_simp
                                with_reducible rfl
                              rotate_left
                              · simp only [Act.put, List.setIfInBounds_toArray, List.set_cons_zero, List.set_cons_succ, i64_w, i32_w]
                                rfl
                              refine pure_ (i := 6) (N := some 95) (v := ?_) (a' := ?_) #[true, true, false, true, true, false, true, false, false, false, false, false, false, false, false, false, false, false, false, false, false, false, false, false, false, false, false, false] rfl rfl (any_of HT_.out (by kernel_rfl)) (fun _ _ _ h => h) (Or.inl ⟨by first | rfl | (simp [Region.wanted, yielded, *]; done) | (simp [Region.wanted, yielded, Int.tmod_eq_emod_of_nonneg (Int.natCast_nonneg _), *]; done) | (simp [Region.wanted, yielded]; omega), ?_⟩) ?_ ?_
                              rotate_left
                              · intro w'
                                go_simp
                                with_reducible rfl
                              rotate_left
                              · simp only [Act.put, List.setIfInBounds_toArray, List.set_cons_zero, List.set_cons_succ, i64_w, i32_w]
                                rfl
                              refine pure_ (i := 7) (N := some 96) (v := ?_) (a' := ?_) #[true, true, false, true, true, false, true, true, false, false, false, false, false, false, false, false, false, false, false, false, false, false, false, false, false, false, false, false] rfl rfl (any_of HT_.out (by kernel_rfl)) (fun _ _ _ h => h) (Or.inl ⟨by first | rfl | (simp [Region.wanted, yielded, *]; done) | (simp [Region.wanted, yielded, Int.tmod_eq_emod_of_nonneg (Int.natCast_nonneg _), *]; done) | (simp [Region.wanted, yielded]; omega), ?_⟩) ?_ ?_
                              rotate_left
                              · intro w'
                                go_simp
                                with_reducible rfl
                              rotate_left
                              · simp only [Act.put, List.setIfInBounds_toArray, List.set_cons_zero, List.set_cons_succ, i64_w, i32_w]
                                rfl
                              refine pure_ (i := 9) (N := some 98) (v := ?_) (a' := ?_) #[true, true, false, true, true, false, true, true, false, true, false, false, false, false, false, false, false, false, false, false, false, false, false, false, false, false, false, false] rfl rfl (any_of HT_.out (by kernel_rfl)) (fun _ _ _ h => h) (Or.inl ⟨by first | rfl | (simp [Region.wanted, yielded, *]; done) | (simp [Region.wanted, yielded, Int.tmod_eq_emod_of_nonneg (Int.natCast_nonneg _), *]; done) | (simp [Region.wanted, yielded]; omega), ?_⟩) ?_ ?_
                              rotate_left
                              · intro w'
                                go_simp
                                with_reducible rfl
                              rotate_left
                              · simp only [Act.put, List.setIfInBounds_toArray, List.set_cons_zero, List.set_cons_succ, i64_w, i32_w]
                                rfl
                              refine pure_ (i := 10) (N := some 99) (v := ?_) (a' := ?_) #[true, true, false, true, true, false, true, true, false, true, true, false, false, false, false, false, false, false, false, false, false, false, false, false, false, false, false, false] rfl rfl (any_of HT_.out (by kernel_rfl)) (fun _ _ _ h => h) (Or.inl ⟨by first | rfl | (simp [Region.wanted, yielded, *]; done) | (simp [Region.wanted, yielded, Int.tmod_eq_emod_of_nonneg (Int.natCast_nonneg _), *]; done) | (simp [Region.wanted, yielded]; omega), ?_⟩) ?_ ?_
                              rotate_left
                              · intro w'
                                go_simp
                                with_reducible rfl
                              rotate_left
                              · simp only [Act.put, List.setIfInBounds_toArray, List.set_cons_zero, List.set_cons_succ, i64_w, i32_w]
                                rfl
                              refine pure_ (i := 12) (N := some 101) (v := ?_) (a' := ?_) #[true, true, false, true, true, false, true, true, false, true, true, false, true, false, false, false, false, false, false, false, false, false, false, false, false, false, false, false] rfl rfl (any_of HT_.out (by kernel_rfl)) (fun _ _ _ h => h) (Or.inl ⟨by first | rfl | (simp [Region.wanted, yielded, *]; done) | (simp [Region.wanted, yielded, Int.tmod_eq_emod_of_nonneg (Int.natCast_nonneg _), *]; done) | (simp [Region.wanted, yielded]; omega), ?_⟩) ?_ ?_
                              rotate_left
                              · intro w'
                                go_simp
                                with_reducible rfl
                              rotate_left
                              · simp only [Act.put, List.setIfInBounds_toArray, List.set_cons_zero, List.set_cons_succ, i64_w, i32_w]
                                rfl
                              refine pure_ (i := 13) (N := some 102) (v := ?_) (a' := ?_) #[true, true, false, true, true, false, true, true, false, true, true, false, true, true, false, false, false, false, false, false, false, false, false, false, false, false, false, false] rfl rfl (any_of HT_.out (by kernel_rfl)) (fun _ _ _ h => h) (Or.inl ⟨by first | rfl | (simp [Region.wanted, yielded, *]; done) | (simp [Region.wanted, yielded, Int.tmod_eq_emod_of_nonneg (Int.natCast_nonneg _), *]; done) | (simp [Region.wanted, yielded]; omega), ?_⟩) ?_ ?_
                              rotate_left
                              · intro w'
                                go_simp
                                with_reducible rfl
                              rotate_left
                              · simp only [Act.put, List.setIfInBounds_toArray, List.set_cons_zero, List.set_cons_succ, i64_w, i32_w]
                                rfl
                              refine pure_ (i := 15) (N := some 104) (v := ?_) (a' := ?_) #[true, true, false, true, true, false, true, true, false, true, true, false, true, true, false, true, false, false, false, false, false, false, false, false, false, false, false, false] rfl rfl (any_of HT_.out (by kernel_rfl)) (fun _ _ _ h => h) (Or.inl ⟨by first | rfl | (simp [Region.wanted, yielded, *]; done) | (simp [Region.wanted, yielded, Int.tmod_eq_emod_of_nonneg (Int.natCast_nonneg _), *]; done) | (simp [Region.wanted, yielded]; omega), ?_⟩) ?_ ?_
                              rotate_left
                              · intro w'
                                go_simp
                                with_reducible rfl
                              rotate_left
                              · simp only [Act.put, List.setIfInBounds_toArray, List.set_cons_zero, List.set_cons_succ, i64_w, i32_w]
                                rfl
                              refine pure_ (i := 17) (N := some 106) (v := ?_) (a' := ?_) #[true, true, false, true, true, false, true, true, false, true, true, false, true, true, false, true, false, true, false, false, false, false, false, false, false, false, false, false] rfl rfl (any_of HT_.out (by kernel_rfl)) (fun _ _ _ h => h) (Or.inl ⟨by first | rfl | (simp [Region.wanted, yielded, *]; done) | (simp [Region.wanted, yielded, Int.tmod_eq_emod_of_nonneg (Int.natCast_nonneg _), *]; done) | (simp [Region.wanted, yielded]; omega), ?_⟩) ?_ ?_
                              rotate_left
                              · intro w'
                                go_simp
                                with_reducible rfl
                              rotate_left
                              · simp only [Act.put, List.setIfInBounds_toArray, List.set_cons_zero, List.set_cons_succ, i64_w, i32_w]
                                rfl
                              refine pure_ (i := 18) (N := some 107) (v := ?_) (a' := ?_) #[true, true, false, true, true, false, true, true, false, true, true, false, true, true, false, true, false, true, true, false, false, false, false, false, false, false, false, false] rfl rfl (any_of HT_.out (by kernel_rfl)) (fun _ _ _ h => h) (Or.inl ⟨by first | rfl | (simp [Region.wanted, yielded, *]; done) | (simp [Region.wanted, yielded, Int.tmod_eq_emod_of_nonneg (Int.natCast_nonneg _), *]; done) | (simp [Region.wanted, yielded]; omega), ?_⟩) ?_ ?_
                              rotate_left
                              · intro w'
                                go_simp
                                with_reducible rfl
                              rotate_left
                              · simp only [Act.put, List.setIfInBounds_toArray, List.set_cons_zero, List.set_cons_succ, i64_w, i32_w]
                                rfl
                              refine pure_ (i := 20) (N := some 109) (v := ?_) (a' := ?_) #[true, true, false, true, true, false, true, true, false, true, true, false, true, true, false, true, false, true, true, false, true, false, false, false, false, false, false, false] rfl rfl (any_of HT_.out (by kernel_rfl)) (fun _ _ _ h => h) (Or.inl ⟨by first | rfl | (simp [Region.wanted, yielded, *]; done) | (simp [Region.wanted, yielded, Int.tmod_eq_emod_of_nonneg (Int.natCast_nonneg _), *]; done) | (simp [Region.wanted, yielded]; omega), ?_⟩) ?_ ?_
                              rotate_left
                              · intro w'
                                go_simp
                                with_reducible rfl
                              rotate_left
                              · simp only [Act.put, List.setIfInBounds_toArray, List.set_cons_zero, List.set_cons_succ, i64_w, i32_w]
                                rfl
                              refine pure_ (i := 21) (N := some 110) (v := ?_) (a' := ?_) #[true, true, false, true, true, false, true, true, false, true, true, false, true, true, false, true, false, true, true, false, true, true, false, false, false, false, false, false] rfl rfl (any_of HT_.out (by kernel_rfl)) (fun _ _ _ h => h) (Or.inl ⟨by first | rfl | (simp [Region.wanted, yielded, *]; done) | (simp [Region.wanted, yielded, Int.tmod_eq_emod_of_nonneg (Int.natCast_nonneg _), *]; done) | (simp [Region.wanted, yielded]; omega), ?_⟩) ?_ ?_
                              rotate_left
                              · intro w'
                                go_simp
                                with_reducible rfl
                              rotate_left
                              · simp only [Act.put, List.setIfInBounds_toArray, List.set_cons_zero, List.set_cons_succ, i64_w, i32_w]
                                rfl
                              refine pure_ (i := 23) (N := some 112) (v := ?_) (a' := ?_) #[true, true, false, true, true, false, true, true, false, true, true, false, true, true, false, true, false, true, true, false, true, true, false, true, false, false, false, false] rfl rfl (any_of HT_.out (by kernel_rfl)) (fun _ _ _ h => h) (Or.inl ⟨by first | rfl | (simp [Region.wanted, yielded, *]; done) | (simp [Region.wanted, yielded, Int.tmod_eq_emod_of_nonneg (Int.natCast_nonneg _), *]; done) | (simp [Region.wanted, yielded]; omega), ?_⟩) ?_ ?_
                              rotate_left
                              · intro w'
                                go_simp
                                with_reducible rfl
                              rotate_left
                              · simp only [Act.put, List.setIfInBounds_toArray, List.set_cons_zero, List.set_cons_succ, i64_w, i32_w]
                                rfl
                              refine pure_ (i := 24) (N := some 113) (v := ?_) (a' := ?_) #[true, true, false, true, true, false, true, true, false, true, true, false, true, true, false, true, false, true, true, false, true, true, false, true, true, false, false, false] rfl rfl (any_of HT_.out (by kernel_rfl)) (fun _ _ _ h => h) (Or.inl ⟨by first | rfl | (simp [Region.wanted, yielded, *]; done) | (simp [Region.wanted, yielded, Int.tmod_eq_emod_of_nonneg (Int.natCast_nonneg _), *]; done) | (simp [Region.wanted, yielded]; omega), ?_⟩) ?_ ?_
                              rotate_left
                              · intro w'
                                go_simp
                                with_reducible rfl
                              rotate_left
                              · simp only [Act.put, List.setIfInBounds_toArray, List.set_cons_zero, List.set_cons_succ, i64_w, i32_w]
                                rfl
                              refine take_ (i := 5) (N := some 94) (v := ?_) (a' := ?_) #[true, true, false, true, true, true, true, true, false, true, true, false, true, true, false, true, false, true, true, false, true, true, false, true, true, false, false, false] rfl rfl (take_ofW HT_.out HW_.out (by kernel_rfl)) (fun _ _ _ h => h) (Or.inl ⟨by first | rfl | (simp [Region.wanted, yielded, *]; done) | (simp [Region.wanted, yielded, Int.tmod_eq_emod_of_nonneg (Int.natCast_nonneg _), *]; done) | (simp [Region.wanted, yielded]; omega), ?_⟩) hHeld ?_ ?_
                              rotate_left
                              · rintro w' ⟨s0, s1, s2, s3, s4, s5, s6⟩
                                go_simp
                                with_reducible rfl
                              rotate_left
                              · simp only [Act.put, List.setIfInBounds_toArray, List.set_cons_zero, List.set_cons_succ, i64_w, i32_w]
                                rfl
                              refine take_ (i := 8) (N := some 97) (v := ?_) (a' := ?_) #[true, true, false, true, true, true, true, true, true, true, true, false, true, true, false, true, false, true, true, false, true, true, false, true, true, false, false, false] rfl rfl (take_ofW HT_.out HW_.out (by kernel_rfl)) (fun _ _ _ h => h) (Or.inl ⟨by first | rfl | (simp [Region.wanted, yielded, *]; done) | (simp [Region.wanted, yielded, Int.tmod_eq_emod_of_nonneg (Int.natCast_nonneg _), *]; done) | (simp [Region.wanted, yielded]; omega), ?_⟩) hHeld ?_ ?_
                              rotate_left
                              · rintro w' ⟨s0, s1, s2, s3, s4, s5, s6⟩
                                go_simp
                                with_reducible rfl
                              rotate_left
                              · simp only [Act.put, List.setIfInBounds_toArray, List.set_cons_zero, List.set_cons_succ, i64_w, i32_w]
                                rfl
                              refine take_ (i := 11) (N := some 100) (v := ?_) (a' := ?_) #[true, true, false, true, true, true, true, true, true, true, true, true, true, true, false, true, false, true, true, false, true, true, false, true, true, false, false, false] rfl rfl (take_ofW HT_.out HW_.out (by kernel_rfl)) (fun _ _ _ h => h) (Or.inl ⟨by first | rfl | (simp [Region.wanted, yielded, *]; done) | (simp [Region.wanted, yielded, Int.tmod_eq_emod_of_nonneg (Int.natCast_nonneg _), *]; done) | (simp [Region.wanted, yielded]; omega), ?_⟩) hHeld ?_ ?_
                              rotate_left
                              · rintro w' ⟨s0, s1, s2, s3, s4, s5, s6⟩
                                go_simp
                                with_reducible rfl
                              rotate_left
                              · simp only [Act.put, List.setIfInBounds_toArray, List.set_cons_zero, List.set_cons_succ, i64_w, i32_w]
                                rfl
                              refine take_ (i := 14) (N := some 103) (v := ?_) (a' := ?_) #[true, true, false, true, true, true, true, true, true, true, true, true, true, true, true, true, false, true, true, false, true, true, false, true, true, false, false, false] rfl rfl (take_ofW HT_.out HW_.out (by kernel_rfl)) (fun _ _ _ h => h) (Or.inl ⟨by first | rfl | (simp [Region.wanted, yielded, *]; done) | (simp [Region.wanted, yielded, Int.tmod_eq_emod_of_nonneg (Int.natCast_nonneg _), *]; done) | (simp [Region.wanted, yielded]; omega), ?_⟩) hHeld ?_ ?_
                              rotate_left
                              · rintro w' ⟨s0, s1, s2, s3, s4, s5, s6⟩
                                go_simp
                                with_reducible rfl
                              rotate_left
                              · simp only [Act.put, List.setIfInBounds_toArray, List.set_cons_zero, List.set_cons_succ, i64_w, i32_w]
                                rfl
                              refine take_ (i := 19) (N := some 108) (v := ?_) (a' := ?_) #[true, true, false, true, true, true, true, true, true, true, true, true, true, true, true, true, false, true, true, true, true, true, false, true, true, false, false, false] rfl rfl (take_ofW HT_.out HW_.out (by kernel_rfl)) (fun _ _ _ h => h) (Or.inl ⟨by first | rfl | (simp [Region.wanted, yielded, *]; done) | (simp [Region.wanted, yielded, Int.tmod_eq_emod_of_nonneg (Int.natCast_nonneg _), *]; done) | (simp [Region.wanted, yielded]; omega), ?_⟩) hHeld ?_ ?_
                              rotate_left
                              · rintro w' ⟨s0, s1, s2, s3, s4, s5, s6⟩
                                go_simp
                                with_reducible rfl
                              rotate_left
                              · simp only [Act.put, List.setIfInBounds_toArray, List.set_cons_zero, List.set_cons_succ, i64_w, i32_w]
                                rfl
                              refine take_ (i := 22) (N := some 111) (v := ?_) (a' := ?_) #[true, true, false, true, true, true, true, true, true, true, true, true, true, true, true, true, false, true, true, true, true, true, true, true, true, false, false, false] rfl rfl (take_ofW HT_.out HW_.out (by kernel_rfl)) (fun _ _ _ h => h) (Or.inl ⟨by first | rfl | (simp [Region.wanted, yielded, *]; done) | (simp [Region.wanted, yielded, Int.tmod_eq_emod_of_nonneg (Int.natCast_nonneg _), *]; done) | (simp [Region.wanted, yielded]; omega), ?_⟩) hHeld ?_ ?_
                              rotate_left
                              · rintro w' ⟨s0, s1, s2, s3, s4, s5, s6⟩
                                go_simp
                                with_reducible rfl
                              rotate_left
                              · simp only [Act.put, List.setIfInBounds_toArray, List.set_cons_zero, List.set_cons_succ, i64_w, i32_w]
                                rfl
                              refine take_ (i := 25) (N := some 114) (v := ?_) (a' := ?_) #[true, true, false, true, true, true, true, true, true, true, true, true, true, true, true, true, false, true, true, true, true, true, true, true, true, true, false, false] rfl rfl (take_ofW HT_.out HW_.out (by kernel_rfl)) (fun _ _ _ h => h) (Or.inl ⟨by first | rfl | (simp [Region.wanted, yielded, *]; done) | (simp [Region.wanted, yielded, Int.tmod_eq_emod_of_nonneg (Int.natCast_nonneg _), *]; done) | (simp [Region.wanted, yielded]; omega), ?_⟩) hHeld ?_ ?_
                              rotate_left
                              · rintro w' ⟨s0, s1, s2, s3, s4, s5, s6⟩
                                go_simp
                                with_reducible rfl
                              rotate_left
                              · simp only [Act.put, List.setIfInBounds_toArray, List.set_cons_zero, List.set_cons_succ, i64_w, i32_w]
                                rfl
                              refine one_ (i := 2) (N := some 91) #[true, true, true, true, true, true, true, true, true, true, true, true, true, true, true, true, false, true, true, true, true, true, true, true, true, true, false, false] rfl rfl (one_of HT_.out (by kernel_rfl)) (by decide) (fun K hK => ?_)
                              refine goes_ Try.func128 (by kernel_rfl) rfl #[.int .i64 t263, .int .i64 t266] (by first | rfl | (simp [Region.wanted, yielded, *]; done) | (simp [Region.wanted, yielded, Int.tmod_eq_emod_of_nonneg (Int.natCast_nonneg _), *]; done)) rfl rfl (by (try simp only [List.map_toArray, List.map_cons, List.map_nil]); first | done | rfl | (simp only [List.length_drop, List.length_take]; rfl)) ?_
                              with_reducible refine (spec_l1Add.calls t263 t266 t267 _ A35.out).mono ?_
                              rintro e w' ⟨rfl, ⟨nd, rfl⟩⟩
                              refine ⟨_, rfl, ?_⟩
                              refine hK.out _ _ ⟨hHeld.1, hHeld.2.1, hHeld.2.2.1, hHeld.2.2.2.1, hHeld.2.2.2.2.1, hHeld.2.2.2.2.2.1, hHeld.2.2.2.2.2.2⟩ (fun hHeld => ?_)
                              clear hK K
                              refine norm_ (a' := ?_) ?_ ?_
                              rotate_left
                              · show Act.put _ (some 91) _ = _
                                simp only [Act.put, List.setIfInBounds_toArray, List.set_cons_zero, List.set_cons_succ, i64_w, i32_w]
                                rfl
                              refine one_ (i := 16) (N := some 105) #[true, true, true, true, true, true, true, true, true, true, true, true, true, true, true, true, true, true, true, true, true, true, true, true, true, true, false, false] rfl rfl (one_of HT_.out (by kernel_rfl)) (by decide) (fun K hK => ?_)
                              refine goes_ Try.func128 (by kernel_rfl) rfl #[.int .i64 (rd x7_1 3), .int .i64 t263] (by first | rfl | (simp [Region.wanted, yielded, *]; done) | (simp [Region.wanted, yielded, Int.tmod_eq_emod_of_nonneg (Int.natCast_nonneg _), *]; done)) rfl rfl (by (try simp only [List.map_toArray, List.map_cons, List.map_nil]); first | done | rfl | (simp only [List.length_drop, List.length_take]; rfl)) ?_
                              with_reducible refine (spec_l1Add.calls (rd x7_1 3) t263 t272 _ A37.out).mono ?_
                              rintro e w' ⟨rfl, ⟨nd, rfl⟩⟩
                              refine ⟨_, rfl, ?_⟩
                              refine hK.out _ _ ⟨hHeld.1, hHeld.2.1, hHeld.2.2.1, hHeld.2.2.2.1, hHeld.2.2.2.2.1, hHeld.2.2.2.2.2.1, hHeld.2.2.2.2.2.2⟩ (fun hHeld => ?_)
                              clear hK K
                              refine norm_ (a' := ?_) ?_ ?_
                              rotate_left
                              · show Act.put _ (some 105) _ = _
                                simp only [Act.put, List.setIfInBounds_toArray, List.set_cons_zero, List.set_cons_succ, i64_w, i32_w]
                                rfl
                              refine one_ (i := 26) (N := some 115) #[true, true, true, true, true, true, true, true, true, true, true, true, true, true, true, true, true, true, true, true, true, true, true, true, true, true, true, false] rfl rfl (one_of HT_.out (by kernel_rfl)) (by decide) (fun K hK => ?_)
                              refine Kd.R_lit_step (Kd.int .i64) _ 2 ?hg (N := 115) ?hd (xs := ([t267, rd x7_1 0, rd x7_1 1, rd x7_1 2, t272, rd x7_1 4, rd x7_1 5, rd x7_1 6] : List Int)) (inner := [.int .i64 t267, .int .i64 (rd x7_1 0), .int .i64 (rd x7_1 1), .int .i64 (rd x7_1 2), .int .i64 t272, .int .i64 (rd x7_1 4), .int .i64 (rd x7_1 5), .int .i64 (rd x7_1 6)]) (ok := fun _ => True) (okp := fun _ => True) ?hr ?hp (fun _ hk => hk) trivial (Below.refl _ _) (Nat.le_refl _) (by simp) ?_; (case hd => rfl); (case hg => rfl); (case hr => first | (go_simp; done) | (go_simp; rfl)); (case hp => exact (Reps.one (show Kd.M (Kd.int .i64) _ _ _ t267 [.int .i64 t267] from rfl) (Reps.one (show Kd.M (Kd.int .i64) _ _ _ (rd x7_1 0) [.int .i64 (rd x7_1 0)] from rfl) (Reps.one (show Kd.M (Kd.int .i64) _ _ _ (rd x7_1 1) [.int .i64 (rd x7_1 1)] from rfl) (Reps.one (show Kd.M (Kd.int .i64) _ _ _ (rd x7_1 2) [.int .i64 (rd x7_1 2)] from rfl) (Reps.one (show Kd.M (Kd.int .i64) _ _ _ t272 [.int .i64 t272] from rfl) (Reps.one (show Kd.M (Kd.int .i64) _ _ _ (rd x7_1 4) [.int .i64 (rd x7_1 4)] from rfl) (Reps.one (show Kd.M (Kd.int .i64) _ _ _ (rd x7_1 5) [.int .i64 (rd x7_1 5)] from rfl) (Reps.one (show Kd.M (Kd.int .i64) _ _ _ (rd x7_1 6) [.int .i64 (rd x7_1 6)] from rfl) (Reps.none _ _))))))))))
                              intro v277 w45 ho46 hb hg_ hnew_
                              have HS0_ := (hb.cell (World.block_lt_of_cell? _ _ (hHeld.1))).trans (hHeld.1)
                              have HS1_ := (hb.cell (World.block_lt_of_cell? _ _ (hHeld.2.1))).trans (hHeld.2.1)
                              have HS2_ := (hb.cell (World.block_lt_of_cell? _ _ (hHeld.2.2.1))).trans (hHeld.2.2.1)
                              have HS3_ := (hb.cell (World.block_lt_of_cell? _ _ (hHeld.2.2.2.1))).trans (hHeld.2.2.2.1)
                              have HS4_ := (hb.cell (World.block_lt_of_cell? _ _ (hHeld.2.2.2.2.1))).trans (hHeld.2.2.2.2.1)
                              have HS5_ := (hb.cell (World.block_lt_of_cell? _ _ (hHeld.2.2.2.2.2.1))).trans (hHeld.2.2.2.2.2.1)
                              have HS6_ := (hb.cell (World.block_lt_of_cell? _ _ (hHeld.2.2.2.2.2.2))).trans (hHeld.2.2.2.2.2.2)
                              clear hg_ hnew_
                              (first | rw [← Ny276.out] at ho46 | (simp only [Int.reduceToNat] at ho46; rw [← Ny276.out] at ho46))
                              have n0_ := Aside0.mk (Kd.R_elder' (by (with_reducible repeat (first | apply Kd.R_alloc | apply Kd.R_drewN | apply Kd.R_drew)); exact HO_5.out) (Kd.R_base ho46) hb)
                              have n1_ := Aside0.mk (Kd.R_elder' (by (with_reducible repeat (first | apply Kd.R_alloc | apply Kd.R_drewN | apply Kd.R_drew)); exact HO_6.out) (Kd.R_base ho46) hb)
                              have n2_ := Aside0.mk (Kd.R_elder' (by (with_reducible repeat (first | apply Kd.R_alloc | apply Kd.R_drewN | apply Kd.R_drew)); exact HO_7.out) (Kd.R_base ho46) hb)
                              have n3_ := Aside0.mk (Kd.R_lower (Kd.R_new' (Kd.R_new' (Kd.R_new' ho46 (Kd.R_lt (by (with_reducible repeat (first | apply Kd.R_alloc | apply Kd.R_drewN | apply Kd.R_drew)); exact HO_5.out))) (Kd.R_lt (by (with_reducible repeat (first | apply Kd.R_alloc | apply Kd.R_drewN | apply Kd.R_drew)); exact HO_6.out))) (Kd.R_lt (by (with_reducible repeat (first | apply Kd.R_alloc | apply Kd.R_drewN | apply Kd.R_drew)); exact HO_7.out))) (below_size (by repeat (first | (with_reducible first | exact HB.out | apply below_alloc | apply pw_below_drewN | apply below_drew1) | exact HB.out))))
                              have n4_ := Aside0.mk (below_step (by repeat (first | (with_reducible first | exact HB.out | apply below_alloc | apply pw_below_drewN | apply below_drew1) | exact HB.out)) hb)
                              clear HO_5
                              clear HO_6
                              clear HO_7
                              clear HB
                              have HO_5 := n0_
                              have HO_6 := n1_
                              have HO_7 := n2_
                              have HO278 := n3_
                              have HB := n4_
                              clear n0_ n1_ n2_ n3_ n4_
                              clear hb ho46
                              refine hK.out _ _ ⟨HS0_, HS1_, HS2_, HS3_, HS4_, HS5_, HS6_⟩ (fun hHeld => ?_)
                              clear hK K
                              refine norm_ (a' := ?_) ?_ ?_
                              rotate_left
                              · show Act.put _ (some 115) _ = _
                                simp only [Act.put, List.setIfInBounds_toArray, List.set_cons_zero, List.set_cons_succ, i64_w, i32_w]
                                rfl
                              refine pure_ (i := 27) (N := some 7) (v := ?_) (a' := ?_) #[true, true, true, true, true, true, true, true, true, true, true, true, true, true, true, true, true, true, true, true, true, true, true, true, true, true, true, true] rfl rfl (any_of HT_.out (by kernel_rfl)) (fun _ _ _ h => h) (Or.inl ⟨by first | rfl | (simp [Region.wanted, yielded, *]; done) | (simp [Region.wanted, yielded, Int.tmod_eq_emod_of_nonneg (Int.natCast_nonneg _), *]; done) | (simp [Region.wanted, yielded]; omega), ?_⟩) ?_ ?_
                              rotate_left
                              · intro w'
                                go_simp
                                with_reducible rfl
                              rotate_left
                              · simp only [Act.put, List.setIfInBounds_toArray, List.set_cons_zero, List.set_cons_succ, i64_w, i32_w]
                                rfl
                              refine done_ (done_of HT_.out (by kernel_rfl)) ?_
                              try go_wp2
                              go_roundg k1
                              case measure => have := HK1.out; omega
                              case rel => exact ⟨(y276), (wrap64 (x8_1 + 1)), (by first | rfl | (simp; done) | (simp [*]; done) | (simp [Int.tmod_eq_emod_of_nonneg (Int.natCast_nonneg _), *]; done)), H', ⟨by have := HK1.out; omega⟩, ⟨by (with_reducible repeat (first | apply Kd.R_alloc | apply Kd.R_drewN | apply Kd.R_drew)); exact Kd.R_mono HO_5.out (fun _ hk => ⟨hk.1.1, hk.2⟩)⟩, ⟨by (with_reducible repeat (first | apply Kd.R_alloc | apply Kd.R_drewN | apply Kd.R_drew)); exact Kd.R_mono HO_6.out (fun _ hk => ⟨hk.1.1, hk.2⟩)⟩, ⟨by (with_reducible repeat (first | apply Kd.R_alloc | apply Kd.R_drewN | apply Kd.R_drew)); exact Kd.R_mono HO278.out (fun _ hk => ⟨hk.1.1.2, hk.1.2⟩)⟩, ⟨by repeat (first | (with_reducible first | exact HB.out | apply below_alloc | apply pw_below_drewN | apply below_drew1) | exact HB.out)⟩⟩
                            · rw [if_neg c36] at H
                              exact absurd H (by simp)
                          · rw [if_neg c30] at H
                            exact absurd H (by simp)
                        · rw [if_neg c29] at H
                          exact absurd H (by simp)
                      · rw [if_neg c28] at H
                        exact absurd H (by simp)
                    · rw [if_neg c24] at H
                      exact absurd H (by simp)
                  · rw [if_neg c19] at H
                    exact absurd H (by simp)
                · rw [if_neg c17] at H
                  exact absurd H (by simp)
              · rw [if_neg c16] at H
                exact absurd H (by simp)
            · rw [if_neg c13] at H
              exact absurd H (by simp)
          · rw [if_neg c11] at H
            exact absurd H (by simp)
        · rw [if_neg c10] at H
          exact absurd H (by simp)
      · rw [if_neg c9] at H
        have c9b0 : decide (x8_1 < 64) = false := decide_eq_false c9
        clear c9
        obtain ⟨y279, hy279⟩ : ∃ y_ : List Int, y_ = (([] : List Int)) := ⟨_, rfl⟩
        replace H : (spec_l2Compress.l1 k1 l0 x7_1 y279 0) = some r := by first | (rw [hy279]; with_reducible exact H) | (have H2_ := (Option.bind_some _ _).symm.trans H; rw [hy279]; with_reducible exact H2_) | (have H2_ := (Option.bind_some _ _).symm.trans H; with_reducible exact H2_) | with_reducible exact H | (rw [hy279]; exact H) | exact H
        have Ny279 := Aside0.mk hy279
        clear hy279
        have H' := Aside0.mk H
        clear H
        go_wp2_with (first | ((with_reducible refine gate_dst (N := 116) rfl ?_); refine Kd.R_lit (Kd.int .i64) _ 2 ?hg (N := 116) ?hd (xs := ([] : List Int)) (inner := []) (ok := fun _ => True) (okp := fun _ => True) ?hr ?hp (fun _ hk => hk) trivial (Below.refl _ _) (Nat.le_refl _) (by simp) ?_; (case hd => rfl); (case hg => rfl); (case hr => first | (go_simp; done) | (go_simp; rfl)); (case hp => exact (Reps.none _ _)); intro v280 w47 ho48 hb hg_ hnew_; clear hg_ hnew_; (first | rw [← Ny279.out] at ho48 | (simp only [Int.reduceToNat] at ho48; rw [← Ny279.out] at ho48)); have n0_ := Aside0.mk (Kd.R_elder' (by (with_reducible repeat (first | apply Kd.R_alloc | apply Kd.R_drewN | apply Kd.R_drew)); exact HO_5.out) (Kd.R_base ho48) hb); have n1_ := Aside0.mk (Kd.R_elder' (by (with_reducible repeat (first | apply Kd.R_alloc | apply Kd.R_drewN | apply Kd.R_drew)); exact HO_6.out) (Kd.R_base ho48) hb); have n2_ := Aside0.mk (Kd.R_elder' (by (with_reducible repeat (first | apply Kd.R_alloc | apply Kd.R_drewN | apply Kd.R_drew)); exact HO_7.out) (Kd.R_base ho48) hb); have n3_ := Aside0.mk (Kd.R_lower (Kd.R_new' (Kd.R_new' (Kd.R_new' ho48 (Kd.R_lt (by (with_reducible repeat (first | apply Kd.R_alloc | apply Kd.R_drewN | apply Kd.R_drew)); exact HO_5.out))) (Kd.R_lt (by (with_reducible repeat (first | apply Kd.R_alloc | apply Kd.R_drewN | apply Kd.R_drew)); exact HO_6.out))) (Kd.R_lt (by (with_reducible repeat (first | apply Kd.R_alloc | apply Kd.R_drewN | apply Kd.R_drew)); exact HO_7.out))) (below_size (by repeat (first | (with_reducible first | exact HB.out | apply below_alloc | apply pw_below_drewN | apply below_drew1) | exact HB.out)))); have n4_ := Aside0.mk (below_step (by repeat (first | (with_reducible first | exact HB.out | apply below_alloc | apply pw_below_drewN | apply below_drew1) | exact HB.out)) hb); clear HO_5; clear HO_6; clear HO_7; clear HB; have HO_5 := n0_; have HO_6 := n1_; have HO_7 := n2_; have HO281 := n3_; have HB := n4_; clear n0_ n1_ n2_ n3_ n4_; clear hb ho48))
        go_loopg [13, 14] k1 (fun kq v13 v14 w' => ∃ (x13_2 : List Int) (x14_2 : Int), v14 = .int .i64 x14_2 ∧ Aside0 (spec_l2Compress.l1 kq l0 x7_1 x13_2 x14_2 = some r) ∧ Aside0 (kq ≤ k1) ∧ Aside0 (Kd.R (Kd.int .i64) 2 w' w.heap.size (fun k_ => some k_ ≠ (v13 : Value).ownBlock) u7 x7_1) ∧ Aside0 (Kd.R (Kd.int .i64) 2 w' w.heap.size (fun k_ => some k_ ≠ (u7 : Value).ownBlock) v13 x13_2) ∧ Aside0 (Below w.heap.size w w'))
        case atStart => exact ⟨(y279), (0), (by first | rfl | (simp; done) | (simp [*]; done) | (simp [Int.tmod_eq_emod_of_nonneg (Int.natCast_nonneg _), *]; done)), H', ⟨Nat.le_refl _⟩, ⟨by (with_reducible repeat (first | apply Kd.R_alloc | apply Kd.R_drewN | apply Kd.R_drew)); exact Kd.R_mono HO_7.out (fun _ hk => hk.2)⟩, ⟨by (with_reducible repeat (first | apply Kd.R_alloc | apply Kd.R_drewN | apply Kd.R_drew)); exact Kd.R_mono HO281.out (fun _ hk => hk.2)⟩, ⟨by repeat (first | (with_reducible first | exact HB.out | apply below_alloc | apply pw_below_drewN | apply below_drew1) | exact HB.out)⟩⟩
        case round =>
          clear H'
          try clear c1
          try clear c2
          try clear p2
          try clear q2
          try clear hx2
          try clear qi2
          try clear c3
          try clear p6
          try clear c9
          try clear c9b0
          try clear c10
          try clear c11
          try clear c12
          try clear c13
          try clear c16
          try clear c17
          try clear c19
          try clear c24
          try clear p25
          try clear q25
          try clear hx25
          try clear qi25
          try clear p26
          try clear q26
          try clear hx26
          try clear qi26
          try clear p27
          try clear q27
          try clear hx27
          try clear qi27
          try clear c28
          try clear c29
          try clear c30
          try clear c36
          try clear hx255_0
          try clear hx256_0
          try clear hx260_0
          try clear hx261_0
          try clear hx264_0
          try clear hx268_0
          try clear hx269_0
          try clear hx270_0
          try clear hx271_0
          try clear hx273_0
          try clear hx274_0
          try clear hx275_0
          try clear p256
          try clear p260
          try clear p261
          try clear p264
          try clear p268
          try clear p269
          try clear p270
          try clear p271
          try clear p273
          try clear p274
          try clear p275
          try clear q256
          try clear q260
          try clear q261
          try clear q264
          try clear q268
          try clear q269
          try clear q270
          try clear q271
          try clear q273
          try clear q274
          try clear q275
          obtain ⟨x13_2, x14_2, rfl, HA, HK2, HO_7, HO_13, HB⟩ := hrel
          cases gk with
          | zero => exact absurd HA.out (by simp [spec_l2Compress.l1])
          | succ k2 =>
            have H := HA.out
            clear HA
            simp only [spec_l2Compress.l1] at H
            by_cases c49 : x14_2 < 8
            · rw [if_pos c49] at H
              have c49b0 : decide (x14_2 < 8) = true := decide_eq_true c49
              clear c49
              by_cases c50 : 0 ≤ x14_2
              · rw [if_pos c50] at H
                have c50b0 : decide (0 ≤ x14_2) = true := decide_eq_true c50
                clear c50
                by_cases c51 : x14_2 < (l0.length : Int)
                · rw [if_pos c51] at H
                  have c51b0 : decide (x14_2 < (l0.length : Int)) = true := decide_eq_true c51
                  clear c51
                  by_cases c52 : x14_2 < (x7_1.length : Int)
                  · rw [if_pos c52] at H
                    have c52b0 : decide (x14_2 < (x7_1.length : Int)) = true := decide_eq_true c52
                    clear c52
                    replace H := Option.bind_eq_some_iff.mp H
                    obtain ⟨t284, A530, H⟩ := H
                    replace H : (if x13_2.length < 17592186044416 then (spec_l2Compress.l1 k2 l0 x7_1 (x13_2 ++ [t284]) (wrap64 (x14_2 + 1))) else (none)) = some r := H
                    have A53 := Aside0.mk A530
                    clear A530
                    by_cases c54 : x13_2.length < 17592186044416
                    · rw [if_pos c54] at H
                      have LMc54 := Aside0.mk c54
                      clear c54
                      obtain ⟨y285, hy285⟩ : ∃ y_ : List Int, y_ = (x13_2 ++ [t284]) := ⟨_, rfl⟩
                      replace H : (spec_l2Compress.l1 k2 l0 x7_1 y285 (wrap64 (x14_2 + 1))) = some r := by first | (rw [hy285]; with_reducible exact H) | (have H2_ := (Option.bind_some _ _).symm.trans H; rw [hy285]; with_reducible exact H2_) | (have H2_ := (Option.bind_some _ _).symm.trans H; with_reducible exact H2_) | with_reducible exact H | (rw [hy285]; exact H) | exact H
                      have Ny285 := Aside0.mk hy285
                      clear hy285
                      have H' := Aside0.mk H
                      clear H
                      try go_wp2
                      have n0_ := Aside0.mk (Kd.R_drew HO_7.out)
                      have n1_ := Aside0.mk (Kd.R_drew HO_13.out)
                      have n2_ := Aside0.mk (below_drew1 HB.out)
                      clear HO_7
                      clear HO_13
                      clear HB
                      have HO_7 := n0_
                      have HO_13 := n1_
                      have HB := n2_
                      clear n0_ n1_ n2_
                      have p282 : 0 ≤ (x14_2 : Int) := of_decide_eq_true (by first | (with_reducible assumption) | assumption)
                      have q282 : x14_2 < (l0.length : Int) := of_decide_eq_true (by first | (with_reducible assumption) | assumption)
                      obtain ⟨ad282, e282, hx282_0⟩ := Kd.at_int HR0.out x14_2 p282 q282
                      have hw282_0 := hx282_0
                      cases e282
                      replace hx282_0 := (HB.out.cell (World.block_lt_of_cell? w _ hx282_0)).trans hx282_0
                      replace p282 := eq_true p282
                      replace q282 := eq_true q282
                      obtain ⟨Ao56, co56, eo56⟩ := Kd.R_slice HO_7.out
                      (first | subst eo56 | (injection eo56 with f1_ f2_ f3_; have f4_ := f1_.symm; have f5_ := f3_.symm; clear f1_ f2_ f3_; subst f4_; subst f5_))
                      have p283 : 0 ≤ (x14_2 : Int) := of_decide_eq_true (by first | (with_reducible assumption) | assumption)
                      have q283 : x14_2 < (x7_1.length : Int) := of_decide_eq_true (by first | (with_reducible assumption) | assumption)
                      obtain ⟨ad283, e283, hx283_0⟩ := Kd.at_int (Kd.R_reads' HO_7.out).2.2 x14_2 p283 q283
                      cases e283
                      replace p283 := eq_true p283
                      replace q283 := eq_true q283
                      refine start_ (n := 13) (S := fun w' => w'.cell? (ad282.add (x14_2).toNat) = some (.int .i64 (rd l0 x14_2)) ∧ w'.cell? (ad283.add (x14_2).toNat) = some (.int .i64 (rd x7_1 x14_2))) (ds := [10, 11]) #[false, false, false, false, false, false, false, false, false, false, false, false, false] (by kernel_rfl) rfl rfl ⟨((HB.out.cell (World.block_lt_of_cell? w _ hw282_0)).trans hw282_0), hx283_0⟩ (fun hHeld => ?_); refine with_tabW spec_l2Compress.tab16 spec_l2Compress.bits16 (fun HT_ HW_ => ?_)
                      generalize wr.drew = w55 at HO_7 HO_13 HB hx282_0 hx283_0 hHeld ⊢
                      refine pure_ (i := 0) (N := some 121) (v := ?_) (a' := ?_) #[true, false, false, false, false, false, false, false, false, false, false, false, false] rfl rfl (any_of HT_.out (by kernel_rfl)) (fun _ _ _ h => h) (Or.inl ⟨by first | rfl | (simp [Region.wanted, yielded, *]; done) | (simp [Region.wanted, yielded, Int.tmod_eq_emod_of_nonneg (Int.natCast_nonneg _), *]; done) | (simp [Region.wanted, yielded]; omega), ?_⟩) ?_ ?_
                      rotate_left
                      · intro w'
                        go_simp
                        with_reducible rfl
                      rotate_left
                      · simp only [Act.put, List.setIfInBounds_toArray, List.set_cons_zero, List.set_cons_succ, i64_w, i32_w]
                        rfl
                      refine pure_ (i := 1) (N := some 122) (v := ?_) (a' := ?_) #[true, true, false, false, false, false, false, false, false, false, false, false, false] rfl rfl (any_of HT_.out (by kernel_rfl)) (fun _ _ _ h => h) (Or.inl ⟨by first | rfl | (simp [Region.wanted, yielded, *]; done) | (simp [Region.wanted, yielded, Int.tmod_eq_emod_of_nonneg (Int.natCast_nonneg _), *]; done) | (simp [Region.wanted, yielded]; omega), ?_⟩) ?_ ?_
                      rotate_left
                      · intro w'
                        go_simp
                        with_reducible rfl
                      rotate_left
                      · simp only [Act.put, List.setIfInBounds_toArray, List.set_cons_zero, List.set_cons_succ, i64_w, i32_w]
                        rfl
                      refine pure_ (i := 2) (N := some 123) (v := ?_) (a' := ?_) #[true, true, true, false, false, false, false, false, false, false, false, false, false] rfl rfl (any_of HT_.out (by kernel_rfl)) (fun _ _ _ h => h) (Or.inl ⟨by first | rfl | (simp [Region.wanted, yielded, *]; done) | (simp [Region.wanted, yielded, Int.tmod_eq_emod_of_nonneg (Int.natCast_nonneg _), *]; done) | (simp [Region.wanted, yielded]; omega), ?_⟩) ?_ ?_
                      rotate_left
                      · intro w'
                        go_simp
                        with_reducible rfl
                      rotate_left
                      · simp only [Act.put, List.setIfInBounds_toArray, List.set_cons_zero, List.set_cons_succ, i64_w, i32_w]
                        rfl
                      refine pure_ (i := 3) (N := some 124) (v := ?_) (a' := ?_) #[true, true, true, true, false, false, false, false, false, false, false, false, false] rfl rfl (any_of HT_.out (by kernel_rfl)) (fun _ _ _ h => h) (Or.inl ⟨by first | rfl | (simp [Region.wanted, yielded, *]; done) | (simp [Region.wanted, yielded, Int.tmod_eq_emod_of_nonneg (Int.natCast_nonneg _), *]; done) | (simp [Region.wanted, yielded]; omega), ?_⟩) ?_ ?_
                      rotate_left
                      · intro w'
                        go_simp
                        with_reducible rfl
                      rotate_left
                      · simp only [Act.put, List.setIfInBounds_toArray, List.set_cons_zero, List.set_cons_succ, i64_w, i32_w]
                        rfl
                      refine pure_ (i := 5) (N := some 126) (v := ?_) (a' := ?_) #[true, true, true, true, false, true, false, false, false, false, false, false, false] rfl rfl (any_of HT_.out (by kernel_rfl)) (fun _ _ _ h => h) (Or.inl ⟨by first | rfl | (simp [Region.wanted, yielded, *]; done) | (simp [Region.wanted, yielded, Int.tmod_eq_emod_of_nonneg (Int.natCast_nonneg _), *]; done) | (simp [Region.wanted, yielded]; omega), ?_⟩) ?_ ?_
                      rotate_left
                      · intro w'
                        go_simp
                        with_reducible rfl
                      rotate_left
                      · simp only [Act.put, List.setIfInBounds_toArray, List.set_cons_zero, List.set_cons_succ, i64_w, i32_w]
                        rfl
                      refine pure_ (i := 6) (N := some 127) (v := ?_) (a' := ?_) #[true, true, true, true, false, true, true, false, false, false, false, false, false] rfl rfl (any_of HT_.out (by kernel_rfl)) (fun _ _ _ h => h) (Or.inl ⟨by first | rfl | (simp [Region.wanted, yielded, *]; done) | (simp [Region.wanted, yielded, Int.tmod_eq_emod_of_nonneg (Int.natCast_nonneg _), *]; done) | (simp [Region.wanted, yielded]; omega), ?_⟩) ?_ ?_
                      rotate_left
                      · intro w'
                        go_simp
                        with_reducible rfl
                      rotate_left
                      · simp only [Act.put, List.setIfInBounds_toArray, List.set_cons_zero, List.set_cons_succ, i64_w, i32_w]
                        rfl
                      refine pure_ (i := 7) (N := some 128) (v := ?_) (a' := ?_) #[true, true, true, true, false, true, true, true, false, false, false, false, false] rfl rfl (any_of HT_.out (by kernel_rfl)) (fun _ _ _ h => h) (Or.inl ⟨by first | rfl | (simp [Region.wanted, yielded, *]; done) | (simp [Region.wanted, yielded, Int.tmod_eq_emod_of_nonneg (Int.natCast_nonneg _), *]; done) | (simp [Region.wanted, yielded]; omega), ?_⟩) ?_ ?_
                      rotate_left
                      · intro w'
                        go_simp
                        with_reducible rfl
                      rotate_left
                      · simp only [Act.put, List.setIfInBounds_toArray, List.set_cons_zero, List.set_cons_succ, i64_w, i32_w]
                        rfl
                      refine take_ (i := 4) (N := some 125) (v := ?_) (a' := ?_) #[true, true, true, true, true, true, true, true, false, false, false, false, false] rfl rfl (take_ofW HT_.out HW_.out (by kernel_rfl)) (fun _ _ _ h => h) (Or.inl ⟨by first | rfl | (simp [Region.wanted, yielded, *]; done) | (simp [Region.wanted, yielded, Int.tmod_eq_emod_of_nonneg (Int.natCast_nonneg _), *]; done) | (simp [Region.wanted, yielded]; omega), ?_⟩) hHeld ?_ ?_
                      rotate_left
                      · rintro w' ⟨s0, s1⟩
                        go_simp
                        with_reducible rfl
                      rotate_left
                      · simp only [Act.put, List.setIfInBounds_toArray, List.set_cons_zero, List.set_cons_succ, i64_w, i32_w]
                        rfl
                      refine take_ (i := 8) (N := some 129) (v := ?_) (a' := ?_) #[true, true, true, true, true, true, true, true, true, false, false, false, false] rfl rfl (take_ofW HT_.out HW_.out (by kernel_rfl)) (fun _ _ _ h => h) (Or.inl ⟨by first | rfl | (simp [Region.wanted, yielded, *]; done) | (simp [Region.wanted, yielded, Int.tmod_eq_emod_of_nonneg (Int.natCast_nonneg _), *]; done) | (simp [Region.wanted, yielded]; omega), ?_⟩) hHeld ?_ ?_
                      rotate_left
                      · rintro w' ⟨s0, s1⟩
                        go_simp
                        with_reducible rfl
                      rotate_left
                      · simp only [Act.put, List.setIfInBounds_toArray, List.set_cons_zero, List.set_cons_succ, i64_w, i32_w]
                        rfl
                      refine one_ (i := 9) (N := some 130) #[true, true, true, true, true, true, true, true, true, true, false, false, false] rfl rfl (one_of HT_.out (by kernel_rfl)) (by decide) (fun K hK => ?_)
                      refine goes_ Try.func128 (by kernel_rfl) rfl #[.int .i64 (rd l0 x14_2), .int .i64 (rd x7_1 x14_2)] (by first | rfl | (simp [Region.wanted, yielded, *]; done) | (simp [Region.wanted, yielded, Int.tmod_eq_emod_of_nonneg (Int.natCast_nonneg _), *]; done)) rfl rfl (by (try simp only [List.map_toArray, List.map_cons, List.map_nil]); first | done | rfl | (simp only [List.length_drop, List.length_take]; rfl)) ?_
                      with_reducible refine (spec_l1Add.calls (rd l0 x14_2) (rd x7_1 x14_2) t284 _ A53.out).mono ?_
                      rintro e w' ⟨rfl, ⟨nd, rfl⟩⟩
                      refine ⟨_, rfl, ?_⟩
                      refine hK.out _ _ ⟨((HB.out.cell (World.block_lt_of_cell? w _ hw282_0)).trans hw282_0), hHeld.2⟩ (fun hHeld => ?_)
                      clear hK K
                      refine norm_ (a' := ?_) ?_ ?_
                      rotate_left
                      · show Act.put _ (some 130) _ = _
                        simp only [Act.put, List.setIfInBounds_toArray, List.set_cons_zero, List.set_cons_succ, i64_w, i32_w]
                        rfl
                      refine last_ (i := 10) (N := some 131) #[true, true, true, true, true, true, true, true, true, true, true, false, false] rfl rfl (one_of HT_.out (by kernel_rfl)) (by decide) (fun K hK => ?_)
                      refine value_ (w1 := ?_) (v := ?_) (by rfl) rfl ?_ ?_
                      rotate_left 2
                      · go_simp
                        constructor
                        · rfl
                        · rfl
                      refine hK.out _ _ ?_
                      clear hK K
                      refine norm_ (a' := ?_) ?_ ?_
                      rotate_left
                      · show Act.put _ (some 131) _ = _
                        simp only [Act.put, List.setIfInBounds_toArray, List.set_cons_zero, List.set_cons_succ, i64_w, i32_w]
                        rfl
                      refine last_ (i := 11) (N := some 132) #[true, true, true, true, true, true, true, true, true, true, true, true, false] rfl rfl (one_of HT_.out (by kernel_rfl)) (by decide) (fun K hK => ?_)
                      refine Kd.R_append_step (Kd.int .i64) (w0 := w) w.heap.size (by rfl) (.tmp 121) (.tmp 131) 23 2 (.int .i64 0) 8 rfl Try.underlying23 info2 rfl (by decide) (by omega) u13 x13_2 t284 [.int .i64 t284] (fun k_ => some k_ ≠ (.slice (some ad283) x7_1.length co56 : Value).ownBlock) (fun _ => False) rfl rfl ?aP (fun _ hk => hk.elim) ?aF ?aO ?aB ?aS ?aL ?_
                      (case aP => exact rfl)
                      (case aB => exact (by repeat (first | (with_reducible first | exact HB.out | apply below_alloc | apply pw_below_drewN | apply below_drew1) | exact HB.out)))
                      (case aF => exact (fun k_ hk => Kd.fresh' (Kd.R_lt (by (with_reducible repeat (first | apply Kd.R_alloc | apply Kd.R_drewN | apply Kd.R_drew)); exact HO_7.out)) k_ hk))
                      (case aO => exact (by (with_reducible repeat (first | apply Kd.R_alloc | apply Kd.R_drewN | apply Kd.R_drew)); exact HO_13.out))
                      (case aS => exact (below_size (by repeat (first | (with_reducible first | exact HB.out | apply below_alloc | apply pw_below_drewN | apply below_drew1) | exact HB.out))))
                      (case aL => have := LMc54.out; omega)
                      intro v286 w57 ho hb hg hat
                      rw [← Ny285.out] at ho
                      have n0_ := Aside0.mk (Kd.R_after (ok := (fun _ => True)) (by (with_reducible repeat (first | apply Kd.R_alloc | apply Kd.R_drewN | apply Kd.R_drew)); exact Kd.R_mono HO_7.out (fun _ hk => ⟨trivial, hk⟩)) hg hat)
                      have n1_ := Aside0.mk (hb)
                      have n2_ := Aside0.mk (ho)
                      clear HO_7
                      clear HB
                      clear HO_13
                      have HO_7 := n0_
                      have HB := n1_
                      have HO287 := n2_
                      clear n0_ n1_ n2_
                      clear ho hb hg hat
                      refine hK.out _ _ ?_
                      clear hK K
                      refine norm_ (a' := ?_) ?_ ?_
                      rotate_left
                      · show Act.put _ (some 132) _ = _
                        simp only [Act.put, List.setIfInBounds_toArray, List.set_cons_zero, List.set_cons_succ, i64_w, i32_w]
                        rfl
                      refine pure_ (i := 12) (N := some 13) (v := ?_) (a' := ?_) #[true, true, true, true, true, true, true, true, true, true, true, true, true] rfl rfl (any_of HT_.out (by kernel_rfl)) (fun _ _ _ h => h) (Or.inl ⟨by first | rfl | (simp [Region.wanted, yielded, *]; done) | (simp [Region.wanted, yielded, Int.tmod_eq_emod_of_nonneg (Int.natCast_nonneg _), *]; done) | (simp [Region.wanted, yielded]; omega), ?_⟩) ?_ ?_
                      rotate_left
                      · intro w'
                        go_simp
                        with_reducible rfl
                      rotate_left
                      · simp only [Act.put, List.setIfInBounds_toArray, List.set_cons_zero, List.set_cons_succ, i64_w, i32_w]
                        rfl
                      refine done_ (done_of HT_.out (by kernel_rfl)) ?_
                      try go_wp2
                      go_roundg k2
                      case measure => have := HK1.out; have := HK2.out; omega
                      case rel => exact ⟨(y285), (wrap64 (x14_2 + 1)), (by first | rfl | (simp; done) | (simp [*]; done) | (simp [Int.tmod_eq_emod_of_nonneg (Int.natCast_nonneg _), *]; done)), H', ⟨by have := HK1.out; have := HK2.out; omega⟩, ⟨by (with_reducible repeat (first | apply Kd.R_alloc | apply Kd.R_drewN | apply Kd.R_drew)); exact Kd.R_mono HO_7.out (fun _ hk => hk.2)⟩, ⟨by (with_reducible repeat (first | apply Kd.R_alloc | apply Kd.R_drewN | apply Kd.R_drew)); exact HO287.out⟩, ⟨by repeat (first | (with_reducible first | exact HB.out | apply below_alloc | apply pw_below_drewN | apply below_drew1) | exact HB.out)⟩⟩
                    · rw [if_neg c54] at H
                      exact absurd H (by simp)
                  · rw [if_neg c52] at H
                    exact absurd H (by simp)
                · rw [if_neg c51] at H
                  exact absurd H (by simp)
              · rw [if_neg c50] at H
                exact absurd H (by simp)
            · rw [if_neg c49] at H
              have c49b0 : decide (x14_2 < 8) = false := decide_eq_false c49
              clear c49
              obtain rfl := Option.some.inj H
              go_wp2
              go_ret
              exact ⟨_, by first | rfl | (simp [errW_none, errW_some] <;> rfl) | (simp [*, errW_none, errW_some] <;> rfl), by (with_reducible repeat (first | apply Kd.R_alloc | apply Kd.R_drewN | apply Kd.R_drew)); exact Kd.R_mono HO_13.out (fun _ hk => trivial), by repeat (first | (with_reducible first | exact HB.out | apply below_alloc | apply pw_below_drewN | apply below_drew1) | exact HB.out)⟩

end Go.Proofs.Ytceobpekmladdaa.PFnDigests
