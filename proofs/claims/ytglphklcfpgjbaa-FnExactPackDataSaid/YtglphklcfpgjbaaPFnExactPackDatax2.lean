-- Laid by a program of this session (wip/print): the kit's printer with changes of this session's own.
import Derived.Test.YtglphklcfpgjbaaPFnExactPackDatax0
import Derived.Test.YtglphklcfpgjbaaPFnExactPackDatax1
namespace Go.Proofs.Ytglphklcfpgjbaa.PFnExactPackData
open Go.RowKit Go.Proofs.YtglphklcfpgjbaaW.PrintWords Go.Proofs.YtglphklcfpgjbaaW.PrintLast Go.Proofs.YtglphklcfpgjbaaW.PrintMore
attribute [local go_sem] max2_int min2_int max_two min_two max_three min_three max_four min_four   -- for this text's walks alone
set_option linter.unusedVariables false
set_option linter.unusedSimpArgs false

/-! ### spec_l5DataFault: function 132 -/
mutual
def spec_l5DataFault.j0 : Nat → Bool → Int → Int → Int → Bool → Bool → Bool → List Int → Option (Int)
  | 0, _, _, _, _, _, _, _, _ => none
  | k + 1, x24, x1000, x1001, x1002, x1003, x1004, x1005, x1006 => if x24 = true then (some 3) else (if (x1006.length : Int) < 1 then (spec_l5DataFault.j1 k true x1000 x1001 x1002 x1003 x1004 x1005 x1006) else (spec_l5DataFault.j1 k (decide ((x1006.length : Int) > 100)) x1000 x1001 x1002 x1003 x1004 x1005 x1006))
def spec_l5DataFault.j1 : Nat → Bool → Int → Int → Int → Bool → Bool → Bool → List Int → Option (Int)
  | 0, _, _, _, _, _, _, _, _ => none
  | k + 1, x38, x1000, x1001, x1002, x1003, x1004, x1005, x1006 => if x38 = true then (some 2) else (if x1005 = true then (if x1002 = 0 then (some 0) else (some 1)) else (some 0))
end
def spec_l5DataFault.f (k : Nat) (a0_0 : Int) (a0_1 : Int) (a0_2 : Int) (a0_3 : Bool) (a0_4 : Bool) (a0_5 : Bool) (l0_6 : List Int) : Option (Int) := (spec_l1Word32.f a0_0).bind fun t125 => (if t125 = true then ((spec_l1In.f a0_1 0 9).bind fun t126 => (if t126 = true then ((spec_l1In.f a0_2 0 65535).bind fun t127 => (spec_l5DataFault.j0 k (!t127) a0_0 a0_1 a0_2 a0_3 a0_4 a0_5 l0_6)) else (spec_l5DataFault.j0 k true a0_0 a0_1 a0_2 a0_3 a0_4 a0_5 l0_6))) else (spec_l5DataFault.j0 k true a0_0 a0_1 a0_2 a0_3 a0_4 a0_5 l0_6))
theorem spec_l5DataFault.mono_l : ∀ k, (∀ y0 y1 y2 y3 y4 y5 y6 y7, LeO (spec_l5DataFault.j0 k y0 y1 y2 y3 y4 y5 y6 y7) (spec_l5DataFault.j0 (k + 1) y0 y1 y2 y3 y4 y5 y6 y7)) ∧ (∀ y0 y1 y2 y3 y4 y5 y6 y7, LeO (spec_l5DataFault.j1 k y0 y1 y2 y3 y4 y5 y6 y7) (spec_l5DataFault.j1 (k + 1) y0 y1 y2 y3 y4 y5 y6 y7))
  | 0 => ⟨fun _ _ _ _ _ _ _ _ r h => by simp [spec_l5DataFault.j0] at h, fun _ _ _ _ _ _ _ _ r h => by simp [spec_l5DataFault.j1] at h⟩
  | k + 1 => by
    obtain ⟨ih0, ih1⟩ := spec_l5DataFault.mono_l k
    refine ⟨?_, ?_⟩
    · intro y0 y1 y2 y3 y4 y5 y6 y7
      unfold spec_l5DataFault.j0
      repeat' first
      | (with_reducible exact ih0 _ _ _ _ _ _ _ _)
      | (with_reducible exact ih1 _ _ _ _ _ _ _ _)
      | (with_reducible exact LeO.refl _)
      | (with_reducible exact LeO.none _)
      | (with_reducible refine LeO.ite ?_ ?_)
      | (with_reducible refine LeO.bind ?_ (fun _ => ?_))
      | exact ih0 _ _ _ _ _ _ _ _
      | exact ih1 _ _ _ _ _ _ _ _
      | exact LeO.none _
      | refine LeO.ite ?_ ?_
      | refine LeO.bind ?_ (fun _ => ?_)
    · intro y0 y1 y2 y3 y4 y5 y6 y7
      unfold spec_l5DataFault.j1
      repeat' first
      | (with_reducible exact ih0 _ _ _ _ _ _ _ _)
      | (with_reducible exact ih1 _ _ _ _ _ _ _ _)
      | (with_reducible exact LeO.refl _)
      | (with_reducible exact LeO.none _)
      | (with_reducible refine LeO.ite ?_ ?_)
      | (with_reducible refine LeO.bind ?_ (fun _ => ?_))
      | exact ih0 _ _ _ _ _ _ _ _
      | exact ih1 _ _ _ _ _ _ _ _
      | exact LeO.none _
      | refine LeO.ite ?_ ?_
      | refine LeO.bind ?_ (fun _ => ?_)
theorem spec_l5DataFault.mono : ∀ a0 a1 a2 a3 a4 a5 a6 k, LeO (spec_l5DataFault.f k a0 a1 a2 a3 a4 a5 a6) (spec_l5DataFault.f (k + 1) a0 a1 a2 a3 a4 a5 a6) := by
  intro a0 a1 a2 a3 a4 a5 a6 k
  obtain ⟨ih0, ih1⟩ := spec_l5DataFault.mono_l k
  unfold spec_l5DataFault.f
  repeat' first
      | (with_reducible exact ih0 _ _ _ _ _ _ _ _)
      | (with_reducible exact ih1 _ _ _ _ _ _ _ _)
      | (with_reducible exact LeO.refl _)
      | (with_reducible exact LeO.none _)
      | (with_reducible refine LeO.ite ?_ ?_)
      | (with_reducible refine LeO.bind ?_ (fun _ => ?_))
      | exact ih0 _ _ _ _ _ _ _ _
      | exact ih1 _ _ _ _ _ _ _ _
      | exact LeO.none _
      | refine LeO.ite ?_ ?_
      | refine LeO.bind ?_ (fun _ => ?_)
set_option maxHeartbeats 8000000 in
set_option maxRecDepth 100000 in
theorem spec_l5DataFault.calls (k : Nat) (P0_ : Addr) (a0_0 : Int) (a0_1 : Int) (a0_2 : Int) (a0_3 : Bool) (a0_4 : Bool) (a0_5 : Bool) (A0_6 : Option Addr) (c0_6 : Nat) (l0_6 : List Int) (r : Int) (w : World) (hp0_0 : w.cell? P0_ = some (.int .i64 a0_0)) (hp0_1 : w.cell? ⟨P0_.block, P0_.off + 1, none⟩ = some (.int .i64 a0_1)) (hp0_2 : w.cell? ⟨P0_.block, P0_.off + 2, none⟩ = some (.int .i64 a0_2)) (hp0_3 : w.cell? ⟨P0_.block, P0_.off + 3, none⟩ = some (.bool a0_3)) (hp0_4 : w.cell? ⟨P0_.block, P0_.off + 4, none⟩ = some (.bool a0_4)) (hp0_5 : w.cell? ⟨P0_.block, P0_.off + 5, none⟩ = some (.bool a0_5)) (hp0_6 : w.cell? ⟨P0_.block, P0_.off + 6, none⟩ = some (.slice A0_6 l0_6.length c0_6)) (hr0_6 : Kd.C (Kd.int .u8) w A0_6 l0_6.length l0_6) (hc0_6 : l0_6.length ≤ c0_6) (h : spec_l5DataFault.f k a0_0 a0_1 a0_2 a0_3 a0_4 a0_5 l0_6 = some r) :
    Calls Try.prog 132 #[.pointer (some P0_)] w fun e w' => e = .returned (.int .i64 r) ∧ Below w.heap.size w w' := by
  have HP0_0 := Aside0.mk hp0_0
  clear hp0_0
  have HP0_1 := Aside0.mk hp0_1
  clear hp0_1
  have HP0_2 := Aside0.mk hp0_2
  clear hp0_2
  have HP0_3 := Aside0.mk hp0_3
  clear hp0_3
  have HP0_4 := Aside0.mk hp0_4
  clear hp0_4
  have HP0_5 := Aside0.mk hp0_5
  clear hp0_5
  have HP0_6 := Aside0.mk hp0_6
  clear hp0_6
  have HR0_6 := Aside0.mk hr0_6
  have HC0_6 := Aside0.mk hc0_6
  clear hr0_6 hc0_6
  have HB := Aside0.mk (Below.refl w.heap.size w)
  have H : ((spec_l1Word32.f a0_0).bind fun t125 => (if t125 = true then ((spec_l1In.f a0_1 0 9).bind fun t126 => (if t126 = true then ((spec_l1In.f a0_2 0 65535).bind fun t127 => (spec_l5DataFault.j0 k (!t127) a0_0 a0_1 a0_2 a0_3 a0_4 a0_5 l0_6)) else (spec_l5DataFault.j0 k true a0_0 a0_1 a0_2 a0_3 a0_4 a0_5 l0_6))) else (spec_l5DataFault.j0 k true a0_0 a0_1 a0_2 a0_3 a0_4 a0_5 l0_6))) = some r := h
  clear h
  have HC2 := Aside0.mk H
  clear H
  go_enter Try.func132, Try.ntmps132
  go_upto_region 1 with (fail)
  go_cut [24] (fun v24 wc => ∃ (kq : Nat) (x24_1 : Bool), v24 = .bool x24_1 ∧ Aside0 (spec_l5DataFault.j0 kq x24_1 a0_0 a0_1 a0_2 a0_3 a0_4 a0_5 l0_6 = some r) ∧ Aside0 (kq ≤ k) ∧ Aside0 (Below w.heap.size w wc))
  case first =>
    have H := HC2.out
    clear HC2
    replace H := Option.bind_eq_some_iff.mp H
    obtain ⟨t125, A30, H⟩ := H
    replace H : (if t125 = true then ((spec_l1In.f a0_1 0 9).bind fun t126 => (if t126 = true then ((spec_l1In.f a0_2 0 65535).bind fun t127 => (spec_l5DataFault.j0 k (!t127) a0_0 a0_1 a0_2 a0_3 a0_4 a0_5 l0_6)) else (spec_l5DataFault.j0 k true a0_0 a0_1 a0_2 a0_3 a0_4 a0_5 l0_6))) else (spec_l5DataFault.j0 k true a0_0 a0_1 a0_2 a0_3 a0_4 a0_5 l0_6)) = some r := H
    have A3 := Aside0.mk A30
    clear A30
    by_cases c4 : t125 = true
    · subst c4
      have H1 : ((spec_l1In.f a0_1 0 9).bind fun t126 => (if t126 = true then ((spec_l1In.f a0_2 0 65535).bind fun t127 => (spec_l5DataFault.j0 k (!t127) a0_0 a0_1 a0_2 a0_3 a0_4 a0_5 l0_6)) else (spec_l5DataFault.j0 k true a0_0 a0_1 a0_2 a0_3 a0_4 a0_5 l0_6))) = some r := by rw [if_pos rfl] at H; exact H
      clear H
      have H := H1
      clear H1
      replace H := Option.bind_eq_some_iff.mp H
      obtain ⟨t126, A50, H⟩ := H
      replace H : (if t126 = true then ((spec_l1In.f a0_2 0 65535).bind fun t127 => (spec_l5DataFault.j0 k (!t127) a0_0 a0_1 a0_2 a0_3 a0_4 a0_5 l0_6)) else (spec_l5DataFault.j0 k true a0_0 a0_1 a0_2 a0_3 a0_4 a0_5 l0_6)) = some r := H
      have A5 := Aside0.mk A50
      clear A50
      by_cases c6 : t126 = true
      · subst c6
        have H1 : ((spec_l1In.f a0_2 0 65535).bind fun t127 => (spec_l5DataFault.j0 k (!t127) a0_0 a0_1 a0_2 a0_3 a0_4 a0_5 l0_6)) = some r := by rw [if_pos rfl] at H; exact H
        clear H
        have H := H1
        clear H1
        replace H := Option.bind_eq_some_iff.mp H
        obtain ⟨t127, A70, H⟩ := H
        replace H : (spec_l5DataFault.j0 k (!t127) a0_0 a0_1 a0_2 a0_3 a0_4 a0_5 l0_6) = some r := H
        have A7 := Aside0.mk A70
        clear A70
        have H' := Aside0.mk H
        clear H
        have hcz8_0 : w.cell? P0_ = some (.int .i64 a0_0) := HP0_0.out
        have hcz8_1 : w.cell? ⟨P0_.block, P0_.off + 1, none⟩ = some (.int .i64 a0_1) := HP0_1.out
        have hcz8_2 : w.cell? ⟨P0_.block, P0_.off + 2, none⟩ = some (.int .i64 a0_2) := HP0_2.out
        have hcz8_3 : w.cell? ⟨P0_.block, P0_.off + 3, none⟩ = some (.bool a0_3) := HP0_3.out
        have hcz8_4 : w.cell? ⟨P0_.block, P0_.off + 4, none⟩ = some (.bool a0_4) := HP0_4.out
        have hcz8_5 : w.cell? ⟨P0_.block, P0_.off + 5, none⟩ = some (.bool a0_5) := HP0_5.out
        have hcz8_6 : w.cell? ⟨P0_.block, P0_.off + 6, none⟩ = some (.slice A0_6 l0_6.length c0_6) := HP0_6.out
        go_wp2_with (first | ((with_reducible refine gate_callee (f := 87) rfl ?_); refine goesL_ (some 7) rfl rfl Try.func87 (by kernel_rfl) rfl #[.int .i64 a0_0] rfl (by (try simp only [List.map_toArray, List.map_cons, List.map_nil]); first | done | rfl | (simp only [List.length_drop, List.length_take]; rfl)) ?_; (with_reducible refine (spec_l1Word32.calls a0_0 true _ A3.out).mono ?_); rintro e w' ⟨rfl, ⟨nd, rfl⟩⟩; refine ⟨_, rfl, ?_⟩) | (go_at_call 82; (with_reducible refine (spec_l1In.calls a0_1 0 9 true _ A5.out).mono ?_); rintro e w' ⟨rfl, ⟨nd, rfl⟩⟩) | (go_at_call 82; (with_reducible refine (spec_l1In.calls a0_2 0 65535 t127 _ A7.out).mono ?_); rintro e w' ⟨rfl, ⟨nd, rfl⟩⟩))
        go_meet
        case rel => exact ⟨_, (!t127), (by first | rfl | (simp; done) | (simp [*]; done) | (simp [Int.tmod_eq_emod_of_nonneg (Int.natCast_nonneg _), *]; done)), H', ⟨by first | omega | exact Nat.le_refl _⟩, ⟨by repeat (first | (with_reducible first | exact HB.out | apply below_alloc | apply pw_below_drewN | apply below_drew1) | exact HB.out)⟩⟩
      · replace c6 := Bool.eq_false_iff.mpr c6
        subst c6
        have H1 : (spec_l5DataFault.j0 k true a0_0 a0_1 a0_2 a0_3 a0_4 a0_5 l0_6) = some r := by rw [if_neg (show ¬ (false = true) by decide)] at H; exact H
        clear H
        have H := H1
        clear H1
        have H' := Aside0.mk H
        clear H
        have hcz9_0 : w.cell? P0_ = some (.int .i64 a0_0) := HP0_0.out
        have hcz9_1 : w.cell? ⟨P0_.block, P0_.off + 1, none⟩ = some (.int .i64 a0_1) := HP0_1.out
        have hcz9_2 : w.cell? ⟨P0_.block, P0_.off + 2, none⟩ = some (.int .i64 a0_2) := HP0_2.out
        have hcz9_3 : w.cell? ⟨P0_.block, P0_.off + 3, none⟩ = some (.bool a0_3) := HP0_3.out
        have hcz9_4 : w.cell? ⟨P0_.block, P0_.off + 4, none⟩ = some (.bool a0_4) := HP0_4.out
        have hcz9_5 : w.cell? ⟨P0_.block, P0_.off + 5, none⟩ = some (.bool a0_5) := HP0_5.out
        have hcz9_6 : w.cell? ⟨P0_.block, P0_.off + 6, none⟩ = some (.slice A0_6 l0_6.length c0_6) := HP0_6.out
        go_wp2_with (first | ((with_reducible refine gate_callee (f := 87) rfl ?_); refine goesL_ (some 7) rfl rfl Try.func87 (by kernel_rfl) rfl #[.int .i64 a0_0] rfl (by (try simp only [List.map_toArray, List.map_cons, List.map_nil]); first | done | rfl | (simp only [List.length_drop, List.length_take]; rfl)) ?_; (with_reducible refine (spec_l1Word32.calls a0_0 true _ A3.out).mono ?_); rintro e w' ⟨rfl, ⟨nd, rfl⟩⟩; refine ⟨_, rfl, ?_⟩) | (go_at_call 82; (with_reducible refine (spec_l1In.calls a0_1 0 9 false _ A5.out).mono ?_); rintro e w' ⟨rfl, ⟨nd, rfl⟩⟩))
        go_meet
        case rel => exact ⟨_, (true), (by first | rfl | (simp; done) | (simp [*]; done) | (simp [Int.tmod_eq_emod_of_nonneg (Int.natCast_nonneg _), *]; done)), H', ⟨by first | omega | exact Nat.le_refl _⟩, ⟨by repeat (first | (with_reducible first | exact HB.out | apply below_alloc | apply pw_below_drewN | apply below_drew1) | exact HB.out)⟩⟩
    · replace c4 := Bool.eq_false_iff.mpr c4
      subst c4
      have H1 : (spec_l5DataFault.j0 k true a0_0 a0_1 a0_2 a0_3 a0_4 a0_5 l0_6) = some r := by rw [if_neg (show ¬ (false = true) by decide)] at H; exact H
      clear H
      have H := H1
      clear H1
      have H' := Aside0.mk H
      clear H
      have hcz10_0 : w.cell? P0_ = some (.int .i64 a0_0) := HP0_0.out
      have hcz10_1 : w.cell? ⟨P0_.block, P0_.off + 1, none⟩ = some (.int .i64 a0_1) := HP0_1.out
      have hcz10_2 : w.cell? ⟨P0_.block, P0_.off + 2, none⟩ = some (.int .i64 a0_2) := HP0_2.out
      have hcz10_3 : w.cell? ⟨P0_.block, P0_.off + 3, none⟩ = some (.bool a0_3) := HP0_3.out
      have hcz10_4 : w.cell? ⟨P0_.block, P0_.off + 4, none⟩ = some (.bool a0_4) := HP0_4.out
      have hcz10_5 : w.cell? ⟨P0_.block, P0_.off + 5, none⟩ = some (.bool a0_5) := HP0_5.out
      have hcz10_6 : w.cell? ⟨P0_.block, P0_.off + 6, none⟩ = some (.slice A0_6 l0_6.length c0_6) := HP0_6.out
      go_wp2_with (first | ((with_reducible refine gate_callee (f := 87) rfl ?_); refine goesL_ (some 7) rfl rfl Try.func87 (by kernel_rfl) rfl #[.int .i64 a0_0] rfl (by (try simp only [List.map_toArray, List.map_cons, List.map_nil]); first | done | rfl | (simp only [List.length_drop, List.length_take]; rfl)) ?_; (with_reducible refine (spec_l1Word32.calls a0_0 false _ A3.out).mono ?_); rintro e w' ⟨rfl, ⟨nd, rfl⟩⟩; refine ⟨_, rfl, ?_⟩))
      go_meet
      case rel => exact ⟨_, (true), (by first | rfl | (simp; done) | (simp [*]; done) | (simp [Int.tmod_eq_emod_of_nonneg (Int.natCast_nonneg _), *]; done)), H', ⟨by first | omega | exact Nat.le_refl _⟩, ⟨by repeat (first | (with_reducible first | exact HB.out | apply below_alloc | apply pw_below_drewN | apply below_drew1) | exact HB.out)⟩⟩
  case rest =>
    clear HC2
    try clear c1
    try clear p2
    try clear c4
    try clear c6
    try clear c8
    try clear hcz10_0
    try clear hcz10_1
    try clear hcz10_2
    try clear hcz10_3
    try clear hcz10_4
    try clear hcz10_5
    try clear hcz10_6
    try clear hcz8_0
    try clear hcz8_1
    try clear hcz8_2
    try clear hcz8_3
    try clear hcz8_4
    try clear hcz8_5
    try clear hcz8_6
    try clear hcz9_0
    try clear hcz9_1
    try clear hcz9_2
    try clear hcz9_3
    try clear hcz9_4
    try clear hcz9_5
    try clear hcz9_6
    obtain ⟨kq, x24_1, rfl, HA, HJ1, HB⟩ := hcut
    cases kq with
    | zero => exact absurd HA.out (by simp [spec_l5DataFault.j0])
    | succ kj1 =>
      have H := HA.out
      clear HA
      simp only [spec_l5DataFault.j0] at H
      by_cases c11 : x24_1 = true
      · subst c11
        have H1 : (some 3) = some r := by rw [if_pos rfl] at H; exact H
        clear H
        have H := H1
        clear H1
        obtain rfl := Option.some.inj H
        go_wp2
        go_ret
        exact ⟨by first | rfl | (simp [errW_none, errW_some] <;> rfl) | (simp [*, errW_none, errW_some] <;> rfl), by repeat (first | (with_reducible first | exact HB.out | apply below_alloc | apply pw_below_drewN | apply below_drew1) | exact HB.out)⟩
      · replace c11 := Bool.eq_false_iff.mpr c11
        subst c11
        have H1 : (if (l0_6.length : Int) < 1 then (spec_l5DataFault.j1 kj1 true a0_0 a0_1 a0_2 a0_3 a0_4 a0_5 l0_6) else (spec_l5DataFault.j1 kj1 (decide ((l0_6.length : Int) > 100)) a0_0 a0_1 a0_2 a0_3 a0_4 a0_5 l0_6)) = some r := by rw [if_neg (show ¬ (false = true) by decide)] at H; exact H
        clear H
        have H := H1
        clear H1
        have HC12 := Aside0.mk H
        clear H
        go_upto_region 3 with (fail)
        go_cut [38] (fun v38 wc => ∃ (kq : Nat) (x38_11 : Bool), v38 = .bool x38_11 ∧ Aside0 (spec_l5DataFault.j1 kq x38_11 a0_0 a0_1 a0_2 a0_3 a0_4 a0_5 l0_6 = some r) ∧ Aside0 (kq ≤ kj1) ∧ Aside0 (Below w.heap.size w wc))
        case first =>
          have H := HC12.out
          clear HC12
          by_cases c13 : (l0_6.length : Int) < 1
          · rw [if_pos c13] at H
            have c13b0 : decide ((l0_6.length : Int) < 1) = true := decide_eq_true c13
            have c13b1 : decide (l0_6.length < 1) = true := decide_eq_true (by omega)
            clear c13
            (first | rw [c13b0] | (simp only [i64_w, i32_w]; rw [c13b0]) | skip)
            have H' := Aside0.mk H
            clear H
            have hcz14_0 : wc.cell? P0_ = some (.int .i64 a0_0) := (by first | exact HP0_0.out | exact (HB.out.cell (World.block_lt_of_cell? w _ HP0_0.out)).trans HP0_0.out)
            have hcz14_1 : wc.cell? ⟨P0_.block, P0_.off + 1, none⟩ = some (.int .i64 a0_1) := (by first | exact HP0_1.out | exact (HB.out.cell (World.block_lt_of_cell? w _ HP0_1.out)).trans HP0_1.out)
            have hcz14_2 : wc.cell? ⟨P0_.block, P0_.off + 2, none⟩ = some (.int .i64 a0_2) := (by first | exact HP0_2.out | exact (HB.out.cell (World.block_lt_of_cell? w _ HP0_2.out)).trans HP0_2.out)
            have hcz14_3 : wc.cell? ⟨P0_.block, P0_.off + 3, none⟩ = some (.bool a0_3) := (by first | exact HP0_3.out | exact (HB.out.cell (World.block_lt_of_cell? w _ HP0_3.out)).trans HP0_3.out)
            have hcz14_4 : wc.cell? ⟨P0_.block, P0_.off + 4, none⟩ = some (.bool a0_4) := (by first | exact HP0_4.out | exact (HB.out.cell (World.block_lt_of_cell? w _ HP0_4.out)).trans HP0_4.out)
            have hcz14_5 : wc.cell? ⟨P0_.block, P0_.off + 5, none⟩ = some (.bool a0_5) := (by first | exact HP0_5.out | exact (HB.out.cell (World.block_lt_of_cell? w _ HP0_5.out)).trans HP0_5.out)
            have hcz14_6 : wc.cell? ⟨P0_.block, P0_.off + 6, none⟩ = some (.slice A0_6 l0_6.length c0_6) := (by first | exact HP0_6.out | exact (HB.out.cell (World.block_lt_of_cell? w _ HP0_6.out)).trans HP0_6.out)
            go_wp2
            go_meet
            case rel => exact ⟨_, (true), (by first | rfl | (simp; done) | (simp [*]; done) | (simp [Int.tmod_eq_emod_of_nonneg (Int.natCast_nonneg _), *]; done)), H', ⟨by have := HJ1.out; first | omega | exact Nat.le_refl _⟩, ⟨by repeat (first | (with_reducible first | exact HB.out | apply below_alloc | apply pw_below_drewN | apply below_drew1) | exact HB.out)⟩⟩
          · rw [if_neg c13] at H
            have c13b0 : decide ((l0_6.length : Int) < 1) = false := decide_eq_false c13
            have c13b1 : decide (l0_6.length < 1) = false := decide_eq_false (by omega)
            clear c13
            (first | rw [c13b0] | (simp only [i64_w, i32_w]; rw [c13b0]) | skip)
            have H' := Aside0.mk H
            clear H
            have hcz15_0 : wc.cell? P0_ = some (.int .i64 a0_0) := (by first | exact HP0_0.out | exact (HB.out.cell (World.block_lt_of_cell? w _ HP0_0.out)).trans HP0_0.out)
            have hcz15_1 : wc.cell? ⟨P0_.block, P0_.off + 1, none⟩ = some (.int .i64 a0_1) := (by first | exact HP0_1.out | exact (HB.out.cell (World.block_lt_of_cell? w _ HP0_1.out)).trans HP0_1.out)
            have hcz15_2 : wc.cell? ⟨P0_.block, P0_.off + 2, none⟩ = some (.int .i64 a0_2) := (by first | exact HP0_2.out | exact (HB.out.cell (World.block_lt_of_cell? w _ HP0_2.out)).trans HP0_2.out)
            have hcz15_3 : wc.cell? ⟨P0_.block, P0_.off + 3, none⟩ = some (.bool a0_3) := (by first | exact HP0_3.out | exact (HB.out.cell (World.block_lt_of_cell? w _ HP0_3.out)).trans HP0_3.out)
            have hcz15_4 : wc.cell? ⟨P0_.block, P0_.off + 4, none⟩ = some (.bool a0_4) := (by first | exact HP0_4.out | exact (HB.out.cell (World.block_lt_of_cell? w _ HP0_4.out)).trans HP0_4.out)
            have hcz15_5 : wc.cell? ⟨P0_.block, P0_.off + 5, none⟩ = some (.bool a0_5) := (by first | exact HP0_5.out | exact (HB.out.cell (World.block_lt_of_cell? w _ HP0_5.out)).trans HP0_5.out)
            have hcz15_6 : wc.cell? ⟨P0_.block, P0_.off + 6, none⟩ = some (.slice A0_6 l0_6.length c0_6) := (by first | exact HP0_6.out | exact (HB.out.cell (World.block_lt_of_cell? w _ HP0_6.out)).trans HP0_6.out)
            go_wp2
            go_meet
            case rel => exact ⟨_, (decide ((l0_6.length : Int) > 100)), (by first | rfl | (simp; done) | (simp [*]; done) | (simp [Int.tmod_eq_emod_of_nonneg (Int.natCast_nonneg _), *]; done)), H', ⟨by have := HJ1.out; first | omega | exact Nat.le_refl _⟩, ⟨by repeat (first | (with_reducible first | exact HB.out | apply below_alloc | apply pw_below_drewN | apply below_drew1) | exact HB.out)⟩⟩
        case rest =>
          clear HC12
          try clear c1
          try clear p2
          try clear c4
          try clear c6
          try clear c8
          try clear c11
          try clear c13
          try clear c13b0
          try clear c13b1
          try clear hcz10_0
          try clear hcz10_1
          try clear hcz10_2
          try clear hcz10_3
          try clear hcz10_4
          try clear hcz10_5
          try clear hcz10_6
          try clear hcz14_0
          try clear hcz14_1
          try clear hcz14_2
          try clear hcz14_3
          try clear hcz14_4
          try clear hcz14_5
          try clear hcz14_6
          try clear hcz15_0
          try clear hcz15_1
          try clear hcz15_2
          try clear hcz15_3
          try clear hcz15_4
          try clear hcz15_5
          try clear hcz15_6
          try clear hcz8_0
          try clear hcz8_1
          try clear hcz8_2
          try clear hcz8_3
          try clear hcz8_4
          try clear hcz8_5
          try clear hcz8_6
          try clear hcz9_0
          try clear hcz9_1
          try clear hcz9_2
          try clear hcz9_3
          try clear hcz9_4
          try clear hcz9_5
          try clear hcz9_6
          try clear p2
          obtain ⟨kq, x38_11, rfl, HA, HJ11, HB⟩ := hcut
          cases kq with
          | zero => exact absurd HA.out (by simp [spec_l5DataFault.j1])
          | succ kj11 =>
            have H := HA.out
            clear HA
            simp only [spec_l5DataFault.j1] at H
            by_cases c16 : x38_11 = true
            · subst c16
              have H1 : (some 2) = some r := by rw [if_pos rfl] at H; exact H
              clear H
              have H := H1
              clear H1
              obtain rfl := Option.some.inj H
              go_wp2
              go_ret
              exact ⟨by first | rfl | (simp [errW_none, errW_some] <;> rfl) | (simp [*, errW_none, errW_some] <;> rfl), by repeat (first | (with_reducible first | exact HB.out | apply below_alloc | apply pw_below_drewN | apply below_drew1) | exact HB.out)⟩
            · replace c16 := Bool.eq_false_iff.mpr c16
              subst c16
              have H1 : (if a0_5 = true then (if a0_2 = 0 then (some 0) else (some 1)) else (some 0)) = some r := by rw [if_neg (show ¬ (false = true) by decide)] at H; exact H
              clear H
              have H := H1
              clear H1
              by_cases c17 : a0_5 = true
              · subst c17
                have H1 : (if a0_2 = 0 then (some 0) else (some 1)) = some r := by rw [if_pos rfl] at H; exact H
                clear H
                have H := H1
                clear H1
                by_cases c18 : a0_2 = 0
                · rw [if_pos c18] at H
                  have c18b0 : (a0_2 == 0) = true := beq_iff_eq.mpr c18
                  have c18b1 : (a0_2 != 0) = false := bne_eq_false_iff_eq.mpr c18
                  clear c18
                  obtain rfl := Option.some.inj H
                  have hcz19_0 : wc.cell? P0_ = some (.int .i64 a0_0) := (by first | exact HP0_0.out | exact (HB.out.cell (World.block_lt_of_cell? w _ HP0_0.out)).trans HP0_0.out)
                  have hcz19_1 : wc.cell? ⟨P0_.block, P0_.off + 1, none⟩ = some (.int .i64 a0_1) := (by first | exact HP0_1.out | exact (HB.out.cell (World.block_lt_of_cell? w _ HP0_1.out)).trans HP0_1.out)
                  have hcz19_2 : wc.cell? ⟨P0_.block, P0_.off + 2, none⟩ = some (.int .i64 a0_2) := (by first | exact HP0_2.out | exact (HB.out.cell (World.block_lt_of_cell? w _ HP0_2.out)).trans HP0_2.out)
                  have hcz19_3 : wc.cell? ⟨P0_.block, P0_.off + 3, none⟩ = some (.bool a0_3) := (by first | exact HP0_3.out | exact (HB.out.cell (World.block_lt_of_cell? w _ HP0_3.out)).trans HP0_3.out)
                  have hcz19_4 : wc.cell? ⟨P0_.block, P0_.off + 4, none⟩ = some (.bool a0_4) := (by first | exact HP0_4.out | exact (HB.out.cell (World.block_lt_of_cell? w _ HP0_4.out)).trans HP0_4.out)
                  have hcz19_5 : wc.cell? ⟨P0_.block, P0_.off + 5, none⟩ = some (.bool true) := (by first | exact HP0_5.out | exact (HB.out.cell (World.block_lt_of_cell? w _ HP0_5.out)).trans HP0_5.out)
                  have hcz19_6 : wc.cell? ⟨P0_.block, P0_.off + 6, none⟩ = some (.slice A0_6 l0_6.length c0_6) := (by first | exact HP0_6.out | exact (HB.out.cell (World.block_lt_of_cell? w _ HP0_6.out)).trans HP0_6.out)
                  go_wp2
                  go_ret
                  exact ⟨by first | rfl | (simp [errW_none, errW_some] <;> rfl) | (simp [*, errW_none, errW_some] <;> rfl), by repeat (first | (with_reducible first | exact HB.out | apply below_alloc | apply pw_below_drewN | apply below_drew1) | exact HB.out)⟩
                · rw [if_neg c18] at H
                  have c18b0 : (a0_2 == 0) = false := beq_eq_false_iff_ne.mpr c18
                  have c18b1 : (a0_2 != 0) = true := bne_iff_ne.mpr c18
                  obtain rfl := Option.some.inj H
                  have hcz20_0 : wc.cell? P0_ = some (.int .i64 a0_0) := (by first | exact HP0_0.out | exact (HB.out.cell (World.block_lt_of_cell? w _ HP0_0.out)).trans HP0_0.out)
                  have hcz20_1 : wc.cell? ⟨P0_.block, P0_.off + 1, none⟩ = some (.int .i64 a0_1) := (by first | exact HP0_1.out | exact (HB.out.cell (World.block_lt_of_cell? w _ HP0_1.out)).trans HP0_1.out)
                  have hcz20_2 : wc.cell? ⟨P0_.block, P0_.off + 2, none⟩ = some (.int .i64 a0_2) := (by first | exact HP0_2.out | exact (HB.out.cell (World.block_lt_of_cell? w _ HP0_2.out)).trans HP0_2.out)
                  have hcz20_3 : wc.cell? ⟨P0_.block, P0_.off + 3, none⟩ = some (.bool a0_3) := (by first | exact HP0_3.out | exact (HB.out.cell (World.block_lt_of_cell? w _ HP0_3.out)).trans HP0_3.out)
                  have hcz20_4 : wc.cell? ⟨P0_.block, P0_.off + 4, none⟩ = some (.bool a0_4) := (by first | exact HP0_4.out | exact (HB.out.cell (World.block_lt_of_cell? w _ HP0_4.out)).trans HP0_4.out)
                  have hcz20_5 : wc.cell? ⟨P0_.block, P0_.off + 5, none⟩ = some (.bool true) := (by first | exact HP0_5.out | exact (HB.out.cell (World.block_lt_of_cell? w _ HP0_5.out)).trans HP0_5.out)
                  have hcz20_6 : wc.cell? ⟨P0_.block, P0_.off + 6, none⟩ = some (.slice A0_6 l0_6.length c0_6) := (by first | exact HP0_6.out | exact (HB.out.cell (World.block_lt_of_cell? w _ HP0_6.out)).trans HP0_6.out)
                  go_wp2
                  go_ret
                  exact ⟨by first | rfl | (simp [errW_none, errW_some] <;> rfl) | (simp [*, errW_none, errW_some] <;> rfl), by repeat (first | (with_reducible first | exact HB.out | apply below_alloc | apply pw_below_drewN | apply below_drew1) | exact HB.out)⟩
              · replace c17 := Bool.eq_false_iff.mpr c17
                subst c17
                have H1 : (some 0) = some r := by rw [if_neg (show ¬ (false = true) by decide)] at H; exact H
                clear H
                have H := H1
                clear H1
                obtain rfl := Option.some.inj H
                have hcz21_0 : wc.cell? P0_ = some (.int .i64 a0_0) := (by first | exact HP0_0.out | exact (HB.out.cell (World.block_lt_of_cell? w _ HP0_0.out)).trans HP0_0.out)
                have hcz21_1 : wc.cell? ⟨P0_.block, P0_.off + 1, none⟩ = some (.int .i64 a0_1) := (by first | exact HP0_1.out | exact (HB.out.cell (World.block_lt_of_cell? w _ HP0_1.out)).trans HP0_1.out)
                have hcz21_2 : wc.cell? ⟨P0_.block, P0_.off + 2, none⟩ = some (.int .i64 a0_2) := (by first | exact HP0_2.out | exact (HB.out.cell (World.block_lt_of_cell? w _ HP0_2.out)).trans HP0_2.out)
                have hcz21_3 : wc.cell? ⟨P0_.block, P0_.off + 3, none⟩ = some (.bool a0_3) := (by first | exact HP0_3.out | exact (HB.out.cell (World.block_lt_of_cell? w _ HP0_3.out)).trans HP0_3.out)
                have hcz21_4 : wc.cell? ⟨P0_.block, P0_.off + 4, none⟩ = some (.bool a0_4) := (by first | exact HP0_4.out | exact (HB.out.cell (World.block_lt_of_cell? w _ HP0_4.out)).trans HP0_4.out)
                have hcz21_5 : wc.cell? ⟨P0_.block, P0_.off + 5, none⟩ = some (.bool false) := (by first | exact HP0_5.out | exact (HB.out.cell (World.block_lt_of_cell? w _ HP0_5.out)).trans HP0_5.out)
                have hcz21_6 : wc.cell? ⟨P0_.block, P0_.off + 6, none⟩ = some (.slice A0_6 l0_6.length c0_6) := (by first | exact HP0_6.out | exact (HB.out.cell (World.block_lt_of_cell? w _ HP0_6.out)).trans HP0_6.out)
                go_wp2
                go_ret
                exact ⟨by first | rfl | (simp [errW_none, errW_some] <;> rfl) | (simp [*, errW_none, errW_some] <;> rfl), by repeat (first | (with_reducible first | exact HB.out | apply below_alloc | apply pw_below_drewN | apply below_drew1) | exact HB.out)⟩

/-! ### spec_l1Pack: function 107 -/
def spec_l1Pack.f (a0 : Int) : Option (List Int) := some (([(wrap64 (Int.tdiv a0 16777216)) % 256, (Int.tmod (wrap64 (Int.tdiv a0 65536)) 256) % 256, (Int.tmod (wrap64 (Int.tdiv a0 256)) 256) % 256, (Int.tmod a0 256) % 256] : List Int))
set_option maxHeartbeats 8000000 in
set_option maxRecDepth 100000 in
theorem spec_l1Pack.calls (a0 : Int) (r : List Int) (w : World) (h : spec_l1Pack.f a0 = some r) :
    Calls Try.prog 107 #[.int .i64 a0] w fun e w' => ∃ v0_ : Value, e = .returned (v0_) ∧ Kd.R (Kd.int .u8) 5 w' w.heap.size (fun _ => True) v0_ r ∧ Below w.heap.size w w' := by
  have HB := Aside0.mk (Below.refl w.heap.size w)
  have H : (some (([(wrap64 (Int.tdiv a0 16777216)) % 256, (Int.tmod (wrap64 (Int.tdiv a0 65536)) 256) % 256, (Int.tmod (wrap64 (Int.tdiv a0 256)) 256) % 256, (Int.tmod a0 256) % 256] : List Int))) = some r := h
  clear h
  obtain ⟨y128, hy128⟩ : ∃ y_ : List Int, y_ = (([(wrap64 (Int.tdiv a0 16777216)) % 256, (Int.tmod (wrap64 (Int.tdiv a0 65536)) 256) % 256, (Int.tmod (wrap64 (Int.tdiv a0 256)) 256) % 256, (Int.tmod a0 256) % 256] : List Int)) := ⟨_, rfl⟩
  replace H : (some y128) = some r := by first | (rw [hy128]; with_reducible exact H) | (have H2_ := (Option.bind_some _ _).symm.trans H; rw [hy128]; with_reducible exact H2_) | (have H2_ := (Option.bind_some _ _).symm.trans H; with_reducible exact H2_) | with_reducible exact H | (rw [hy128]; exact H) | exact H
  have Ny128 := Aside0.mk hy128
  clear hy128
  obtain rfl := Option.some.inj H
  go_enter Try.func107, Try.ntmps107
  go_wp2_with (first | ((with_reducible refine gate_dst (N := 17) rfl ?_); refine Kd.R_lit (Kd.int .u8) _ 5 ?hg (N := 17) ?hd (xs := ([(wrap64 (Int.tdiv a0 16777216)) % 256, (Int.tmod (wrap64 (Int.tdiv a0 65536)) 256) % 256, (Int.tmod (wrap64 (Int.tdiv a0 256)) 256) % 256, (Int.tmod a0 256) % 256] : List Int)) (inner := [.int .u8 ((wrap64 (Int.tdiv a0 16777216)) % 256), .int .u8 ((Int.tmod (wrap64 (Int.tdiv a0 65536)) 256) % 256), .int .u8 ((Int.tmod (wrap64 (Int.tdiv a0 256)) 256) % 256), .int .u8 ((Int.tmod a0 256) % 256)]) (ok := fun _ => True) (okp := fun _ => True) ?hr ?hp (fun _ hk => hk) trivial (Below.refl _ _) (Nat.le_refl _) (by simp) ?_; (case hd => rfl); (case hg => rfl); (case hr => first | (go_simp; done) | (go_simp; rfl)); (case hp => exact (Reps.one (show Kd.M (Kd.int .u8) _ _ _ ((wrap64 (Int.tdiv a0 16777216)) % 256) [.int .u8 ((wrap64 (Int.tdiv a0 16777216)) % 256)] from rfl) (Reps.one (show Kd.M (Kd.int .u8) _ _ _ ((Int.tmod (wrap64 (Int.tdiv a0 65536)) 256) % 256) [.int .u8 ((Int.tmod (wrap64 (Int.tdiv a0 65536)) 256) % 256)] from rfl) (Reps.one (show Kd.M (Kd.int .u8) _ _ _ ((Int.tmod (wrap64 (Int.tdiv a0 256)) 256) % 256) [.int .u8 ((Int.tmod (wrap64 (Int.tdiv a0 256)) 256) % 256)] from rfl) (Reps.one (show Kd.M (Kd.int .u8) _ _ _ ((Int.tmod a0 256) % 256) [.int .u8 ((Int.tmod a0 256) % 256)] from rfl) (Reps.none _ _)))))); intro v129 w2 ho3 hb hg_ hnew_; clear hg_ hnew_; (first | rw [← Ny128.out] at ho3 | (simp only [Int.reduceToNat] at ho3; rw [← Ny128.out] at ho3)); have n0_ := Aside0.mk (Kd.R_lower ho3 (below_size (by repeat (first | (with_reducible first | exact HB.out | apply below_alloc | apply pw_below_drewN | apply below_drew1) | exact HB.out)))); have n1_ := Aside0.mk (below_step (by repeat (first | (with_reducible first | exact HB.out | apply below_alloc | apply pw_below_drewN | apply below_drew1) | exact HB.out)) hb); clear HB; have HO130 := n0_; have HB := n1_; clear n0_ n1_; clear hb ho3))
  go_ret
  exact ⟨_, by first | rfl | (simp [errW_none, errW_some] <;> rfl) | (simp [*, errW_none, errW_some] <;> rfl), by (with_reducible repeat (first | apply Kd.R_alloc | apply Kd.R_drewN | apply Kd.R_drew)); exact HO130.out, by repeat (first | (with_reducible first | exact HB.out | apply below_alloc | apply pw_below_drewN | apply below_drew1) | exact HB.out)⟩

/-! ### spec_l1Pair: function 145 -/
def spec_l1Pair.f (a0 : Int) : Option (List Int) := some (([(wrap64 (Int.tdiv a0 256)) % 256, (Int.tmod a0 256) % 256] : List Int))
set_option maxHeartbeats 8000000 in
set_option maxRecDepth 100000 in
theorem spec_l1Pair.calls (a0 : Int) (r : List Int) (w : World) (h : spec_l1Pair.f a0 = some r) :
    Calls Try.prog 145 #[.int .i64 a0] w fun e w' => ∃ v0_ : Value, e = .returned (v0_) ∧ Kd.R (Kd.int .u8) 5 w' w.heap.size (fun _ => True) v0_ r ∧ Below w.heap.size w w' := by
  have HB := Aside0.mk (Below.refl w.heap.size w)
  have H : (some (([(wrap64 (Int.tdiv a0 256)) % 256, (Int.tmod a0 256) % 256] : List Int))) = some r := h
  clear h
  obtain ⟨y131, hy131⟩ : ∃ y_ : List Int, y_ = (([(wrap64 (Int.tdiv a0 256)) % 256, (Int.tmod a0 256) % 256] : List Int)) := ⟨_, rfl⟩
  replace H : (some y131) = some r := by first | (rw [hy131]; with_reducible exact H) | (have H2_ := (Option.bind_some _ _).symm.trans H; rw [hy131]; with_reducible exact H2_) | (have H2_ := (Option.bind_some _ _).symm.trans H; with_reducible exact H2_) | with_reducible exact H | (rw [hy131]; exact H) | exact H
  have Ny131 := Aside0.mk hy131
  clear hy131
  obtain rfl := Option.some.inj H
  go_enter Try.func145, Try.ntmps145
  go_wp2_with (first | ((with_reducible refine gate_dst (N := 9) rfl ?_); refine Kd.R_lit (Kd.int .u8) _ 5 ?hg (N := 9) ?hd (xs := ([(wrap64 (Int.tdiv a0 256)) % 256, (Int.tmod a0 256) % 256] : List Int)) (inner := [.int .u8 ((wrap64 (Int.tdiv a0 256)) % 256), .int .u8 ((Int.tmod a0 256) % 256)]) (ok := fun _ => True) (okp := fun _ => True) ?hr ?hp (fun _ hk => hk) trivial (Below.refl _ _) (Nat.le_refl _) (by simp) ?_; (case hd => rfl); (case hg => rfl); (case hr => first | (go_simp; done) | (go_simp; rfl)); (case hp => exact (Reps.one (show Kd.M (Kd.int .u8) _ _ _ ((wrap64 (Int.tdiv a0 256)) % 256) [.int .u8 ((wrap64 (Int.tdiv a0 256)) % 256)] from rfl) (Reps.one (show Kd.M (Kd.int .u8) _ _ _ ((Int.tmod a0 256) % 256) [.int .u8 ((Int.tmod a0 256) % 256)] from rfl) (Reps.none _ _)))); intro v132 w2 ho3 hb hg_ hnew_; clear hg_ hnew_; (first | rw [← Ny131.out] at ho3 | (simp only [Int.reduceToNat] at ho3; rw [← Ny131.out] at ho3)); have n0_ := Aside0.mk (Kd.R_lower ho3 (below_size (by repeat (first | (with_reducible first | exact HB.out | apply below_alloc | apply pw_below_drewN | apply below_drew1) | exact HB.out)))); have n1_ := Aside0.mk (below_step (by repeat (first | (with_reducible first | exact HB.out | apply below_alloc | apply pw_below_drewN | apply below_drew1) | exact HB.out)) hb); clear HB; have HO133 := n0_; have HB := n1_; clear n0_ n1_; clear hb ho3))
  go_ret
  exact ⟨_, by first | rfl | (simp [errW_none, errW_some] <;> rfl) | (simp [*, errW_none, errW_some] <;> rfl), by (with_reducible repeat (first | apply Kd.R_alloc | apply Kd.R_drewN | apply Kd.R_drew)); exact HO133.out, by repeat (first | (with_reducible first | exact HB.out | apply below_alloc | apply pw_below_drewN | apply below_drew1) | exact HB.out)⟩

end Go.Proofs.Ytglphklcfpgjbaa.PFnExactPackData
