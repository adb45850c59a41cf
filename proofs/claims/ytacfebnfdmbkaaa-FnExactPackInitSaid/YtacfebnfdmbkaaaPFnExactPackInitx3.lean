-- Laid by a program of this session (wip/print): the kit's printer with changes of this session's own.
import Derived.Test.YtacfebnfdmbkaaaPFnExactPackInitx0
import Derived.Test.YtacfebnfdmbkaaaPFnExactPackInitx2
namespace Go.Proofs.Ytacfebnfdmbkaaa.PFnExactPackInit
open Go.RowKit Go.Proofs.YtacfebnfdmbkaaaW.PrintWords Go.Proofs.YtacfebnfdmbkaaaW.PrintLast Go.Proofs.YtacfebnfdmbkaaaW.PrintMore
attribute [local go_sem] max2_int min2_int max_two min_two max_three min_three max_four min_four   -- for this text's walks alone
set_option linter.unusedVariables false
set_option linter.unusedSimpArgs false

/-! ### spec_l5InitFault: function 116 -/
mutual
def spec_l5InitFault.j0 : Nat → Bool → Int → Int → List Int → List Int → List Int → Option (Int)
  | 0, _, _, _, _, _, _ => none
  | k + 1, x17, x1000, x1001, x1002, x1003, x1004 => if x17 = true then (some 3) else (if (x1002.length : Int) = 16 then (if (x1003.length : Int) < 1 then (spec_l5InitFault.j1 k true x1000 x1001 x1002 x1003 x1004) else (spec_l5InitFault.j1 k (decide ((x1003.length : Int) > 5)) x1000 x1001 x1002 x1003 x1004)) else (spec_l5InitFault.j1 k true x1000 x1001 x1002 x1003 x1004))
def spec_l5InitFault.j1 : Nat → Bool → Int → Int → List Int → List Int → List Int → Option (Int)
  | 0, _, _, _, _, _, _ => none
  | k + 1, x39, x1000, x1001, x1002, x1003, x1004 => if x39 = true then (some 2) else ((spec_l5Addrs.f k x1003).bind fun t155 => (if t155 = 0 then (if (x1004.length : Int) > 100 then (some 2) else (some 0)) else (some t155)))
end
def spec_l5InitFault.f (k : Nat) (a0_0 : Int) (a0_1 : Int) (l0_2 : List Int) (l0_3 : List Int) (l0_4 : List Int) : Option (Int) := (spec_l1In.f a0_0 1 4294967295).bind fun t153 => (if t153 = true then ((spec_l1Word32.f a0_1).bind fun t154 => (spec_l5InitFault.j0 k (!t154) a0_0 a0_1 l0_2 l0_3 l0_4)) else (spec_l5InitFault.j0 k true a0_0 a0_1 l0_2 l0_3 l0_4))
theorem spec_l5InitFault.mono_l : ∀ k, (∀ y0 y1 y2 y3 y4 y5, LeO (spec_l5InitFault.j0 k y0 y1 y2 y3 y4 y5) (spec_l5InitFault.j0 (k + 1) y0 y1 y2 y3 y4 y5)) ∧ (∀ y0 y1 y2 y3 y4 y5, LeO (spec_l5InitFault.j1 k y0 y1 y2 y3 y4 y5) (spec_l5InitFault.j1 (k + 1) y0 y1 y2 y3 y4 y5))
  | 0 => ⟨fun _ _ _ _ _ _ r h => by simp [spec_l5InitFault.j0] at h, fun _ _ _ _ _ _ r h => by simp [spec_l5InitFault.j1] at h⟩
  | k + 1 => by
    obtain ⟨ih0, ih1⟩ := spec_l5InitFault.mono_l k
    refine ⟨?_, ?_⟩
    · intro y0 y1 y2 y3 y4 y5
      unfold spec_l5InitFault.j0
      repeat' first
      | (with_reducible exact ih0 _ _ _ _ _ _)
      | (with_reducible exact ih1 _ _ _ _ _ _)
      | (with_reducible exact spec_l5Addrs.mono _ _)
      | (with_reducible exact LeO.refl _)
      | (with_reducible exact LeO.none _)
      | (with_reducible refine LeO.ite ?_ ?_)
      | (with_reducible refine LeO.bind ?_ (fun _ => ?_))
      | exact ih0 _ _ _ _ _ _
      | exact ih1 _ _ _ _ _ _
      | exact spec_l5Addrs.mono _ _
      | exact LeO.none _
      | refine LeO.ite ?_ ?_
      | refine LeO.bind ?_ (fun _ => ?_)
    · intro y0 y1 y2 y3 y4 y5
      unfold spec_l5InitFault.j1
      repeat' first
      | (with_reducible exact ih0 _ _ _ _ _ _)
      | (with_reducible exact ih1 _ _ _ _ _ _)
      | (with_reducible exact spec_l5Addrs.mono _ _)
      | (with_reducible exact LeO.refl _)
      | (with_reducible exact LeO.none _)
      | (with_reducible refine LeO.ite ?_ ?_)
      | (with_reducible refine LeO.bind ?_ (fun _ => ?_))
      | exact ih0 _ _ _ _ _ _
      | exact ih1 _ _ _ _ _ _
      | exact spec_l5Addrs.mono _ _
      | exact LeO.none _
      | refine LeO.ite ?_ ?_
      | refine LeO.bind ?_ (fun _ => ?_)
theorem spec_l5InitFault.mono : ∀ a0 a1 a2 a3 a4 k, LeO (spec_l5InitFault.f k a0 a1 a2 a3 a4) (spec_l5InitFault.f (k + 1) a0 a1 a2 a3 a4) := by
  intro a0 a1 a2 a3 a4 k
  obtain ⟨ih0, ih1⟩ := spec_l5InitFault.mono_l k
  unfold spec_l5InitFault.f
  repeat' first
      | (with_reducible exact ih0 _ _ _ _ _ _)
      | (with_reducible exact ih1 _ _ _ _ _ _)
      | (with_reducible exact spec_l5Addrs.mono _ _)
      | (with_reducible exact LeO.refl _)
      | (with_reducible exact LeO.none _)
      | (with_reducible refine LeO.ite ?_ ?_)
      | (with_reducible refine LeO.bind ?_ (fun _ => ?_))
      | exact ih0 _ _ _ _ _ _
      | exact ih1 _ _ _ _ _ _
      | exact spec_l5Addrs.mono _ _
      | exact LeO.none _
      | refine LeO.ite ?_ ?_
      | refine LeO.bind ?_ (fun _ => ?_)
set_option maxHeartbeats 8000000 in
set_option maxRecDepth 100000 in
theorem spec_l5InitFault.calls (k : Nat) (P0_ : Addr) (a0_0 : Int) (a0_1 : Int) (A0_2 : Option Addr) (c0_2 : Nat) (l0_2 : List Int) (A0_3 : Option Addr) (c0_3 : Nat) (l0_3 : List Int) (A0_4 : Option Addr) (c0_4 : Nat) (l0_4 : List Int) (r : Int) (w : World) (hp0_0 : w.cell? P0_ = some (.int .i64 a0_0)) (hp0_1 : w.cell? ⟨P0_.block, P0_.off + 1, none⟩ = some (.int .i64 a0_1)) (hp0_2 : w.cell? ⟨P0_.block, P0_.off + 2, none⟩ = some (.slice A0_2 l0_2.length c0_2)) (hp0_3 : w.cell? ⟨P0_.block, P0_.off + 3, none⟩ = some (.slice A0_3 l0_3.length c0_3)) (hp0_4 : w.cell? ⟨P0_.block, P0_.off + 4, none⟩ = some (.slice A0_4 l0_4.length c0_4)) (hr0_2 : Kd.C (Kd.int .u8) w A0_2 l0_2.length l0_2) (hc0_2 : l0_2.length ≤ c0_2) (hr0_3 : Kd.C (Kd.int .i64) w A0_3 l0_3.length l0_3) (hc0_3 : l0_3.length ≤ c0_3) (hr0_4 : Kd.C (Kd.int .u8) w A0_4 l0_4.length l0_4) (hc0_4 : l0_4.length ≤ c0_4) (h : spec_l5InitFault.f k a0_0 a0_1 l0_2 l0_3 l0_4 = some r) :
    Calls Try.prog 116 #[.pointer (some P0_)] w fun e w' => e = .returned (.int .i64 r) ∧ Below w.heap.size w w' := by
  have HP0_0 := Aside0.mk hp0_0
  clear hp0_0
  have HP0_1 := Aside0.mk hp0_1
  clear hp0_1
  have HP0_2 := Aside0.mk hp0_2
  clear hp0_2
  have HP0_3 := Aside0.mk hp0_3
  clear hp0_3
  have HP0_4 := Aside0.mk hp0_4
  clear hp0_4
  have HR0_2 := Aside0.mk hr0_2
  have HC0_2 := Aside0.mk hc0_2
  clear hr0_2 hc0_2
  have HR0_3 := Aside0.mk hr0_3
  have HC0_3 := Aside0.mk hc0_3
  clear hr0_3 hc0_3
  have HR0_4 := Aside0.mk hr0_4
  have HC0_4 := Aside0.mk hc0_4
  clear hr0_4 hc0_4
  have HB := Aside0.mk (Below.refl w.heap.size w)
  have H : ((spec_l1In.f a0_0 1 4294967295).bind fun t153 => (if t153 = true then ((spec_l1Word32.f a0_1).bind fun t154 => (spec_l5InitFault.j0 k (!t154) a0_0 a0_1 l0_2 l0_3 l0_4)) else (spec_l5InitFault.j0 k true a0_0 a0_1 l0_2 l0_3 l0_4))) = some r := h
  clear h
  have HC2 := Aside0.mk H
  clear H
  go_enter Try.func116, Try.ntmps116
  go_upto_region 1 with (fail)
  go_cut [17] (fun v17 wc => ∃ (kq : Nat) (x17_1 : Bool), v17 = .bool x17_1 ∧ Aside0 (spec_l5InitFault.j0 kq x17_1 a0_0 a0_1 l0_2 l0_3 l0_4 = some r) ∧ Aside0 (kq ≤ k) ∧ Aside0 (Below w.heap.size w wc))
  case first =>
    have H := HC2.out
    clear HC2
    replace H := Option.bind_eq_some_iff.mp H
    obtain ⟨t153, A30, H⟩ := H
    replace H : (if t153 = true then ((spec_l1Word32.f a0_1).bind fun t154 => (spec_l5InitFault.j0 k (!t154) a0_0 a0_1 l0_2 l0_3 l0_4)) else (spec_l5InitFault.j0 k true a0_0 a0_1 l0_2 l0_3 l0_4)) = some r := H
    have A3 := Aside0.mk A30
    clear A30
    by_cases c4 : t153 = true
    · subst c4
      have H1 : ((spec_l1Word32.f a0_1).bind fun t154 => (spec_l5InitFault.j0 k (!t154) a0_0 a0_1 l0_2 l0_3 l0_4)) = some r := by rw [if_pos rfl] at H; exact H
      clear H
      have H := H1
      clear H1
      replace H := Option.bind_eq_some_iff.mp H
      obtain ⟨t154, A50, H⟩ := H
      replace H : (spec_l5InitFault.j0 k (!t154) a0_0 a0_1 l0_2 l0_3 l0_4) = some r := H
      have A5 := Aside0.mk A50
      clear A50
      have H' := Aside0.mk H
      clear H
      have hcz6_0 : w.cell? P0_ = some (.int .i64 a0_0) := HP0_0.out
      have hcz6_1 : w.cell? ⟨P0_.block, P0_.off + 1, none⟩ = some (.int .i64 a0_1) := HP0_1.out
      have hcz6_2 : w.cell? ⟨P0_.block, P0_.off + 2, none⟩ = some (.slice A0_2 l0_2.length c0_2) := HP0_2.out
      have hcz6_3 : w.cell? ⟨P0_.block, P0_.off + 3, none⟩ = some (.slice A0_3 l0_3.length c0_3) := HP0_3.out
      have hcz6_4 : w.cell? ⟨P0_.block, P0_.off + 4, none⟩ = some (.slice A0_4 l0_4.length c0_4) := HP0_4.out
      go_wp2_with (first | ((with_reducible refine gate_callee (f := 152) rfl ?_); refine goesL_ (some 8) rfl rfl Try.func152 (by kernel_rfl) rfl #[.int .i64 a0_0, .int .i64 1, .int .i64 4294967295] rfl (by (try simp only [List.map_toArray, List.map_cons, List.map_nil]); first | done | rfl | (simp only [List.length_drop, List.length_take]; rfl)) ?_; (with_reducible refine (spec_l1In.calls a0_0 1 4294967295 true _ A3.out).mono ?_); rintro e w' ⟨rfl, ⟨nd, rfl⟩⟩; refine ⟨_, rfl, ?_⟩) | (go_at_call 140; (with_reducible refine (spec_l1Word32.calls a0_1 t154 _ A5.out).mono ?_); rintro e w' ⟨rfl, ⟨nd, rfl⟩⟩))
      go_meet
      case rel => exact ⟨_, (!t154), (by first | rfl | (simp; done) | (simp [*]; done) | (simp [Int.tmod_eq_emod_of_nonneg (Int.natCast_nonneg _), *]; done)), H', ⟨by first | omega | exact Nat.le_refl _⟩, ⟨by repeat (first | (with_reducible first | exact HB.out | apply below_alloc | apply pw_below_drewN | apply below_drew1) | exact HB.out)⟩⟩
    · replace c4 := Bool.eq_false_iff.mpr c4
      subst c4
      have H1 : (spec_l5InitFault.j0 k true a0_0 a0_1 l0_2 l0_3 l0_4) = some r := by rw [if_neg (show ¬ (false = true) by decide)] at H; exact H
      clear H
      have H := H1
      clear H1
      have H' := Aside0.mk H
      clear H
      have hcz7_0 : w.cell? P0_ = some (.int .i64 a0_0) := HP0_0.out
      have hcz7_1 : w.cell? ⟨P0_.block, P0_.off + 1, none⟩ = some (.int .i64 a0_1) := HP0_1.out
      have hcz7_2 : w.cell? ⟨P0_.block, P0_.off + 2, none⟩ = some (.slice A0_2 l0_2.length c0_2) := HP0_2.out
      have hcz7_3 : w.cell? ⟨P0_.block, P0_.off + 3, none⟩ = some (.slice A0_3 l0_3.length c0_3) := HP0_3.out
      have hcz7_4 : w.cell? ⟨P0_.block, P0_.off + 4, none⟩ = some (.slice A0_4 l0_4.length c0_4) := HP0_4.out
      go_wp2_with (first | ((with_reducible refine gate_callee (f := 152) rfl ?_); refine goesL_ (some 8) rfl rfl Try.func152 (by kernel_rfl) rfl #[.int .i64 a0_0, .int .i64 1, .int .i64 4294967295] rfl (by (try simp only [List.map_toArray, List.map_cons, List.map_nil]); first | done | rfl | (simp only [List.length_drop, List.length_take]; rfl)) ?_; (with_reducible refine (spec_l1In.calls a0_0 1 4294967295 false _ A3.out).mono ?_); rintro e w' ⟨rfl, ⟨nd, rfl⟩⟩; refine ⟨_, rfl, ?_⟩))
      go_meet
      case rel => exact ⟨_, (true), (by first | rfl | (simp; done) | (simp [*]; done) | (simp [Int.tmod_eq_emod_of_nonneg (Int.natCast_nonneg _), *]; done)), H', ⟨by first | omega | exact Nat.le_refl _⟩, ⟨by repeat (first | (with_reducible first | exact HB.out | apply below_alloc | apply pw_below_drewN | apply below_drew1) | exact HB.out)⟩⟩
  case rest =>
    clear HC2
    try clear c1
    try clear p2
    try clear c4
    try clear hcz6_0
    try clear hcz6_1
    try clear hcz6_2
    try clear hcz6_3
    try clear hcz6_4
    try clear hcz7_0
    try clear hcz7_1
    try clear hcz7_2
    try clear hcz7_3
    try clear hcz7_4
    obtain ⟨kq, x17_1, rfl, HA, HJ1, HB⟩ := hcut
    cases kq with
    | zero => exact absurd HA.out (by simp [spec_l5InitFault.j0])
    | succ kj1 =>
      have H := HA.out
      clear HA
      simp only [spec_l5InitFault.j0] at H
      by_cases c8 : x17_1 = true
      · subst c8
        have H1 : (some 3) = some r := by rw [if_pos rfl] at H; exact H
        clear H
        have H := H1
        clear H1
        obtain rfl := Option.some.inj H
        go_wp2
        go_ret
        exact ⟨by first | rfl | (simp [errW_none, errW_some] <;> rfl) | (simp [*, errW_none, errW_some] <;> rfl), by repeat (first | (with_reducible first | exact HB.out | apply below_alloc | apply pw_below_drewN | apply below_drew1) | exact HB.out)⟩
      · replace c8 := Bool.eq_false_iff.mpr c8
        subst c8
        have H1 : (if (l0_2.length : Int) = 16 then (if (l0_3.length : Int) < 1 then (spec_l5InitFault.j1 kj1 true a0_0 a0_1 l0_2 l0_3 l0_4) else (spec_l5InitFault.j1 kj1 (decide ((l0_3.length : Int) > 5)) a0_0 a0_1 l0_2 l0_3 l0_4)) else (spec_l5InitFault.j1 kj1 true a0_0 a0_1 l0_2 l0_3 l0_4)) = some r := by rw [if_neg (show ¬ (false = true) by decide)] at H; exact H
        clear H
        have H := H1
        clear H1
        have HC9 := Aside0.mk H
        clear H
        go_upto_region 3 with (fail)
        go_cut [39] (fun v39 wc => ∃ (kq : Nat) (x39_8 : Bool), v39 = .bool x39_8 ∧ Aside0 (spec_l5InitFault.j1 kq x39_8 a0_0 a0_1 l0_2 l0_3 l0_4 = some r) ∧ Aside0 (kq ≤ kj1) ∧ Aside0 (Below w.heap.size w wc))
        case first =>
          have H := HC9.out
          clear HC9
          by_cases c10 : (l0_2.length : Int) = 16
          · rw [if_pos c10] at H
            have c10b0 : ((l0_2.length : Int) == 16) = true := beq_iff_eq.mpr c10
            have c10b1 : ((l0_2.length : Int) != 16) = false := bne_eq_false_iff_eq.mpr c10
            clear c10
            (first | rw [c10b0] | (simp only [i64_w, i32_w]; rw [c10b0]) | skip)
            by_cases c11 : (l0_3.length : Int) < 1
            · rw [if_pos c11] at H
              have c11b0 : decide ((l0_3.length : Int) < 1) = true := decide_eq_true c11
              have c11b1 : decide (l0_3.length < 1) = true := decide_eq_true (by omega)
              clear c11
              have H' := Aside0.mk H
              clear H
              have hcz12_0 : wc.cell? P0_ = some (.int .i64 a0_0) := (by first | exact HP0_0.out | exact (HB.out.cell (World.block_lt_of_cell? w _ HP0_0.out)).trans HP0_0.out)
              have hcz12_1 : wc.cell? ⟨P0_.block, P0_.off + 1, none⟩ = some (.int .i64 a0_1) := (by first | exact HP0_1.out | exact (HB.out.cell (World.block_lt_of_cell? w _ HP0_1.out)).trans HP0_1.out)
              have hcz12_2 : wc.cell? ⟨P0_.block, P0_.off + 2, none⟩ = some (.slice A0_2 l0_2.length c0_2) := (by first | exact HP0_2.out | exact (HB.out.cell (World.block_lt_of_cell? w _ HP0_2.out)).trans HP0_2.out)
              have hcz12_3 : wc.cell? ⟨P0_.block, P0_.off + 3, none⟩ = some (.slice A0_3 l0_3.length c0_3) := (by first | exact HP0_3.out | exact (HB.out.cell (World.block_lt_of_cell? w _ HP0_3.out)).trans HP0_3.out)
              have hcz12_4 : wc.cell? ⟨P0_.block, P0_.off + 4, none⟩ = some (.slice A0_4 l0_4.length c0_4) := (by first | exact HP0_4.out | exact (HB.out.cell (World.block_lt_of_cell? w _ HP0_4.out)).trans HP0_4.out)
              go_wp2
              go_meet
              case rel => exact ⟨_, (true), (by first | rfl | (simp; done) | (simp [*]; done) | (simp [Int.tmod_eq_emod_of_nonneg (Int.natCast_nonneg _), *]; done)), H', ⟨by have := HJ1.out; first | omega | exact Nat.le_refl _⟩, ⟨by repeat (first | (with_reducible first | exact HB.out | apply below_alloc | apply pw_below_drewN | apply below_drew1) | exact HB.out)⟩⟩
            · rw [if_neg c11] at H
              have c11b0 : decide ((l0_3.length : Int) < 1) = false := decide_eq_false c11
              have c11b1 : decide (l0_3.length < 1) = false := decide_eq_false (by omega)
              clear c11
              have H' := Aside0.mk H
              clear H
              have hcz13_0 : wc.cell? P0_ = some (.int .i64 a0_0) := (by first | exact HP0_0.out | exact (HB.out.cell (World.block_lt_of_cell? w _ HP0_0.out)).trans HP0_0.out)
              have hcz13_1 : wc.cell? ⟨P0_.block, P0_.off + 1, none⟩ = some (.int .i64 a0_1) := (by first | exact HP0_1.out | exact (HB.out.cell (World.block_lt_of_cell? w _ HP0_1.out)).trans HP0_1.out)
              have hcz13_2 : wc.cell? ⟨P0_.block, P0_.off + 2, none⟩ = some (.slice A0_2 l0_2.length c0_2) := (by first | exact HP0_2.out | exact (HB.out.cell (World.block_lt_of_cell? w _ HP0_2.out)).trans HP0_2.out)
              have hcz13_3 : wc.cell? ⟨P0_.block, P0_.off + 3, none⟩ = some (.slice A0_3 l0_3.length c0_3) := (by first | exact HP0_3.out | exact (HB.out.cell (World.block_lt_of_cell? w _ HP0_3.out)).trans HP0_3.out)
              have hcz13_4 : wc.cell? ⟨P0_.block, P0_.off + 4, none⟩ = some (.slice A0_4 l0_4.length c0_4) := (by first | exact HP0_4.out | exact (HB.out.cell (World.block_lt_of_cell? w _ HP0_4.out)).trans HP0_4.out)
              go_wp2
              go_meet
              case rel => exact ⟨_, (decide ((l0_3.length : Int) > 5)), (by first | rfl | (simp; done) | (simp [*]; done) | (simp [Int.tmod_eq_emod_of_nonneg (Int.natCast_nonneg _), *]; done)), H', ⟨by have := HJ1.out; first | omega | exact Nat.le_refl _⟩, ⟨by repeat (first | (with_reducible first | exact HB.out | apply below_alloc | apply pw_below_drewN | apply below_drew1) | exact HB.out)⟩⟩
          · rw [if_neg c10] at H
            have c10b0 : ((l0_2.length : Int) == 16) = false := beq_eq_false_iff_ne.mpr c10
            have c10b1 : ((l0_2.length : Int) != 16) = true := bne_iff_ne.mpr c10
            (first | rw [c10b0] | (simp only [i64_w, i32_w]; rw [c10b0]) | skip)
            have H' := Aside0.mk H
            clear H
            have hcz14_0 : wc.cell? P0_ = some (.int .i64 a0_0) := (by first | exact HP0_0.out | exact (HB.out.cell (World.block_lt_of_cell? w _ HP0_0.out)).trans HP0_0.out)
            have hcz14_1 : wc.cell? ⟨P0_.block, P0_.off + 1, none⟩ = some (.int .i64 a0_1) := (by first | exact HP0_1.out | exact (HB.out.cell (World.block_lt_of_cell? w _ HP0_1.out)).trans HP0_1.out)
            have hcz14_2 : wc.cell? ⟨P0_.block, P0_.off + 2, none⟩ = some (.slice A0_2 l0_2.length c0_2) := (by first | exact HP0_2.out | exact (HB.out.cell (World.block_lt_of_cell? w _ HP0_2.out)).trans HP0_2.out)
            have hcz14_3 : wc.cell? ⟨P0_.block, P0_.off + 3, none⟩ = some (.slice A0_3 l0_3.length c0_3) := (by first | exact HP0_3.out | exact (HB.out.cell (World.block_lt_of_cell? w _ HP0_3.out)).trans HP0_3.out)
            have hcz14_4 : wc.cell? ⟨P0_.block, P0_.off + 4, none⟩ = some (.slice A0_4 l0_4.length c0_4) := (by first | exact HP0_4.out | exact (HB.out.cell (World.block_lt_of_cell? w _ HP0_4.out)).trans HP0_4.out)
            go_wp2
            go_meet
            case rel => exact ⟨_, (true), (by first | rfl | (simp; done) | (simp [*]; done) | (simp [Int.tmod_eq_emod_of_nonneg (Int.natCast_nonneg _), *]; done)), H', ⟨by have := HJ1.out; first | omega | exact Nat.le_refl _⟩, ⟨by repeat (first | (with_reducible first | exact HB.out | apply below_alloc | apply pw_below_drewN | apply below_drew1) | exact HB.out)⟩⟩
        case rest =>
          clear HC9
          try clear c1
          try clear p2
          try clear c4
          try clear c8
          try clear c10
          try clear c10b0
          try clear c10b1
          try clear c11
          try clear c11b0
          try clear c11b1
          try clear hcz12_0
          try clear hcz12_1
          try clear hcz12_2
          try clear hcz12_3
          try clear hcz12_4
          try clear hcz13_0
          try clear hcz13_1
          try clear hcz13_2
          try clear hcz13_3
          try clear hcz13_4
          try clear hcz14_0
          try clear hcz14_1
          try clear hcz14_2
          try clear hcz14_3
          try clear hcz14_4
          try clear hcz6_0
          try clear hcz6_1
          try clear hcz6_2
          try clear hcz6_3
          try clear hcz6_4
          try clear hcz7_0
          try clear hcz7_1
          try clear hcz7_2
          try clear hcz7_3
          try clear hcz7_4
          try clear p2
          obtain ⟨kq, x39_8, rfl, HA, HJ8, HB⟩ := hcut
          cases kq with
          | zero => exact absurd HA.out (by simp [spec_l5InitFault.j1])
          | succ kj8 =>
            have H := HA.out
            clear HA
            simp only [spec_l5InitFault.j1] at H
            by_cases c15 : x39_8 = true
            · subst c15
              have H1 : (some 2) = some r := by rw [if_pos rfl] at H; exact H
              clear H
              have H := H1
              clear H1
              obtain rfl := Option.some.inj H
              go_wp2
              go_ret
              exact ⟨by first | rfl | (simp [errW_none, errW_some] <;> rfl) | (simp [*, errW_none, errW_some] <;> rfl), by repeat (first | (with_reducible first | exact HB.out | apply below_alloc | apply pw_below_drewN | apply below_drew1) | exact HB.out)⟩
            · replace c15 := Bool.eq_false_iff.mpr c15
              subst c15
              have H1 : ((spec_l5Addrs.f kj8 l0_3).bind fun t155 => (if t155 = 0 then (if (l0_4.length : Int) > 100 then (some 2) else (some 0)) else (some t155))) = some r := by rw [if_neg (show ¬ (false = true) by decide)] at H; exact H
              clear H
              have H := H1
              clear H1
              replace H := Option.bind_eq_some_iff.mp H
              obtain ⟨t155, A160, H⟩ := H
              replace H : (if t155 = 0 then (if (l0_4.length : Int) > 100 then (some 2) else (some 0)) else (some t155)) = some r := H
              have A16 := Aside0.mk A160
              clear A160
              by_cases c17 : t155 = 0
              · rw [if_pos c17] at H
                have c17b0 : (t155 == 0) = true := beq_iff_eq.mpr c17
                have c17b1 : (t155 != 0) = false := bne_eq_false_iff_eq.mpr c17
                clear c17
                by_cases c18 : (l0_4.length : Int) > 100
                · rw [if_pos c18] at H
                  have c18b0 : decide (100 < (l0_4.length : Int)) = true := decide_eq_true c18
                  have c18b1 : decide (100 < l0_4.length) = true := decide_eq_true (by omega)
                  clear c18
                  obtain rfl := Option.some.inj H
                  have hcz19_0 : wc.cell? P0_ = some (.int .i64 a0_0) := (by first | exact HP0_0.out | exact (HB.out.cell (World.block_lt_of_cell? w _ HP0_0.out)).trans HP0_0.out)
                  have hcz19_1 : wc.cell? ⟨P0_.block, P0_.off + 1, none⟩ = some (.int .i64 a0_1) := (by first | exact HP0_1.out | exact (HB.out.cell (World.block_lt_of_cell? w _ HP0_1.out)).trans HP0_1.out)
                  have hcz19_2 : wc.cell? ⟨P0_.block, P0_.off + 2, none⟩ = some (.slice A0_2 l0_2.length c0_2) := (by first | exact HP0_2.out | exact (HB.out.cell (World.block_lt_of_cell? w _ HP0_2.out)).trans HP0_2.out)
                  have hcz19_3 : wc.cell? ⟨P0_.block, P0_.off + 3, none⟩ = some (.slice A0_3 l0_3.length c0_3) := (by first | exact HP0_3.out | exact (HB.out.cell (World.block_lt_of_cell? w _ HP0_3.out)).trans HP0_3.out)
                  have hcz19_4 : wc.cell? ⟨P0_.block, P0_.off + 4, none⟩ = some (.slice A0_4 l0_4.length c0_4) := (by first | exact HP0_4.out | exact (HB.out.cell (World.block_lt_of_cell? w _ HP0_4.out)).trans HP0_4.out)
                  go_wp2_with (first | ((with_reducible refine gate_callee (f := 170) rfl ?_); refine goesL_ (some 44) rfl rfl Try.func170 (by kernel_rfl) rfl #[.slice A0_3 l0_3.length c0_3] rfl (by (try simp only [List.map_toArray, List.map_cons, List.map_nil]); first | done | rfl | (simp only [List.length_drop, List.length_take]; rfl)) ?_; (with_reducible refine (spec_l5Addrs.calls kj8 _ _ l0_3 t155 _ ?side1 ?side2 A16.out).mono ?_); (case side1 => repeat (first | exact (Kd.C_below HR0_3.out HB.out) | (with_reducible refine Kd.C_alloc ?_ _) | (with_reducible refine Kd.C_drewN ?_ _) | (with_reducible refine Kd.C_drew ?_))); (case side2 => exact HC0_3.out); rintro e w' ⟨rfl, ⟨nd, rfl⟩⟩; refine ⟨_, rfl, ?_⟩))
                  go_ret
                  exact ⟨by first | rfl | (simp [errW_none, errW_some] <;> rfl) | (simp [*, errW_none, errW_some] <;> rfl), by repeat (first | (with_reducible first | exact HB.out | apply below_alloc | apply pw_below_drewN | apply below_drew1) | exact HB.out)⟩
                · rw [if_neg c18] at H
                  have c18b0 : decide (100 < (l0_4.length : Int)) = false := decide_eq_false c18
                  have c18b1 : decide (100 < l0_4.length) = false := decide_eq_false (by omega)
                  clear c18
                  obtain rfl := Option.some.inj H
                  have hcz20_0 : wc.cell? P0_ = some (.int .i64 a0_0) := (by first | exact HP0_0.out | exact (HB.out.cell (World.block_lt_of_cell? w _ HP0_0.out)).trans HP0_0.out)
                  have hcz20_1 : wc.cell? ⟨P0_.block, P0_.off + 1, none⟩ = some (.int .i64 a0_1) := (by first | exact HP0_1.out | exact (HB.out.cell (World.block_lt_of_cell? w _ HP0_1.out)).trans HP0_1.out)
                  have hcz20_2 : wc.cell? ⟨P0_.block, P0_.off + 2, none⟩ = some (.slice A0_2 l0_2.length c0_2) := (by first | exact HP0_2.out | exact (HB.out.cell (World.block_lt_of_cell? w _ HP0_2.out)).trans HP0_2.out)
                  have hcz20_3 : wc.cell? ⟨P0_.block, P0_.off + 3, none⟩ = some (.slice A0_3 l0_3.length c0_3) := (by first | exact HP0_3.out | exact (HB.out.cell (World.block_lt_of_cell? w _ HP0_3.out)).trans HP0_3.out)
                  have hcz20_4 : wc.cell? ⟨P0_.block, P0_.off + 4, none⟩ = some (.slice A0_4 l0_4.length c0_4) := (by first | exact HP0_4.out | exact (HB.out.cell (World.block_lt_of_cell? w _ HP0_4.out)).trans HP0_4.out)
                  go_wp2_with (first | ((with_reducible refine gate_callee (f := 170) rfl ?_); refine goesL_ (some 44) rfl rfl Try.func170 (by kernel_rfl) rfl #[.slice A0_3 l0_3.length c0_3] rfl (by (try simp only [List.map_toArray, List.map_cons, List.map_nil]); first | done | rfl | (simp only [List.length_drop, List.length_take]; rfl)) ?_; (with_reducible refine (spec_l5Addrs.calls kj8 _ _ l0_3 t155 _ ?side1 ?side2 A16.out).mono ?_); (case side1 => repeat (first | exact (Kd.C_below HR0_3.out HB.out) | (with_reducible refine Kd.C_alloc ?_ _) | (with_reducible refine Kd.C_drewN ?_ _) | (with_reducible refine Kd.C_drew ?_))); (case side2 => exact HC0_3.out); rintro e w' ⟨rfl, ⟨nd, rfl⟩⟩; refine ⟨_, rfl, ?_⟩))
                  go_ret
                  exact ⟨by first | rfl | (simp [errW_none, errW_some] <;> rfl) | (simp [*, errW_none, errW_some] <;> rfl), by repeat (first | (with_reducible first | exact HB.out | apply below_alloc | apply pw_below_drewN | apply below_drew1) | exact HB.out)⟩
              · rw [if_neg c17] at H
                have c17b0 : (t155 == 0) = false := beq_eq_false_iff_ne.mpr c17
                have c17b1 : (t155 != 0) = true := bne_iff_ne.mpr c17
                obtain rfl := Option.some.inj H
                have hcz21_0 : wc.cell? P0_ = some (.int .i64 a0_0) := (by first | exact HP0_0.out | exact (HB.out.cell (World.block_lt_of_cell? w _ HP0_0.out)).trans HP0_0.out)
                have hcz21_1 : wc.cell? ⟨P0_.block, P0_.off + 1, none⟩ = some (.int .i64 a0_1) := (by first | exact HP0_1.out | exact (HB.out.cell (World.block_lt_of_cell? w _ HP0_1.out)).trans HP0_1.out)
                have hcz21_2 : wc.cell? ⟨P0_.block, P0_.off + 2, none⟩ = some (.slice A0_2 l0_2.length c0_2) := (by first | exact HP0_2.out | exact (HB.out.cell (World.block_lt_of_cell? w _ HP0_2.out)).trans HP0_2.out)
                have hcz21_3 : wc.cell? ⟨P0_.block, P0_.off + 3, none⟩ = some (.slice A0_3 l0_3.length c0_3) := (by first | exact HP0_3.out | exact (HB.out.cell (World.block_lt_of_cell? w _ HP0_3.out)).trans HP0_3.out)
                have hcz21_4 : wc.cell? ⟨P0_.block, P0_.off + 4, none⟩ = some (.slice A0_4 l0_4.length c0_4) := (by first | exact HP0_4.out | exact (HB.out.cell (World.block_lt_of_cell? w _ HP0_4.out)).trans HP0_4.out)
                go_wp2_with (first | ((with_reducible refine gate_callee (f := 170) rfl ?_); refine goesL_ (some 44) rfl rfl Try.func170 (by kernel_rfl) rfl #[.slice A0_3 l0_3.length c0_3] rfl (by (try simp only [List.map_toArray, List.map_cons, List.map_nil]); first | done | rfl | (simp only [List.length_drop, List.length_take]; rfl)) ?_; (with_reducible refine (spec_l5Addrs.calls kj8 _ _ l0_3 t155 _ ?side1 ?side2 A16.out).mono ?_); (case side1 => repeat (first | exact (Kd.C_below HR0_3.out HB.out) | (with_reducible refine Kd.C_alloc ?_ _) | (with_reducible refine Kd.C_drewN ?_ _) | (with_reducible refine Kd.C_drew ?_))); (case side2 => exact HC0_3.out); rintro e w' ⟨rfl, ⟨nd, rfl⟩⟩; refine ⟨_, rfl, ?_⟩))
                go_ret
                exact ⟨by first | rfl | (simp [errW_none, errW_some] <;> rfl) | (simp [*, errW_none, errW_some] <;> rfl), by repeat (first | (with_reducible first | exact HB.out | apply below_alloc | apply pw_below_drewN | apply below_drew1) | exact HB.out)⟩

/-! ### spec_l5Bad: function 122 -/
def spec_l5Bad.f (a0 : Int) : Option (Int × Int × Int × List Int) := some (a0, 0, 0, ([] : List Int))
set_option maxHeartbeats 8000000 in
set_option maxRecDepth 100000 in
theorem spec_l5Bad.calls (a0 : Int) (r1 : Int) (r2 : Int) (r3 : Int) (r4 : List Int) (w : World) (h : spec_l5Bad.f a0 = some (r1, r2, r3, r4)) :
    Calls Try.prog 122 #[.int .i64 a0] w fun e w' => ∃ v3_ : Value, e = .returned (.agg #[.int .i64 r1, .int .i64 r2, .int .i64 r3, v3_]) ∧ Kd.R (Kd.int .u8) 5 w' w.heap.size (fun _ => True) v3_ r4 ∧ Below w.heap.size w w' := by
  have hu75 := Try.underlying75
  have HB := Aside0.mk (Below.refl w.heap.size w)
  have H : (some (a0, 0, 0, ([] : List Int))) = some (r1, r2, r3, r4) := h
  clear h
  simp only [Option.some.injEq, Prod.mk.injEq] at H
  obtain ⟨rfl, rfl, rfl, rfl⟩ := H
  go_enter Try.func122, Try.ntmps122
  go_wp2_with (first | ((with_reducible refine gate_dst (N := 2) rfl ?_); refine box_event ?hg (N := 2) ?hd (cs := #[.int .i64 0, .int .i64 0, .int .i64 0, .slice none 0 0]) (t := 75) ?hr ?_; (case hd => rfl); (case hg => rfl); (case hr => first | (go_simp; done) | (go_simp; rfl)); intro gb156 hg w2 hbox hb; have n0_ := Aside0.mk (below_step (by repeat (first | (with_reducible first | exact HB.out | apply below_alloc | apply pw_below_drewN | apply below_drew1) | exact HB.out)) hb); have n1_ := Aside0.mk (hbox); have n2_ := Aside0.mk ((by rw [hg]; exact (below_size (by repeat (first | (with_reducible first | exact HB.out | apply below_alloc | apply pw_below_drewN | apply below_drew1) | exact HB.out))) : w.heap.size ≤ gb156)); have n3_ := Aside0.mk ((by rw [hg]; exact (below_size (by repeat (first | (with_reducible first | exact HB.out | apply below_alloc | apply pw_below_drewN | apply below_drew1) | exact HB.out))) : w.heap.size ≤ gb156)); clear HB; have HB := n0_; have BK156 := n1_; have GW156 := n2_; have GE156 := n3_; clear n0_ n1_ n2_ n3_; clear hb hbox hg; have hcz3_0 : w2.cell? ⟨gb156, 0, none⟩ = some (.int .i64 0) := (blk_cell BK156.out 0).trans rfl; have hcz3_1 : w2.cell? ⟨gb156, 1, none⟩ = some (.int .i64 0) := (blk_cell BK156.out 1).trans rfl; have hcz3_2 : w2.cell? ⟨gb156, 2, none⟩ = some (.int .i64 0) := (blk_cell BK156.out 2).trans rfl; have hcz3_3 : w2.cell? ⟨gb156, 3, none⟩ = some (.slice none 0 0) := (blk_cell BK156.out 3).trans rfl; have hfz3_0 := blk_frozen BK156.out 0; have hfz3_1 := blk_frozen BK156.out 1; have hfz3_2 := blk_frozen BK156.out 2; have hfz3_3 := blk_frozen BK156.out 3))
  refine bodyPost_ret (results_cell_row rfl _ _ gb156 75 #[.int .i64 a0, .int .i64 0, .int .i64 0, .slice none 0 0] (0, 0) _ rfl (by (with_reducible repeat (first | refine blk_drewN ?_ _ | refine blk_drew ?_ | refine blk_alloc ?_ _)); refine blk_put (cs := #[.int .i64 a0, .int .i64 0, .int .i64 0, .slice none 0 0]) ?_ 3 _ rfl; (with_reducible repeat (first | refine blk_drewN ?_ _ | refine blk_drew ?_ | refine blk_alloc ?_ _)); refine blk_put (cs := #[.int .i64 a0, .int .i64 0, .int .i64 0, .slice none 0 0]) ?_ 2 _ rfl; (with_reducible repeat (first | refine blk_drewN ?_ _ | refine blk_drew ?_ | refine blk_alloc ?_ _)); refine blk_put (cs := #[.int .i64 a0, .int .i64 0, .int .i64 0, .slice none 0 0]) ?_ 1 _ rfl; (with_reducible repeat (first | refine blk_drewN ?_ _ | refine blk_drew ?_ | refine blk_alloc ?_ _)); refine blk_put (cs := #[.int .i64 0, .int .i64 0, .int .i64 0, .slice none 0 0]) ?_ 0 _ rfl; (with_reducible repeat (first | refine blk_drewN ?_ _ | refine blk_drew ?_ | refine blk_alloc ?_ _)); exact BK156.out) Try.underlying75 rfl (by kernel_rfl)) rfl ?_
  exact ⟨_, by first | rfl | (simp [errW_none, errW_some] <;> rfl) | (simp [*, errW_none, errW_some] <;> rfl), by first | exact Kd.R_nil _ _ _ _ _ | exact Kd.N_nil _ _ _ _ _ | exact Kd.V_nil _ _ _ _ _ | exact Kd.Q_nil _ _ _ _ _ | exact Kd.S_nil _ _ _ _ _, by repeat (first | (with_reducible first | exact HB.out | apply below_alloc | apply pw_below_drewN | apply below_drew1 | refine below_set ?_ GE156.out) | exact HB.out)⟩

/-! ### spec_l1Pack: function 154 -/
def spec_l1Pack.f (a0 : Int) : Option (List Int) := some (([(wrap64 (Int.tdiv a0 16777216)) % 256, (Int.tmod (wrap64 (Int.tdiv a0 65536)) 256) % 256, (Int.tmod (wrap64 (Int.tdiv a0 256)) 256) % 256, (Int.tmod a0 256) % 256] : List Int))
set_option maxHeartbeats 8000000 in
set_option maxRecDepth 100000 in
theorem spec_l1Pack.calls (a0 : Int) (r : List Int) (w : World) (h : spec_l1Pack.f a0 = some r) :
    Calls Try.prog 154 #[.int .i64 a0] w fun e w' => ∃ v0_ : Value, e = .returned (v0_) ∧ Kd.R (Kd.int .u8) 5 w' w.heap.size (fun _ => True) v0_ r ∧ Below w.heap.size w w' := by
  have HB := Aside0.mk (Below.refl w.heap.size w)
  have H : (some (([(wrap64 (Int.tdiv a0 16777216)) % 256, (Int.tmod (wrap64 (Int.tdiv a0 65536)) 256) % 256, (Int.tmod (wrap64 (Int.tdiv a0 256)) 256) % 256, (Int.tmod a0 256) % 256] : List Int))) = some r := h
  clear h
  obtain ⟨y157, hy157⟩ : ∃ y_ : List Int, y_ = (([(wrap64 (Int.tdiv a0 16777216)) % 256, (Int.tmod (wrap64 (Int.tdiv a0 65536)) 256) % 256, (Int.tmod (wrap64 (Int.tdiv a0 256)) 256) % 256, (Int.tmod a0 256) % 256] : List Int)) := ⟨_, rfl⟩
  replace H : (some y157) = some r := by first | (rw [hy157]; with_reducible exact H) | (have H2_ := (Option.bind_some _ _).symm.trans H; rw [hy157]; with_reducible exact H2_) | (have H2_ := (Option.bind_some _ _).symm.trans H; with_reducible exact H2_) | with_reducible exact H | (rw [hy157]; exact H) | exact H
  have Ny157 := Aside0.mk hy157
  clear hy157
  obtain rfl := Option.some.inj H
  go_enter Try.func154, Try.ntmps154
  go_wp2_with (first | ((with_reducible refine gate_dst (N := 17) rfl ?_); refine Kd.R_lit (Kd.int .u8) _ 5 ?hg (N := 17) ?hd (xs := ([(wrap64 (Int.tdiv a0 16777216)) % 256, (Int.tmod (wrap64 (Int.tdiv a0 65536)) 256) % 256, (Int.tmod (wrap64 (Int.tdiv a0 256)) 256) % 256, (Int.tmod a0 256) % 256] : List Int)) (inner := [.int .u8 ((wrap64 (Int.tdiv a0 16777216)) % 256), .int .u8 ((Int.tmod (wrap64 (Int.tdiv a0 65536)) 256) % 256), .int .u8 ((Int.tmod (wrap64 (Int.tdiv a0 256)) 256) % 256), .int .u8 ((Int.tmod a0 256) % 256)]) (ok := fun _ => True) (okp := fun _ => True) ?hr ?hp (fun _ hk => hk) trivial (Below.refl _ _) (Nat.le_refl _) (by simp) ?_; (case hd => rfl); (case hg => rfl); (case hr => first | (go_simp; done) | (go_simp; rfl)); (case hp => exact (Reps.one (show Kd.M (Kd.int .u8) _ _ _ ((wrap64 (Int.tdiv a0 16777216)) % 256) [.int .u8 ((wrap64 (Int.tdiv a0 16777216)) % 256)] from rfl) (Reps.one (show Kd.M (Kd.int .u8) _ _ _ ((Int.tmod (wrap64 (Int.tdiv a0 65536)) 256) % 256) [.int .u8 ((Int.tmod (wrap64 (Int.tdiv a0 65536)) 256) % 256)] from rfl) (Reps.one (show Kd.M (Kd.int .u8) _ _ _ ((Int.tmod (wrap64 (Int.tdiv a0 256)) 256) % 256) [.int .u8 ((Int.tmod (wrap64 (Int.tdiv a0 256)) 256) % 256)] from rfl) (Reps.one (show Kd.M (Kd.int .u8) _ _ _ ((Int.tmod a0 256) % 256) [.int .u8 ((Int.tmod a0 256) % 256)] from rfl) (Reps.none _ _)))))); intro v158 w2 ho3 hb hg_ hnew_; clear hg_ hnew_; (first | rw [← Ny157.out] at ho3 | (simp only [Int.reduceToNat] at ho3; rw [← Ny157.out] at ho3)); have n0_ := Aside0.mk (Kd.R_lower ho3 (below_size (by repeat (first | (with_reducible first | exact HB.out | apply below_alloc | apply pw_below_drewN | apply below_drew1) | exact HB.out)))); have n1_ := Aside0.mk (below_step (by repeat (first | (with_reducible first | exact HB.out | apply below_alloc | apply pw_below_drewN | apply below_drew1) | exact HB.out)) hb); clear HB; have HO159 := n0_; have HB := n1_; clear n0_ n1_; clear hb ho3))
  go_ret
  exact ⟨_, by first | rfl | (simp [errW_none, errW_some] <;> rfl) | (simp [*, errW_none, errW_some] <;> rfl), by (with_reducible repeat (first | apply Kd.R_alloc | apply Kd.R_drewN | apply Kd.R_drew)); exact HO159.out, by repeat (first | (with_reducible first | exact HB.out | apply below_alloc | apply pw_below_drewN | apply below_drew1) | exact HB.out)⟩

/-! ### spec_l5Bytes: function 171 -/
def spec_l5Bytes.l0 : Nat → List Int → List Int → Int → Option (List Int)
  | 0, _, _, _ => none
  | k + 1, x0, x3, x4 => if x4 < (x0.length : Int) then (if 0 ≤ x4 then (if x3.length < 140737488355328 then (spec_l5Bytes.l0 k x0 (x3 ++ [(rd x0 x4) % 256]) (wrap64 (x4 + 1))) else (none)) else (none)) else (some x3)
def spec_l5Bytes.f (k : Nat) (l0 : List Int) : Option (List Int) := spec_l5Bytes.l0 k l0 (([((l0.length : Int)) % 256] : List Int)) 0
theorem spec_l5Bytes.mono_l : ∀ k, (∀ y0 y1 y2, LeO (spec_l5Bytes.l0 k y0 y1 y2) (spec_l5Bytes.l0 (k + 1) y0 y1 y2))
  | 0 => fun _ _ _ r h => by simp [spec_l5Bytes.l0] at h
  | k + 1 => by
    have ih0 := spec_l5Bytes.mono_l k
    · intro y0 y1 y2
      unfold spec_l5Bytes.l0
      repeat' first
      | (with_reducible exact ih0 _ _ _)
      | (with_reducible exact LeO.refl _)
      | (with_reducible exact LeO.none _)
      | (with_reducible refine LeO.ite ?_ ?_)
      | (with_reducible refine LeO.bind ?_ (fun _ => ?_))
      | exact ih0 _ _ _
      | exact LeO.none _
      | refine LeO.ite ?_ ?_
      | refine LeO.bind ?_ (fun _ => ?_)
theorem spec_l5Bytes.mono : ∀ a0 k, LeO (spec_l5Bytes.f k a0) (spec_l5Bytes.f (k + 1) a0) := by
  intro a0 k
  have ih0 := spec_l5Bytes.mono_l k
  unfold spec_l5Bytes.f
  repeat' first
      | (with_reducible exact ih0 _ _ _)
      | (with_reducible exact LeO.refl _)
      | (with_reducible exact LeO.none _)
      | (with_reducible refine LeO.ite ?_ ?_)
      | (with_reducible refine LeO.bind ?_ (fun _ => ?_))
      | exact ih0 _ _ _
      | exact LeO.none _
      | refine LeO.ite ?_ ?_
      | refine LeO.bind ?_ (fun _ => ?_)
set_option maxHeartbeats 8000000 in
set_option maxRecDepth 100000 in
theorem spec_l5Bytes.calls (k : Nat) (A0 : Option Addr) (c0 : Nat) (l0 : List Int) (r : List Int) (w : World) (hr0 : Kd.C (Kd.int .i64) w A0 l0.length l0) (hc0 : l0.length ≤ c0) (h : spec_l5Bytes.f k l0 = some r) :
    Calls Try.prog 171 #[.slice A0 l0.length c0] w fun e w' => ∃ v0_ : Value, e = .returned (v0_) ∧ Kd.R (Kd.int .u8) 5 w' w.heap.size (fun _ => True) v0_ r ∧ Below w.heap.size w w' := by
  have HR0 := Aside0.mk hr0
  have HC0 := Aside0.mk hc0
  clear hr0 hc0
  have HB := Aside0.mk (Below.refl w.heap.size w)
  have H : (spec_l5Bytes.l0 k l0 (([((l0.length : Int)) % 256] : List Int)) 0) = some r := h
  clear h
  obtain ⟨y160, hy160⟩ : ∃ y_ : List Int, y_ = (([((l0.length : Int)) % 256] : List Int)) := ⟨_, rfl⟩
  replace H : (spec_l5Bytes.l0 k l0 y160 0) = some r := by first | (rw [hy160]; with_reducible exact H) | (have H2_ := (Option.bind_some _ _).symm.trans H; rw [hy160]; with_reducible exact H2_) | (have H2_ := (Option.bind_some _ _).symm.trans H; with_reducible exact H2_) | with_reducible exact H | (rw [hy160]; exact H) | exact H
  have Ny160 := Aside0.mk hy160
  clear hy160
  have H' := Aside0.mk H
  clear H
  go_enter Try.func171, Try.ntmps171
  go_wp2_with (first | ((with_reducible refine gate_dst (N := 8) rfl ?_); refine Kd.R_lit (Kd.int .u8) _ 5 ?hg (N := 8) ?hd (xs := ([((l0.length : Int)) % 256] : List Int)) (inner := [.int .u8 (((l0.length : Int)) % 256)]) (ok := fun _ => True) (okp := fun _ => True) ?hr ?hp (fun _ hk => hk) trivial (Below.refl _ _) (Nat.le_refl _) (by simp) ?_; (case hd => rfl); (case hg => rfl); (case hr => first | (go_simp; done) | (go_simp; rfl)); (case hp => exact (Reps.one (show Kd.M (Kd.int .u8) _ _ _ (((l0.length : Int)) % 256) [.int .u8 (((l0.length : Int)) % 256)] from rfl) (Reps.none _ _))); intro v161 w2 ho3 hb hg_ hnew_; clear hg_ hnew_; (first | rw [← Ny160.out] at ho3 | (simp only [Int.reduceToNat] at ho3; rw [← Ny160.out] at ho3)); have n0_ := Aside0.mk (Kd.R_lower ho3 (below_size (by repeat (first | (with_reducible first | exact HB.out | apply below_alloc | apply pw_below_drewN | apply below_drew1) | exact HB.out)))); have n1_ := Aside0.mk (below_step (by repeat (first | (with_reducible first | exact HB.out | apply below_alloc | apply pw_below_drewN | apply below_drew1) | exact HB.out)) hb); clear HB; have HO162 := n0_; have HB := n1_; clear n0_ n1_; clear hb ho3))
  go_loopg [3, 4] k (fun kq v3 v4 w' => ∃ (x3_1 : List Int) (x4_1 : Int), v4 = .int .i64 x4_1 ∧ Aside0 (spec_l5Bytes.l0 kq l0 x3_1 x4_1 = some r) ∧ Aside0 (kq ≤ k) ∧ Aside0 (Kd.R (Kd.int .u8) 5 w' w.heap.size (fun _ => True) v3 x3_1) ∧ Aside0 (Below w.heap.size w w'))
  case atStart => exact ⟨(y160), (0), (by first | rfl | (simp; done) | (simp [*]; done) | (simp [Int.tmod_eq_emod_of_nonneg (Int.natCast_nonneg _), *]; done)), H', ⟨Nat.le_refl _⟩, ⟨by (with_reducible repeat (first | apply Kd.R_alloc | apply Kd.R_drewN | apply Kd.R_drew)); exact HO162.out⟩, ⟨by repeat (first | (with_reducible first | exact HB.out | apply below_alloc | apply pw_below_drewN | apply below_drew1) | exact HB.out)⟩⟩
  case round =>
    clear H'
    try clear c1
    try clear p2
    obtain ⟨x3_1, x4_1, rfl, HA, HK1, HO_3, HB⟩ := hrel
    cases gk with
    | zero => exact absurd HA.out (by simp [spec_l5Bytes.l0])
    | succ k1 =>
      have H := HA.out
      clear HA
      simp only [spec_l5Bytes.l0] at H
      by_cases c4 : x4_1 < (l0.length : Int)
      · rw [if_pos c4] at H
        have c4b0 : decide (x4_1 < (l0.length : Int)) = true := decide_eq_true c4
        clear c4
        by_cases c5 : 0 ≤ x4_1
        · rw [if_pos c5] at H
          have c5b0 : decide (0 ≤ x4_1) = true := decide_eq_true c5
          clear c5
          by_cases c6 : x3_1.length < 140737488355328
          · rw [if_pos c6] at H
            have LMc6 := Aside0.mk c6
            clear c6
            obtain ⟨y164, hy164⟩ : ∃ y_ : List Int, y_ = (x3_1 ++ [(rd l0 x4_1) % 256]) := ⟨_, rfl⟩
            replace H : (spec_l5Bytes.l0 k1 l0 y164 (wrap64 (x4_1 + 1))) = some r := by first | (rw [hy164]; with_reducible exact H) | (have H2_ := (Option.bind_some _ _).symm.trans H; rw [hy164]; with_reducible exact H2_) | (have H2_ := (Option.bind_some _ _).symm.trans H; with_reducible exact H2_) | with_reducible exact H | (rw [hy164]; exact H) | exact H
            have Ny164 := Aside0.mk hy164
            clear hy164
            have H' := Aside0.mk H
            clear H
            have p163 : 0 ≤ (x4_1 : Int) := of_decide_eq_true (by first | (with_reducible assumption) | assumption)
            have q163 : x4_1 < (l0.length : Int) := of_decide_eq_true (by first | (with_reducible assumption) | assumption)
            obtain ⟨ad163, e163, hx163_0⟩ := Kd.at_int HR0.out x4_1 p163 q163
            cases e163
            replace hx163_0 := (HB.out.cell (World.block_lt_of_cell? w _ hx163_0)).trans hx163_0
            replace p163 := eq_true p163
            replace q163 := eq_true q163
            go_wp2_with (first | ((with_reducible refine gate_builtin (b := .append) (xs := #[.tmp 15, .tmp 21]) rfl ?_); at_builtin; refine Kd.R_append (Kd.int .u8) (w0 := w) w.heap.size rfl (.tmp 15) (.tmp 21) 23 5 (.int .u8 0) 1 rfl Try.underlying23 info5 rfl (by decide) (by omega) u3 x3_1 ((rd l0 x4_1) % 256) [.int .u8 ((rd l0 x4_1) % 256)] (fun _ => True) (fun _ => False) rfl rfl ?aP (fun _ hk => hk.elim) ?aF ?aO ?aB ?aS ?aL ?_; (case aP => exact rfl); (case aB => exact (by repeat (first | (with_reducible first | exact HB.out | apply below_alloc | apply pw_below_drewN | apply below_drew1) | exact HB.out))); (case aF => exact (fun _ _ => trivial)); (case aO => exact (by (with_reducible repeat (first | apply Kd.R_alloc | apply Kd.R_drewN | apply Kd.R_drew)); exact HO_3.out)); (case aS => exact (below_size (by repeat (first | (with_reducible first | exact HB.out | apply below_alloc | apply pw_below_drewN | apply below_drew1) | exact HB.out)))); (case aL => have := LMc6.out; omega); intro v165 w7 ho hb hg hat; rw [← Ny164.out] at ho; have n0_ := Aside0.mk (hb); have n1_ := Aside0.mk (ho); clear HB; clear HO_3; have HB := n0_; have HO166 := n1_; clear n0_ n1_; clear ho hb hg hat))
            go_roundg k1
            case measure => have := HK1.out; omega
            case rel => exact ⟨(y164), (wrap64 (x4_1 + 1)), (by first | rfl | (simp; done) | (simp [*]; done) | (simp [Int.tmod_eq_emod_of_nonneg (Int.natCast_nonneg _), *]; done)), H', ⟨by have := HK1.out; omega⟩, ⟨by (with_reducible repeat (first | apply Kd.R_alloc | apply Kd.R_drewN | apply Kd.R_drew)); exact HO166.out⟩, ⟨by repeat (first | (with_reducible first | exact HB.out | apply below_alloc | apply pw_below_drewN | apply below_drew1) | exact HB.out)⟩⟩
          · rw [if_neg c6] at H
            exact absurd H (by simp)
        · rw [if_neg c5] at H
          exact absurd H (by simp)
      · rw [if_neg c4] at H
        have c4b0 : decide (x4_1 < (l0.length : Int)) = false := decide_eq_false c4
        clear c4
        obtain rfl := Option.some.inj H
        go_wp2
        go_ret
        exact ⟨_, by first | rfl | (simp [errW_none, errW_some] <;> rfl) | (simp [*, errW_none, errW_some] <;> rfl), by (with_reducible repeat (first | apply Kd.R_alloc | apply Kd.R_drewN | apply Kd.R_drew)); exact HO_3.out, by repeat (first | (with_reducible first | exact HB.out | apply below_alloc | apply pw_below_drewN | apply below_drew1) | exact HB.out)⟩

end Go.Proofs.Ytacfebnfdmbkaaa.PFnExactPackInit
