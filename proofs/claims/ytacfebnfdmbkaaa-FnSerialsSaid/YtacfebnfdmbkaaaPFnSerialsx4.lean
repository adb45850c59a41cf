-- Laid by a program of this session (wip/print): the kit's printer with changes of this session's own.
import Derived.Test.YtacfebnfdmbkaaaPFnSerialsx0
import Derived.Test.YtacfebnfdmbkaaaPFnSerialsx1
import Derived.Test.YtacfebnfdmbkaaaPFnSerialsx2
import Derived.Test.YtacfebnfdmbkaaaPFnSerialsx3
namespace Go.Proofs.Ytacfebnfdmbkaaa.PFnSerials
open Go.RowKit Go.Proofs.YtacfebnfdmbkaaaW.PrintWords Go.Proofs.YtacfebnfdmbkaaaW.PrintLast Go.Proofs.YtacfebnfdmbkaaaW.PrintMore
attribute [local go_sem] max2_int min2_int max_two min_two max_three min_three max_four min_four   -- for this text's walks alone
set_option linter.unusedVariables false
set_option linter.unusedSimpArgs false

attribute [local go_sem high] eqA95
/-! ### laws_FnSerials: function 12 -/
mutual
def laws_FnSerials.j0 : Nat → Int → Int → Bool → Int → Int → Option (Bool)
  | 0, _, _, _, _, _ => none
  | k + 1, x3, x4, x32, x199000, x199001 => if x32 = true then (some false) else (if x199000 = 0 then ((impl_SerialGap.f k x4 x3).bind fun bt204 => ((impl_AddWords.f k x3 1).bind fun bt207 => ((impl_AddWords.f k x4 1).bind fun bt209 => ((impl_SerialLess.f k x3 x4).bind fun t211 => (if t211 = true then ((impl_SerialLess.f k x4 x3).bind fun t212 => (if t212 = true then (laws_FnSerials.j1 k x3 x4 true x199000 x199001 bt204.1 bt204.2) else ((impl_SerialLess.f k bt207.2 bt209.2).bind fun t213 => ((impl_SerialLess.f k x3 x4).bind fun t214 => (laws_FnSerials.j1 k x3 x4 (t213 != t214) x199000 x199001 bt204.1 bt204.2))))) else ((impl_SerialLess.f k bt207.2 bt209.2).bind fun t215 => ((impl_SerialLess.f k x3 x4).bind fun t216 => (laws_FnSerials.j1 k x3 x4 (t215 != t216) x199000 x199001 bt204.1 bt204.2)))))))) else ((impl_SerialLess.f k x3 x4).bind fun t203 => (some (!t203))))
def laws_FnSerials.j1 : Nat → Int → Int → Bool → Int → Int → Int → Int → Option (Bool)
  | 0, _, _, _, _, _, _, _ => none
  | k + 1, x3, x4, x65, x199000, x199001, x207000, x207001 => if x65 = true then (some false) else (if (Int.tmod (wrap64 (x199001 + x207001)) 4294967296) = 0 then ((impl_AddWords.f k x3 x199001).bind fun bt217 => (if bt217.2 = x4 then (if x3 = x4 then (some true) else (if x199001 = 2147483648 then (some true) else ((impl_SerialLess.f k x3 x4).bind fun t219 => ((impl_SerialLess.f k x4 x3).bind fun t220 => (some (t219 != t220)))))) else (some false))) else (some false))
end
def laws_FnSerials.f (k : Nat) (l0 : List Int) : Option (Bool) := (laws_lwBig.f l0).bind fun t193 => (if t193 = true then (some true) else ((spec_DrawSerialGap.f k l0).bind fun bt194 => ((impl_SerialGap.f k bt194.1 bt194.2).bind fun bt196 => ((spec_SerialGap.f bt194.1 bt194.2).bind fun bt199 => (if (!(bt196.1 == bt199.1) || (!(bt196.2 == bt199.2))) = true then (laws_FnSerials.j0 k bt194.1 bt194.2 true bt196.1 bt196.2) else ((impl_SerialLess.f k bt194.1 bt194.2).bind fun t201 => ((spec_SerialLess.f bt194.1 bt194.2).bind fun t202 => (laws_FnSerials.j0 k bt194.1 bt194.2 (t201 != t202) bt196.1 bt196.2))))))))
theorem laws_FnSerials.mono_l : ∀ k, (∀ y0 y1 y2 y3 y4, LeO (laws_FnSerials.j0 k y0 y1 y2 y3 y4) (laws_FnSerials.j0 (k + 1) y0 y1 y2 y3 y4)) ∧ (∀ y0 y1 y2 y3 y4 y5 y6, LeO (laws_FnSerials.j1 k y0 y1 y2 y3 y4 y5 y6) (laws_FnSerials.j1 (k + 1) y0 y1 y2 y3 y4 y5 y6))
  | 0 => ⟨fun _ _ _ _ _ r h => by simp [laws_FnSerials.j0] at h, fun _ _ _ _ _ _ _ r h => by simp [laws_FnSerials.j1] at h⟩
  | k + 1 => by
    obtain ⟨ih0, ih1⟩ := laws_FnSerials.mono_l k
    refine ⟨?_, ?_⟩
    · intro y0 y1 y2 y3 y4
      unfold laws_FnSerials.j0
      repeat' first
      | (with_reducible exact ih0 _ _ _ _ _)
      | (with_reducible exact ih1 _ _ _ _ _ _ _)
      | (with_reducible exact impl_AddWords.mono _ _ _)
      | (with_reducible exact impl_SerialGap.mono _ _ _)
      | (with_reducible exact impl_SerialLess.mono _ _ _)
      | (with_reducible exact spec_DrawSerialGap.mono _ _)
      | (with_reducible exact LeO.refl _)
      | (with_reducible exact LeO.none _)
      | (with_reducible refine LeO.ite ?_ ?_)
      | (with_reducible refine LeO.bind ?_ (fun _ => ?_))
      | exact ih0 _ _ _ _ _
      | exact ih1 _ _ _ _ _ _ _
      | exact impl_AddWords.mono _ _ _
      | exact impl_SerialGap.mono _ _ _
      | exact impl_SerialLess.mono _ _ _
      | exact spec_DrawSerialGap.mono _ _
      | exact LeO.none _
      | refine LeO.ite ?_ ?_
      | refine LeO.bind ?_ (fun _ => ?_)
    · intro y0 y1 y2 y3 y4 y5 y6
      unfold laws_FnSerials.j1
      repeat' first
      | (with_reducible exact ih0 _ _ _ _ _)
      | (with_reducible exact ih1 _ _ _ _ _ _ _)
      | (with_reducible exact impl_AddWords.mono _ _ _)
      | (with_reducible exact impl_SerialGap.mono _ _ _)
      | (with_reducible exact impl_SerialLess.mono _ _ _)
      | (with_reducible exact spec_DrawSerialGap.mono _ _)
      | (with_reducible exact LeO.refl _)
      | (with_reducible exact LeO.none _)
      | (with_reducible refine LeO.ite ?_ ?_)
      | (with_reducible refine LeO.bind ?_ (fun _ => ?_))
      | exact ih0 _ _ _ _ _
      | exact ih1 _ _ _ _ _ _ _
      | exact impl_AddWords.mono _ _ _
      | exact impl_SerialGap.mono _ _ _
      | exact impl_SerialLess.mono _ _ _
      | exact spec_DrawSerialGap.mono _ _
      | exact LeO.none _
      | refine LeO.ite ?_ ?_
      | refine LeO.bind ?_ (fun _ => ?_)
theorem laws_FnSerials.mono : ∀ a0 k, LeO (laws_FnSerials.f k a0) (laws_FnSerials.f (k + 1) a0) := by
  intro a0 k
  obtain ⟨ih0, ih1⟩ := laws_FnSerials.mono_l k
  unfold laws_FnSerials.f
  repeat' first
      | (with_reducible exact ih0 _ _ _ _ _)
      | (with_reducible exact ih1 _ _ _ _ _ _ _)
      | (with_reducible exact impl_AddWords.mono _ _ _)
      | (with_reducible exact impl_SerialGap.mono _ _ _)
      | (with_reducible exact impl_SerialLess.mono _ _ _)
      | (with_reducible exact spec_DrawSerialGap.mono _ _)
      | (with_reducible exact LeO.refl _)
      | (with_reducible exact LeO.none _)
      | (with_reducible refine LeO.ite ?_ ?_)
      | (with_reducible refine LeO.bind ?_ (fun _ => ?_))
      | exact ih0 _ _ _ _ _
      | exact ih1 _ _ _ _ _ _ _
      | exact impl_AddWords.mono _ _ _
      | exact impl_SerialGap.mono _ _ _
      | exact impl_SerialLess.mono _ _ _
      | exact spec_DrawSerialGap.mono _ _
      | exact LeO.none _
      | refine LeO.ite ?_ ?_
      | refine LeO.bind ?_ (fun _ => ?_)
def laws_FnSerials.T5 : Bool × List (List Nat × List Nat) := (true, [([], []), ([], []), ([], []), ([1, 2], [1, 2]), ([0, 3], [0, 3]), ([4, 3], [4]), ([5], [5]), ([5], [5]), ([6, 7, 5, 5], [5, 6, 7]), ([5], [5]), ([5], [5]), ([9, 10, 8, 5], [5, 9, 10]), ([8, 11, 5], [5, 8, 11]), ([5, 12], [5, 12])])
def laws_FnSerials.B5 : List Nat := [0, 0, 0, 6, 15, 31, 63, 63, 255, 63, 63, 2047, 4095, 8191]
theorem laws_FnSerials.tab5 : rtab .any (opsOf Try.f12 5) = laws_FnSerials.T5 := by kernel_rfl
theorem laws_FnSerials.bits5 : waitsOk laws_FnSerials.T5.2 laws_FnSerials.B5 = true := by kernel_rfl
set_option maxHeartbeats 8000000 in
set_option maxRecDepth 100000 in
theorem laws_FnSerials.calls (k : Nat) (A0 : Option Addr) (c0 : Nat) (l0 : List Int) (r : Bool) (w : World) (hr0 : Kd.C (Kd.int .u8) w A0 l0.length l0) (hc0 : l0.length ≤ c0) (h : laws_FnSerials.f k l0 = some r) (hr_ : r = true) :
    Calls Try.prog 12 #[.slice A0 l0.length c0] w fun e w' => e = .returned (.bool r) ∧ Below w.heap.size w w' := by
  have hu95 := Try.underlying95
  have hfl95_1 : ∀ (z0 z1 : Value) (w_ : World), Sem.run Try.prog (Instr.field 95 (Value.agg #[z0, z1]) 1) w_ = Result.ok z1 w_ := fun _ _ _  => by kernel_rfl
  have HR0 := Aside0.mk hr0
  have HC0 := Aside0.mk hc0
  clear hr0 hc0
  have HB := Aside0.mk (Below.refl w.heap.size w)
  have H : ((laws_lwBig.f l0).bind fun t193 => (if t193 = true then (some true) else ((spec_DrawSerialGap.f k l0).bind fun bt194 => ((impl_SerialGap.f k bt194.1 bt194.2).bind fun bt196 => ((spec_SerialGap.f bt194.1 bt194.2).bind fun bt199 => (if (!(bt196.1 == bt199.1) || (!(bt196.2 == bt199.2))) = true then (laws_FnSerials.j0 k bt194.1 bt194.2 true bt196.1 bt196.2) else ((impl_SerialLess.f k bt194.1 bt194.2).bind fun t201 => ((spec_SerialLess.f bt194.1 bt194.2).bind fun t202 => (laws_FnSerials.j0 k bt194.1 bt194.2 (t201 != t202) bt196.1 bt196.2))))))))) = some r := h
  clear h
  replace H := Option.bind_eq_some_iff.mp H
  obtain ⟨t193, A20, H⟩ := H
  replace H : (if t193 = true then (some true) else ((spec_DrawSerialGap.f k l0).bind fun bt194 => ((impl_SerialGap.f k bt194.1 bt194.2).bind fun bt196 => ((spec_SerialGap.f bt194.1 bt194.2).bind fun bt199 => (if (!(bt196.1 == bt199.1) || (!(bt196.2 == bt199.2))) = true then (laws_FnSerials.j0 k bt194.1 bt194.2 true bt196.1 bt196.2) else ((impl_SerialLess.f k bt194.1 bt194.2).bind fun t201 => ((spec_SerialLess.f bt194.1 bt194.2).bind fun t202 => (laws_FnSerials.j0 k bt194.1 bt194.2 (t201 != t202) bt196.1 bt196.2)))))))) = some r := H
  have A2 := Aside0.mk A20
  clear A20
  by_cases c3 : t193 = true
  · subst c3
    have H1 : (some true) = some r := by rw [if_pos rfl] at H; exact H
    clear H
    have H := H1
    clear H1
    obtain rfl := Option.some.inj H
    go_enter Try.func12, Try.ntmps12
    go_wp2_with (first | ((with_reducible refine gate_callee (f := 42) rfl ?_); refine goesL_ (some 10) rfl rfl Try.func42 (by kernel_rfl) rfl #[.slice A0 l0.length c0] rfl (by (try simp only [List.map_toArray, List.map_cons, List.map_nil]); first | done | rfl | (simp only [List.length_drop, List.length_take]; rfl)) ?_; (with_reducible refine (laws_lwBig.calls _ _ l0 true _ ?side1 ?side2 A2.out).mono ?_); (case side1 => repeat (first | exact HR0.out | (with_reducible refine Kd.C_alloc ?_ _) | (with_reducible refine Kd.C_drewN ?_ _) | (with_reducible refine Kd.C_drew ?_))); (case side2 => exact HC0.out); rintro e w' ⟨rfl, ⟨nd, rfl⟩⟩; refine ⟨_, rfl, ?_⟩))
    go_ret
    exact ⟨by first | rfl | (simp [errW_none, errW_some] <;> rfl) | (simp [*, errW_none, errW_some] <;> rfl), by repeat (first | (with_reducible first | exact HB.out | apply below_alloc | apply pw_below_drewN | apply below_drew1) | exact HB.out)⟩
  · replace c3 := Bool.eq_false_iff.mpr c3
    subst c3
    have H1 : ((spec_DrawSerialGap.f k l0).bind fun bt194 => ((impl_SerialGap.f k bt194.1 bt194.2).bind fun bt196 => ((spec_SerialGap.f bt194.1 bt194.2).bind fun bt199 => (if (!(bt196.1 == bt199.1) || (!(bt196.2 == bt199.2))) = true then (laws_FnSerials.j0 k bt194.1 bt194.2 true bt196.1 bt196.2) else ((impl_SerialLess.f k bt194.1 bt194.2).bind fun t201 => ((spec_SerialLess.f bt194.1 bt194.2).bind fun t202 => (laws_FnSerials.j0 k bt194.1 bt194.2 (t201 != t202) bt196.1 bt196.2))))))) = some r := by rw [if_neg (show ¬ (false = true) by decide)] at H; exact H
    clear H
    have H := H1
    clear H1
    replace H := Option.bind_eq_some_iff.mp H
    obtain ⟨⟨t194, t195⟩, A40, H⟩ := H
    replace H : ((impl_SerialGap.f k t194 t195).bind fun bt196 => ((spec_SerialGap.f t194 t195).bind fun bt199 => (if (!(bt196.1 == bt199.1) || (!(bt196.2 == bt199.2))) = true then (laws_FnSerials.j0 k t194 t195 true bt196.1 bt196.2) else ((impl_SerialLess.f k t194 t195).bind fun t201 => ((spec_SerialLess.f t194 t195).bind fun t202 => (laws_FnSerials.j0 k t194 t195 (t201 != t202) bt196.1 bt196.2)))))) = some r := H
    have A4 := Aside0.mk A40
    clear A40
    replace H := Option.bind_eq_some_iff.mp H
    obtain ⟨⟨t196, t197⟩, A50, H⟩ := H
    replace H : ((spec_SerialGap.f t194 t195).bind fun bt199 => (if (!(t196 == bt199.1) || (!(t197 == bt199.2))) = true then (laws_FnSerials.j0 k t194 t195 true t196 t197) else ((impl_SerialLess.f k t194 t195).bind fun t201 => ((spec_SerialLess.f t194 t195).bind fun t202 => (laws_FnSerials.j0 k t194 t195 (t201 != t202) t196 t197))))) = some r := H
    have A5 := Aside0.mk A50
    clear A50
    have HC6 := Aside0.mk H
    clear H
    go_enter Try.func12, Try.ntmps12
    go_upto_region 5 with (first | ((with_reducible refine gate_callee (f := 42) rfl ?_); refine goesL_ (some 10) rfl rfl Try.func42 (by kernel_rfl) rfl #[.slice A0 l0.length c0] rfl (by (try simp only [List.map_toArray, List.map_cons, List.map_nil]); first | done | rfl | (simp only [List.length_drop, List.length_take]; rfl)) ?_; (with_reducible refine (laws_lwBig.calls _ _ l0 false _ ?side1 ?side2 A2.out).mono ?_); (case side1 => repeat (first | exact HR0.out | (with_reducible refine Kd.C_alloc ?_ _) | (with_reducible refine Kd.C_drewN ?_ _) | (with_reducible refine Kd.C_drew ?_))); (case side2 => exact HC0.out); rintro e w' ⟨rfl, ⟨nd, rfl⟩⟩; refine ⟨_, rfl, ?_⟩) | ((with_reducible refine gate_callee (f := 64) rfl ?_); refine goesL_ (some 13) rfl rfl Try.func64 (by kernel_rfl) rfl #[.slice A0 l0.length c0] rfl (by (try simp only [List.map_toArray, List.map_cons, List.map_nil]); first | done | rfl | (simp only [List.length_drop, List.length_take]; rfl)) ?_; (with_reducible refine (spec_DrawSerialGap.calls k _ _ l0 t194 t195 _ ?side1 ?side2 A4.out).mono ?_); (case side1 => repeat (first | exact HR0.out | (with_reducible refine Kd.C_alloc ?_ _) | (with_reducible refine Kd.C_drewN ?_ _) | (with_reducible refine Kd.C_drew ?_))); (case side2 => exact HC0.out); rintro e w7 ⟨rfl, hb⟩; refine ⟨_, rfl, ?_⟩; have n0_ := Aside0.mk (below_step (by repeat (first | (with_reducible first | exact HB.out | apply below_alloc | apply pw_below_drewN | apply below_drew1) | exact HB.out)) hb); clear HB; have HB := n0_; clear n0_; (try clear hb); (try clear hb2); (try clear hk); (try clear hi)) | ((with_reducible refine gate_callee (f := 65) rfl ?_); refine goesL_ (some 18) rfl rfl Try.func65 (by kernel_rfl) rfl #[.int .i64 t194, .int .i64 t195] rfl (by (try simp only [List.map_toArray, List.map_cons, List.map_nil]); first | done | rfl | (simp only [List.length_drop, List.length_take]; rfl)) ?_; (with_reducible refine (impl_SerialGap.calls k t194 t195 t196 t197 _ A5.out).mono ?_); rintro e w8 ⟨rfl, hb⟩; refine ⟨_, rfl, ?_⟩; have n0_ := Aside0.mk (below_step (by repeat (first | (with_reducible first | exact HB.out | apply below_alloc | apply pw_below_drewN | apply below_drew1) | exact HB.out)) hb); clear HB; have HB := n0_; clear n0_; (try clear hb); (try clear hb2); (try clear hk); (try clear hi)) | ((with_reducible refine gate_dst (N := 5) rfl ?_); refine box_event ?hg (N := 5) ?hd (cs := #[.int .i64 0, .int .i64 0]) (t := 95) ?hr ?_; (case hd => rfl); (case hg => rfl); (case hr => first | (go_simp; done) | (go_simp; rfl)); intro gb198 hg w9 hbox hb; have n0_ := Aside0.mk (below_step (by repeat (first | (with_reducible first | exact HB.out | apply below_alloc | apply pw_below_drewN | apply below_drew1) | exact HB.out)) hb); have n1_ := Aside0.mk (hbox); have n2_ := Aside0.mk ((by rw [hg]; exact (below_size (by repeat (first | (with_reducible first | exact HB.out | apply below_alloc | apply pw_below_drewN | apply below_drew1) | exact HB.out))) : w.heap.size ≤ gb198)); have n3_ := Aside0.mk ((by rw [hg]; exact (below_size (by repeat (first | (with_reducible first | exact HB.out | apply below_alloc | apply pw_below_drewN | apply below_drew1) | exact HB.out))) : w.heap.size ≤ gb198)); clear HB; have HB := n0_; have BK198 := n1_; have GW198 := n2_; have GE198 := n3_; clear n0_ n1_ n2_ n3_; clear hb hbox hg; have hcz10_0 : w9.cell? ⟨gb198, 0, none⟩ = some (.int .i64 0) := (blk_cell BK198.out 0).trans rfl; have hcz10_1 : w9.cell? ⟨gb198, 1, none⟩ = some (.int .i64 0) := (blk_cell BK198.out 1).trans rfl; have hfz10_0 := blk_frozen BK198.out 0; have hfz10_1 := blk_frozen BK198.out 1))
    (try simp only [Act.put, List.setIfInBounds_toArray, List.set_cons_zero, List.set_cons_succ])
    go_cut [32] (fun v32 wc => ∃ (kq : Nat) (x32_5 : Bool), v32 = .bool x32_5 ∧ Aside0 (laws_FnSerials.j0 kq t194 t195 x32_5 t196 t197 = some r) ∧ Aside0 (kq ≤ k) ∧ Aside0 (wc.heap[gb198]? = some (.cells #[.int .i64 t196, .int .i64 t197] 95 (0, 0))) ∧ Aside0 (Below w.heap.size w wc))
    case first =>
      have H := HC6.out
      clear HC6
      replace H := Option.bind_eq_some_iff.mp H
      obtain ⟨⟨t199, t200⟩, A110, H⟩ := H
      replace H : (if (!(t196 == t199) || (!(t197 == t200))) = true then (laws_FnSerials.j0 k t194 t195 true t196 t197) else ((impl_SerialLess.f k t194 t195).bind fun t201 => ((spec_SerialLess.f t194 t195).bind fun t202 => (laws_FnSerials.j0 k t194 t195 (t201 != t202) t196 t197)))) = some r := H
      have A11 := Aside0.mk A110
      clear A110
      by_cases c12 : (!(t196 == t199) || (!(t197 == t200))) = true
      · rw [if_pos c12] at H
        have c12b0 : (!(t196 == t199) || (!(t197 == t200))) = true := c12
        clear c12
        (first | rw [c12b0] | (simp only [i64_w, i32_w]; rw [c12b0]) | skip)
        have H' := Aside0.mk H
        clear H
        try go_wp2
        have n0_ : Aside0 (((w9.setCell ⟨gb198, 0, none⟩ (.int .i64 t196)).setCell ⟨gb198, 1, none⟩ (.int .i64 t197)).heap[gb198]? = some (.cells #[.int .i64 t196, .int .i64 t197] 95 (0, 0))) := ⟨by (with_reducible repeat (first | refine blk_drewN ?_ _ | refine blk_drew ?_ | refine blk_alloc ?_ _)); refine blk_put (cs := #[.int .i64 t196, .int .i64 0]) ?_ 1 _ rfl; (with_reducible repeat (first | refine blk_drewN ?_ _ | refine blk_drew ?_ | refine blk_alloc ?_ _)); refine blk_put (cs := #[.int .i64 0, .int .i64 0]) ?_ 0 _ rfl; (with_reducible repeat (first | refine blk_drewN ?_ _ | refine blk_drew ?_ | refine blk_alloc ?_ _)); exact BK198.out⟩
        have n1_ : Aside0 (Below w.heap.size w ((w9.setCell ⟨gb198, 0, none⟩ (.int .i64 t196)).setCell ⟨gb198, 1, none⟩ (.int .i64 t197))) := ⟨by repeat (first | (with_reducible first | exact HB.out | apply below_alloc | apply pw_below_drewN | apply below_drew1 | refine below_set ?_ GE198.out) | exact HB.out)⟩
        (try clear BK198)
        (try clear HB)
        generalize ((w9.setCell ⟨gb198, 0, none⟩ (.int .i64 t196)).setCell ⟨gb198, 1, none⟩ (.int .i64 t197)) = w13 at n0_ n1_ ⊢
        have BK198 := n0_
        have HB := n1_
        clear n0_ n1_
        have n0_ := Aside0.mk (blk_drew BK198.out)
        have n1_ := Aside0.mk (below_drew1 HB.out)
        clear BK198
        clear HB
        have BK198 := n0_
        have HB := n1_
        clear n0_ n1_
        refine start_ (n := 14) (S := fun w' => w'.cell? ⟨gb198, 0, none⟩ = some (.int .i64 t196) ∧ w'.cell? ⟨gb198, 1, none⟩ = some (.int .i64 t197)) (ds := []) #[false, false, false, false, false, false, false, false, false, false, false, false, false, false] (by kernel_rfl) rfl rfl ⟨(blk_cell BK198.out 0).trans rfl, (blk_cell BK198.out 1).trans rfl⟩ (fun hHeld => ?_); refine with_tabW laws_FnSerials.tab5 laws_FnSerials.bits5 (fun HT_ HW_ => ?_)
        generalize w13.drew = w14 at BK198 HB hHeld ⊢
        refine pure_ (i := 1) (N := some 20) (v := ?_) (a' := ?_) #[false, true, false, false, false, false, false, false, false, false, false, false, false, false] rfl rfl (any_of HT_.out (by kernel_rfl)) (fun _ _ _ h => h) (Or.inl ⟨by rfl, ?_⟩) ?_ ?_
        rotate_left
        · intro w'
          go_simp
          with_reducible rfl
        rotate_left
        · simp only [Act.put, List.setIfInBounds_toArray, List.set_cons_zero, List.set_cons_succ, i64_w, i32_w]
          rfl
        refine pure_ (i := 2) (N := some 21) (v := ?_) (a' := ?_) #[false, true, true, false, false, false, false, false, false, false, false, false, false, false] rfl rfl (any_of HT_.out (by kernel_rfl)) (fun _ _ _ h => h) (Or.inl ⟨by rfl, ?_⟩) ?_ ?_
        rotate_left
        · intro w'
          go_simp
          with_reducible rfl
        rotate_left
        · simp only [Act.put, List.setIfInBounds_toArray, List.set_cons_zero, List.set_cons_succ, i64_w, i32_w]
          rfl
        refine take_ (i := 0) (N := some 19) (v := ?_) (a' := ?_) #[true, true, true, false, false, false, false, false, false, false, false, false, false, false] rfl rfl (take_ofW HT_.out HW_.out (by kernel_rfl)) (fun _ _ _ h => h) (Or.inl ⟨by rfl, ?_⟩) hHeld ?_ ?_
        rotate_left
        · rintro w' ⟨s0, s1⟩
          go_simp
          with_reducible rfl
        rotate_left
        · simp only [Act.put, List.setIfInBounds_toArray, List.set_cons_zero, List.set_cons_succ, i64_w, i32_w]
          rfl
        refine one_ (i := 3) (N := some 22) #[true, true, true, true, false, false, false, false, false, false, false, false, false, false] rfl rfl (one_of HT_.out (by kernel_rfl)) (by decide) (fun K hK => ?_)
        refine goes_ Try.func66 (by kernel_rfl) rfl #[.int .i64 t194, .int .i64 t195] (by rfl) rfl rfl (by (try simp only [List.map_toArray, List.map_cons, List.map_nil]); first | done | rfl | (simp only [List.length_drop, List.length_take]; rfl)) ?_
        with_reducible refine (spec_SerialGap.calls t194 t195 t199 t200 _ A11.out).mono ?_
        rintro e w15 ⟨rfl, hb⟩
        refine ⟨_, rfl, ?_⟩
        have n0_ := Aside0.mk (blk_below (g := gb198) (o := .cells #[.int .i64 t196, .int .i64 t197] 95 (0, 0)) (by (with_reducible repeat (first | refine blk_drewN ?_ _ | refine blk_drew ?_ | refine blk_alloc ?_ _)); exact BK198.out) hb)
        have n1_ := Aside0.mk (below_step (by repeat (first | (with_reducible first | exact HB.out | apply below_alloc | apply pw_below_drewN | apply below_drew1 | refine below_set ?_ GE198.out) | exact HB.out)) hb)
        clear BK198
        clear HB
        have BK198 := n0_
        have HB := n1_
        clear n0_ n1_
        (try clear hb)
        (try clear hb2)
        (try clear hk)
        (try clear hi)
        refine hK.out _ _ ⟨(blk_cell BK198.out 0).trans rfl, (blk_cell BK198.out 1).trans rfl⟩ (fun hHeld => ?_)
        clear hK K
        refine norm_ (a' := ?_) ?_ ?_
        rotate_left
        · show Act.put _ (some 22) _ = _
          simp only [Act.put, List.setIfInBounds_toArray, List.set_cons_zero, List.set_cons_succ, i64_w, i32_w]
          rfl
        refine pure_ (i := 4) (N := some 23) (v := ?_) (a' := ?_) #[true, true, true, true, true, false, false, false, false, false, false, false, false, false] rfl rfl (any_of HT_.out (by kernel_rfl)) (fun _ _ _ h => h) (Or.inl ⟨by rfl, ?_⟩) ?_ ?_
        rotate_left
        · intro w'
          go_simp
          with_reducible rfl
        rotate_left
        · simp only [Act.put, List.setIfInBounds_toArray, List.set_cons_zero, List.set_cons_succ, i64_w, i32_w]
          rfl
        refine pure_ (i := 5) (N := some 24) (v := ?_) (a' := ?_) #[true, true, true, true, true, true, false, false, false, false, false, false, false, false] rfl rfl (any_of HT_.out (by kernel_rfl)) (fun _ _ _ h => h) (Or.inl ⟨by rfl, ?_⟩) ?_ ?_
        rotate_left
        · intro w'
          go_simp
          with_reducible rfl
        rotate_left
        · simp only [Act.put, List.setIfInBounds_toArray, List.set_cons_zero, List.set_cons_succ, i64_w, i32_w]
          rfl
        refine pure_ (i := 6) (N := some 25) (v := undef) (a' := ?_) #[true, true, true, true, true, true, true, false, false, false, false, false, false, false] rfl rfl (any_of HT_.out (by kernel_rfl)) (fun _ _ _ h => h) (Or.inr ⟨by rfl, rfl⟩) ?_ ?_
        rotate_left
        · simp only [Act.put, List.setIfInBounds_toArray, List.set_cons_zero, List.set_cons_succ, i64_w, i32_w]
          rfl
        refine pure_ (i := 7) (N := some 26) (v := undef) (a' := ?_) #[true, true, true, true, true, true, true, true, false, false, false, false, false, false] rfl rfl (any_of HT_.out (by kernel_rfl)) (fun _ _ _ h => h) (Or.inr ⟨by rfl, rfl⟩) ?_ ?_
        rotate_left
        · simp only [Act.put, List.setIfInBounds_toArray, List.set_cons_zero, List.set_cons_succ, i64_w, i32_w]
          rfl
        refine pure_ (i := 8) (N := some 27) (v := undef) (a' := ?_) #[true, true, true, true, true, true, true, true, true, false, false, false, false, false] rfl rfl (any_of HT_.out (by kernel_rfl)) (fun _ _ _ h => h) (Or.inr ⟨by rfl, rfl⟩) ?_ ?_
        rotate_left
        · simp only [Act.put, List.setIfInBounds_toArray, List.set_cons_zero, List.set_cons_succ, i64_w, i32_w]
          rfl
        refine pure_ (i := 9) (N := some 28) (v := undef) (a' := ?_) #[true, true, true, true, true, true, true, true, true, true, false, false, false, false] rfl rfl (any_of HT_.out (by kernel_rfl)) (fun _ _ _ h => h) (Or.inr ⟨by rfl, rfl⟩) ?_ ?_
        rotate_left
        · simp only [Act.put, List.setIfInBounds_toArray, List.set_cons_zero, List.set_cons_succ, i64_w, i32_w]
          rfl
        refine pure_ (i := 10) (N := some 29) (v := undef) (a' := ?_) #[true, true, true, true, true, true, true, true, true, true, true, false, false, false] rfl rfl (any_of HT_.out (by kernel_rfl)) (fun _ _ _ h => h) (Or.inr ⟨by rfl, rfl⟩) ?_ ?_
        rotate_left
        · simp only [Act.put, List.setIfInBounds_toArray, List.set_cons_zero, List.set_cons_succ, i64_w, i32_w]
          rfl
        refine pure_ (i := 11) (N := some 30) (v := undef) (a' := ?_) #[true, true, true, true, true, true, true, true, true, true, true, true, false, false] rfl rfl (any_of HT_.out (by kernel_rfl)) (fun _ _ _ h => h) (Or.inr ⟨by rfl, rfl⟩) ?_ ?_
        rotate_left
        · simp only [Act.put, List.setIfInBounds_toArray, List.set_cons_zero, List.set_cons_succ, i64_w, i32_w]
          rfl
        refine pure_ (i := 12) (N := some 31) (v := undef) (a' := ?_) #[true, true, true, true, true, true, true, true, true, true, true, true, true, false] rfl rfl (any_of HT_.out (by kernel_rfl)) (fun _ _ _ h => h) (Or.inr ⟨by rfl, rfl⟩) ?_ ?_
        rotate_left
        · simp only [Act.put, List.setIfInBounds_toArray, List.set_cons_zero, List.set_cons_succ, i64_w, i32_w]
          rfl
        refine pure_ (i := 13) (N := some 32) (v := ?_) (a' := ?_) #[true, true, true, true, true, true, true, true, true, true, true, true, true, true] rfl rfl (any_of HT_.out (by kernel_rfl)) (fun _ _ _ h => h) (Or.inl ⟨by rfl, ?_⟩) ?_ ?_
        rotate_left
        · intro w'
          go_simp
          with_reducible rfl
        rotate_left
        · simp only [Act.put, List.setIfInBounds_toArray, List.set_cons_zero, List.set_cons_succ, i64_w, i32_w]
          rfl
        refine done_ (done_of HT_.out (by kernel_rfl)) ?_
        try go_wp2
        go_meet
        case rel => exact ⟨_, (true), (by first | rfl | (simp; done) | (simp [*]; done)), H', ⟨by first | omega | exact Nat.le_refl _⟩, ⟨by (with_reducible repeat (first | refine blk_drewN ?_ _ | refine blk_drew ?_ | refine blk_alloc ?_ _)); exact BK198.out⟩, ⟨by repeat (first | (with_reducible first | exact HB.out | apply below_alloc | apply pw_below_drewN | apply below_drew1 | refine below_set ?_ GE198.out) | exact HB.out)⟩⟩
      · rw [if_neg c12] at H
        have c12b0 : (!(t196 == t199) || (!(t197 == t200))) = false := by simpa using c12
        clear c12
        (first | rw [c12b0] | (simp only [i64_w, i32_w]; rw [c12b0]) | skip)
        replace H := Option.bind_eq_some_iff.mp H
        obtain ⟨t201, A160, H⟩ := H
        replace H : ((spec_SerialLess.f t194 t195).bind fun t202 => (laws_FnSerials.j0 k t194 t195 (t201 != t202) t196 t197)) = some r := H
        have A16 := Aside0.mk A160
        clear A160
        replace H := Option.bind_eq_some_iff.mp H
        obtain ⟨t202, A170, H⟩ := H
        replace H : (laws_FnSerials.j0 k t194 t195 (t201 != t202) t196 t197) = some r := H
        have A17 := Aside0.mk A170
        clear A170
        have H' := Aside0.mk H
        clear H
        try go_wp2
        have n0_ : Aside0 (((w9.setCell ⟨gb198, 0, none⟩ (.int .i64 t196)).setCell ⟨gb198, 1, none⟩ (.int .i64 t197)).heap[gb198]? = some (.cells #[.int .i64 t196, .int .i64 t197] 95 (0, 0))) := ⟨by (with_reducible repeat (first | refine blk_drewN ?_ _ | refine blk_drew ?_ | refine blk_alloc ?_ _)); refine blk_put (cs := #[.int .i64 t196, .int .i64 0]) ?_ 1 _ rfl; (with_reducible repeat (first | refine blk_drewN ?_ _ | refine blk_drew ?_ | refine blk_alloc ?_ _)); refine blk_put (cs := #[.int .i64 0, .int .i64 0]) ?_ 0 _ rfl; (with_reducible repeat (first | refine blk_drewN ?_ _ | refine blk_drew ?_ | refine blk_alloc ?_ _)); exact BK198.out⟩
        have n1_ : Aside0 (Below w.heap.size w ((w9.setCell ⟨gb198, 0, none⟩ (.int .i64 t196)).setCell ⟨gb198, 1, none⟩ (.int .i64 t197))) := ⟨by repeat (first | (with_reducible first | exact HB.out | apply below_alloc | apply pw_below_drewN | apply below_drew1 | refine below_set ?_ GE198.out) | exact HB.out)⟩
        (try clear BK198)
        (try clear HB)
        generalize ((w9.setCell ⟨gb198, 0, none⟩ (.int .i64 t196)).setCell ⟨gb198, 1, none⟩ (.int .i64 t197)) = w18 at n0_ n1_ ⊢
        have BK198 := n0_
        have HB := n1_
        clear n0_ n1_
        have n0_ := Aside0.mk (blk_drew BK198.out)
        have n1_ := Aside0.mk (below_drew1 HB.out)
        clear BK198
        clear HB
        have BK198 := n0_
        have HB := n1_
        clear n0_ n1_
        refine start_ (n := 14) (S := fun w' => w'.cell? ⟨gb198, 0, none⟩ = some (.int .i64 t196) ∧ w'.cell? ⟨gb198, 1, none⟩ = some (.int .i64 t197)) (ds := []) #[false, false, false, false, false, false, false, false, false, false, false, false, false, false] (by kernel_rfl) rfl rfl ⟨(blk_cell BK198.out 0).trans rfl, (blk_cell BK198.out 1).trans rfl⟩ (fun hHeld => ?_); refine with_tabW laws_FnSerials.tab5 laws_FnSerials.bits5 (fun HT_ HW_ => ?_)
        generalize w18.drew = w19 at BK198 HB hHeld ⊢
        refine pure_ (i := 1) (N := some 20) (v := ?_) (a' := ?_) #[false, true, false, false, false, false, false, false, false, false, false, false, false, false] rfl rfl (any_of HT_.out (by kernel_rfl)) (fun _ _ _ h => h) (Or.inl ⟨by rfl, ?_⟩) ?_ ?_
        rotate_left
        · intro w'
          go_simp
          with_reducible rfl
        rotate_left
        · simp only [Act.put, List.setIfInBounds_toArray, List.set_cons_zero, List.set_cons_succ, i64_w, i32_w]
          rfl
        refine pure_ (i := 2) (N := some 21) (v := ?_) (a' := ?_) #[false, true, true, false, false, false, false, false, false, false, false, false, false, false] rfl rfl (any_of HT_.out (by kernel_rfl)) (fun _ _ _ h => h) (Or.inl ⟨by rfl, ?_⟩) ?_ ?_
        rotate_left
        · intro w'
          go_simp
          with_reducible rfl
        rotate_left
        · simp only [Act.put, List.setIfInBounds_toArray, List.set_cons_zero, List.set_cons_succ, i64_w, i32_w]
          rfl
        refine take_ (i := 0) (N := some 19) (v := ?_) (a' := ?_) #[true, true, true, false, false, false, false, false, false, false, false, false, false, false] rfl rfl (take_ofW HT_.out HW_.out (by kernel_rfl)) (fun _ _ _ h => h) (Or.inl ⟨by rfl, ?_⟩) hHeld ?_ ?_
        rotate_left
        · rintro w' ⟨s0, s1⟩
          go_simp
          with_reducible rfl
        rotate_left
        · simp only [Act.put, List.setIfInBounds_toArray, List.set_cons_zero, List.set_cons_succ, i64_w, i32_w]
          rfl
        refine one_ (i := 3) (N := some 22) #[true, true, true, true, false, false, false, false, false, false, false, false, false, false] rfl rfl (one_of HT_.out (by kernel_rfl)) (by decide) (fun K hK => ?_)
        refine goes_ Try.func66 (by kernel_rfl) rfl #[.int .i64 t194, .int .i64 t195] (by rfl) rfl rfl (by (try simp only [List.map_toArray, List.map_cons, List.map_nil]); first | done | rfl | (simp only [List.length_drop, List.length_take]; rfl)) ?_
        with_reducible refine (spec_SerialGap.calls t194 t195 t199 t200 _ A11.out).mono ?_
        rintro e w20 ⟨rfl, hb⟩
        refine ⟨_, rfl, ?_⟩
        have n0_ := Aside0.mk (blk_below (g := gb198) (o := .cells #[.int .i64 t196, .int .i64 t197] 95 (0, 0)) (by (with_reducible repeat (first | refine blk_drewN ?_ _ | refine blk_drew ?_ | refine blk_alloc ?_ _)); exact BK198.out) hb)
        have n1_ := Aside0.mk (below_step (by repeat (first | (with_reducible first | exact HB.out | apply below_alloc | apply pw_below_drewN | apply below_drew1 | refine below_set ?_ GE198.out) | exact HB.out)) hb)
        clear BK198
        clear HB
        have BK198 := n0_
        have HB := n1_
        clear n0_ n1_
        (try clear hb)
        (try clear hb2)
        (try clear hk)
        (try clear hi)
        refine hK.out _ _ ⟨(blk_cell BK198.out 0).trans rfl, (blk_cell BK198.out 1).trans rfl⟩ (fun hHeld => ?_)
        clear hK K
        refine norm_ (a' := ?_) ?_ ?_
        rotate_left
        · show Act.put _ (some 22) _ = _
          simp only [Act.put, List.setIfInBounds_toArray, List.set_cons_zero, List.set_cons_succ, i64_w, i32_w]
          rfl
        refine pure_ (i := 4) (N := some 23) (v := ?_) (a' := ?_) #[true, true, true, true, true, false, false, false, false, false, false, false, false, false] rfl rfl (any_of HT_.out (by kernel_rfl)) (fun _ _ _ h => h) (Or.inl ⟨by rfl, ?_⟩) ?_ ?_
        rotate_left
        · intro w'
          go_simp
          with_reducible rfl
        rotate_left
        · simp only [Act.put, List.setIfInBounds_toArray, List.set_cons_zero, List.set_cons_succ, i64_w, i32_w]
          rfl
        refine pure_ (i := 5) (N := some 24) (v := ?_) (a' := ?_) #[true, true, true, true, true, true, false, false, false, false, false, false, false, false] rfl rfl (any_of HT_.out (by kernel_rfl)) (fun _ _ _ h => h) (Or.inl ⟨by rfl, ?_⟩) ?_ ?_
        rotate_left
        · intro w'
          go_simp
          with_reducible rfl
        rotate_left
        · simp only [Act.put, List.setIfInBounds_toArray, List.set_cons_zero, List.set_cons_succ, i64_w, i32_w]
          rfl
        refine pure_ (i := 6) (N := some 25) (v := ?_) (a' := ?_) #[true, true, true, true, true, true, true, false, false, false, false, false, false, false] rfl rfl (any_of HT_.out (by kernel_rfl)) (fun _ _ _ h => h) (Or.inl ⟨by rfl, ?_⟩) ?_ ?_
        rotate_left
        · intro w'
          go_simp
          with_reducible rfl
        rotate_left
        · simp only [Act.put, List.setIfInBounds_toArray, List.set_cons_zero, List.set_cons_succ, i64_w, i32_w]
          rfl
        refine pure_ (i := 7) (N := some 26) (v := ?_) (a' := ?_) #[true, true, true, true, true, true, true, true, false, false, false, false, false, false] rfl rfl (any_of HT_.out (by kernel_rfl)) (fun _ _ _ h => h) (Or.inl ⟨by rfl, ?_⟩) ?_ ?_
        rotate_left
        · intro w'
          go_simp
          with_reducible rfl
        rotate_left
        · simp only [Act.put, List.setIfInBounds_toArray, List.set_cons_zero, List.set_cons_succ, i64_w, i32_w]
          rfl
        refine pure_ (i := 9) (N := some 28) (v := ?_) (a' := ?_) #[true, true, true, true, true, true, true, true, false, true, false, false, false, false] rfl rfl (any_of HT_.out (by kernel_rfl)) (fun _ _ _ h => h) (Or.inl ⟨by rfl, ?_⟩) ?_ ?_
        rotate_left
        · intro w'
          go_simp
          with_reducible rfl
        rotate_left
        · simp only [Act.put, List.setIfInBounds_toArray, List.set_cons_zero, List.set_cons_succ, i64_w, i32_w]
          rfl
        refine pure_ (i := 10) (N := some 29) (v := ?_) (a' := ?_) #[true, true, true, true, true, true, true, true, false, true, true, false, false, false] rfl rfl (any_of HT_.out (by kernel_rfl)) (fun _ _ _ h => h) (Or.inl ⟨by rfl, ?_⟩) ?_ ?_
        rotate_left
        · intro w'
          go_simp
          with_reducible rfl
        rotate_left
        · simp only [Act.put, List.setIfInBounds_toArray, List.set_cons_zero, List.set_cons_succ, i64_w, i32_w]
          rfl
        refine one_ (i := 8) (N := some 27) #[true, true, true, true, true, true, true, true, true, true, true, false, false, false] rfl rfl (one_of HT_.out (by kernel_rfl)) (by decide) (fun K hK => ?_)
        refine goes_ Try.func67 (by kernel_rfl) rfl #[.int .i64 t194, .int .i64 t195] (by rfl) rfl rfl (by (try simp only [List.map_toArray, List.map_cons, List.map_nil]); first | done | rfl | (simp only [List.length_drop, List.length_take]; rfl)) ?_
        with_reducible refine (impl_SerialLess.calls k t194 t195 t201 _ A16.out).mono ?_
        rintro e w21 ⟨rfl, hb⟩
        refine ⟨_, rfl, ?_⟩
        have n0_ := Aside0.mk (blk_below (g := gb198) (o := .cells #[.int .i64 t196, .int .i64 t197] 95 (0, 0)) (by (with_reducible repeat (first | refine blk_drewN ?_ _ | refine blk_drew ?_ | refine blk_alloc ?_ _)); exact BK198.out) hb)
        have n1_ := Aside0.mk (below_step (by repeat (first | (with_reducible first | exact HB.out | apply below_alloc | apply pw_below_drewN | apply below_drew1 | refine below_set ?_ GE198.out) | exact HB.out)) hb)
        clear BK198
        clear HB
        have BK198 := n0_
        have HB := n1_
        clear n0_ n1_
        (try clear hb)
        (try clear hb2)
        (try clear hk)
        (try clear hi)
        refine hK.out _ _ ⟨(blk_cell BK198.out 0).trans rfl, (blk_cell BK198.out 1).trans rfl⟩ (fun hHeld => ?_)
        clear hK K
        refine norm_ (a' := ?_) ?_ ?_
        rotate_left
        · show Act.put _ (some 27) _ = _
          simp only [Act.put, List.setIfInBounds_toArray, List.set_cons_zero, List.set_cons_succ, i64_w, i32_w]
          rfl
        refine one_ (i := 11) (N := some 30) #[true, true, true, true, true, true, true, true, true, true, true, true, false, false] rfl rfl (one_of HT_.out (by kernel_rfl)) (by decide) (fun K hK => ?_)
        refine goes_ Try.func68 (by kernel_rfl) rfl #[.int .i64 t194, .int .i64 t195] (by rfl) rfl rfl (by (try simp only [List.map_toArray, List.map_cons, List.map_nil]); first | done | rfl | (simp only [List.length_drop, List.length_take]; rfl)) ?_
        with_reducible refine (spec_SerialLess.calls t194 t195 t202 _ A17.out).mono ?_
        rintro e w' ⟨rfl, ⟨nd, rfl⟩⟩
        refine ⟨_, rfl, ?_⟩
        refine hK.out _ _ ⟨(blk_cell BK198.out 0).trans rfl, (blk_cell BK198.out 1).trans rfl⟩ (fun hHeld => ?_)
        clear hK K
        refine norm_ (a' := ?_) ?_ ?_
        rotate_left
        · show Act.put _ (some 30) _ = _
          simp only [Act.put, List.setIfInBounds_toArray, List.set_cons_zero, List.set_cons_succ, i64_w, i32_w]
          rfl
        refine pure_ (i := 12) (N := some 31) (v := ?_) (a' := ?_) #[true, true, true, true, true, true, true, true, true, true, true, true, true, false] rfl rfl (any_of HT_.out (by kernel_rfl)) (fun _ _ _ h => h) (Or.inl ⟨by rfl, ?_⟩) ?_ ?_
        rotate_left
        · intro w'
          go_simp
          with_reducible rfl
        rotate_left
        · simp only [Act.put, List.setIfInBounds_toArray, List.set_cons_zero, List.set_cons_succ, i64_w, i32_w]
          rfl
        refine pure_ (i := 13) (N := some 32) (v := ?_) (a' := ?_) #[true, true, true, true, true, true, true, true, true, true, true, true, true, true] rfl rfl (any_of HT_.out (by kernel_rfl)) (fun _ _ _ h => h) (Or.inl ⟨by rfl, ?_⟩) ?_ ?_
        rotate_left
        · intro w'
          go_simp
          with_reducible rfl
        rotate_left
        · simp only [Act.put, List.setIfInBounds_toArray, List.set_cons_zero, List.set_cons_succ, i64_w, i32_w]
          rfl
        refine done_ (done_of HT_.out (by kernel_rfl)) ?_
        try go_wp2
        go_meet
        case rel => exact ⟨_, ((t201 != t202)), (by first | rfl | (simp; done) | (simp [*]; done)), H', ⟨by first | omega | exact Nat.le_refl _⟩, ⟨by (with_reducible repeat (first | refine blk_drewN ?_ _ | refine blk_drew ?_ | refine blk_alloc ?_ _)); exact BK198.out⟩, ⟨by repeat (first | (with_reducible first | exact HB.out | apply below_alloc | apply pw_below_drewN | apply below_drew1 | refine below_set ?_ GE198.out) | exact HB.out)⟩⟩
    case rest =>
      clear HC6
      try clear c1
      try clear p2
      try clear c3
      try clear c4
      try clear c6
      try clear c12
      try clear c12b0
      try clear hcz10_0
      try clear hcz10_1
      try clear hfz10_0
      try clear hfz10_1
      obtain ⟨kq, x32_5, rfl, HA, HJ5, BK198, HB⟩ := hcut
      cases kq with
      | zero => exact absurd HA.out (by simp [laws_FnSerials.j0])
      | succ kj5 =>
        have H := HA.out
        clear HA
        simp only [laws_FnSerials.j0] at H
        by_cases c22 : x32_5 = true
        · subst c22
          have H1 : (some false) = some r := by rw [if_pos rfl] at H; exact H
          clear H
          have H := H1
          clear H1
          exact absurd ((Option.some.inj H).trans hr_) (by decide)
        · replace c22 := Bool.eq_false_iff.mpr c22
          subst c22
          have H1 : (if t196 = 0 then ((impl_SerialGap.f kj5 t195 t194).bind fun bt204 => ((impl_AddWords.f kj5 t194 1).bind fun bt207 => ((impl_AddWords.f kj5 t195 1).bind fun bt209 => ((impl_SerialLess.f kj5 t194 t195).bind fun t211 => (if t211 = true then ((impl_SerialLess.f kj5 t195 t194).bind fun t212 => (if t212 = true then (laws_FnSerials.j1 kj5 t194 t195 true t196 t197 bt204.1 bt204.2) else ((impl_SerialLess.f kj5 bt207.2 bt209.2).bind fun t213 => ((impl_SerialLess.f kj5 t194 t195).bind fun t214 => (laws_FnSerials.j1 kj5 t194 t195 (t213 != t214) t196 t197 bt204.1 bt204.2))))) else ((impl_SerialLess.f kj5 bt207.2 bt209.2).bind fun t215 => ((impl_SerialLess.f kj5 t194 t195).bind fun t216 => (laws_FnSerials.j1 kj5 t194 t195 (t215 != t216) t196 t197 bt204.1 bt204.2)))))))) else ((impl_SerialLess.f kj5 t194 t195).bind fun t203 => (some (!t203)))) = some r := by rw [if_neg (show ¬ (false = true) by decide)] at H; exact H
          clear H
          have H := H1
          clear H1
          by_cases c23 : t196 = 0
          · rw [if_pos c23] at H
            have c23b0 : (t196 == 0) = true := beq_iff_eq.mpr c23
            have c23b1 : (t196 != 0) = false := bne_eq_false_iff_eq.mpr c23
            clear c23
            replace H := Option.bind_eq_some_iff.mp H
            obtain ⟨⟨t204, t205⟩, A240, H⟩ := H
            replace H : ((impl_AddWords.f kj5 t194 1).bind fun bt207 => ((impl_AddWords.f kj5 t195 1).bind fun bt209 => ((impl_SerialLess.f kj5 t194 t195).bind fun t211 => (if t211 = true then ((impl_SerialLess.f kj5 t195 t194).bind fun t212 => (if t212 = true then (laws_FnSerials.j1 kj5 t194 t195 true t196 t197 t204 t205) else ((impl_SerialLess.f kj5 bt207.2 bt209.2).bind fun t213 => ((impl_SerialLess.f kj5 t194 t195).bind fun t214 => (laws_FnSerials.j1 kj5 t194 t195 (t213 != t214) t196 t197 t204 t205))))) else ((impl_SerialLess.f kj5 bt207.2 bt209.2).bind fun t215 => ((impl_SerialLess.f kj5 t194 t195).bind fun t216 => (laws_FnSerials.j1 kj5 t194 t195 (t215 != t216) t196 t197 t204 t205))))))) = some r := H
            have A24 := Aside0.mk A240
            clear A240
            replace H := Option.bind_eq_some_iff.mp H
            obtain ⟨⟨t207, t208⟩, A250, H⟩ := H
            replace H : ((impl_AddWords.f kj5 t195 1).bind fun bt209 => ((impl_SerialLess.f kj5 t194 t195).bind fun t211 => (if t211 = true then ((impl_SerialLess.f kj5 t195 t194).bind fun t212 => (if t212 = true then (laws_FnSerials.j1 kj5 t194 t195 true t196 t197 t204 t205) else ((impl_SerialLess.f kj5 t208 bt209.2).bind fun t213 => ((impl_SerialLess.f kj5 t194 t195).bind fun t214 => (laws_FnSerials.j1 kj5 t194 t195 (t213 != t214) t196 t197 t204 t205))))) else ((impl_SerialLess.f kj5 t208 bt209.2).bind fun t215 => ((impl_SerialLess.f kj5 t194 t195).bind fun t216 => (laws_FnSerials.j1 kj5 t194 t195 (t215 != t216) t196 t197 t204 t205)))))) = some r := H
            have A25 := Aside0.mk A250
            clear A250
            replace H := Option.bind_eq_some_iff.mp H
            obtain ⟨⟨t209, t210⟩, A260, H⟩ := H
            replace H : ((impl_SerialLess.f kj5 t194 t195).bind fun t211 => (if t211 = true then ((impl_SerialLess.f kj5 t195 t194).bind fun t212 => (if t212 = true then (laws_FnSerials.j1 kj5 t194 t195 true t196 t197 t204 t205) else ((impl_SerialLess.f kj5 t208 t210).bind fun t213 => ((impl_SerialLess.f kj5 t194 t195).bind fun t214 => (laws_FnSerials.j1 kj5 t194 t195 (t213 != t214) t196 t197 t204 t205))))) else ((impl_SerialLess.f kj5 t208 t210).bind fun t215 => ((impl_SerialLess.f kj5 t194 t195).bind fun t216 => (laws_FnSerials.j1 kj5 t194 t195 (t215 != t216) t196 t197 t204 t205))))) = some r := H
            have A26 := Aside0.mk A260
            clear A260
            have HC27 := Aside0.mk H
            clear H
            have hcz28_0 : wc.cell? ⟨gb198, 0, none⟩ = some (.int .i64 t196) := (blk_cell BK198.out 0).trans rfl
            have hcz28_1 : wc.cell? ⟨gb198, 1, none⟩ = some (.int .i64 t197) := (blk_cell BK198.out 1).trans rfl
            have hfz28_0 := blk_frozen BK198.out 0
            have hfz28_1 := blk_frozen BK198.out 1
            go_upto_region 12 with (first | ((with_reducible refine gate_callee (f := 65) rfl ?_); refine goesL_ (some 42) rfl rfl Try.func65 (by kernel_rfl) rfl #[.int .i64 t195, .int .i64 t194] rfl (by (try simp only [List.map_toArray, List.map_cons, List.map_nil]); first | done | rfl | (simp only [List.length_drop, List.length_take]; rfl)) ?_; (with_reducible refine (impl_SerialGap.calls kj5 t195 t194 t204 t205 _ A24.out).mono ?_); rintro e w29 ⟨rfl, hb⟩; refine ⟨_, rfl, ?_⟩; have n0_ := Aside0.mk (blk_below (g := gb198) (o := .cells #[.int .i64 t196, .int .i64 t197] 95 (0, 0)) (by (with_reducible repeat (first | refine blk_drewN ?_ _ | refine blk_drew ?_ | refine blk_alloc ?_ _)); exact BK198.out) hb); have n1_ := Aside0.mk (below_step (by repeat (first | (with_reducible first | exact HB.out | apply below_alloc | apply pw_below_drewN | apply below_drew1 | refine below_set ?_ GE198.out) | exact HB.out)) hb); clear BK198; clear HB; have BK198 := n0_; have HB := n1_; clear n0_ n1_; (try clear hb); (try clear hb2); (try clear hk); (try clear hi)) | ((with_reducible refine gate_dst (N := 6) rfl ?_); refine box_event ?hg (N := 6) ?hd (cs := #[.int .i64 0, .int .i64 0]) (t := 95) ?hr ?_; (case hd => rfl); (case hg => rfl); (case hr => first | (go_simp; done) | (go_simp; rfl)); intro gb206 hg w30 hbox hb; have n0_ := Aside0.mk (blk_below (g := gb198) (o := .cells #[.int .i64 t196, .int .i64 t197] 95 (0, 0)) (by (with_reducible repeat (first | refine blk_drewN ?_ _ | refine blk_drew ?_ | refine blk_alloc ?_ _)); exact BK198.out) hb); have n1_ := Aside0.mk (below_step (by repeat (first | (with_reducible first | exact HB.out | apply below_alloc | apply pw_below_drewN | apply below_drew1 | refine below_set ?_ GE198.out) | exact HB.out)) hb); have n2_ := Aside0.mk (hbox); have n3_ := Aside0.mk ((by rw [hg]; exact (below_size (by repeat (first | (with_reducible first | exact HB.out | apply below_alloc | apply pw_below_drewN | apply below_drew1 | refine below_set ?_ GE198.out) | exact HB.out))) : w.heap.size ≤ gb206)); have n4_ := Aside0.mk ((by rw [hg]; exact (below_size (by repeat (first | (with_reducible first | exact HB.out | apply below_alloc | apply pw_below_drewN | apply below_drew1 | refine below_set ?_ GE198.out) | exact HB.out))) : w.heap.size ≤ gb206)); have n5_ := Aside0.mk ((by rw [hg]; exact Nat.ne_of_lt (blk_lt (g := gb198) (o := .cells #[.int .i64 t196, .int .i64 t197] 95 (0, 0)) (by (with_reducible repeat (first | refine blk_drewN ?_ _ | refine blk_drew ?_ | refine blk_alloc ?_ _)); exact BK198.out)) : gb198 ≠ gb206)); have n6_ := Aside0.mk ((by rw [hg]; exact Nat.ne_of_gt (blk_lt (g := gb198) (o := .cells #[.int .i64 t196, .int .i64 t197] 95 (0, 0)) (by (with_reducible repeat (first | refine blk_drewN ?_ _ | refine blk_drew ?_ | refine blk_alloc ?_ _)); exact BK198.out)) : gb206 ≠ gb198)); clear BK198; clear HB; have BK198 := n0_; have HB := n1_; have BK206 := n2_; have GW206 := n3_; have GE206 := n4_; have NB198_206 := n5_; have NB206_198 := n6_; clear n0_ n1_ n2_ n3_ n4_ n5_ n6_; clear hb hbox hg; have hnb31 := NB206_198.out; have hnc31 := NB198_206.out; have hcz32_0 : w30.cell? ⟨gb206, 0, none⟩ = some (.int .i64 0) := (blk_cell BK206.out 0).trans rfl; have hcz32_1 : w30.cell? ⟨gb206, 1, none⟩ = some (.int .i64 0) := (blk_cell BK206.out 1).trans rfl; have hfz32_0 := blk_frozen BK206.out 0; have hfz32_1 := blk_frozen BK206.out 1) | ((with_reducible refine gate_callee (f := 69) rfl ?_); refine goesL_ (some 44) rfl rfl Try.func69 (by kernel_rfl) rfl #[.int .i64 t194, .int .i64 1] rfl (by (try simp only [List.map_toArray, List.map_cons, List.map_nil]); first | done | rfl | (simp only [List.length_drop, List.length_take]; rfl)) ?_; (with_reducible refine (impl_AddWords.calls kj5 t194 1 t207 t208 _ A25.out).mono ?_); rintro e w33 ⟨rfl, hb⟩; refine ⟨_, rfl, ?_⟩; have n0_ := Aside0.mk (blk_below (g := gb198) (o := .cells #[.int .i64 t196, .int .i64 t197] 95 (0, 0)) (by (with_reducible repeat (first | refine blk_drewN ?_ _ | refine blk_drew ?_ | refine blk_alloc ?_ _)); refine blk_far ?_ NB198_206.out _; (with_reducible repeat (first | refine blk_drewN ?_ _ | refine blk_drew ?_ | refine blk_alloc ?_ _)); refine blk_far ?_ NB198_206.out _; (with_reducible repeat (first | refine blk_drewN ?_ _ | refine blk_drew ?_ | refine blk_alloc ?_ _)); exact BK198.out) hb); have n1_ := Aside0.mk (blk_below (g := gb206) (o := .cells #[.int .i64 t204, .int .i64 t205] 95 (0, 0)) (by (with_reducible repeat (first | refine blk_drewN ?_ _ | refine blk_drew ?_ | refine blk_alloc ?_ _)); refine blk_put (cs := #[.int .i64 t204, .int .i64 0]) ?_ 1 _ rfl; (with_reducible repeat (first | refine blk_drewN ?_ _ | refine blk_drew ?_ | refine blk_alloc ?_ _)); refine blk_put (cs := #[.int .i64 0, .int .i64 0]) ?_ 0 _ rfl; (with_reducible repeat (first | refine blk_drewN ?_ _ | refine blk_drew ?_ | refine blk_alloc ?_ _)); exact BK206.out) hb); have n2_ := Aside0.mk (below_step (by repeat (first | (with_reducible first | exact HB.out | apply below_alloc | apply pw_below_drewN | apply below_drew1 | refine below_set ?_ GE198.out | refine below_set ?_ GE206.out) | exact HB.out)) hb); clear BK198; clear BK206; clear HB; have BK198 := n0_; have BK206 := n1_; have HB := n2_; clear n0_ n1_ n2_; (try clear hb); (try clear hb2); (try clear hk); (try clear hi)) | ((with_reducible refine gate_callee (f := 69) rfl ?_); refine goesL_ (some 47) rfl rfl Try.func69 (by kernel_rfl) rfl #[.int .i64 t195, .int .i64 1] rfl (by (try simp only [List.map_toArray, List.map_cons, List.map_nil]); first | done | rfl | (simp only [List.length_drop, List.length_take]; rfl)) ?_; (with_reducible refine (impl_AddWords.calls kj5 t195 1 t209 t210 _ A26.out).mono ?_); rintro e w34 ⟨rfl, hb⟩; refine ⟨_, rfl, ?_⟩; have n0_ := Aside0.mk (blk_below (g := gb198) (o := .cells #[.int .i64 t196, .int .i64 t197] 95 (0, 0)) (by (with_reducible repeat (first | refine blk_drewN ?_ _ | refine blk_drew ?_ | refine blk_alloc ?_ _)); exact BK198.out) hb); have n1_ := Aside0.mk (blk_below (g := gb206) (o := .cells #[.int .i64 t204, .int .i64 t205] 95 (0, 0)) (by (with_reducible repeat (first | refine blk_drewN ?_ _ | refine blk_drew ?_ | refine blk_alloc ?_ _)); exact BK206.out) hb); have n2_ := Aside0.mk (below_step (by repeat (first | (with_reducible first | exact HB.out | apply below_alloc | apply pw_below_drewN | apply below_drew1 | refine below_set ?_ GE198.out | refine below_set ?_ GE206.out) | exact HB.out)) hb); clear BK198; clear BK206; clear HB; have BK198 := n0_; have BK206 := n1_; have HB := n2_; clear n0_ n1_ n2_; (try clear hb); (try clear hb2); (try clear hk); (try clear hi)))
            (try simp only [Act.put, List.setIfInBounds_toArray, List.set_cons_zero, List.set_cons_succ])
            go_cut [65] (fun v65 wc => ∃ (kq : Nat) (x65_26 : Bool), v65 = .bool x65_26 ∧ Aside0 (laws_FnSerials.j1 kq t194 t195 x65_26 t196 t197 t204 t205 = some r) ∧ Aside0 (kq ≤ kj5) ∧ Aside0 (wc.heap[gb198]? = some (.cells #[.int .i64 t196, .int .i64 t197] 95 (0, 0))) ∧ Aside0 (wc.heap[gb206]? = some (.cells #[.int .i64 t204, .int .i64 t205] 95 (0, 0))) ∧ Aside0 (Below w.heap.size w wc))
            case first =>
              have H := HC27.out
              clear HC27
              replace H := Option.bind_eq_some_iff.mp H
              obtain ⟨t211, A350, H⟩ := H
              replace H : (if t211 = true then ((impl_SerialLess.f kj5 t195 t194).bind fun t212 => (if t212 = true then (laws_FnSerials.j1 kj5 t194 t195 true t196 t197 t204 t205) else ((impl_SerialLess.f kj5 t208 t210).bind fun t213 => ((impl_SerialLess.f kj5 t194 t195).bind fun t214 => (laws_FnSerials.j1 kj5 t194 t195 (t213 != t214) t196 t197 t204 t205))))) else ((impl_SerialLess.f kj5 t208 t210).bind fun t215 => ((impl_SerialLess.f kj5 t194 t195).bind fun t216 => (laws_FnSerials.j1 kj5 t194 t195 (t215 != t216) t196 t197 t204 t205)))) = some r := H
              have A35 := Aside0.mk A350
              clear A350
              by_cases c36 : t211 = true
              · subst c36
                have H1 : ((impl_SerialLess.f kj5 t195 t194).bind fun t212 => (if t212 = true then (laws_FnSerials.j1 kj5 t194 t195 true t196 t197 t204 t205) else ((impl_SerialLess.f kj5 t208 t210).bind fun t213 => ((impl_SerialLess.f kj5 t194 t195).bind fun t214 => (laws_FnSerials.j1 kj5 t194 t195 (t213 != t214) t196 t197 t204 t205))))) = some r := by rw [if_pos rfl] at H; exact H
                clear H
                have H := H1
                clear H1
                replace H := Option.bind_eq_some_iff.mp H
                obtain ⟨t212, A370, H⟩ := H
                replace H : (if t212 = true then (laws_FnSerials.j1 kj5 t194 t195 true t196 t197 t204 t205) else ((impl_SerialLess.f kj5 t208 t210).bind fun t213 => ((impl_SerialLess.f kj5 t194 t195).bind fun t214 => (laws_FnSerials.j1 kj5 t194 t195 (t213 != t214) t196 t197 t204 t205)))) = some r := H
                have A37 := Aside0.mk A370
                clear A370
                by_cases c38 : t212 = true
                · subst c38
                  have H1 : (laws_FnSerials.j1 kj5 t194 t195 true t196 t197 t204 t205) = some r := by rw [if_pos rfl] at H; exact H
                  clear H
                  have H := H1
                  clear H1
                  have H' := Aside0.mk H
                  clear H
                  go_wp2_with (first | ((with_reducible refine gate_callee (f := 67) rfl ?_); refine goesL_ (some 51) rfl rfl Try.func67 (by kernel_rfl) rfl #[.int .i64 t194, .int .i64 t195] rfl (by (try simp only [List.map_toArray, List.map_cons, List.map_nil]); first | done | rfl | (simp only [List.length_drop, List.length_take]; rfl)) ?_; (with_reducible refine (impl_SerialLess.calls kj5 t194 t195 true _ A35.out).mono ?_); rintro e w39 ⟨rfl, hb⟩; refine ⟨_, rfl, ?_⟩; have n0_ := Aside0.mk (blk_below (g := gb198) (o := .cells #[.int .i64 t196, .int .i64 t197] 95 (0, 0)) (by (with_reducible repeat (first | refine blk_drewN ?_ _ | refine blk_drew ?_ | refine blk_alloc ?_ _)); exact BK198.out) hb); have n1_ := Aside0.mk (blk_below (g := gb206) (o := .cells #[.int .i64 t204, .int .i64 t205] 95 (0, 0)) (by (with_reducible repeat (first | refine blk_drewN ?_ _ | refine blk_drew ?_ | refine blk_alloc ?_ _)); exact BK206.out) hb); have n2_ := Aside0.mk (below_step (by repeat (first | (with_reducible first | exact HB.out | apply below_alloc | apply pw_below_drewN | apply below_drew1 | refine below_set ?_ GE198.out | refine below_set ?_ GE206.out) | exact HB.out)) hb); clear BK198; clear BK206; clear HB; have BK198 := n0_; have BK206 := n1_; have HB := n2_; clear n0_ n1_ n2_; (try clear hb); (try clear hb2); (try clear hk); (try clear hi)) | (go_at_call 67; (with_reducible refine (impl_SerialLess.calls kj5 t195 t194 true _ A37.out).mono ?_); rintro e w40 ⟨rfl, hb⟩; have n0_ := Aside0.mk (blk_below (g := gb198) (o := .cells #[.int .i64 t196, .int .i64 t197] 95 (0, 0)) (by (with_reducible repeat (first | refine blk_drewN ?_ _ | refine blk_drew ?_ | refine blk_alloc ?_ _)); exact BK198.out) hb); have n1_ := Aside0.mk (blk_below (g := gb206) (o := .cells #[.int .i64 t204, .int .i64 t205] 95 (0, 0)) (by (with_reducible repeat (first | refine blk_drewN ?_ _ | refine blk_drew ?_ | refine blk_alloc ?_ _)); exact BK206.out) hb); have n2_ := Aside0.mk (below_step (by repeat (first | (with_reducible first | exact HB.out | apply below_alloc | apply pw_below_drewN | apply below_drew1 | refine below_set ?_ GE198.out | refine below_set ?_ GE206.out) | exact HB.out)) hb); clear BK198; clear BK206; clear HB; have BK198 := n0_; have BK206 := n1_; have HB := n2_; clear n0_ n1_ n2_; (try clear hb); (try clear hb2); (try clear hk); (try clear hi)))
                  go_meet
                  case rel => exact ⟨_, (true), (by first | rfl | (simp; done) | (simp [*]; done)), H', ⟨by have := HJ5.out; first | omega | exact Nat.le_refl _⟩, ⟨by (with_reducible repeat (first | refine blk_drewN ?_ _ | refine blk_drew ?_ | refine blk_alloc ?_ _)); exact BK198.out⟩, ⟨by (with_reducible repeat (first | refine blk_drewN ?_ _ | refine blk_drew ?_ | refine blk_alloc ?_ _)); exact BK206.out⟩, ⟨by repeat (first | (with_reducible first | exact HB.out | apply below_alloc | apply pw_below_drewN | apply below_drew1 | refine below_set ?_ GE198.out | refine below_set ?_ GE206.out) | exact HB.out)⟩⟩
                · replace c38 := Bool.eq_false_iff.mpr c38
                  subst c38
                  have H1 : ((impl_SerialLess.f kj5 t208 t210).bind fun t213 => ((impl_SerialLess.f kj5 t194 t195).bind fun t214 => (laws_FnSerials.j1 kj5 t194 t195 (t213 != t214) t196 t197 t204 t205))) = some r := by rw [if_neg (show ¬ (false = true) by decide)] at H; exact H
                  clear H
                  have H := H1
                  clear H1
                  replace H := Option.bind_eq_some_iff.mp H
                  obtain ⟨t213, A410, H⟩ := H
                  replace H : ((impl_SerialLess.f kj5 t194 t195).bind fun t214 => (laws_FnSerials.j1 kj5 t194 t195 (t213 != t214) t196 t197 t204 t205)) = some r := H
                  have A41 := Aside0.mk A410
                  clear A410
                  replace H := Option.bind_eq_some_iff.mp H
                  obtain ⟨t214, A420, H⟩ := H
                  replace H : (laws_FnSerials.j1 kj5 t194 t195 (t213 != t214) t196 t197 t204 t205) = some r := H
                  have A42 := Aside0.mk A420
                  clear A420
                  have H' := Aside0.mk H
                  clear H
                  go_wp2_with (first | ((with_reducible refine gate_callee (f := 67) rfl ?_); refine goesL_ (some 51) rfl rfl Try.func67 (by kernel_rfl) rfl #[.int .i64 t194, .int .i64 t195] rfl (by (try simp only [List.map_toArray, List.map_cons, List.map_nil]); first | done | rfl | (simp only [List.length_drop, List.length_take]; rfl)) ?_; (with_reducible refine (impl_SerialLess.calls kj5 t194 t195 true _ A35.out).mono ?_); rintro e w43 ⟨rfl, hb⟩; refine ⟨_, rfl, ?_⟩; have n0_ := Aside0.mk (blk_below (g := gb198) (o := .cells #[.int .i64 t196, .int .i64 t197] 95 (0, 0)) (by (with_reducible repeat (first | refine blk_drewN ?_ _ | refine blk_drew ?_ | refine blk_alloc ?_ _)); exact BK198.out) hb); have n1_ := Aside0.mk (blk_below (g := gb206) (o := .cells #[.int .i64 t204, .int .i64 t205] 95 (0, 0)) (by (with_reducible repeat (first | refine blk_drewN ?_ _ | refine blk_drew ?_ | refine blk_alloc ?_ _)); exact BK206.out) hb); have n2_ := Aside0.mk (below_step (by repeat (first | (with_reducible first | exact HB.out | apply below_alloc | apply pw_below_drewN | apply below_drew1 | refine below_set ?_ GE198.out | refine below_set ?_ GE206.out) | exact HB.out)) hb); clear BK198; clear BK206; clear HB; have BK198 := n0_; have BK206 := n1_; have HB := n2_; clear n0_ n1_ n2_; (try clear hb); (try clear hb2); (try clear hk); (try clear hi)) | (go_at_call 67; (with_reducible refine (impl_SerialLess.calls kj5 t195 t194 false _ A37.out).mono ?_); rintro e w44 ⟨rfl, hb⟩; have n0_ := Aside0.mk (blk_below (g := gb198) (o := .cells #[.int .i64 t196, .int .i64 t197] 95 (0, 0)) (by (with_reducible repeat (first | refine blk_drewN ?_ _ | refine blk_drew ?_ | refine blk_alloc ?_ _)); exact BK198.out) hb); have n1_ := Aside0.mk (blk_below (g := gb206) (o := .cells #[.int .i64 t204, .int .i64 t205] 95 (0, 0)) (by (with_reducible repeat (first | refine blk_drewN ?_ _ | refine blk_drew ?_ | refine blk_alloc ?_ _)); exact BK206.out) hb); have n2_ := Aside0.mk (below_step (by repeat (first | (with_reducible first | exact HB.out | apply below_alloc | apply pw_below_drewN | apply below_drew1 | refine below_set ?_ GE198.out | refine below_set ?_ GE206.out) | exact HB.out)) hb); clear BK198; clear BK206; clear HB; have BK198 := n0_; have BK206 := n1_; have HB := n2_; clear n0_ n1_ n2_; (try clear hb); (try clear hb2); (try clear hk); (try clear hi)) | (go_at_call 67; (with_reducible refine (impl_SerialLess.calls kj5 t208 t210 t213 _ A41.out).mono ?_); rintro e w45 ⟨rfl, hb⟩; have n0_ := Aside0.mk (blk_below (g := gb198) (o := .cells #[.int .i64 t196, .int .i64 t197] 95 (0, 0)) (by (with_reducible repeat (first | refine blk_drewN ?_ _ | refine blk_drew ?_ | refine blk_alloc ?_ _)); exact BK198.out) hb); have n1_ := Aside0.mk (blk_below (g := gb206) (o := .cells #[.int .i64 t204, .int .i64 t205] 95 (0, 0)) (by (with_reducible repeat (first | refine blk_drewN ?_ _ | refine blk_drew ?_ | refine blk_alloc ?_ _)); exact BK206.out) hb); have n2_ := Aside0.mk (below_step (by repeat (first | (with_reducible first | exact HB.out | apply below_alloc | apply pw_below_drewN | apply below_drew1 | refine below_set ?_ GE198.out | refine below_set ?_ GE206.out) | exact HB.out)) hb); clear BK198; clear BK206; clear HB; have BK198 := n0_; have BK206 := n1_; have HB := n2_; clear n0_ n1_ n2_; (try clear hb); (try clear hb2); (try clear hk); (try clear hi)) | (go_at_call 67; (with_reducible refine (impl_SerialLess.calls kj5 t194 t195 t214 _ A42.out).mono ?_); rintro e w46 ⟨rfl, hb⟩; have n0_ := Aside0.mk (blk_below (g := gb198) (o := .cells #[.int .i64 t196, .int .i64 t197] 95 (0, 0)) (by (with_reducible repeat (first | refine blk_drewN ?_ _ | refine blk_drew ?_ | refine blk_alloc ?_ _)); exact BK198.out) hb); have n1_ := Aside0.mk (blk_below (g := gb206) (o := .cells #[.int .i64 t204, .int .i64 t205] 95 (0, 0)) (by (with_reducible repeat (first | refine blk_drewN ?_ _ | refine blk_drew ?_ | refine blk_alloc ?_ _)); exact BK206.out) hb); have n2_ := Aside0.mk (below_step (by repeat (first | (with_reducible first | exact HB.out | apply below_alloc | apply pw_below_drewN | apply below_drew1 | refine below_set ?_ GE198.out | refine below_set ?_ GE206.out) | exact HB.out)) hb); clear BK198; clear BK206; clear HB; have BK198 := n0_; have BK206 := n1_; have HB := n2_; clear n0_ n1_ n2_; (try clear hb); (try clear hb2); (try clear hk); (try clear hi)))
                  go_meet
                  case rel => exact ⟨_, ((t213 != t214)), (by first | rfl | (simp; done) | (simp [*]; done)), H', ⟨by have := HJ5.out; first | omega | exact Nat.le_refl _⟩, ⟨by (with_reducible repeat (first | refine blk_drewN ?_ _ | refine blk_drew ?_ | refine blk_alloc ?_ _)); exact BK198.out⟩, ⟨by (with_reducible repeat (first | refine blk_drewN ?_ _ | refine blk_drew ?_ | refine blk_alloc ?_ _)); exact BK206.out⟩, ⟨by repeat (first | (with_reducible first | exact HB.out | apply below_alloc | apply pw_below_drewN | apply below_drew1 | refine below_set ?_ GE198.out | refine below_set ?_ GE206.out) | exact HB.out)⟩⟩
              · replace c36 := Bool.eq_false_iff.mpr c36
                subst c36
                have H1 : ((impl_SerialLess.f kj5 t208 t210).bind fun t215 => ((impl_SerialLess.f kj5 t194 t195).bind fun t216 => (laws_FnSerials.j1 kj5 t194 t195 (t215 != t216) t196 t197 t204 t205))) = some r := by rw [if_neg (show ¬ (false = true) by decide)] at H; exact H
                clear H
                have H := H1
                clear H1
                replace H := Option.bind_eq_some_iff.mp H
                obtain ⟨t215, A470, H⟩ := H
                replace H : ((impl_SerialLess.f kj5 t194 t195).bind fun t216 => (laws_FnSerials.j1 kj5 t194 t195 (t215 != t216) t196 t197 t204 t205)) = some r := H
                have A47 := Aside0.mk A470
                clear A470
                replace H := Option.bind_eq_some_iff.mp H
                obtain ⟨t216, A480, H⟩ := H
                replace H : (laws_FnSerials.j1 kj5 t194 t195 (t215 != t216) t196 t197 t204 t205) = some r := H
                have A48 := Aside0.mk A480
                clear A480
                have H' := Aside0.mk H
                clear H
                go_wp2_with (first | ((with_reducible refine gate_callee (f := 67) rfl ?_); refine goesL_ (some 51) rfl rfl Try.func67 (by kernel_rfl) rfl #[.int .i64 t194, .int .i64 t195] rfl (by (try simp only [List.map_toArray, List.map_cons, List.map_nil]); first | done | rfl | (simp only [List.length_drop, List.length_take]; rfl)) ?_; (with_reducible refine (impl_SerialLess.calls kj5 t194 t195 false _ A35.out).mono ?_); rintro e w49 ⟨rfl, hb⟩; refine ⟨_, rfl, ?_⟩; have n0_ := Aside0.mk (blk_below (g := gb198) (o := .cells #[.int .i64 t196, .int .i64 t197] 95 (0, 0)) (by (with_reducible repeat (first | refine blk_drewN ?_ _ | refine blk_drew ?_ | refine blk_alloc ?_ _)); exact BK198.out) hb); have n1_ := Aside0.mk (blk_below (g := gb206) (o := .cells #[.int .i64 t204, .int .i64 t205] 95 (0, 0)) (by (with_reducible repeat (first | refine blk_drewN ?_ _ | refine blk_drew ?_ | refine blk_alloc ?_ _)); exact BK206.out) hb); have n2_ := Aside0.mk (below_step (by repeat (first | (with_reducible first | exact HB.out | apply below_alloc | apply pw_below_drewN | apply below_drew1 | refine below_set ?_ GE198.out | refine below_set ?_ GE206.out) | exact HB.out)) hb); clear BK198; clear BK206; clear HB; have BK198 := n0_; have BK206 := n1_; have HB := n2_; clear n0_ n1_ n2_; (try clear hb); (try clear hb2); (try clear hk); (try clear hi)) | (go_at_call 67; (with_reducible refine (impl_SerialLess.calls kj5 t208 t210 t215 _ A47.out).mono ?_); rintro e w50 ⟨rfl, hb⟩; have n0_ := Aside0.mk (blk_below (g := gb198) (o := .cells #[.int .i64 t196, .int .i64 t197] 95 (0, 0)) (by (with_reducible repeat (first | refine blk_drewN ?_ _ | refine blk_drew ?_ | refine blk_alloc ?_ _)); exact BK198.out) hb); have n1_ := Aside0.mk (blk_below (g := gb206) (o := .cells #[.int .i64 t204, .int .i64 t205] 95 (0, 0)) (by (with_reducible repeat (first | refine blk_drewN ?_ _ | refine blk_drew ?_ | refine blk_alloc ?_ _)); exact BK206.out) hb); have n2_ := Aside0.mk (below_step (by repeat (first | (with_reducible first | exact HB.out | apply below_alloc | apply pw_below_drewN | apply below_drew1 | refine below_set ?_ GE198.out | refine below_set ?_ GE206.out) | exact HB.out)) hb); clear BK198; clear BK206; clear HB; have BK198 := n0_; have BK206 := n1_; have HB := n2_; clear n0_ n1_ n2_; (try clear hb); (try clear hb2); (try clear hk); (try clear hi)) | (go_at_call 67; (with_reducible refine (impl_SerialLess.calls kj5 t194 t195 t216 _ A48.out).mono ?_); rintro e w51 ⟨rfl, hb⟩; have n0_ := Aside0.mk (blk_below (g := gb198) (o := .cells #[.int .i64 t196, .int .i64 t197] 95 (0, 0)) (by (with_reducible repeat (first | refine blk_drewN ?_ _ | refine blk_drew ?_ | refine blk_alloc ?_ _)); exact BK198.out) hb); have n1_ := Aside0.mk (blk_below (g := gb206) (o := .cells #[.int .i64 t204, .int .i64 t205] 95 (0, 0)) (by (with_reducible repeat (first | refine blk_drewN ?_ _ | refine blk_drew ?_ | refine blk_alloc ?_ _)); exact BK206.out) hb); have n2_ := Aside0.mk (below_step (by repeat (first | (with_reducible first | exact HB.out | apply below_alloc | apply pw_below_drewN | apply below_drew1 | refine below_set ?_ GE198.out | refine below_set ?_ GE206.out) | exact HB.out)) hb); clear BK198; clear BK206; clear HB; have BK198 := n0_; have BK206 := n1_; have HB := n2_; clear n0_ n1_ n2_; (try clear hb); (try clear hb2); (try clear hk); (try clear hi)))
                go_meet
                case rel => exact ⟨_, ((t215 != t216)), (by first | rfl | (simp; done) | (simp [*]; done)), H', ⟨by have := HJ5.out; first | omega | exact Nat.le_refl _⟩, ⟨by (with_reducible repeat (first | refine blk_drewN ?_ _ | refine blk_drew ?_ | refine blk_alloc ?_ _)); exact BK198.out⟩, ⟨by (with_reducible repeat (first | refine blk_drewN ?_ _ | refine blk_drew ?_ | refine blk_alloc ?_ _)); exact BK206.out⟩, ⟨by repeat (first | (with_reducible first | exact HB.out | apply below_alloc | apply pw_below_drewN | apply below_drew1 | refine below_set ?_ GE198.out | refine below_set ?_ GE206.out) | exact HB.out)⟩⟩
            case rest =>
              clear HC27
              try clear c1
              try clear c2
              try clear p2
              try clear c3
              try clear c4
              try clear c6
              try clear c12
              try clear c12b0
              try clear c22
              try clear c23
              try clear c23b0
              try clear c23b1
              try clear c31
              try clear c36
              try clear c38
              try clear c42
              try clear hcz10_0
              try clear hcz10_1
              try clear hcz28_0
              try clear hcz28_1
              try clear hcz32_0
              try clear hcz32_1
              try clear hfz10_0
              try clear hfz10_1
              try clear hfz28_0
              try clear hfz28_1
              try clear hfz32_0
              try clear hfz32_1
              try clear p2
              obtain ⟨kq, x65_26, rfl, HA, HJ26, BK198, BK206, HB⟩ := hcut
              cases kq with
              | zero => exact absurd HA.out (by simp [laws_FnSerials.j1])
              | succ kj26 =>
                have H := HA.out
                clear HA
                simp only [laws_FnSerials.j1] at H
                by_cases c52 : x65_26 = true
                · subst c52
                  have H1 : (some false) = some r := by rw [if_pos rfl] at H; exact H
                  clear H
                  have H := H1
                  clear H1
                  exact absurd ((Option.some.inj H).trans hr_) (by decide)
                · replace c52 := Bool.eq_false_iff.mpr c52
                  subst c52
                  have H1 : (if (Int.tmod (wrap64 (t197 + t205)) 4294967296) = 0 then ((impl_AddWords.f kj26 t194 t197).bind fun bt217 => (if bt217.2 = t195 then (if t194 = t195 then (some true) else (if t197 = 2147483648 then (some true) else ((impl_SerialLess.f kj26 t194 t195).bind fun t219 => ((impl_SerialLess.f kj26 t195 t194).bind fun t220 => (some (t219 != t220)))))) else (some false))) else (some false)) = some r := by rw [if_neg (show ¬ (false = true) by decide)] at H; exact H
                  clear H
                  have H := H1
                  clear H1
                  by_cases c53 : (Int.tmod (wrap64 (t197 + t205)) 4294967296) = 0
                  · rw [if_pos c53] at H
                    have c53b0 : ((Int.tmod (wrap64 (t197 + t205)) 4294967296) == 0) = true := beq_iff_eq.mpr c53
                    have c53b1 : ((Int.tmod (wrap64 (t197 + t205)) 4294967296) != 0) = false := bne_eq_false_iff_eq.mpr c53
                    clear c53
                    replace H := Option.bind_eq_some_iff.mp H
                    obtain ⟨⟨t217, t218⟩, A540, H⟩ := H
                    replace H : (if t218 = t195 then (if t194 = t195 then (some true) else (if t197 = 2147483648 then (some true) else ((impl_SerialLess.f kj26 t194 t195).bind fun t219 => ((impl_SerialLess.f kj26 t195 t194).bind fun t220 => (some (t219 != t220)))))) else (some false)) = some r := H
                    have A54 := Aside0.mk A540
                    clear A540
                    by_cases c55 : t218 = t195
                    · rw [if_pos c55] at H
                      have c55b0 : (t218 == t195) = true := beq_iff_eq.mpr c55
                      have c55b1 : (t218 != t195) = false := bne_eq_false_iff_eq.mpr c55
                      clear c55
                      by_cases c56 : t194 = t195
                      · rw [if_pos c56] at H
                        have c56b0 : (t194 == t195) = true := beq_iff_eq.mpr c56
                        have c56b1 : (t194 != t195) = false := bne_eq_false_iff_eq.mpr c56
                        clear c56
                        obtain rfl := Option.some.inj H
                        have hnb57 := NB198_206.out
                        have hnc57 := NB206_198.out
                        have hcz58_0 : wc.cell? ⟨gb198, 0, none⟩ = some (.int .i64 t196) := (blk_cell BK198.out 0).trans rfl
                        have hcz58_1 : wc.cell? ⟨gb198, 1, none⟩ = some (.int .i64 t197) := (blk_cell BK198.out 1).trans rfl
                        have hfz58_0 := blk_frozen BK198.out 0
                        have hfz58_1 := blk_frozen BK198.out 1
                        have hcz59_0 : wc.cell? ⟨gb206, 0, none⟩ = some (.int .i64 t204) := (blk_cell BK206.out 0).trans rfl
                        have hcz59_1 : wc.cell? ⟨gb206, 1, none⟩ = some (.int .i64 t205) := (blk_cell BK206.out 1).trans rfl
                        have hfz59_0 := blk_frozen BK206.out 0
                        have hfz59_1 := blk_frozen BK206.out 1
                        go_wp2_with (first | (go_at_call 69; (with_reducible refine (impl_AddWords.calls kj26 t194 t197 t217 t218 _ A54.out).mono ?_); rintro e w60 ⟨rfl, hb⟩; have n0_ := Aside0.mk (blk_below (g := gb198) (o := .cells #[.int .i64 t196, .int .i64 t197] 95 (0, 0)) (by (with_reducible repeat (first | refine blk_drewN ?_ _ | refine blk_drew ?_ | refine blk_alloc ?_ _)); exact BK198.out) hb); have n1_ := Aside0.mk (blk_below (g := gb206) (o := .cells #[.int .i64 t204, .int .i64 t205] 95 (0, 0)) (by (with_reducible repeat (first | refine blk_drewN ?_ _ | refine blk_drew ?_ | refine blk_alloc ?_ _)); exact BK206.out) hb); have n2_ := Aside0.mk (below_step (by repeat (first | (with_reducible first | exact HB.out | apply below_alloc | apply pw_below_drewN | apply below_drew1 | refine below_set ?_ GE198.out | refine below_set ?_ GE206.out) | exact HB.out)) hb); clear BK198; clear BK206; clear HB; have BK198 := n0_; have BK206 := n1_; have HB := n2_; clear n0_ n1_ n2_; (try clear hb); (try clear hb2); (try clear hk); (try clear hi)))
                        go_ret
                        exact ⟨by first | rfl | (simp [errW_none, errW_some] <;> rfl) | (simp [*, errW_none, errW_some] <;> rfl), by repeat (first | (with_reducible first | exact HB.out | apply below_alloc | apply pw_below_drewN | apply below_drew1 | refine below_set ?_ GE198.out | refine below_set ?_ GE206.out) | exact HB.out)⟩
                      · rw [if_neg c56] at H
                        have c56b0 : (t194 == t195) = false := beq_eq_false_iff_ne.mpr c56
                        have c56b1 : (t194 != t195) = true := bne_iff_ne.mpr c56
                        by_cases c61 : t197 = 2147483648
                        · rw [if_pos c61] at H
                          have c61b0 : (t197 == 2147483648) = true := beq_iff_eq.mpr c61
                          have c61b1 : (t197 != 2147483648) = false := bne_eq_false_iff_eq.mpr c61
                          clear c61
                          obtain rfl := Option.some.inj H
                          have hnb62 := NB198_206.out
                          have hnc62 := NB206_198.out
                          have hcz63_0 : wc.cell? ⟨gb198, 0, none⟩ = some (.int .i64 t196) := (blk_cell BK198.out 0).trans rfl
                          have hcz63_1 : wc.cell? ⟨gb198, 1, none⟩ = some (.int .i64 t197) := (blk_cell BK198.out 1).trans rfl
                          have hfz63_0 := blk_frozen BK198.out 0
                          have hfz63_1 := blk_frozen BK198.out 1
                          have hcz64_0 : wc.cell? ⟨gb206, 0, none⟩ = some (.int .i64 t204) := (blk_cell BK206.out 0).trans rfl
                          have hcz64_1 : wc.cell? ⟨gb206, 1, none⟩ = some (.int .i64 t205) := (blk_cell BK206.out 1).trans rfl
                          have hfz64_0 := blk_frozen BK206.out 0
                          have hfz64_1 := blk_frozen BK206.out 1
                          go_wp2_with (first | (go_at_call 69; (with_reducible refine (impl_AddWords.calls kj26 t194 t197 t217 t218 _ A54.out).mono ?_); rintro e w65 ⟨rfl, hb⟩; have n0_ := Aside0.mk (blk_below (g := gb198) (o := .cells #[.int .i64 t196, .int .i64 t197] 95 (0, 0)) (by (with_reducible repeat (first | refine blk_drewN ?_ _ | refine blk_drew ?_ | refine blk_alloc ?_ _)); exact BK198.out) hb); have n1_ := Aside0.mk (blk_below (g := gb206) (o := .cells #[.int .i64 t204, .int .i64 t205] 95 (0, 0)) (by (with_reducible repeat (first | refine blk_drewN ?_ _ | refine blk_drew ?_ | refine blk_alloc ?_ _)); exact BK206.out) hb); have n2_ := Aside0.mk (below_step (by repeat (first | (with_reducible first | exact HB.out | apply below_alloc | apply pw_below_drewN | apply below_drew1 | refine below_set ?_ GE198.out | refine below_set ?_ GE206.out) | exact HB.out)) hb); clear BK198; clear BK206; clear HB; have BK198 := n0_; have BK206 := n1_; have HB := n2_; clear n0_ n1_ n2_; (try clear hb); (try clear hb2); (try clear hk); (try clear hi); have hcz66_0 : w65.cell? ⟨gb198, 0, none⟩ = some (.int .i64 t196) := (blk_cell BK198.out 0).trans rfl; have hcz66_1 : w65.cell? ⟨gb198, 1, none⟩ = some (.int .i64 t197) := (blk_cell BK198.out 1).trans rfl; have hfz66_0 := blk_frozen BK198.out 0; have hfz66_1 := blk_frozen BK198.out 1))
                          go_ret
                          exact ⟨by first | rfl | (simp [errW_none, errW_some] <;> rfl) | (simp [*, errW_none, errW_some] <;> rfl), by repeat (first | (with_reducible first | exact HB.out | apply below_alloc | apply pw_below_drewN | apply below_drew1 | refine below_set ?_ GE198.out | refine below_set ?_ GE206.out) | exact HB.out)⟩
                        · rw [if_neg c61] at H
                          have c61b0 : (t197 == 2147483648) = false := beq_eq_false_iff_ne.mpr c61
                          have c61b1 : (t197 != 2147483648) = true := bne_iff_ne.mpr c61
                          replace H := Option.bind_eq_some_iff.mp H
                          obtain ⟨t219, A670, H⟩ := H
                          replace H : ((impl_SerialLess.f kj26 t195 t194).bind fun t220 => (some (t219 != t220))) = some r := H
                          have A67 := Aside0.mk A670
                          clear A670
                          replace H := Option.bind_eq_some_iff.mp H
                          obtain ⟨t220, A680, H⟩ := H
                          replace H : (some (t219 != t220)) = some r := H
                          have A68 := Aside0.mk A680
                          clear A680
                          obtain rfl := Option.some.inj H
                          have hnb69 := NB198_206.out
                          have hnc69 := NB206_198.out
                          have hcz70_0 : wc.cell? ⟨gb198, 0, none⟩ = some (.int .i64 t196) := (blk_cell BK198.out 0).trans rfl
                          have hcz70_1 : wc.cell? ⟨gb198, 1, none⟩ = some (.int .i64 t197) := (blk_cell BK198.out 1).trans rfl
                          have hfz70_0 := blk_frozen BK198.out 0
                          have hfz70_1 := blk_frozen BK198.out 1
                          have hcz71_0 : wc.cell? ⟨gb206, 0, none⟩ = some (.int .i64 t204) := (blk_cell BK206.out 0).trans rfl
                          have hcz71_1 : wc.cell? ⟨gb206, 1, none⟩ = some (.int .i64 t205) := (blk_cell BK206.out 1).trans rfl
                          have hfz71_0 := blk_frozen BK206.out 0
                          have hfz71_1 := blk_frozen BK206.out 1
                          go_wp2_with (first | (go_at_call 69; (with_reducible refine (impl_AddWords.calls kj26 t194 t197 t217 t218 _ A54.out).mono ?_); rintro e w72 ⟨rfl, hb⟩; have n0_ := Aside0.mk (blk_below (g := gb198) (o := .cells #[.int .i64 t196, .int .i64 t197] 95 (0, 0)) (by (with_reducible repeat (first | refine blk_drewN ?_ _ | refine blk_drew ?_ | refine blk_alloc ?_ _)); exact BK198.out) hb); have n1_ := Aside0.mk (blk_below (g := gb206) (o := .cells #[.int .i64 t204, .int .i64 t205] 95 (0, 0)) (by (with_reducible repeat (first | refine blk_drewN ?_ _ | refine blk_drew ?_ | refine blk_alloc ?_ _)); exact BK206.out) hb); have n2_ := Aside0.mk (below_step (by repeat (first | (with_reducible first | exact HB.out | apply below_alloc | apply pw_below_drewN | apply below_drew1 | refine below_set ?_ GE198.out | refine below_set ?_ GE206.out) | exact HB.out)) hb); clear BK198; clear BK206; clear HB; have BK198 := n0_; have BK206 := n1_; have HB := n2_; clear n0_ n1_ n2_; (try clear hb); (try clear hb2); (try clear hk); (try clear hi); have hcz73_0 : w72.cell? ⟨gb198, 0, none⟩ = some (.int .i64 t196) := (blk_cell BK198.out 0).trans rfl; have hcz73_1 : w72.cell? ⟨gb198, 1, none⟩ = some (.int .i64 t197) := (blk_cell BK198.out 1).trans rfl; have hfz73_0 := blk_frozen BK198.out 0; have hfz73_1 := blk_frozen BK198.out 1) | (go_at_call 67; (with_reducible refine (impl_SerialLess.calls kj26 t194 t195 t219 _ A67.out).mono ?_); rintro e w74 ⟨rfl, hb⟩; have n0_ := Aside0.mk (blk_below (g := gb198) (o := .cells #[.int .i64 t196, .int .i64 t197] 95 (0, 0)) (by (with_reducible repeat (first | refine blk_drewN ?_ _ | refine blk_drew ?_ | refine blk_alloc ?_ _)); exact BK198.out) hb); have n1_ := Aside0.mk (blk_below (g := gb206) (o := .cells #[.int .i64 t204, .int .i64 t205] 95 (0, 0)) (by (with_reducible repeat (first | refine blk_drewN ?_ _ | refine blk_drew ?_ | refine blk_alloc ?_ _)); exact BK206.out) hb); have n2_ := Aside0.mk (below_step (by repeat (first | (with_reducible first | exact HB.out | apply below_alloc | apply pw_below_drewN | apply below_drew1 | refine below_set ?_ GE198.out | refine below_set ?_ GE206.out) | exact HB.out)) hb); clear BK198; clear BK206; clear HB; have BK198 := n0_; have BK206 := n1_; have HB := n2_; clear n0_ n1_ n2_; (try clear hb); (try clear hb2); (try clear hk); (try clear hi)) | (go_at_call 67; (with_reducible refine (impl_SerialLess.calls kj26 t195 t194 t220 _ A68.out).mono ?_); rintro e w75 ⟨rfl, hb⟩; have n0_ := Aside0.mk (blk_below (g := gb198) (o := .cells #[.int .i64 t196, .int .i64 t197] 95 (0, 0)) (by (with_reducible repeat (first | refine blk_drewN ?_ _ | refine blk_drew ?_ | refine blk_alloc ?_ _)); exact BK198.out) hb); have n1_ := Aside0.mk (blk_below (g := gb206) (o := .cells #[.int .i64 t204, .int .i64 t205] 95 (0, 0)) (by (with_reducible repeat (first | refine blk_drewN ?_ _ | refine blk_drew ?_ | refine blk_alloc ?_ _)); exact BK206.out) hb); have n2_ := Aside0.mk (below_step (by repeat (first | (with_reducible first | exact HB.out | apply below_alloc | apply pw_below_drewN | apply below_drew1 | refine below_set ?_ GE198.out | refine below_set ?_ GE206.out) | exact HB.out)) hb); clear BK198; clear BK206; clear HB; have BK198 := n0_; have BK206 := n1_; have HB := n2_; clear n0_ n1_ n2_; (try clear hb); (try clear hb2); (try clear hk); (try clear hi)))
                          go_ret
                          exact ⟨by first | rfl | (simp [errW_none, errW_some] <;> rfl) | (simp [*, errW_none, errW_some] <;> rfl), by repeat (first | (with_reducible first | exact HB.out | apply below_alloc | apply pw_below_drewN | apply below_drew1 | refine below_set ?_ GE198.out | refine below_set ?_ GE206.out) | exact HB.out)⟩
                    · rw [if_neg c55] at H
                      have c55b0 : (t218 == t195) = false := beq_eq_false_iff_ne.mpr c55
                      have c55b1 : (t218 != t195) = true := bne_iff_ne.mpr c55
                      exact absurd ((Option.some.inj H).trans hr_) (by decide)
                  · rw [if_neg c53] at H
                    have c53b0 : ((Int.tmod (wrap64 (t197 + t205)) 4294967296) == 0) = false := beq_eq_false_iff_ne.mpr c53
                    have c53b1 : ((Int.tmod (wrap64 (t197 + t205)) 4294967296) != 0) = true := bne_iff_ne.mpr c53
                    exact absurd ((Option.some.inj H).trans hr_) (by decide)
          · rw [if_neg c23] at H
            have c23b0 : (t196 == 0) = false := beq_eq_false_iff_ne.mpr c23
            have c23b1 : (t196 != 0) = true := bne_iff_ne.mpr c23
            replace H := Option.bind_eq_some_iff.mp H
            obtain ⟨t203, A760, H⟩ := H
            replace H : (some (!t203)) = some r := H
            have A76 := Aside0.mk A760
            clear A760
            obtain rfl := Option.some.inj H
            have hcz77_0 : wc.cell? ⟨gb198, 0, none⟩ = some (.int .i64 t196) := (blk_cell BK198.out 0).trans rfl
            have hcz77_1 : wc.cell? ⟨gb198, 1, none⟩ = some (.int .i64 t197) := (blk_cell BK198.out 1).trans rfl
            have hfz77_0 := blk_frozen BK198.out 0
            have hfz77_1 := blk_frozen BK198.out 1
            go_wp2_with (first | ((with_reducible refine gate_callee (f := 67) rfl ?_); refine goesL_ (some 38) rfl rfl Try.func67 (by kernel_rfl) rfl #[.int .i64 t194, .int .i64 t195] rfl (by (try simp only [List.map_toArray, List.map_cons, List.map_nil]); first | done | rfl | (simp only [List.length_drop, List.length_take]; rfl)) ?_; (with_reducible refine (impl_SerialLess.calls kj5 t194 t195 t203 _ A76.out).mono ?_); rintro e w78 ⟨rfl, hb⟩; refine ⟨_, rfl, ?_⟩; have n0_ := Aside0.mk (blk_below (g := gb198) (o := .cells #[.int .i64 t196, .int .i64 t197] 95 (0, 0)) (by (with_reducible repeat (first | refine blk_drewN ?_ _ | refine blk_drew ?_ | refine blk_alloc ?_ _)); exact BK198.out) hb); have n1_ := Aside0.mk (below_step (by repeat (first | (with_reducible first | exact HB.out | apply below_alloc | apply pw_below_drewN | apply below_drew1 | refine below_set ?_ GE198.out) | exact HB.out)) hb); clear BK198; clear HB; have BK198 := n0_; have HB := n1_; clear n0_ n1_; (try clear hb); (try clear hb2); (try clear hk); (try clear hi)))
            go_ret
            exact ⟨by first | rfl | (simp [errW_none, errW_some] <;> rfl) | (simp [*, errW_none, errW_some] <;> rfl), by repeat (first | (with_reducible first | exact HB.out | apply below_alloc | apply pw_below_drewN | apply below_drew1 | refine below_set ?_ GE198.out) | exact HB.out)⟩

/-- THE ONE PURE STATEMENT of laws_FnSerials: yours. -/
def laws_FnSerials.Pure : Prop := ∀ (l0 : List Int), l0.length ≤ maxLen → l0.length * 1 ≤ 140737488351232 → (∀ x ∈ l0, (Lit.int .u8 x).wf = true) → ∃ k, laws_FnSerials.f k l0 = some true
theorem laws_FnSerials.walk (P : laws_FnSerials.Pure) (a0 : Option Addr) (len0 cap0 : Nat) (z0 : List Int) (w : World) (w0 : (a0 = none ∧ len0 = 0 ∧ cap0 = 0 ∧ z0 = []) ∨ ∃ x, a0 = some x ∧ len0 ≤ cap0 ∧ cap0 ≤ maxLen ∧ z0.length = cap0 ∧ (∀ i, i < z0.length → w.cell? (x.add i) = some (.int .u8 (z0.getD i 0))) ∧ ∀ n ∈ z0, (Lit.int .u8 n).wf = true) (y0 : len0 * 1 ≤ 140737488351232) :
    Calls Try.prog 12 #[.slice a0 len0 cap0] w fun e w' => e = .returned (.bool true) ∧ Below w.heap.size w w' := by
  obtain ⟨l0, rfl, hr0, hm0, hw0, hc0⟩ := ReadsInt.ofRowC w0
  obtain ⟨k, h⟩ := P l0 hm0 y0 hw0
  refine (laws_FnSerials.calls k _ _ l0 true w (Kd.C_of_reads (d := (0 : Int)) (h1 := fun _ => rfl) hr0) hc0 h rfl).mono ?_
  rintro e w' ⟨rfl, hd⟩
  exact ⟨rfl, hd⟩

end Go.Proofs.Ytacfebnfdmbkaaa.PFnSerials
