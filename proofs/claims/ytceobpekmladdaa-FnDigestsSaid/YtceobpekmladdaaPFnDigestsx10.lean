-- Laid by a program of this session (wip/print): the kit's printer with changes of this session's own.
import Derived.Test.YtceobpekmladdaaPFnDigestsx0
import Derived.Test.YtceobpekmladdaaPFnDigestsx4
import Derived.Test.YtceobpekmladdaaPFnDigestsx7
import Derived.Test.YtceobpekmladdaaPFnDigestsx8
import Derived.Test.YtceobpekmladdaaPFnDigestsx9
namespace Go.Proofs.Ytceobpekmladdaa.PFnDigests
open Go.RowKit Go.Proofs.YtceobpekmladdaaW.PrintWords Go.Proofs.YtceobpekmladdaaW.PrintLast Go.Proofs.YtceobpekmladdaaW.PrintMore
attribute [local go_sem] max2_int min2_int max_two min_two max_three min_three max_four min_four   -- for this text's walks alone
set_option linter.unusedVariables false
set_option linter.unusedSimpArgs false

/-! ### laws_FnDigests: function 6 -/
mutual
def laws_FnDigests.j0 : Nat → List Int → Bool → Int → List Int → Int → List Int → Option (Bool)
  | 0, _, _, _, _, _, _ => none
  | k + 1, x3, x31, x461000, x461001, x466000, x466001 => if x31 = true then (some false) else (if x461000 = 0 then (if ((x466001.length : Int) % 64) = 0 then (if (x466001.length : Int) < (wrap64 ((x3.length : Int) + 9)) then (laws_FnDigests.j1 k true x461000 x461001 x466000 x466001) else (if 0 ≤ (x3.length : Int) then (if (x3.length : Int) ≤ (x466001.length : Int) then ((laws_lwBytes.f (x466001.take ((x3.length : Int) : Int).toNat) x3).bind fun t474 => (if t474 = true then (if (x3.length : Int) < (x466001.length : Int) then (laws_FnDigests.j1 k ((rd x466001 (x3.length : Int)) != 128) x461000 x461001 x466000 x466001) else (none)) else (laws_FnDigests.j1 k true x461000 x461001 x466000 x466001))) else (none)) else (none))) else (laws_FnDigests.j1 k true x461000 x461001 x466000 x466001)) else (some true))
def laws_FnDigests.j1 : Nat → Bool → Int → List Int → Int → List Int → Option (Bool)
  | 0, _, _, _, _, _ => none
  | k + 1, x67, x461000, x461001, x466000, x466001 => if x67 = true then (some false) else (laws_FnDigests.l0 k (([1779033703, 3144134277, 1013904242, 2773480762, 1359893119, 2600822924, 528734635, 1541459225] : List Int)) 0 x461000 x461001 x466000 x466001)
def laws_FnDigests.l0 : Nat → List Int → Int → Int → List Int → Int → List Int → Option (Bool)
  | 0, _, _, _, _, _, _ => none
  | k + 1, x6, x7, x461000, x461001, x466000, x466001 => if x7 < (x466001.length : Int) then (if 0 ≤ x7 then (if x7 ≤ (wrap64 (x7 + 64)) then (if (wrap64 (x7 + 64)) ≤ (x466001.length : Int) then ((impl_CompressBlock.f k x6 ((x466001.take ((wrap64 (x7 + 64)) : Int).toNat).drop (x7 : Int).toNat)).bind fun bt483 => (if bt483.1 = 0 then (if (bt483.2.length : Int) = 8 then (laws_FnDigests.l0 k bt483.2 (wrap64 (x7 + 64)) x461000 x461001 x466000 x466001) else (some false)) else (some false))) else (none)) else (none)) else (none)) else (laws_FnDigests.l1 k x6 (([] : List Int)) 0 x461000 x461001)
def laws_FnDigests.l1 : Nat → List Int → List Int → Int → Int → List Int → Option (Bool)
  | 0, _, _, _, _, _ => none
  | k + 1, x6, x9, x10, x461000, x461001 => if x10 < 8 then (if 0 ≤ x10 then (if x10 < (x6.length : Int) then ((impl_PackWord.f (rd x6 x10)).bind fun bt492 => (if x9.length + bt492.2.length < 140737488355328 then (laws_FnDigests.l1 k x6 (x9 ++ bt492.2) (wrap64 (x10 + 1)) x461000 x461001) else (none))) else (none)) else (none)) else ((laws_lwBytes.f x9 x461001).bind fun t499 => (if t499 = true then (some ((x461001.length : Int) == 32)) else (some false)))
end
def laws_FnDigests.f (k : Nat) (l0 : List Int) : Option (Bool) := (laws_lwBig.f l0).bind fun t452 => (if t452 = true then (some true) else ((spec_DrawSha256.f k l0).bind fun t453 => ((impl_Sha256.f k t453).bind fun bt456 => ((impl_PadMessage.f k t453).bind fun bt461 => ((spec_Sha256.f k t453).bind fun bt466 => (if bt456.1 = bt466.1 then (laws_FnDigests.j0 k t453 (bt461.1 != bt456.1) bt456.1 bt456.2 bt461.1 bt461.2) else (laws_FnDigests.j0 k t453 true bt456.1 bt456.2 bt461.1 bt461.2)))))))
theorem laws_FnDigests.mono_l : ∀ k, (∀ y0 y1 y2 y3 y4 y5, LeO (laws_FnDigests.j0 k y0 y1 y2 y3 y4 y5) (laws_FnDigests.j0 (k + 1) y0 y1 y2 y3 y4 y5)) ∧ (∀ y0 y1 y2 y3 y4, LeO (laws_FnDigests.j1 k y0 y1 y2 y3 y4) (laws_FnDigests.j1 (k + 1) y0 y1 y2 y3 y4)) ∧ (∀ y0 y1 y2 y3 y4 y5, LeO (laws_FnDigests.l0 k y0 y1 y2 y3 y4 y5) (laws_FnDigests.l0 (k + 1) y0 y1 y2 y3 y4 y5)) ∧ (∀ y0 y1 y2 y3 y4, LeO (laws_FnDigests.l1 k y0 y1 y2 y3 y4) (laws_FnDigests.l1 (k + 1) y0 y1 y2 y3 y4))
  | 0 => ⟨fun _ _ _ _ _ _ r h => by simp [laws_FnDigests.j0] at h, fun _ _ _ _ _ r h => by simp [laws_FnDigests.j1] at h, fun _ _ _ _ _ _ r h => by simp [laws_FnDigests.l0] at h, fun _ _ _ _ _ r h => by simp [laws_FnDigests.l1] at h⟩
  | k + 1 => by
    obtain ⟨ih0, ih1, ih2, ih3⟩ := laws_FnDigests.mono_l k
    refine ⟨?_, ?_, ?_, ?_⟩
    · intro y0 y1 y2 y3 y4 y5
      unfold laws_FnDigests.j0
      repeat' first
      | (with_reducible exact ih0 _ _ _ _ _ _)
      | (with_reducible exact ih1 _ _ _ _ _)
      | (with_reducible exact ih2 _ _ _ _ _ _)
      | (with_reducible exact ih3 _ _ _ _ _)
      | (with_reducible exact impl_CompressBlock.mono _ _ _)
      | (with_reducible exact impl_PadMessage.mono _ _)
      | (with_reducible exact impl_Sha256.mono _ _)
      | (with_reducible exact spec_DrawSha256.mono _ _)
      | (with_reducible exact spec_Sha256.mono _ _)
      | (with_reducible exact LeO.refl _)
      | (with_reducible exact LeO.none _)
      | (with_reducible refine LeO.ite ?_ ?_)
      | (with_reducible refine LeO.bind ?_ (fun _ => ?_))
      | exact ih0 _ _ _ _ _ _
      | exact ih1 _ _ _ _ _
      | exact ih2 _ _ _ _ _ _
      | exact ih3 _ _ _ _ _
      | exact impl_CompressBlock.mono _ _ _
      | exact impl_PadMessage.mono _ _
      | exact impl_Sha256.mono _ _
      | exact spec_DrawSha256.mono _ _
      | exact spec_Sha256.mono _ _
      | exact LeO.none _
      | refine LeO.ite ?_ ?_
      | refine LeO.bind ?_ (fun _ => ?_)
    · intro y0 y1 y2 y3 y4
      unfold laws_FnDigests.j1
      repeat' first
      | (with_reducible exact ih0 _ _ _ _ _ _)
      | (with_reducible exact ih1 _ _ _ _ _)
      | (with_reducible exact ih2 _ _ _ _ _ _)
      | (with_reducible exact ih3 _ _ _ _ _)
      | (with_reducible exact impl_CompressBlock.mono _ _ _)
      | (with_reducible exact impl_PadMessage.mono _ _)
      | (with_reducible exact impl_Sha256.mono _ _)
      | (with_reducible exact spec_DrawSha256.mono _ _)
      | (with_reducible exact spec_Sha256.mono _ _)
      | (with_reducible exact LeO.refl _)
      | (with_reducible exact LeO.none _)
      | (with_reducible refine LeO.ite ?_ ?_)
      | (with_reducible refine LeO.bind ?_ (fun _ => ?_))
      | exact ih0 _ _ _ _ _ _
      | exact ih1 _ _ _ _ _
      | exact ih2 _ _ _ _ _ _
      | exact ih3 _ _ _ _ _
      | exact impl_CompressBlock.mono _ _ _
      | exact impl_PadMessage.mono _ _
      | exact impl_Sha256.mono _ _
      | exact spec_DrawSha256.mono _ _
      | exact spec_Sha256.mono _ _
      | exact LeO.none _
      | refine LeO.ite ?_ ?_
      | refine LeO.bind ?_ (fun _ => ?_)
    · intro y0 y1 y2 y3 y4 y5
      unfold laws_FnDigests.l0
      repeat' first
      | (with_reducible exact ih0 _ _ _ _ _ _)
      | (with_reducible exact ih1 _ _ _ _ _)
      | (with_reducible exact ih2 _ _ _ _ _ _)
      | (with_reducible exact ih3 _ _ _ _ _)
      | (with_reducible exact impl_CompressBlock.mono _ _ _)
      | (with_reducible exact impl_PadMessage.mono _ _)
      | (with_reducible exact impl_Sha256.mono _ _)
      | (with_reducible exact spec_DrawSha256.mono _ _)
      | (with_reducible exact spec_Sha256.mono _ _)
      | (with_reducible exact LeO.refl _)
      | (with_reducible exact LeO.none _)
      | (with_reducible refine LeO.ite ?_ ?_)
      | (with_reducible refine LeO.bind ?_ (fun _ => ?_))
      | exact ih0 _ _ _ _ _ _
      | exact ih1 _ _ _ _ _
      | exact ih2 _ _ _ _ _ _
      | exact ih3 _ _ _ _ _
      | exact impl_CompressBlock.mono _ _ _
      | exact impl_PadMessage.mono _ _
      | exact impl_Sha256.mono _ _
      | exact spec_DrawSha256.mono _ _
      | exact spec_Sha256.mono _ _
      | exact LeO.none _
      | refine LeO.ite ?_ ?_
      | refine LeO.bind ?_ (fun _ => ?_)
    · intro y0 y1 y2 y3 y4
      unfold laws_FnDigests.l1
      repeat' first
      | (with_reducible exact ih0 _ _ _ _ _ _)
      | (with_reducible exact ih1 _ _ _ _ _)
      | (with_reducible exact ih2 _ _ _ _ _ _)
      | (with_reducible exact ih3 _ _ _ _ _)
      | (with_reducible exact impl_CompressBlock.mono _ _ _)
      | (with_reducible exact impl_PadMessage.mono _ _)
      | (with_reducible exact impl_Sha256.mono _ _)
      | (with_reducible exact spec_DrawSha256.mono _ _)
      | (with_reducible exact spec_Sha256.mono _ _)
      | (with_reducible exact LeO.refl _)
      | (with_reducible exact LeO.none _)
      | (with_reducible refine LeO.ite ?_ ?_)
      | (with_reducible refine LeO.bind ?_ (fun _ => ?_))
      | exact ih0 _ _ _ _ _ _
      | exact ih1 _ _ _ _ _
      | exact ih2 _ _ _ _ _ _
      | exact ih3 _ _ _ _ _
      | exact impl_CompressBlock.mono _ _ _
      | exact impl_PadMessage.mono _ _
      | exact impl_Sha256.mono _ _
      | exact spec_DrawSha256.mono _ _
      | exact spec_Sha256.mono _ _
      | exact LeO.none _
      | refine LeO.ite ?_ ?_
      | refine LeO.bind ?_ (fun _ => ?_)
theorem laws_FnDigests.mono : ∀ a0 k, LeO (laws_FnDigests.f k a0) (laws_FnDigests.f (k + 1) a0) := by
  intro a0 k
  obtain ⟨ih0, ih1, ih2, ih3⟩ := laws_FnDigests.mono_l k
  unfold laws_FnDigests.f
  repeat' first
      | (with_reducible exact ih0 _ _ _ _ _ _)
      | (with_reducible exact ih1 _ _ _ _ _)
      | (with_reducible exact ih2 _ _ _ _ _ _)
      | (with_reducible exact ih3 _ _ _ _ _)
      | (with_reducible exact impl_CompressBlock.mono _ _ _)
      | (with_reducible exact impl_PadMessage.mono _ _)
      | (with_reducible exact impl_Sha256.mono _ _)
      | (with_reducible exact spec_DrawSha256.mono _ _)
      | (with_reducible exact spec_Sha256.mono _ _)
      | (with_reducible exact LeO.refl _)
      | (with_reducible exact LeO.none _)
      | (with_reducible refine LeO.ite ?_ ?_)
      | (with_reducible refine LeO.bind ?_ (fun _ => ?_))
      | exact ih0 _ _ _ _ _ _
      | exact ih1 _ _ _ _ _
      | exact ih2 _ _ _ _ _ _
      | exact ih3 _ _ _ _ _
      | exact impl_CompressBlock.mono _ _ _
      | exact impl_PadMessage.mono _ _
      | exact impl_Sha256.mono _ _
      | exact spec_DrawSha256.mono _ _
      | exact spec_Sha256.mono _ _
      | exact LeO.none _
      | refine LeO.ite ?_ ?_
      | refine LeO.bind ?_ (fun _ => ?_)
def laws_FnDigests.T6 : Bool × List (List Nat × List Nat) := (true, [([], []), ([0], [0]), ([], []), ([2], [2]), ([3], [3]), ([1, 4], [1, 4]), ([5, 3], [5]), ([6], [6]), ([7, 6], [6, 7]), ([6], [6]), ([9, 6], [6, 9]), ([8, 10, 6], [6, 8, 10]), ([6, 11], [6, 11])])
def laws_FnDigests.B6 : List Nat := [0, 1, 0, 4, 12, 31, 63, 127, 255, 127, 639, 2047, 4095]
theorem laws_FnDigests.tab6 : rtab .any (opsOf Try.f6 6) = laws_FnDigests.T6 := by kernel_rfl
theorem laws_FnDigests.bits6 : waitsOk laws_FnDigests.T6.2 laws_FnDigests.B6 = true := by kernel_rfl
set_option maxHeartbeats 8000000 in
set_option maxRecDepth 100000 in
theorem laws_FnDigests.calls (k : Nat) (A0 : Option Addr) (c0 : Nat) (l0 : List Int) (r : Bool) (w : World) (hr0 : Kd.C (Kd.int .u8) w A0 l0.length l0) (hc0 : l0.length ≤ c0) (h : laws_FnDigests.f k l0 = some r) (hr_ : r = true) :
    Calls Try.prog 6 #[.slice A0 l0.length c0] w fun e w' => e = .returned (.bool r) ∧ Below w.heap.size w w' := by
  have hu39 := Try.underlying39
  have hu25 := Try.underlying25
  have hfl39_0 : ∀ (z0 z1 : Value) (w_ : World), Sem.run Try.prog (Instr.field 39 (Value.agg #[z0, z1]) 0) w_ = Result.ok z0 w_ := fun _ _ _  => by kernel_rfl
  have hfl39_1 : ∀ (z0 z1 : Value) (w_ : World), Sem.run Try.prog (Instr.field 39 (Value.agg #[z0, z1]) 1) w_ = Result.ok z1 w_ := fun _ _ _  => by kernel_rfl
  have HR0 := Aside0.mk hr0
  have HC0 := Aside0.mk hc0
  clear hr0 hc0
  have HB := Aside0.mk (Below.refl w.heap.size w)
  have H : ((laws_lwBig.f l0).bind fun t452 => (if t452 = true then (some true) else ((spec_DrawSha256.f k l0).bind fun t453 => ((impl_Sha256.f k t453).bind fun bt456 => ((impl_PadMessage.f k t453).bind fun bt461 => ((spec_Sha256.f k t453).bind fun bt466 => (if bt456.1 = bt466.1 then (laws_FnDigests.j0 k t453 (bt461.1 != bt456.1) bt456.1 bt456.2 bt461.1 bt461.2) else (laws_FnDigests.j0 k t453 true bt456.1 bt456.2 bt461.1 bt461.2)))))))) = some r := h
  clear h
  replace H := Option.bind_eq_some_iff.mp H
  obtain ⟨t452, A20, H⟩ := H
  replace H : (if t452 = true then (some true) else ((spec_DrawSha256.f k l0).bind fun t453 => ((impl_Sha256.f k t453).bind fun bt456 => ((impl_PadMessage.f k t453).bind fun bt461 => ((spec_Sha256.f k t453).bind fun bt466 => (if bt456.1 = bt466.1 then (laws_FnDigests.j0 k t453 (bt461.1 != bt456.1) bt456.1 bt456.2 bt461.1 bt461.2) else (laws_FnDigests.j0 k t453 true bt456.1 bt456.2 bt461.1 bt461.2))))))) = some r := H
  have A2 := Aside0.mk A20
  clear A20
  by_cases c3 : t452 = true
  · subst c3
    have H1 : (some true) = some r := by rw [if_pos rfl] at H; exact H
    clear H
    have H := H1
    clear H1
    obtain rfl := Option.some.inj H
    go_enter Try.func6, Try.ntmps6
    go_wp2_with (first | ((with_reducible refine gate_callee (f := 33) rfl ?_); refine goesL_ (some 12) rfl rfl Try.func33 (by kernel_rfl) rfl #[.slice A0 l0.length c0] rfl (by (try simp only [List.map_toArray, List.map_cons, List.map_nil]); first | done | rfl | (simp only [List.length_drop, List.length_take]; rfl)) ?_; (with_reducible refine (laws_lwBig.calls _ _ l0 true _ ?side1 ?side2 A2.out).mono ?_); (case side1 => repeat (first | exact HR0.out | (with_reducible refine Kd.C_alloc ?_ _) | (with_reducible refine Kd.C_drewN ?_ _) | (with_reducible refine Kd.C_drew ?_))); (case side2 => exact HC0.out); rintro e w' ⟨rfl, ⟨nd, rfl⟩⟩; refine ⟨_, rfl, ?_⟩))
    go_ret
    exact ⟨by first | rfl | (simp [errW_none, errW_some] <;> rfl) | (simp [*, errW_none, errW_some] <;> rfl), by repeat (first | (with_reducible first | exact HB.out | apply below_alloc | apply pw_below_drewN | apply below_drew1) | exact HB.out)⟩
  · replace c3 := Bool.eq_false_iff.mpr c3
    subst c3
    have H1 : ((spec_DrawSha256.f k l0).bind fun t453 => ((impl_Sha256.f k t453).bind fun bt456 => ((impl_PadMessage.f k t453).bind fun bt461 => ((spec_Sha256.f k t453).bind fun bt466 => (if bt456.1 = bt466.1 then (laws_FnDigests.j0 k t453 (bt461.1 != bt456.1) bt456.1 bt456.2 bt461.1 bt461.2) else (laws_FnDigests.j0 k t453 true bt456.1 bt456.2 bt461.1 bt461.2)))))) = some r := by rw [if_neg (show ¬ (false = true) by decide)] at H; exact H
    clear H
    have H := H1
    clear H1
    replace H := Option.bind_eq_some_iff.mp H
    obtain ⟨t453, A40, H⟩ := H
    replace H : ((impl_Sha256.f k t453).bind fun bt456 => ((impl_PadMessage.f k t453).bind fun bt461 => ((spec_Sha256.f k t453).bind fun bt466 => (if bt456.1 = bt466.1 then (laws_FnDigests.j0 k t453 (bt461.1 != bt456.1) bt456.1 bt456.2 bt461.1 bt461.2) else (laws_FnDigests.j0 k t453 true bt456.1 bt456.2 bt461.1 bt461.2))))) = some r := H
    have A4 := Aside0.mk A40
    clear A40
    replace H := Option.bind_eq_some_iff.mp H
    obtain ⟨⟨t456, t457⟩, A50, H⟩ := H
    replace H : ((impl_PadMessage.f k t453).bind fun bt461 => ((spec_Sha256.f k t453).bind fun bt466 => (if t456 = bt466.1 then (laws_FnDigests.j0 k t453 (bt461.1 != t456) t456 t457 bt461.1 bt461.2) else (laws_FnDigests.j0 k t453 true t456 t457 bt461.1 bt461.2)))) = some r := H
    have A5 := Aside0.mk A50
    clear A50
    replace H := Option.bind_eq_some_iff.mp H
    obtain ⟨⟨t461, t462⟩, A60, H⟩ := H
    replace H : ((spec_Sha256.f k t453).bind fun bt466 => (if t456 = bt466.1 then (laws_FnDigests.j0 k t453 (t461 != t456) t456 t457 t461 t462) else (laws_FnDigests.j0 k t453 true t456 t457 t461 t462))) = some r := H
    have A6 := Aside0.mk A60
    clear A60
    have HC7 := Aside0.mk H
    clear H
    go_enter Try.func6, Try.ntmps6
    go_upto_region 6 with (first | ((with_reducible refine gate_callee (f := 33) rfl ?_); refine goesL_ (some 12) rfl rfl Try.func33 (by kernel_rfl) rfl #[.slice A0 l0.length c0] rfl (by (try simp only [List.map_toArray, List.map_cons, List.map_nil]); first | done | rfl | (simp only [List.length_drop, List.length_take]; rfl)) ?_; (with_reducible refine (laws_lwBig.calls _ _ l0 false _ ?side1 ?side2 A2.out).mono ?_); (case side1 => repeat (first | exact HR0.out | (with_reducible refine Kd.C_alloc ?_ _) | (with_reducible refine Kd.C_drewN ?_ _) | (with_reducible refine Kd.C_drew ?_))); (case side2 => exact HC0.out); rintro e w' ⟨rfl, ⟨nd, rfl⟩⟩; refine ⟨_, rfl, ?_⟩) | ((with_reducible refine gate_callee (f := 34) rfl ?_); refine goesL_ (some 14) rfl rfl Try.func34 (by kernel_rfl) rfl #[.slice A0 l0.length c0] rfl (by (try simp only [List.map_toArray, List.map_cons, List.map_nil]); first | done | rfl | (simp only [List.length_drop, List.length_take]; rfl)) ?_; (with_reducible refine (spec_DrawSha256.calls k _ _ l0 t453 _ ?side1 ?side2 A4.out).mono ?_); (case side1 => repeat (first | exact HR0.out | (with_reducible refine Kd.C_alloc ?_ _) | (with_reducible refine Kd.C_drewN ?_ _) | (with_reducible refine Kd.C_drew ?_))); (case side2 => exact HC0.out); rintro e w8 ⟨v454, rfl, ho0, hb⟩; refine ⟨_, rfl, ?_⟩; have n0_ := Aside0.mk (Kd.R_lower ho0 (below_size (by repeat (first | (with_reducible first | exact HB.out | apply below_alloc | apply pw_below_drewN | apply below_drew1) | exact HB.out)))); have n1_ := Aside0.mk (below_step (by repeat (first | (with_reducible first | exact HB.out | apply below_alloc | apply pw_below_drewN | apply below_drew1) | exact HB.out)) hb); clear HB; have HO455 := n0_; have HB := n1_; clear n0_ n1_; (try clear hb); (try clear hb2); (try clear hk); (try clear hi); (try clear ho0); obtain ⟨Ao9, co9, eo9⟩ := Kd.R_slice HO455.out; subst eo9) | ((with_reducible refine gate_callee (f := 29) rfl ?_); refine goesL_ (some 16) rfl rfl Try.func29 (by kernel_rfl) rfl #[.slice Ao9 t453.length co9] rfl (by (try simp only [List.map_toArray, List.map_cons, List.map_nil]); first | done | rfl | (simp only [List.length_drop, List.length_take]; rfl)) ?_; (with_reducible refine (impl_Sha256.calls k _ _ t453 t456 t457 _ ?side1 ?side2 A5.out).mono ?_); (case side1 => repeat (first | exact (Kd.R_reads' HO455.out).2.2 | (with_reducible refine Kd.C_alloc ?_ _) | (with_reducible refine Kd.C_drewN ?_ _) | (with_reducible refine Kd.C_drew ?_))); (case side2 => exact (Kd.R_reads' HO455.out).2.1); rintro e w10 ⟨v458, rfl, ho0, hb⟩; refine ⟨_, rfl, ?_⟩; have n0_ := Aside0.mk (Kd.R_elder' (by (with_reducible repeat (first | apply Kd.R_alloc | apply Kd.R_drewN | apply Kd.R_drew)); exact HO455.out) (Kd.R_base ho0) hb); have n1_ := Aside0.mk (Kd.R_lower (Kd.R_new' ho0 (Kd.R_lt (by (with_reducible repeat (first | apply Kd.R_alloc | apply Kd.R_drewN | apply Kd.R_drew)); exact HO455.out))) (below_size (by repeat (first | (with_reducible first | exact HB.out | apply below_alloc | apply pw_below_drewN | apply below_drew1) | exact HB.out)))); have n2_ := Aside0.mk (below_step (by repeat (first | (with_reducible first | exact HB.out | apply below_alloc | apply pw_below_drewN | apply below_drew1) | exact HB.out)) hb); clear HO455; clear HB; have HO455 := n0_; have HO459 := n1_; have HB := n2_; clear n0_ n1_ n2_; (try clear hb); (try clear hb2); (try clear hk); (try clear hi); (try clear ho0)) | ((with_reducible refine gate_dst (N := 4) rfl ?_); (try (refine gate_guard (by rfl) ?_; dsimp only)); refine box_event ?hg (N := 4) ?hd (cs := #[.int .i64 0, .slice none 0 0]) (t := 39) ?hr ?_; (case hd => rfl); (case hg => rfl); (case hr => first | (go_simp; done) | (go_simp; rfl)); intro gb460 hg w11 hbox hb; have n0_ := Aside0.mk (Kd.R_below (by (with_reducible repeat (first | apply Kd.R_alloc | apply Kd.R_drewN | apply Kd.R_drew)); exact HO455.out) hb); have n1_ := Aside0.mk (Kd.R_below (by (with_reducible repeat (first | apply Kd.R_alloc | apply Kd.R_drewN | apply Kd.R_drew)); exact HO459.out) hb); have n2_ := Aside0.mk (below_step (by repeat (first | (with_reducible first | exact HB.out | apply below_alloc | apply pw_below_drewN | apply below_drew1) | exact HB.out)) hb); have n3_ := Aside0.mk (hbox); have n4_ := Aside0.mk ((by rw [hg]; exact (below_size (by repeat (first | (with_reducible first | exact HB.out | apply below_alloc | apply pw_below_drewN | apply below_drew1) | exact HB.out))) : w.heap.size ≤ gb460)); have n5_ := Aside0.mk ((by rw [hg]; exact (below_size (by repeat (first | (with_reducible first | exact HB.out | apply below_alloc | apply pw_below_drewN | apply below_drew1) | exact HB.out))) : w.heap.size ≤ gb460)); clear HO455; clear HO459; clear HB; have HO455 := n0_; have HO459 := n1_; have HB := n2_; have BK460 := n3_; have GW460 := n4_; have GE460 := n5_; clear n0_ n1_ n2_ n3_ n4_ n5_; clear hb hbox hg; have hcz12_0 : w11.cell? ⟨gb460, 0, none⟩ = some (.int .i64 0) := (blk_cell BK460.out 0).trans rfl; have hcz12_1 : w11.cell? ⟨gb460, 1, none⟩ = some (.slice none 0 0) := (blk_cell BK460.out 1).trans rfl; have hfz12_0 := blk_frozen BK460.out 0; have hfz12_1 := blk_frozen BK460.out 1; obtain ⟨Ao13, co13, eo13⟩ := Kd.R_slice HO459.out; subst eo13) | ((with_reducible refine gate_callee (f := 35) rfl ?_); refine goesL_ (some 18) rfl rfl Try.func35 (by kernel_rfl) rfl #[.slice Ao9 t453.length co9] rfl (by (try simp only [List.map_toArray, List.map_cons, List.map_nil]); first | done | rfl | (simp only [List.length_drop, List.length_take]; rfl)) ?_; (with_reducible refine (impl_PadMessage.calls k _ _ t453 t461 t462 _ ?side1 ?side2 A6.out).mono ?_); (case side1 => refine (Kd.R_reads' (e := 5) (base := w.heap.size) (ok := fun k_ => (True ∧ some k_ ≠ (.slice Ao13 t457.length co13 : Value).ownBlock)) (n := t453.length) (c := co9) ?_).2.2; exact (by (with_reducible repeat (first | apply Kd.R_alloc | apply Kd.R_drewN | apply Kd.R_drew)); exact (Kd.R_mono (Kd.R_far (p := ⟨gb460, 1, none⟩) (Kd.R_far (p := ⟨gb460, 0, none⟩) (Kd.R_types HO455.out BK460.out (by decide)) (fun _ hk => hk.2) (.int .i64 t456)) (fun _ hk => hk.2) (.slice Ao13 t457.length co13)) (fun _ h_ => h_.1)))); (case side2 => exact (Kd.R_reads' HO455.out).2.1); rintro e w14 ⟨v463, rfl, ho0, hb⟩; refine ⟨_, rfl, ?_⟩; have n0_ := Aside0.mk (Kd.R_elder' (by (with_reducible repeat (first | apply Kd.R_alloc | apply Kd.R_drewN | apply Kd.R_drew)); exact (Kd.R_mono (Kd.R_far (p := ⟨gb460, 1, none⟩) (Kd.R_far (p := ⟨gb460, 0, none⟩) (Kd.R_types HO455.out BK460.out (by decide)) (fun _ hk => hk.2) (.int .i64 t456)) (fun _ hk => hk.2) (.slice Ao13 t457.length co13)) (fun _ h_ => h_.1))) (Kd.R_base ho0) hb); have n1_ := Aside0.mk (Kd.R_elder' (by (with_reducible repeat (first | apply Kd.R_alloc | apply Kd.R_drewN | apply Kd.R_drew)); exact (Kd.R_mono (Kd.R_far (p := ⟨gb460, 1, none⟩) (Kd.R_far (p := ⟨gb460, 0, none⟩) (Kd.R_types HO459.out BK460.out (by decide)) (fun _ hk => hk.2) (.int .i64 t456)) (fun _ hk => hk.2) (.slice Ao13 t457.length co13)) (fun _ h_ => h_.1))) (Kd.R_base ho0) hb); have n2_ := Aside0.mk (Kd.R_lower (Kd.R_new' (Kd.R_new' ho0 (Kd.R_lt (by (with_reducible repeat (first | apply Kd.R_alloc | apply Kd.R_drewN | apply Kd.R_drew)); exact (Kd.R_mono (Kd.R_far (p := ⟨gb460, 1, none⟩) (Kd.R_far (p := ⟨gb460, 0, none⟩) (Kd.R_types HO455.out BK460.out (by decide)) (fun _ hk => hk.2) (.int .i64 t456)) (fun _ hk => hk.2) (.slice Ao13 t457.length co13)) (fun _ h_ => h_.1))))) (Kd.R_lt (by (with_reducible repeat (first | apply Kd.R_alloc | apply Kd.R_drewN | apply Kd.R_drew)); exact (Kd.R_mono (Kd.R_far (p := ⟨gb460, 1, none⟩) (Kd.R_far (p := ⟨gb460, 0, none⟩) (Kd.R_types HO459.out BK460.out (by decide)) (fun _ hk => hk.2) (.int .i64 t456)) (fun _ hk => hk.2) (.slice Ao13 t457.length co13)) (fun _ h_ => h_.1))))) (below_size (by repeat (first | (with_reducible first | exact HB.out | apply below_alloc | apply pw_below_drewN | apply below_drew1 | refine below_set ?_ GE460.out) | exact HB.out)))); have n3_ := Aside0.mk (blk_below (g := gb460) (o := .cells #[.int .i64 t456, .slice Ao13 t457.length co13] 39 (0, 0)) (by (with_reducible repeat (first | refine blk_drewN ?_ _ | refine blk_drew ?_ | refine blk_alloc ?_ _)); refine blk_put (cs := #[.int .i64 t456, .slice none 0 0]) ?_ 1 _ rfl; (with_reducible repeat (first | refine blk_drewN ?_ _ | refine blk_drew ?_ | refine blk_alloc ?_ _)); refine blk_put (cs := #[.int .i64 0, .slice none 0 0]) ?_ 0 _ rfl; (with_reducible repeat (first | refine blk_drewN ?_ _ | refine blk_drew ?_ | refine blk_alloc ?_ _)); exact BK460.out) hb); have n4_ := Aside0.mk (below_step (by repeat (first | (with_reducible first | exact HB.out | apply below_alloc | apply pw_below_drewN | apply below_drew1 | refine below_set ?_ GE460.out) | exact HB.out)) hb); clear HO455; clear HO459; clear BK460; clear HB; have HO455 := n0_; have HO459 := n1_; have HO464 := n2_; have BK460 := n3_; have HB := n4_; clear n0_ n1_ n2_ n3_ n4_; (try clear hb); (try clear hb2); (try clear hk); (try clear hi); (try clear ho0)) | ((with_reducible refine gate_dst (N := 5) rfl ?_); (try (refine gate_guard (by rfl) ?_; dsimp only)); refine box_event ?hg (N := 5) ?hd (cs := #[.int .i64 0, .slice none 0 0]) (t := 39) ?hr ?_; (case hd => rfl); (case hg => rfl); (case hr => first | (go_simp; done) | (go_simp; rfl)); intro gb465 hg w15 hbox hb; have n0_ := Aside0.mk (Kd.R_below (by (with_reducible repeat (first | apply Kd.R_alloc | apply Kd.R_drewN | apply Kd.R_drew)); exact HO455.out) hb); have n1_ := Aside0.mk (Kd.R_below (by (with_reducible repeat (first | apply Kd.R_alloc | apply Kd.R_drewN | apply Kd.R_drew)); exact HO459.out) hb); have n2_ := Aside0.mk (Kd.R_below (by (with_reducible repeat (first | apply Kd.R_alloc | apply Kd.R_drewN | apply Kd.R_drew)); exact HO464.out) hb); have n3_ := Aside0.mk (blk_below (g := gb460) (o := .cells #[.int .i64 t456, .slice Ao13 t457.length co13] 39 (0, 0)) (by (with_reducible repeat (first | refine blk_drewN ?_ _ | refine blk_drew ?_ | refine blk_alloc ?_ _)); exact BK460.out) hb); have n4_ := Aside0.mk (below_step (by repeat (first | (with_reducible first | exact HB.out | apply below_alloc | apply pw_below_drewN | apply below_drew1 | refine below_set ?_ GE460.out) | exact HB.out)) hb); have n5_ := Aside0.mk (hbox); have n6_ := Aside0.mk ((by rw [hg]; exact (below_size (by repeat (first | (with_reducible first | exact HB.out | apply below_alloc | apply pw_below_drewN | apply below_drew1 | refine below_set ?_ GE460.out) | exact HB.out))) : w.heap.size ≤ gb465)); have n7_ := Aside0.mk ((by rw [hg]; exact (below_size (by repeat (first | (with_reducible first | exact HB.out | apply below_alloc | apply pw_below_drewN | apply below_drew1 | refine below_set ?_ GE460.out) | exact HB.out))) : w.heap.size ≤ gb465)); have n8_ := Aside0.mk ((by rw [hg]; exact Nat.ne_of_lt (blk_lt (g := gb460) (o := .cells #[.int .i64 t456, .slice Ao13 t457.length co13] 39 (0, 0)) (by (with_reducible repeat (first | refine blk_drewN ?_ _ | refine blk_drew ?_ | refine blk_alloc ?_ _)); exact BK460.out)) : gb460 ≠ gb465)); have n9_ := Aside0.mk ((by rw [hg]; exact Nat.ne_of_gt (blk_lt (g := gb460) (o := .cells #[.int .i64 t456, .slice Ao13 t457.length co13] 39 (0, 0)) (by (with_reducible repeat (first | refine blk_drewN ?_ _ | refine blk_drew ?_ | refine blk_alloc ?_ _)); exact BK460.out)) : gb465 ≠ gb460)); clear HO455; clear HO459; clear HO464; clear BK460; clear HB; have HO455 := n0_; have HO459 := n1_; have HO464 := n2_; have BK460 := n3_; have HB := n4_; have BK465 := n5_; have GW465 := n6_; have GE465 := n7_; have NB460_465 := n8_; have NB465_460 := n9_; clear n0_ n1_ n2_ n3_ n4_ n5_ n6_ n7_ n8_ n9_; clear hb hbox hg; have hnb16 := NB465_460.out; have hnc16 := NB460_465.out; have hcz17_0 : w15.cell? ⟨gb465, 0, none⟩ = some (.int .i64 0) := (blk_cell BK465.out 0).trans rfl; have hcz17_1 : w15.cell? ⟨gb465, 1, none⟩ = some (.slice none 0 0) := (blk_cell BK465.out 1).trans rfl; have hfz17_0 := blk_frozen BK465.out 0; have hfz17_1 := blk_frozen BK465.out 1; obtain ⟨Ao18, co18, eo18⟩ := Kd.R_slice HO464.out; subst eo18))
    (try simp only [Act.put, List.setIfInBounds_toArray, List.set_cons_zero, List.set_cons_succ])
    go_cut [31] (fun v31 wc => ∃ (kq : Nat) (x31_6 : Bool), v31 = .bool x31_6 ∧ Aside0 (laws_FnDigests.j0 kq t453 x31_6 t456 t457 t461 t462 = some r) ∧ Aside0 (kq ≤ k) ∧ Aside0 (Kd.R (Kd.int .u8) 5 wc w.heap.size (fun k_ => some k_ ≠ ((.slice Ao13 t457.length co13) : Value).ownBlock ∧ some k_ ≠ ((.slice Ao18 t462.length co18) : Value).ownBlock) (.slice Ao9 t453.length co9) t453) ∧ Aside0 (Kd.R (Kd.int .u8) 5 wc w.heap.size (fun k_ => some k_ ≠ ((.slice Ao9 t453.length co9) : Value).ownBlock ∧ some k_ ≠ ((.slice Ao18 t462.length co18) : Value).ownBlock) (.slice Ao13 t457.length co13) t457) ∧ Aside0 (Kd.R (Kd.int .u8) 5 wc w.heap.size (fun k_ => some k_ ≠ ((.slice Ao9 t453.length co9) : Value).ownBlock ∧ some k_ ≠ ((.slice Ao13 t457.length co13) : Value).ownBlock) (.slice Ao18 t462.length co18) t462) ∧ Aside0 (wc.heap[gb460]? = some (.cells #[.int .i64 t456, (.slice Ao13 t457.length co13)] 39 (0, 0))) ∧ Aside0 (wc.heap[gb465]? = some (.cells #[.int .i64 t461, (.slice Ao18 t462.length co18)] 39 (0, 0))) ∧ Aside0 (Below w.heap.size w wc))
    case first =>
      have H := HC7.out
      clear HC7
      replace H := Option.bind_eq_some_iff.mp H
      obtain ⟨⟨t466, t467⟩, A190, H⟩ := H
      replace H : (if t456 = t466 then (laws_FnDigests.j0 k t453 (t461 != t456) t456 t457 t461 t462) else (laws_FnDigests.j0 k t453 true t456 t457 t461 t462)) = some r := H
      have A19 := Aside0.mk A190
      clear A190
      by_cases c20 : t456 = t466
      · rw [if_pos c20] at H
        have c20b0 : (t456 == t466) = true := beq_iff_eq.mpr c20
        have c20b1 : (t456 != t466) = false := bne_eq_false_iff_eq.mpr c20
        clear c20
        (first | rw [c20b0] | (simp only [i64_w, i32_w]; rw [c20b0]) | skip)
        have H' := Aside0.mk H
        clear H
        try go_wp2
        have n0_ : Aside0 (Kd.R (Kd.int .u8) 5 ((w15.setCell ⟨gb465, 0, none⟩ (.int .i64 t461)).setCell ⟨gb465, 1, none⟩ (.slice Ao18 t462.length co18)) w.heap.size (fun k_ => some k_ ≠ (.slice Ao13 t457.length co13 : Value).ownBlock ∧ some k_ ≠ (.slice Ao18 t462.length co18 : Value).ownBlock) (.slice Ao9 t453.length co9) t453) := ⟨by (with_reducible repeat (first | apply Kd.R_alloc | apply Kd.R_drewN | apply Kd.R_drew)); exact Kd.R_mono (Kd.R_far (p := ⟨gb465, 1, none⟩) (Kd.R_far (p := ⟨gb465, 0, none⟩) (Kd.R_types HO455.out BK465.out (by decide)) (fun _ hk => hk.2) (.int .i64 t461)) (fun _ hk => hk.2) (.slice Ao18 t462.length co18)) (fun _ hk => ⟨hk.1.1.2, hk.1.2⟩)⟩
        have n1_ : Aside0 (Kd.R (Kd.int .u8) 5 ((w15.setCell ⟨gb465, 0, none⟩ (.int .i64 t461)).setCell ⟨gb465, 1, none⟩ (.slice Ao18 t462.length co18)) w.heap.size (fun k_ => some k_ ≠ (.slice Ao9 t453.length co9 : Value).ownBlock ∧ some k_ ≠ (.slice Ao18 t462.length co18 : Value).ownBlock) (.slice Ao13 t457.length co13) t457) := ⟨by (with_reducible repeat (first | apply Kd.R_alloc | apply Kd.R_drewN | apply Kd.R_drew)); exact Kd.R_mono (Kd.R_far (p := ⟨gb465, 1, none⟩) (Kd.R_far (p := ⟨gb465, 0, none⟩) (Kd.R_types HO459.out BK465.out (by decide)) (fun _ hk => hk.2) (.int .i64 t461)) (fun _ hk => hk.2) (.slice Ao18 t462.length co18)) (fun _ hk => ⟨hk.1.1.2, hk.1.2⟩)⟩
        have n2_ : Aside0 (Kd.R (Kd.int .u8) 5 ((w15.setCell ⟨gb465, 0, none⟩ (.int .i64 t461)).setCell ⟨gb465, 1, none⟩ (.slice Ao18 t462.length co18)) w.heap.size (fun k_ => some k_ ≠ (.slice Ao9 t453.length co9 : Value).ownBlock ∧ some k_ ≠ (.slice Ao13 t457.length co13 : Value).ownBlock) (.slice Ao18 t462.length co18) t462) := ⟨by (with_reducible repeat (first | apply Kd.R_alloc | apply Kd.R_drewN | apply Kd.R_drew)); exact Kd.R_mono (Kd.R_far (p := ⟨gb465, 1, none⟩) (Kd.R_far (p := ⟨gb465, 0, none⟩) (Kd.R_types HO464.out BK465.out (by decide)) (fun _ hk => hk.2) (.int .i64 t461)) (fun _ hk => hk.2) (.slice Ao18 t462.length co18)) (fun _ hk => ⟨hk.1.1.2, hk.1.2⟩)⟩
        have n3_ : Aside0 (((w15.setCell ⟨gb465, 0, none⟩ (.int .i64 t461)).setCell ⟨gb465, 1, none⟩ (.slice Ao18 t462.length co18)).heap[gb460]? = some (.cells #[.int .i64 t456, .slice Ao13 t457.length co13] 39 (0, 0))) := ⟨by (with_reducible repeat (first | refine blk_drewN ?_ _ | refine blk_drew ?_ | refine blk_alloc ?_ _)); refine blk_far ?_ NB460_465.out _; (with_reducible repeat (first | refine blk_drewN ?_ _ | refine blk_drew ?_ | refine blk_alloc ?_ _)); refine blk_far ?_ NB460_465.out _; (with_reducible repeat (first | refine blk_drewN ?_ _ | refine blk_drew ?_ | refine blk_alloc ?_ _)); exact BK460.out⟩
        have n4_ : Aside0 (((w15.setCell ⟨gb465, 0, none⟩ (.int .i64 t461)).setCell ⟨gb465, 1, none⟩ (.slice Ao18 t462.length co18)).heap[gb465]? = some (.cells #[.int .i64 t461, .slice Ao18 t462.length co18] 39 (0, 0))) := ⟨by (with_reducible repeat (first | refine blk_drewN ?_ _ | refine blk_drew ?_ | refine blk_alloc ?_ _)); refine blk_put (cs := #[.int .i64 t461, .slice none 0 0]) ?_ 1 _ rfl; (with_reducible repeat (first | refine blk_drewN ?_ _ | refine blk_drew ?_ | refine blk_alloc ?_ _)); refine blk_put (cs := #[.int .i64 0, .slice none 0 0]) ?_ 0 _ rfl; (with_reducible repeat (first | refine blk_drewN ?_ _ | refine blk_drew ?_ | refine blk_alloc ?_ _)); exact BK465.out⟩
        have n5_ : Aside0 (Below w.heap.size w ((w15.setCell ⟨gb465, 0, none⟩ (.int .i64 t461)).setCell ⟨gb465, 1, none⟩ (.slice Ao18 t462.length co18))) := ⟨by repeat (first | (with_reducible first | exact HB.out | apply below_alloc | apply pw_below_drewN | apply below_drew1 | refine below_set ?_ GE460.out | refine below_set ?_ GE465.out) | exact HB.out)⟩
        (try clear HO455)
        (try clear HO459)
        (try clear HO464)
        (try clear BK460)
        (try clear BK465)
        (try clear HB)
        generalize ((w15.setCell ⟨gb465, 0, none⟩ (.int .i64 t461)).setCell ⟨gb465, 1, none⟩ (.slice Ao18 t462.length co18)) = w21 at n0_ n1_ n2_ n3_ n4_ n5_ ⊢
        have HO455 := n0_
        have HO459 := n1_
        have HO464 := n2_
        have BK460 := n3_
        have BK465 := n4_
        have HB := n5_
        clear n0_ n1_ n2_ n3_ n4_ n5_
        have n0_ := Aside0.mk (Kd.R_drew HO455.out)
        have n1_ := Aside0.mk (Kd.R_drew HO459.out)
        have n2_ := Aside0.mk (Kd.R_drew HO464.out)
        have n3_ := Aside0.mk (blk_drew BK460.out)
        have n4_ := Aside0.mk (blk_drew BK465.out)
        have n5_ := Aside0.mk (below_drew1 HB.out)
        clear HO455
        clear HO459
        clear HO464
        clear BK460
        clear BK465
        clear HB
        have HO455 := n0_
        have HO459 := n1_
        have HO464 := n2_
        have BK460 := n3_
        have BK465 := n4_
        have HB := n5_
        clear n0_ n1_ n2_ n3_ n4_ n5_
        refine start_ (n := 13) (S := fun w' => w'.cell? ⟨gb460, 0, none⟩ = some (.int .i64 t456) ∧ w'.cell? ⟨gb460, 1, none⟩ = some (.slice Ao13 t457.length co13) ∧ w'.cell? ⟨gb465, 0, none⟩ = some (.int .i64 t461) ∧ w'.cell? ⟨gb465, 1, none⟩ = some (.slice Ao18 t462.length co18)) (ds := []) #[false, false, false, false, false, false, false, false, false, false, false, false, false] (by kernel_rfl) rfl rfl ⟨(blk_cell BK460.out 0).trans rfl, (blk_cell BK460.out 1).trans rfl, (blk_cell BK465.out 0).trans rfl, (blk_cell BK465.out 1).trans rfl⟩ (fun hHeld => ?_); refine with_tabW laws_FnDigests.tab6 laws_FnDigests.bits6 (fun HT_ HW_ => ?_)
        generalize w21.drew = w22 at HO455 HO459 HO464 BK460 BK465 HB hHeld ⊢
        refine pure_ (i := 0) (N := some 19) (v := ?_) (a' := ?_) #[true, false, false, false, false, false, false, false, false, false, false, false, false] rfl rfl (any_of HT_.out (by kernel_rfl)) (fun _ _ _ h => h) (Or.inl ⟨by first | rfl | (simp [Region.wanted, yielded, *]; done) | (simp [Region.wanted, yielded, Int.tmod_eq_emod_of_nonneg (Int.natCast_nonneg _), *]; done) | (simp [Region.wanted, yielded]; omega), ?_⟩) ?_ ?_
        rotate_left
        · intro w'
          go_simp
          with_reducible rfl
        rotate_left
        · simp only [Act.put, List.setIfInBounds_toArray, List.set_cons_zero, List.set_cons_succ, i64_w, i32_w]
          rfl
        refine pure_ (i := 2) (N := some 21) (v := ?_) (a' := ?_) #[true, false, true, false, false, false, false, false, false, false, false, false, false] rfl rfl (any_of HT_.out (by kernel_rfl)) (fun _ _ _ h => h) (Or.inl ⟨by first | rfl | (simp [Region.wanted, yielded, *]; done) | (simp [Region.wanted, yielded, Int.tmod_eq_emod_of_nonneg (Int.natCast_nonneg _), *]; done) | (simp [Region.wanted, yielded]; omega), ?_⟩) ?_ ?_
        rotate_left
        · intro w'
          go_simp
          with_reducible rfl
        rotate_left
        · simp only [Act.put, List.setIfInBounds_toArray, List.set_cons_zero, List.set_cons_succ, i64_w, i32_w]
          rfl
        refine take_ (i := 1) (N := some 20) (v := ?_) (a' := ?_) #[true, true, true, false, false, false, false, false, false, false, false, false, false] rfl rfl (take_ofW HT_.out HW_.out (by kernel_rfl)) (fun _ _ _ h => h) (Or.inl ⟨by first | rfl | (simp [Region.wanted, yielded, *]; done) | (simp [Region.wanted, yielded, Int.tmod_eq_emod_of_nonneg (Int.natCast_nonneg _), *]; done) | (simp [Region.wanted, yielded]; omega), ?_⟩) hHeld ?_ ?_
        rotate_left
        · rintro w' ⟨s0, s1, s2, s3⟩
          go_simp
          with_reducible rfl
        rotate_left
        · simp only [Act.put, List.setIfInBounds_toArray, List.set_cons_zero, List.set_cons_succ, i64_w, i32_w]
          rfl
        refine one_ (i := 3) (N := some 22) #[true, true, true, true, false, false, false, false, false, false, false, false, false] rfl rfl (one_of HT_.out (by kernel_rfl)) (by decide) (fun K hK => ?_)
        refine goes_ Try.func28 (by kernel_rfl) rfl #[.slice Ao9 t453.length co9] (by first | rfl | (simp [Region.wanted, yielded, *]; done) | (simp [Region.wanted, yielded, Int.tmod_eq_emod_of_nonneg (Int.natCast_nonneg _), *]; done)) rfl rfl (by (try simp only [List.map_toArray, List.map_cons, List.map_nil]); first | done | rfl | (simp only [List.length_drop, List.length_take]; rfl)) ?_
        with_reducible refine (spec_Sha256.calls k _ _ t453 t466 t467 _ ?side1 ?side2 A19.out).mono ?_
        (case side1 => repeat (first | exact (Kd.R_reads' HO455.out).2.2 | (with_reducible refine Kd.C_alloc ?_ _) | (with_reducible refine Kd.C_drewN ?_ _) | (with_reducible refine Kd.C_drew ?_)))
        (case side2 => exact (Kd.R_reads' HO455.out).2.1)
        rintro e w23 ⟨v468, rfl, ho0, hb⟩
        refine ⟨_, rfl, ?_⟩
        have n0_ := Aside0.mk (Kd.R_elder' (by (with_reducible repeat (first | apply Kd.R_alloc | apply Kd.R_drewN | apply Kd.R_drew)); exact HO455.out) (Kd.R_base ho0) hb)
        have n1_ := Aside0.mk (Kd.R_elder' (by (with_reducible repeat (first | apply Kd.R_alloc | apply Kd.R_drewN | apply Kd.R_drew)); exact HO459.out) (Kd.R_base ho0) hb)
        have n2_ := Aside0.mk (Kd.R_elder' (by (with_reducible repeat (first | apply Kd.R_alloc | apply Kd.R_drewN | apply Kd.R_drew)); exact HO464.out) (Kd.R_base ho0) hb)
        have n3_ := Aside0.mk (Kd.R_lower (Kd.R_new' (Kd.R_new' (Kd.R_new' ho0 (Kd.R_lt (by (with_reducible repeat (first | apply Kd.R_alloc | apply Kd.R_drewN | apply Kd.R_drew)); exact HO455.out))) (Kd.R_lt (by (with_reducible repeat (first | apply Kd.R_alloc | apply Kd.R_drewN | apply Kd.R_drew)); exact HO459.out))) (Kd.R_lt (by (with_reducible repeat (first | apply Kd.R_alloc | apply Kd.R_drewN | apply Kd.R_drew)); exact HO464.out))) (below_size (by repeat (first | (with_reducible first | exact HB.out | apply below_alloc | apply pw_below_drewN | apply below_drew1 | refine below_set ?_ GE460.out | refine below_set ?_ GE465.out) | exact HB.out))))
        have n4_ := Aside0.mk (blk_below (g := gb460) (o := .cells #[.int .i64 t456, .slice Ao13 t457.length co13] 39 (0, 0)) (by (with_reducible repeat (first | refine blk_drewN ?_ _ | refine blk_drew ?_ | refine blk_alloc ?_ _)); exact BK460.out) hb)
        have n5_ := Aside0.mk (blk_below (g := gb465) (o := .cells #[.int .i64 t461, .slice Ao18 t462.length co18] 39 (0, 0)) (by (with_reducible repeat (first | refine blk_drewN ?_ _ | refine blk_drew ?_ | refine blk_alloc ?_ _)); exact BK465.out) hb)
        have n6_ := Aside0.mk (below_step (by repeat (first | (with_reducible first | exact HB.out | apply below_alloc | apply pw_below_drewN | apply below_drew1 | refine below_set ?_ GE460.out | refine below_set ?_ GE465.out) | exact HB.out)) hb)
        clear HO455
        clear HO459
        clear HO464
        clear BK460
        clear BK465
        clear HB
        have HO455 := n0_
        have HO459 := n1_
        have HO464 := n2_
        have HO469 := n3_
        have BK460 := n4_
        have BK465 := n5_
        have HB := n6_
        clear n0_ n1_ n2_ n3_ n4_ n5_ n6_
        (try clear hb)
        (try clear hb2)
        (try clear hk)
        (try clear hi)
        (try clear ho0)
        refine hK.out _ _ ⟨(blk_cell BK460.out 0).trans rfl, (blk_cell BK460.out 1).trans rfl, (blk_cell BK465.out 0).trans rfl, (blk_cell BK465.out 1).trans rfl⟩ (fun hHeld => ?_)
        clear hK K
        refine norm_ (a' := ?_) ?_ ?_
        rotate_left
        · show Act.put _ (some 22) _ = _
          simp only [Act.put, List.setIfInBounds_toArray, List.set_cons_zero, List.set_cons_succ, i64_w, i32_w]
          rfl
        refine pure_ (i := 4) (N := some 23) (v := ?_) (a' := ?_) #[true, true, true, true, true, false, false, false, false, false, false, false, false] rfl rfl (any_of HT_.out (by kernel_rfl)) (fun _ _ _ h => h) (Or.inl ⟨by first | rfl | (simp [Region.wanted, yielded, *]; done) | (simp [Region.wanted, yielded, Int.tmod_eq_emod_of_nonneg (Int.natCast_nonneg _), *]; done) | (simp [Region.wanted, yielded]; omega), ?_⟩) ?_ ?_
        rotate_left
        · intro w'
          go_simp
          with_reducible rfl
        rotate_left
        · simp only [Act.put, List.setIfInBounds_toArray, List.set_cons_zero, List.set_cons_succ, i64_w, i32_w]
          rfl
        refine pure_ (i := 5) (N := some 24) (v := ?_) (a' := ?_) #[true, true, true, true, true, true, false, false, false, false, false, false, false] rfl rfl (any_of HT_.out (by kernel_rfl)) (fun _ _ _ h => h) (Or.inl ⟨by first | rfl | (simp [Region.wanted, yielded, *]; done) | (simp [Region.wanted, yielded, Int.tmod_eq_emod_of_nonneg (Int.natCast_nonneg _), *]; done) | (simp [Region.wanted, yielded]; omega), ?_⟩) ?_ ?_
        rotate_left
        · intro w'
          go_simp
          with_reducible rfl
        rotate_left
        · simp only [Act.put, List.setIfInBounds_toArray, List.set_cons_zero, List.set_cons_succ, i64_w, i32_w]
          rfl
        refine pure_ (i := 6) (N := some 25) (v := ?_) (a' := ?_) #[true, true, true, true, true, true, true, false, false, false, false, false, false] rfl rfl (any_of HT_.out (by kernel_rfl)) (fun _ _ _ h => h) (Or.inl ⟨by first | rfl | (simp [Region.wanted, yielded, *]; done) | (simp [Region.wanted, yielded, Int.tmod_eq_emod_of_nonneg (Int.natCast_nonneg _), *]; done) | (simp [Region.wanted, yielded]; omega), ?_⟩) ?_ ?_
        rotate_left
        · intro w'
          go_simp
          with_reducible rfl
        rotate_left
        · simp only [Act.put, List.setIfInBounds_toArray, List.set_cons_zero, List.set_cons_succ, i64_w, i32_w]
          rfl
        refine pure_ (i := 7) (N := some 26) (v := ?_) (a' := ?_) #[true, true, true, true, true, true, true, true, false, false, false, false, false] rfl rfl (any_of HT_.out (by kernel_rfl)) (fun _ _ _ h => h) (Or.inl ⟨by first | rfl | (simp [Region.wanted, yielded, *]; done) | (simp [Region.wanted, yielded, Int.tmod_eq_emod_of_nonneg (Int.natCast_nonneg _), *]; done) | (simp [Region.wanted, yielded]; omega), ?_⟩) ?_ ?_
        rotate_left
        · intro w'
          go_simp
          with_reducible rfl
        rotate_left
        · simp only [Act.put, List.setIfInBounds_toArray, List.set_cons_zero, List.set_cons_succ, i64_w, i32_w]
          rfl
        refine pure_ (i := 9) (N := some 28) (v := ?_) (a' := ?_) #[true, true, true, true, true, true, true, true, false, true, false, false, false] rfl rfl (any_of HT_.out (by kernel_rfl)) (fun _ _ _ h => h) (Or.inl ⟨by first | rfl | (simp [Region.wanted, yielded, *]; done) | (simp [Region.wanted, yielded, Int.tmod_eq_emod_of_nonneg (Int.natCast_nonneg _), *]; done) | (simp [Region.wanted, yielded]; omega), ?_⟩) ?_ ?_
        rotate_left
        · intro w'
          go_simp
          with_reducible rfl
        rotate_left
        · simp only [Act.put, List.setIfInBounds_toArray, List.set_cons_zero, List.set_cons_succ, i64_w, i32_w]
          rfl
        refine take_ (i := 8) (N := some 27) (v := ?_) (a' := ?_) #[true, true, true, true, true, true, true, true, true, true, false, false, false] rfl rfl (take_ofW HT_.out HW_.out (by kernel_rfl)) (fun _ _ _ h => h) (Or.inl ⟨by first | rfl | (simp [Region.wanted, yielded, *]; done) | (simp [Region.wanted, yielded, Int.tmod_eq_emod_of_nonneg (Int.natCast_nonneg _), *]; done) | (simp [Region.wanted, yielded]; omega), ?_⟩) hHeld ?_ ?_
        rotate_left
        · rintro w' ⟨s0, s1, s2, s3⟩
          go_simp
          with_reducible rfl
        rotate_left
        · simp only [Act.put, List.setIfInBounds_toArray, List.set_cons_zero, List.set_cons_succ, i64_w, i32_w]
          rfl
        refine take_ (i := 10) (N := some 29) (v := ?_) (a' := ?_) #[true, true, true, true, true, true, true, true, true, true, true, false, false] rfl rfl (take_ofW HT_.out HW_.out (by kernel_rfl)) (fun _ _ _ h => h) (Or.inl ⟨by first | rfl | (simp [Region.wanted, yielded, *]; done) | (simp [Region.wanted, yielded, Int.tmod_eq_emod_of_nonneg (Int.natCast_nonneg _), *]; done) | (simp [Region.wanted, yielded]; omega), ?_⟩) hHeld ?_ ?_
        rotate_left
        · rintro w' ⟨s0, s1, s2, s3⟩
          go_simp
          with_reducible rfl
        rotate_left
        · simp only [Act.put, List.setIfInBounds_toArray, List.set_cons_zero, List.set_cons_succ, i64_w, i32_w]
          rfl
        refine pure_ (i := 11) (N := some 30) (v := ?_) (a' := ?_) #[true, true, true, true, true, true, true, true, true, true, true, true, false] rfl rfl (any_of HT_.out (by kernel_rfl)) (fun _ _ _ h => h) (Or.inl ⟨by first | rfl | (simp [Region.wanted, yielded, *]; done) | (simp [Region.wanted, yielded, Int.tmod_eq_emod_of_nonneg (Int.natCast_nonneg _), *]; done) | (simp [Region.wanted, yielded]; omega), ?_⟩) ?_ ?_
        rotate_left
        · intro w'
          go_simp
          with_reducible rfl
        rotate_left
        · simp only [Act.put, List.setIfInBounds_toArray, List.set_cons_zero, List.set_cons_succ, i64_w, i32_w]
          rfl
        refine pure_ (i := 12) (N := some 31) (v := ?_) (a' := ?_) #[true, true, true, true, true, true, true, true, true, true, true, true, true] rfl rfl (any_of HT_.out (by kernel_rfl)) (fun _ _ _ h => h) (Or.inl ⟨by first | rfl | (simp [Region.wanted, yielded, *]; done) | (simp [Region.wanted, yielded, Int.tmod_eq_emod_of_nonneg (Int.natCast_nonneg _), *]; done) | (simp [Region.wanted, yielded]; omega), ?_⟩) ?_ ?_
        rotate_left
        · intro w'
          go_simp
          with_reducible rfl
        rotate_left
        · simp only [Act.put, List.setIfInBounds_toArray, List.set_cons_zero, List.set_cons_succ, i64_w, i32_w]
          rfl
        refine done_ (done_of HT_.out (by kernel_rfl)) ?_
        try go_wp2
        go_meet
        case rel => exact ⟨_, ((t461 != t456)), (by first | rfl | (simp; done) | (simp [*]; done) | (simp [Int.tmod_eq_emod_of_nonneg (Int.natCast_nonneg _), *]; done)), H', ⟨by first | omega | exact Nat.le_refl _⟩, ⟨by (with_reducible repeat (first | apply Kd.R_alloc | apply Kd.R_drewN | apply Kd.R_drew)); exact Kd.R_mono HO455.out (fun _ hk => ⟨hk.1.1, hk.1.2⟩)⟩, ⟨by (with_reducible repeat (first | apply Kd.R_alloc | apply Kd.R_drewN | apply Kd.R_drew)); exact Kd.R_mono HO459.out (fun _ hk => ⟨hk.1.1, hk.1.2⟩)⟩, ⟨by (with_reducible repeat (first | apply Kd.R_alloc | apply Kd.R_drewN | apply Kd.R_drew)); exact Kd.R_mono HO464.out (fun _ hk => ⟨hk.1.1, hk.1.2⟩)⟩, ⟨by (with_reducible repeat (first | refine blk_drewN ?_ _ | refine blk_drew ?_ | refine blk_alloc ?_ _)); exact BK460.out⟩, ⟨by (with_reducible repeat (first | refine blk_drewN ?_ _ | refine blk_drew ?_ | refine blk_alloc ?_ _)); exact BK465.out⟩, ⟨by repeat (first | (with_reducible first | exact HB.out | apply below_alloc | apply pw_below_drewN | apply below_drew1 | refine below_set ?_ GE460.out | refine below_set ?_ GE465.out) | exact HB.out)⟩⟩
      · rw [if_neg c20] at H
        have c20b0 : (t456 == t466) = false := beq_eq_false_iff_ne.mpr c20
        have c20b1 : (t456 != t466) = true := bne_iff_ne.mpr c20
        (first | rw [c20b0] | (simp only [i64_w, i32_w]; rw [c20b0]) | skip)
        have hz_ : ∀ k_, (laws_FnDigests.j0 k_ t453 true t456 t457 t461 t462) = some r → False := by
          intro k_ h2_
          cases k_ with
          | zero => simp [laws_FnDigests.j0] at h2_
          | succ k_ =>
            simp only [laws_FnDigests.j0, if_true] at h2_
            exact absurd ((Option.some.inj h2_).trans hr_) (by decide)
        exact absurd H (fun h_ => hz_ _ h_)
    case rest =>
      clear HC7
      try clear c1
      try clear c2
      try clear p2
      try clear c3
      try clear c6
      try clear c16
      try clear c20
      try clear c20b0
      try clear c20b1
      try clear hcz12_0
      try clear hcz12_1
      try clear hcz17_0
      try clear hcz17_1
      try clear hfz12_0
      try clear hfz12_1
      try clear hfz17_0
      try clear hfz17_1
      obtain ⟨kq, x31_6, rfl, HA, HJ6, HO_3, HO_461001, HO_466001, BK460, BK465, HB⟩ := hcut
      cases kq with
      | zero => exact absurd HA.out (by simp [laws_FnDigests.j0])
      | succ kj6 =>
        have H := HA.out
        clear HA
        simp only [laws_FnDigests.j0] at H
        by_cases c24 : x31_6 = true
        · subst c24
          have H1 : (some false) = some r := by rw [if_pos rfl] at H; exact H
          clear H
          have H := H1
          clear H1
          exact absurd ((Option.some.inj H).trans hr_) (by decide)
        · replace c24 := Bool.eq_false_iff.mpr c24
          subst c24
          have H1 : (if t456 = 0 then (if ((t462.length : Int) % 64) = 0 then (if (t462.length : Int) < (wrap64 ((t453.length : Int) + 9)) then (laws_FnDigests.j1 kj6 true t456 t457 t461 t462) else (if 0 ≤ (t453.length : Int) then (if (t453.length : Int) ≤ (t462.length : Int) then ((laws_lwBytes.f (t462.take ((t453.length : Int) : Int).toNat) t453).bind fun t474 => (if t474 = true then (if (t453.length : Int) < (t462.length : Int) then (laws_FnDigests.j1 kj6 ((rd t462 (t453.length : Int)) != 128) t456 t457 t461 t462) else (none)) else (laws_FnDigests.j1 kj6 true t456 t457 t461 t462))) else (none)) else (none))) else (laws_FnDigests.j1 kj6 true t456 t457 t461 t462)) else (some true)) = some r := by rw [if_neg (show ¬ (false = true) by decide)] at H; exact H
          clear H
          have H := H1
          clear H1
          by_cases c25 : t456 = 0
          · rw [if_pos c25] at H
            have c25b0 : (t456 == 0) = true := beq_iff_eq.mpr c25
            have c25b1 : (t456 != 0) = false := bne_eq_false_iff_eq.mpr c25
            clear c25
            have HC26 := Aside0.mk H
            clear H
            have hnb27 := NB460_465.out
            have hnc27 := NB465_460.out
            have hcz28_0 : wc.cell? ⟨gb460, 0, none⟩ = some (.int .i64 t456) := (blk_cell BK460.out 0).trans rfl
            have hcz28_1 : wc.cell? ⟨gb460, 1, none⟩ = some (.slice Ao13 t457.length co13) := (blk_cell BK460.out 1).trans rfl
            have hfz28_0 := blk_frozen BK460.out 0
            have hfz28_1 := blk_frozen BK460.out 1
            go_upto_region 10 with (fail)
            go_cut [67] (fun v67 wc => ∃ (kq : Nat) (x67_25 : Bool), v67 = .bool x67_25 ∧ Aside0 (laws_FnDigests.j1 kq x67_25 t456 t457 t461 t462 = some r) ∧ Aside0 (kq ≤ kj6) ∧ Aside0 (Kd.R (Kd.int .u8) 5 wc w.heap.size (fun k_ => some k_ ≠ ((.slice Ao18 t462.length co18) : Value).ownBlock) (.slice Ao13 t457.length co13) t457) ∧ Aside0 (Kd.R (Kd.int .u8) 5 wc w.heap.size (fun k_ => some k_ ≠ ((.slice Ao13 t457.length co13) : Value).ownBlock) (.slice Ao18 t462.length co18) t462) ∧ Aside0 (wc.heap[gb460]? = some (.cells #[.int .i64 t456, (.slice Ao13 t457.length co13)] 39 (0, 0))) ∧ Aside0 (wc.heap[gb465]? = some (.cells #[.int .i64 t461, (.slice Ao18 t462.length co18)] 39 (0, 0))) ∧ Aside0 (Below w.heap.size w wc))
            case first =>
              have H := HC26.out
              clear HC26
              by_cases c29 : ((t462.length : Int) % 64) = 0
              · rw [if_pos c29] at H
                have c29b0 : (((t462.length : Int) % 64) == 0) = true := beq_iff_eq.mpr c29
                have c29b1 : (((t462.length : Int) % 64) != 0) = false := bne_eq_false_iff_eq.mpr c29
                clear c29
                (first | rw [c29b0] | (simp only [i64_w, i32_w]; rw [c29b0]) | skip)
                by_cases c30 : (t462.length : Int) < (wrap64 ((t453.length : Int) + 9))
                · rw [if_pos c30] at H
                  have c30b0 : decide ((t462.length : Int) < (wrap64 ((t453.length : Int) + 9))) = true := decide_eq_true c30
                  clear c30
                  have hz_ : ∀ k_, (laws_FnDigests.j1 k_ true t456 t457 t461 t462) = some r → False := by
                    intro k_ h2_
                    cases k_ with
                    | zero => simp [laws_FnDigests.j1] at h2_
                    | succ k_ =>
                      simp only [laws_FnDigests.j1, if_true] at h2_
                      exact absurd ((Option.some.inj h2_).trans hr_) (by decide)
                  exact absurd H (fun h_ => hz_ _ h_)
                · rw [if_neg c30] at H
                  have c30b0 : decide ((t462.length : Int) < (wrap64 ((t453.length : Int) + 9))) = false := decide_eq_false c30
                  clear c30
                  by_cases c31 : 0 ≤ (t453.length : Int)
                  · rw [if_pos c31] at H
                    have c31b0 := eq_true c31
                    have c31b1 : decide (0 ≤ (t453.length : Int)) = true := decide_eq_true c31
                    clear c31
                    by_cases c32 : (t453.length : Int) ≤ (t462.length : Int)
                    · rw [if_pos c32] at H
                      have c32b0 := eq_true c32
                      have c32b1 : decide ((t453.length : Int) ≤ (t462.length : Int)) = true := decide_eq_true c32
                      clear c32
                      obtain ⟨y470, hy470⟩ : ∃ y_ : List Int, y_ = (t462.take ((t453.length : Int) : Int).toNat) := ⟨_, rfl⟩
                      replace H : ((laws_lwBytes.f y470 t453).bind fun t474 => (if t474 = true then (if (t453.length : Int) < (t462.length : Int) then (laws_FnDigests.j1 kj6 ((rd t462 (t453.length : Int)) != 128) t456 t457 t461 t462) else (none)) else (laws_FnDigests.j1 kj6 true t456 t457 t461 t462))) = some r := by first | (rw [hy470]; with_reducible exact H) | (have H2_ := (Option.bind_some _ _).symm.trans H; rw [hy470]; with_reducible exact H2_) | (have H2_ := (Option.bind_some _ _).symm.trans H; with_reducible exact H2_) | with_reducible exact H | (rw [hy470]; exact H) | exact H
                      have Ny470 := Aside0.mk hy470
                      clear hy470
                      replace H := Option.bind_eq_some_iff.mp H
                      obtain ⟨t474, A330, H⟩ := H
                      replace H : (if t474 = true then (if (t453.length : Int) < (t462.length : Int) then (laws_FnDigests.j1 kj6 ((rd t462 (t453.length : Int)) != 128) t456 t457 t461 t462) else (none)) else (laws_FnDigests.j1 kj6 true t456 t457 t461 t462)) = some r := H
                      have A33 := Aside0.mk A330
                      clear A330
                      by_cases c34 : t474 = true
                      · subst c34
                        have H1 : (if (t453.length : Int) < (t462.length : Int) then (laws_FnDigests.j1 kj6 ((rd t462 (t453.length : Int)) != 128) t456 t457 t461 t462) else (none)) = some r := by rw [if_pos rfl] at H; exact H
                        clear H
                        have H := H1
                        clear H1
                        by_cases c35 : (t453.length : Int) < (t462.length : Int)
                        · rw [if_pos c35] at H
                          have c35b0 : decide ((t453.length : Int) < (t462.length : Int)) = true := decide_eq_true c35
                          have c35b1 : decide (t453.length < t462.length) = true := decide_eq_true (Int.ofNat_lt.mp c35)
                          clear c35
                          have H' := Aside0.mk H
                          clear H
                          have hnb36 := NB465_460.out
                          have hnc36 := NB460_465.out
                          have hcz37_0 : wc.cell? ⟨gb465, 0, none⟩ = some (.int .i64 t461) := (blk_cell BK465.out 0).trans rfl
                          have hcz37_1 : wc.cell? ⟨gb465, 1, none⟩ = some (.slice Ao18 t462.length co18) := (blk_cell BK465.out 1).trans rfl
                          have hfz37_0 := blk_frozen BK465.out 0
                          have hfz37_1 := blk_frozen BK465.out 1
                          have q38 : ((t453.length : Int) : Int) ≤ ((t462.length : Int) : Int) := of_decide_eq_true (by first | (with_reducible assumption) | assumption)
                          obtain ⟨i038, hi038, _, hsz38, _⟩ := info_parts info5
                          have hroom38 : t462.length ≤ co18 := (Kd.R_reads' HO_466001.out).2.1
                          have hC38 : Kd.C (Kd.int .u8) _ Ao18 t462.length t462 := (Kd.R_reads' HO_466001.out).2.2
                          have hcut38 := cut_to (P := Try.prog) 22 5 .i64 Try.underlying22 hi038 Ao18 t462.length co18 (t453.length : Int) (of_decide_eq_true (by first | (with_reducible assumption) | assumption)) q38 hroom38
                          have hr38 := Kd.C_take (m := ((t453.length : Int) : Int).toNat) hC38 (by omega)
                          have hy38 : y470.length = ((t453.length : Int) : Int).toNat := (by rw [Ny470.out, List.length_take]; omega)
                          rw [← Ny470.out] at hr38
                          rw [← hy38] at hcut38
                          have HR473 := Aside0.mk hr38
                          have HC473 := Aside0.mk (show y470.length ≤ co18 from by omega)
                          clear hr38 hC38 hroom38 hi038 hsz38
                          have KY38 := Aside0.mk hy38
                          clear hy38
                          have KL38 := Aside0.mk (show ((t453.length : Int) : Int).toNat ≤ t462.length from by omega)
                          replace q38 := eq_true q38
                          go_wp2_with (first | (go_at_call 36; (with_reducible refine (laws_lwBytes.calls _ _ y470 _ _ t453 true _ ?side1 ?side2 ?side3 ?side4 A33.out).mono ?_); (case side1 => repeat (first | exact (by repeat (first | (with_reducible exact HR473.out) | (with_reducible refine Kd.C_alloc ?_ _) | (with_reducible refine Kd.C_drewN ?_ _) | (with_reducible refine Kd.C_drew ?_) | exact HR473.out)) | (with_reducible refine Kd.C_alloc ?_ _) | (with_reducible refine Kd.C_drewN ?_ _) | (with_reducible refine Kd.C_drew ?_))); (case side2 => exact HC473.out); (case side3 => repeat (first | exact (Kd.R_reads' HO_3.out).2.2 | (with_reducible refine Kd.C_alloc ?_ _) | (with_reducible refine Kd.C_drewN ?_ _) | (with_reducible refine Kd.C_drew ?_))); (case side4 => exact (Kd.R_reads' HO_3.out).2.1); rintro e w' ⟨rfl, ⟨nd, rfl⟩⟩; have p475 : 0 ≤ ((t453.length : Int) : Int) := of_decide_eq_true (by first | (with_reducible assumption) | assumption); have q475 : (t453.length : Int) < (t462.length : Int) := of_decide_eq_true (by first | (with_reducible assumption) | assumption); obtain ⟨ad475, e475, hx475_0⟩ := Kd.at_int (Kd.R_reads' HO_466001.out).2.2 (t453.length : Int) p475 q475; cases e475; (try simp only [Go.IntWalk.toNatUp] at hx475_0); replace p475 := eq_true p475; replace q475 := eq_true q475))
                          go_meet
                          case rel => exact ⟨_, (((rd t462 (t453.length : Int)) != 128)), (by first | rfl | (simp; done) | (simp [*]; done) | (simp [Int.tmod_eq_emod_of_nonneg (Int.natCast_nonneg _), *]; done)), H', ⟨by have := HJ6.out; first | omega | exact Nat.le_refl _⟩, ⟨by (with_reducible repeat (first | apply Kd.R_alloc | apply Kd.R_drewN | apply Kd.R_drew)); exact Kd.R_mono HO_461001.out (fun _ hk => hk.2)⟩, ⟨by (with_reducible repeat (first | apply Kd.R_alloc | apply Kd.R_drewN | apply Kd.R_drew)); exact Kd.R_mono HO_466001.out (fun _ hk => hk.2)⟩, ⟨by (with_reducible repeat (first | refine blk_drewN ?_ _ | refine blk_drew ?_ | refine blk_alloc ?_ _)); exact BK460.out⟩, ⟨by (with_reducible repeat (first | refine blk_drewN ?_ _ | refine blk_drew ?_ | refine blk_alloc ?_ _)); exact BK465.out⟩, ⟨by repeat (first | (with_reducible first | exact HB.out | apply below_alloc | apply pw_below_drewN | apply below_drew1 | refine below_set ?_ GE460.out | refine below_set ?_ GE465.out) | exact HB.out)⟩⟩
                        · rw [if_neg c35] at H
                          exact absurd H (by simp)
                      · replace c34 := Bool.eq_false_iff.mpr c34
                        subst c34
                        have H1 : (laws_FnDigests.j1 kj6 true t456 t457 t461 t462) = some r := by rw [if_neg (show ¬ (false = true) by decide)] at H; exact H
                        clear H
                        have H := H1
                        clear H1
                        have hz_ : ∀ k_, (laws_FnDigests.j1 k_ true t456 t457 t461 t462) = some r → False := by
                          intro k_ h2_
                          cases k_ with
                          | zero => simp [laws_FnDigests.j1] at h2_
                          | succ k_ =>
                            simp only [laws_FnDigests.j1, if_true] at h2_
                            exact absurd ((Option.some.inj h2_).trans hr_) (by decide)
                        exact absurd H (fun h_ => hz_ _ h_)
                    · rw [if_neg c32] at H
                      exact absurd H (by simp)
                  · rw [if_neg c31] at H
                    exact absurd H (by simp)
              · rw [if_neg c29] at H
                have c29b0 : (((t462.length : Int) % 64) == 0) = false := beq_eq_false_iff_ne.mpr c29
                have c29b1 : (((t462.length : Int) % 64) != 0) = true := bne_iff_ne.mpr c29
                (first | rw [c29b0] | (simp only [i64_w, i32_w]; rw [c29b0]) | skip)
                have hz_ : ∀ k_, (laws_FnDigests.j1 k_ true t456 t457 t461 t462) = some r → False := by
                  intro k_ h2_
                  cases k_ with
                  | zero => simp [laws_FnDigests.j1] at h2_
                  | succ k_ =>
                    simp only [laws_FnDigests.j1, if_true] at h2_
                    exact absurd ((Option.some.inj h2_).trans hr_) (by decide)
                exact absurd H (fun h_ => hz_ _ h_)
            case rest =>
              clear HC26
              try clear c1
              try clear c2
              try clear p2
              try clear c3
              try clear q3
              try clear p4
              try clear q4
              try clear hx4
              try clear c6
              try clear p6
              try clear c16
              try clear c20
              try clear c20b0
              try clear c20b1
              try clear c24
              try clear c25
              try clear c25b0
              try clear c25b1
              try clear c27
              try clear c28
              try clear c29
              try clear c29b0
              try clear c29b1
              try clear c30
              try clear c30b0
              try clear c31
              try clear c31b0
              try clear c31b1
              try clear c32
              try clear c32b0
              try clear c32b1
              try clear c33
              try clear c34
              try clear c35
              try clear c35b0
              try clear c35b1
              try clear c36
              try clear q38
              try clear hcz12_0
              try clear hcz12_1
              try clear hcz17_0
              try clear hcz17_1
              try clear hcz28_0
              try clear hcz28_1
              try clear hcz37_0
              try clear hcz37_1
              try clear hfz12_0
              try clear hfz12_1
              try clear hfz17_0
              try clear hfz17_1
              try clear hfz28_0
              try clear hfz28_1
              try clear hfz37_0
              try clear hfz37_1
              try clear hx475_0
              try clear p2
              try clear p475
              try clear q38
              try clear q475
              obtain ⟨kq, x67_25, rfl, HA, HJ25, HO_461001, HO_466001, BK460, BK465, HB⟩ := hcut
              cases kq with
              | zero => exact absurd HA.out (by simp [laws_FnDigests.j1])
              | succ kj25 =>
                have H := HA.out
                clear HA
                simp only [laws_FnDigests.j1] at H
                by_cases c39 : x67_25 = true
                · subst c39
                  have H1 : (some false) = some r := by rw [if_pos rfl] at H; exact H
                  clear H
                  have H := H1
                  clear H1
                  exact absurd ((Option.some.inj H).trans hr_) (by decide)
                · replace c39 := Bool.eq_false_iff.mpr c39
                  subst c39
                  have H1 : (laws_FnDigests.l0 kj25 (([1779033703, 3144134277, 1013904242, 2773480762, 1359893119, 2600822924, 528734635, 1541459225] : List Int)) 0 t456 t457 t461 t462) = some r := by rw [if_neg (show ¬ (false = true) by decide)] at H; exact H
                  clear H
                  have H := H1
                  clear H1
                  obtain ⟨y476, hy476⟩ : ∃ y_ : List Int, y_ = (([1779033703, 3144134277, 1013904242, 2773480762, 1359893119, 2600822924, 528734635, 1541459225] : List Int)) := ⟨_, rfl⟩
                  replace H : (laws_FnDigests.l0 kj25 y476 0 t456 t457 t461 t462) = some r := by first | (rw [hy476]; with_reducible exact H) | (have H2_ := (Option.bind_some _ _).symm.trans H; rw [hy476]; with_reducible exact H2_) | (have H2_ := (Option.bind_some _ _).symm.trans H; with_reducible exact H2_) | with_reducible exact H | (rw [hy476]; exact H) | exact H
                  have Ny476 := Aside0.mk hy476
                  clear hy476
                  have H' := Aside0.mk H
                  clear H
                  go_wp2_with (first | ((with_reducible refine gate_dst (N := 68) rfl ?_); (try (refine gate_guard (by rfl) ?_; dsimp only)); refine Kd.R_lit (Kd.int .i64) _ 2 ?hg (N := 68) ?hd (xs := ([1779033703, 3144134277, 1013904242, 2773480762, 1359893119, 2600822924, 528734635, 1541459225] : List Int)) (inner := [.int .i64 1779033703, .int .i64 3144134277, .int .i64 1013904242, .int .i64 2773480762, .int .i64 1359893119, .int .i64 2600822924, .int .i64 528734635, .int .i64 1541459225]) (ok := fun _ => True) (okp := fun _ => True) ?hr ?hp (fun _ hk => hk) trivial (Below.refl _ _) (Nat.le_refl _) (by simp) ?_; (case hd => rfl); (case hg => rfl); (case hr => first | (go_simp; done) | (go_simp; rfl)); (case hp => exact (Reps.one (show Kd.M (Kd.int .i64) _ _ _ 1779033703 [.int .i64 1779033703] from rfl) (Reps.one (show Kd.M (Kd.int .i64) _ _ _ 3144134277 [.int .i64 3144134277] from rfl) (Reps.one (show Kd.M (Kd.int .i64) _ _ _ 1013904242 [.int .i64 1013904242] from rfl) (Reps.one (show Kd.M (Kd.int .i64) _ _ _ 2773480762 [.int .i64 2773480762] from rfl) (Reps.one (show Kd.M (Kd.int .i64) _ _ _ 1359893119 [.int .i64 1359893119] from rfl) (Reps.one (show Kd.M (Kd.int .i64) _ _ _ 2600822924 [.int .i64 2600822924] from rfl) (Reps.one (show Kd.M (Kd.int .i64) _ _ _ 528734635 [.int .i64 528734635] from rfl) (Reps.one (show Kd.M (Kd.int .i64) _ _ _ 1541459225 [.int .i64 1541459225] from rfl) (Reps.none _ _)))))))))); intro v477 w40 ho41 hb hg_ hnew_; clear hg_ hnew_; (first | rw [← Ny476.out] at ho41 | (simp only [Int.reduceToNat] at ho41; rw [← Ny476.out] at ho41)); have n0_ := Aside0.mk (Kd.R_below (by (with_reducible repeat (first | apply Kd.R_alloc | apply Kd.R_drewN | apply Kd.R_drew)); exact HO_461001.out) hb); have n1_ := Aside0.mk (Kd.R_below (by (with_reducible repeat (first | apply Kd.R_alloc | apply Kd.R_drewN | apply Kd.R_drew)); exact HO_466001.out) hb); have n2_ := Aside0.mk (Kd.R_lower ho41 (below_size (by repeat (first | (with_reducible first | exact HB.out | apply below_alloc | apply pw_below_drewN | apply below_drew1 | refine below_set ?_ GE460.out | refine below_set ?_ GE465.out) | exact HB.out)))); have n3_ := Aside0.mk (blk_below (g := gb460) (o := .cells #[.int .i64 t456, .slice Ao13 t457.length co13] 39 (0, 0)) (by (with_reducible repeat (first | refine blk_drewN ?_ _ | refine blk_drew ?_ | refine blk_alloc ?_ _)); exact BK460.out) hb); have n4_ := Aside0.mk (blk_below (g := gb465) (o := .cells #[.int .i64 t461, .slice Ao18 t462.length co18] 39 (0, 0)) (by (with_reducible repeat (first | refine blk_drewN ?_ _ | refine blk_drew ?_ | refine blk_alloc ?_ _)); exact BK465.out) hb); have n5_ := Aside0.mk (below_step (by repeat (first | (with_reducible first | exact HB.out | apply below_alloc | apply pw_below_drewN | apply below_drew1 | refine below_set ?_ GE460.out | refine below_set ?_ GE465.out) | exact HB.out)) hb); clear HO_461001; clear HO_466001; clear BK460; clear BK465; clear HB; have HO_461001 := n0_; have HO_466001 := n1_; have HO478 := n2_; have BK460 := n3_; have BK465 := n4_; have HB := n5_; clear n0_ n1_ n2_ n3_ n4_ n5_; clear hb ho41))
                  go_loopg [6, 7] kj25 (fun kq v6 v7 w' => ∃ (x6_3 : List Int) (x7_3 : Int), v7 = .int .i64 x7_3 ∧ Aside0 (laws_FnDigests.l0 kq x6_3 x7_3 t456 t457 t461 t462 = some r) ∧ Aside0 (kq ≤ kj25) ∧ Aside0 (Kd.R (Kd.int .i64) 2 w' w.heap.size (fun _ => True) v6 x6_3) ∧ Aside0 (Kd.R (Kd.int .u8) 5 w' w.heap.size (fun k_ => some k_ ≠ ((.slice Ao18 t462.length co18) : Value).ownBlock) (.slice Ao13 t457.length co13) t457) ∧ Aside0 (Kd.R (Kd.int .u8) 5 w' w.heap.size (fun k_ => some k_ ≠ ((.slice Ao13 t457.length co13) : Value).ownBlock) (.slice Ao18 t462.length co18) t462) ∧ Aside0 (w'.heap[gb460]? = some (.cells #[.int .i64 t456, (.slice Ao13 t457.length co13)] 39 (0, 0))) ∧ Aside0 (w'.heap[gb465]? = some (.cells #[.int .i64 t461, (.slice Ao18 t462.length co18)] 39 (0, 0))) ∧ Aside0 (Below w.heap.size w w'))
                  case atStart => exact ⟨(y476), (0), (by first | rfl | (simp; done) | (simp [*]; done) | (simp [Int.tmod_eq_emod_of_nonneg (Int.natCast_nonneg _), *]; done)), H', ⟨Nat.le_refl _⟩, ⟨by (with_reducible repeat (first | apply Kd.R_alloc | apply Kd.R_drewN | apply Kd.R_drew)); exact HO478.out⟩, ⟨by (with_reducible repeat (first | apply Kd.R_alloc | apply Kd.R_drewN | apply Kd.R_drew)); exact HO_461001.out⟩, ⟨by (with_reducible repeat (first | apply Kd.R_alloc | apply Kd.R_drewN | apply Kd.R_drew)); exact HO_466001.out⟩, ⟨by (with_reducible repeat (first | refine blk_drewN ?_ _ | refine blk_drew ?_ | refine blk_alloc ?_ _)); exact BK460.out⟩, ⟨by (with_reducible repeat (first | refine blk_drewN ?_ _ | refine blk_drew ?_ | refine blk_alloc ?_ _)); exact BK465.out⟩, ⟨by repeat (first | (with_reducible first | exact HB.out | apply below_alloc | apply pw_below_drewN | apply below_drew1 | refine below_set ?_ GE460.out | refine below_set ?_ GE465.out) | exact HB.out)⟩⟩
                  case round =>
                    clear H'
                    try clear c1
                    try clear c2
                    try clear p2
                    try clear c3
                    try clear q3
                    try clear p4
                    try clear q4
                    try clear hx4
                    try clear c6
                    try clear p6
                    try clear c16
                    try clear c20
                    try clear c20b0
                    try clear c20b1
                    try clear c24
                    try clear c25
                    try clear c25b0
                    try clear c25b1
                    try clear c27
                    try clear c28
                    try clear c29
                    try clear c29b0
                    try clear c29b1
                    try clear c30
                    try clear c30b0
                    try clear c31
                    try clear c31b0
                    try clear c31b1
                    try clear c32
                    try clear c32b0
                    try clear c32b1
                    try clear c33
                    try clear c34
                    try clear c35
                    try clear c35b0
                    try clear c35b1
                    try clear c36
                    try clear q38
                    try clear c39
                    try clear hcz12_0
                    try clear hcz12_1
                    try clear hcz17_0
                    try clear hcz17_1
                    try clear hcz28_0
                    try clear hcz28_1
                    try clear hcz37_0
                    try clear hcz37_1
                    try clear hfz12_0
                    try clear hfz12_1
                    try clear hfz17_0
                    try clear hfz17_1
                    try clear hfz28_0
                    try clear hfz28_1
                    try clear hfz37_0
                    try clear hfz37_1
                    try clear hx475_0
                    try clear p2
                    try clear p4
                    try clear p475
                    try clear p6
                    try clear q3
                    try clear q38
                    try clear q4
                    try clear q475
                    obtain ⟨x6_3, x7_3, rfl, HA, HK3, HO_6, HO_461001, HO_466001, BK460, BK465, HB⟩ := hrel
                    cases gk with
                    | zero => exact absurd HA.out (by simp [laws_FnDigests.l0])
                    | succ k3 =>
                      have H := HA.out
                      clear HA
                      simp only [laws_FnDigests.l0] at H
                      by_cases c42 : x7_3 < (t462.length : Int)
                      · rw [if_pos c42] at H
                        have c42b0 : decide (x7_3 < (t462.length : Int)) = true := decide_eq_true c42
                        clear c42
                        by_cases c43 : 0 ≤ x7_3
                        · rw [if_pos c43] at H
                          have c43b0 := eq_true c43
                          have c43b1 : decide (0 ≤ x7_3) = true := decide_eq_true c43
                          clear c43
                          by_cases c44 : x7_3 ≤ (wrap64 (x7_3 + 64))
                          · rw [if_pos c44] at H
                            have c44b0 := eq_true c44
                            have c44b1 : decide (x7_3 ≤ (wrap64 (x7_3 + 64))) = true := decide_eq_true c44
                            by_cases c45 : (wrap64 (x7_3 + 64)) ≤ (t462.length : Int)
                            · rw [if_pos c45] at H
                              have c45b0 := eq_true c45
                              have c45b1 : decide ((wrap64 (x7_3 + 64)) ≤ (t462.length : Int)) = true := decide_eq_true c45
                              obtain ⟨y479, hy479⟩ : ∃ y_ : List Int, y_ = ((t462.take ((wrap64 (x7_3 + 64)) : Int).toNat).drop (x7_3 : Int).toNat) := ⟨_, rfl⟩
                              replace H : ((impl_CompressBlock.f k3 x6_3 y479).bind fun bt483 => (if bt483.1 = 0 then (if (bt483.2.length : Int) = 8 then (laws_FnDigests.l0 k3 bt483.2 (wrap64 (x7_3 + 64)) t456 t457 t461 t462) else (some false)) else (some false))) = some r := by first | (rw [hy479]; with_reducible exact H) | (have H2_ := (Option.bind_some _ _).symm.trans H; rw [hy479]; with_reducible exact H2_) | (have H2_ := (Option.bind_some _ _).symm.trans H; with_reducible exact H2_) | with_reducible exact H | (rw [hy479]; exact H) | exact H
                              have Ny479 := Aside0.mk hy479
                              clear hy479
                              replace H := Option.bind_eq_some_iff.mp H
                              obtain ⟨⟨t483, t484⟩, A460, H⟩ := H
                              replace H : (if t483 = 0 then (if (t484.length : Int) = 8 then (laws_FnDigests.l0 k3 t484 (wrap64 (x7_3 + 64)) t456 t457 t461 t462) else (some false)) else (some false)) = some r := H
                              have A46 := Aside0.mk A460
                              clear A460
                              by_cases c47 : t483 = 0
                              · rw [if_pos c47] at H
                                have c47b0 : (t483 == 0) = true := beq_iff_eq.mpr c47
                                have c47b1 : (t483 != 0) = false := bne_eq_false_iff_eq.mpr c47
                                clear c47
                                by_cases c48 : (t484.length : Int) = 8
                                · rw [if_pos c48] at H
                                  have c48b0 : ((t484.length : Int) == 8) = true := beq_iff_eq.mpr c48
                                  have c48b1 : ((t484.length : Int) != 8) = false := bne_eq_false_iff_eq.mpr c48
                                  clear c48
                                  have H' := Aside0.mk H
                                  clear H
                                  have hnb49 := NB465_460.out
                                  have hnc49 := NB460_465.out
                                  have hcz50_0 : wr.cell? ⟨gb465, 0, none⟩ = some (.int .i64 t461) := (blk_cell BK465.out 0).trans rfl
                                  have hcz50_1 : wr.cell? ⟨gb465, 1, none⟩ = some (.slice Ao18 t462.length co18) := (blk_cell BK465.out 1).trans rfl
                                  have hfz50_0 := blk_frozen BK465.out 0
                                  have hfz50_1 := blk_frozen BK465.out 1
                                  have q51 : ((wrap64 (x7_3 + 64)) : Int) ≤ ((t462.length : Int) : Int) := of_decide_eq_true (by first | (with_reducible assumption) | assumption)
                                  obtain ⟨i051, hi051, _, hsz51, _⟩ := info_parts info5
                                  have hroom51 : t462.length ≤ co18 := (Kd.R_reads' HO_466001.out).2.1
                                  have hC51 : Kd.C (Kd.int .u8) _ Ao18 t462.length t462 := (Kd.R_reads' HO_466001.out).2.2
                                  have ql51 : (x7_3 : Int) ≤ ((wrap64 (x7_3 + 64)) : Int) := of_decide_eq_true (by first | (with_reducible assumption) | assumption)
                                  have q051 : (0 : Int) ≤ (x7_3 : Int) := of_decide_eq_true (by first | (with_reducible assumption) | assumption)
                                  have hcut51 := cut_mid (P := Try.prog) 22 5 .i64 .i64 Try.underlying22 hi051 1 hsz51 Ao18 t462.length co18 x7_3 (wrap64 (x7_3 + 64)) q051 ql51 q51 hroom51
                                  have hr51 := Kd.C_mid (lo := (x7_3 : Int).toNat) (hi := ((wrap64 (x7_3 + 64)) : Int).toNat) (c := co18) hC51 (by omega) (by omega) hroom51
                                  obtain ⟨A51, hA51⟩ : ∃ A1, A1 = (if co18 = (x7_3 : Int).toNat then Ao18 else (Ao18 : Option Addr).map (·.add ((x7_3 : Int).toNat * 1))) := ⟨_, rfl⟩
                                  obtain ⟨c51, hc51⟩ : ∃ c1, c1 = co18 - (x7_3 : Int).toNat := ⟨_, rfl⟩
                                  have hy51 : y479.length = ((wrap64 (x7_3 + 64)) : Int).toNat - (x7_3 : Int).toNat := (by first | exact (by rw [Ny479.out, List.length_drop, List.length_take, Nat.min_eq_left (Int.toNat_le.2 q51)] <;> rfl) | (rw [Ny479.out, List.length_drop, List.length_take] <;> omega))
                                  rw [show ((t462).take ((wrap64 (x7_3 + 64)) : Int).toNat).drop (x7_3 : Int).toNat = y479 from Ny479.out.symm] at hr51
                                  replace hr51 : Kd.C (Kd.int .u8) _ A51 y479.length y479 := (by rw [hA51]; exact hr51)
                                  rw [← hy51, ← hA51, ← hc51] at hcut51
                                  have HR482 := Aside0.mk hr51
                                  have HC482 := Aside0.mk (show y479.length ≤ c51 from by rw [hy51, hc51]; exact Nat.sub_le_sub_right (Nat.le_trans (by omega) hroom51) _)
                                  clear hr51 hC51 hroom51 hi051 hsz51 hc51
                                  have KY51 := Aside0.mk hy51
                                  have KA51 := Aside0.mk hA51
                                  clear hy51 hA51
                                  have KL51 := Aside0.mk (show ((wrap64 (x7_3 + 64)) : Int).toNat ≤ t462.length from by omega)
                                  have KM51 := Aside0.mk (show (x7_3 : Int).toNat ≤ ((wrap64 (x7_3 + 64)) : Int).toNat from by omega)
                                  replace q51 := eq_true q51
                                  obtain ⟨Ao52, co52, eo52⟩ := Kd.R_slice HO_6.out
                                  subst eo52
                                  go_wp2_with (first | ((with_reducible refine gate_callee (f := 25) rfl ?_); refine goesL_ (some 83) rfl rfl Try.func25 (by kernel_rfl) rfl #[.slice Ao52 x6_3.length co52, .slice A51 y479.length c51] rfl (by (try simp only [List.map_toArray, List.map_cons, List.map_nil]); first | done | rfl | (simp only [List.length_drop, List.length_take]; rfl)) ?_; (with_reducible refine (impl_CompressBlock.calls k3 _ _ x6_3 _ _ y479 t483 t484 _ ?side1 ?side2 ?side3 ?side4 A46.out).mono ?_); (case side1 => repeat (first | exact (Kd.R_reads' HO_6.out).2.2 | (with_reducible refine Kd.C_alloc ?_ _) | (with_reducible refine Kd.C_drewN ?_ _) | (with_reducible refine Kd.C_drew ?_))); (case side2 => exact (Kd.R_reads' HO_6.out).2.1); (case side3 => repeat (first | exact (by repeat (first | (with_reducible exact HR482.out) | (with_reducible refine Kd.C_alloc ?_ _) | (with_reducible refine Kd.C_drewN ?_ _) | (with_reducible refine Kd.C_drew ?_) | exact HR482.out)) | (with_reducible refine Kd.C_alloc ?_ _) | (with_reducible refine Kd.C_drewN ?_ _) | (with_reducible refine Kd.C_drew ?_))); (case side4 => exact HC482.out); rintro e w53 ⟨v485, rfl, ho0, hb⟩; refine ⟨_, rfl, ?_⟩; have n0_ := Aside0.mk (Kd.R_elder' (by (with_reducible repeat (first | apply Kd.R_alloc | apply Kd.R_drewN | apply Kd.R_drew)); exact HO_6.out) (Kd.R_base ho0) hb); have n1_ := Aside0.mk (Kd.R_below (by (with_reducible repeat (first | apply Kd.R_alloc | apply Kd.R_drewN | apply Kd.R_drew)); exact HO_461001.out) hb); have n2_ := Aside0.mk (Kd.R_below (by (with_reducible repeat (first | apply Kd.R_alloc | apply Kd.R_drewN | apply Kd.R_drew)); exact HO_466001.out) hb); have n3_ := Aside0.mk (Kd.R_lower (Kd.R_new' ho0 (Kd.R_lt (by (with_reducible repeat (first | apply Kd.R_alloc | apply Kd.R_drewN | apply Kd.R_drew)); exact HO_6.out))) (below_size (by repeat (first | (with_reducible first | exact HB.out | apply below_alloc | apply pw_below_drewN | apply below_drew1 | refine below_set ?_ GE460.out | refine below_set ?_ GE465.out) | exact HB.out)))); have n4_ := Aside0.mk (blk_below (g := gb460) (o := .cells #[.int .i64 t456, .slice Ao13 t457.length co13] 39 (0, 0)) (by (with_reducible repeat (first | refine blk_drewN ?_ _ | refine blk_drew ?_ | refine blk_alloc ?_ _)); exact BK460.out) hb); have n5_ := Aside0.mk (blk_below (g := gb465) (o := .cells #[.int .i64 t461, .slice Ao18 t462.length co18] 39 (0, 0)) (by (with_reducible repeat (first | refine blk_drewN ?_ _ | refine blk_drew ?_ | refine blk_alloc ?_ _)); exact BK465.out) hb); have n6_ := Aside0.mk (Kd.C_below (by repeat (first | (with_reducible exact HR482.out) | (with_reducible refine Kd.C_alloc ?_ _) | (with_reducible refine Kd.C_drewN ?_ _) | (with_reducible refine Kd.C_drew ?_) | exact HR482.out)) hb); have n7_ := Aside0.mk (below_step (by repeat (first | (with_reducible first | exact HB.out | apply below_alloc | apply pw_below_drewN | apply below_drew1 | refine below_set ?_ GE460.out | refine below_set ?_ GE465.out) | exact HB.out)) hb); clear HO_6; clear HO_461001; clear HO_466001; clear BK460; clear BK465; clear HR482; clear HB; have HO_6 := n0_; have HO_461001 := n1_; have HO_466001 := n2_; have HO486 := n3_; have BK460 := n4_; have BK465 := n5_; have HR482 := n6_; have HB := n7_; clear n0_ n1_ n2_ n3_ n4_ n5_ n6_ n7_; (try clear hb); (try clear hb2); (try clear hk); (try clear hi); (try clear ho0)) | ((with_reducible refine gate_dst (N := 8) rfl ?_); (try (refine gate_guard (by rfl) ?_; dsimp only)); refine box_event ?hg (N := 8) ?hd (cs := #[.int .i64 0, .slice none 0 0]) (t := 25) ?hr ?_; (case hd => rfl); (case hg => rfl); (case hr => first | (go_simp; done) | (go_simp; rfl)); intro gb487 hg w54 hbox hb; have n0_ := Aside0.mk (Kd.R_below (by (with_reducible repeat (first | apply Kd.R_alloc | apply Kd.R_drewN | apply Kd.R_drew)); exact HO_6.out) hb); have n1_ := Aside0.mk (Kd.R_below (by (with_reducible repeat (first | apply Kd.R_alloc | apply Kd.R_drewN | apply Kd.R_drew)); exact HO_461001.out) hb); have n2_ := Aside0.mk (Kd.R_below (by (with_reducible repeat (first | apply Kd.R_alloc | apply Kd.R_drewN | apply Kd.R_drew)); exact HO_466001.out) hb); have n3_ := Aside0.mk (Kd.R_below (by (with_reducible repeat (first | apply Kd.R_alloc | apply Kd.R_drewN | apply Kd.R_drew)); exact HO486.out) hb); have n4_ := Aside0.mk (blk_below (g := gb460) (o := .cells #[.int .i64 t456, .slice Ao13 t457.length co13] 39 (0, 0)) (by (with_reducible repeat (first | refine blk_drewN ?_ _ | refine blk_drew ?_ | refine blk_alloc ?_ _)); exact BK460.out) hb); have n5_ := Aside0.mk (blk_below (g := gb465) (o := .cells #[.int .i64 t461, .slice Ao18 t462.length co18] 39 (0, 0)) (by (with_reducible repeat (first | refine blk_drewN ?_ _ | refine blk_drew ?_ | refine blk_alloc ?_ _)); exact BK465.out) hb); have n6_ := Aside0.mk (Kd.C_below (by repeat (first | (with_reducible exact HR482.out) | (with_reducible refine Kd.C_alloc ?_ _) | (with_reducible refine Kd.C_drewN ?_ _) | (with_reducible refine Kd.C_drew ?_) | exact HR482.out)) hb); have n7_ := Aside0.mk (below_step (by repeat (first | (with_reducible first | exact HB.out | apply below_alloc | apply pw_below_drewN | apply below_drew1 | refine below_set ?_ GE460.out | refine below_set ?_ GE465.out) | exact HB.out)) hb); have n8_ := Aside0.mk (hbox); have n9_ := Aside0.mk ((by rw [hg]; exact (below_size (by repeat (first | (with_reducible first | exact HB.out | apply below_alloc | apply pw_below_drewN | apply below_drew1 | refine below_set ?_ GE460.out | refine below_set ?_ GE465.out) | exact HB.out))) : w.heap.size ≤ gb487)); have n10_ := Aside0.mk ((by rw [hg]; exact (below_size (by repeat (first | (with_reducible first | exact HB.out | apply below_alloc | apply pw_below_drewN | apply below_drew1 | refine below_set ?_ GE460.out | refine below_set ?_ GE465.out) | exact HB.out))) : w.heap.size ≤ gb487)); have n11_ := Aside0.mk ((by rw [hg]; exact Nat.ne_of_lt (blk_lt (g := gb460) (o := .cells #[.int .i64 t456, .slice Ao13 t457.length co13] 39 (0, 0)) (by (with_reducible repeat (first | refine blk_drewN ?_ _ | refine blk_drew ?_ | refine blk_alloc ?_ _)); exact BK460.out)) : gb460 ≠ gb487)); have n12_ := Aside0.mk ((by rw [hg]; exact Nat.ne_of_gt (blk_lt (g := gb460) (o := .cells #[.int .i64 t456, .slice Ao13 t457.length co13] 39 (0, 0)) (by (with_reducible repeat (first | refine blk_drewN ?_ _ | refine blk_drew ?_ | refine blk_alloc ?_ _)); exact BK460.out)) : gb487 ≠ gb460)); have n13_ := Aside0.mk ((by rw [hg]; exact Nat.ne_of_lt (blk_lt (g := gb465) (o := .cells #[.int .i64 t461, .slice Ao18 t462.length co18] 39 (0, 0)) (by (with_reducible repeat (first | refine blk_drewN ?_ _ | refine blk_drew ?_ | refine blk_alloc ?_ _)); exact BK465.out)) : gb465 ≠ gb487)); have n14_ := Aside0.mk ((by rw [hg]; exact Nat.ne_of_gt (blk_lt (g := gb465) (o := .cells #[.int .i64 t461, .slice Ao18 t462.length co18] 39 (0, 0)) (by (with_reducible repeat (first | refine blk_drewN ?_ _ | refine blk_drew ?_ | refine blk_alloc ?_ _)); exact BK465.out)) : gb487 ≠ gb465)); clear HO_6; clear HO_461001; clear HO_466001; clear HO486; clear BK460; clear BK465; clear HR482; clear HB; have HO_6 := n0_; have HO_461001 := n1_; have HO_466001 := n2_; have HO486 := n3_; have BK460 := n4_; have BK465 := n5_; have HR482 := n6_; have HB := n7_; have BK487 := n8_; have GW487 := n9_; have GE487 := n10_; have NB460_487 := n11_; have NB487_460 := n12_; have NB465_487 := n13_; have NB487_465 := n14_; clear n0_ n1_ n2_ n3_ n4_ n5_ n6_ n7_ n8_ n9_ n10_ n11_ n12_ n13_ n14_; clear hb hbox hg; have hnb55 := NB487_460.out; have hnc55 := NB460_487.out; have hnb56 := NB487_465.out; have hnc56 := NB465_487.out; have hcz57_0 : w54.cell? ⟨gb487, 0, none⟩ = some (.int .i64 0) := (blk_cell BK487.out 0).trans rfl; have hcz57_1 : w54.cell? ⟨gb487, 1, none⟩ = some (.slice none 0 0) := (blk_cell BK487.out 1).trans rfl; have hfz57_0 := blk_frozen BK487.out 0; have hfz57_1 := blk_frozen BK487.out 1; obtain ⟨Ao58, co58, eo58⟩ := Kd.R_slice HO486.out; subst eo58))
                                  go_roundg k3
                                  case measure => have := HJ6.out; have := HJ25.out; have := HK3.out; omega
                                  case rel => exact ⟨(t484), (wrap64 (x7_3 + 64)), (by first | rfl | (simp; done) | (simp [*]; done) | (simp [Int.tmod_eq_emod_of_nonneg (Int.natCast_nonneg _), *]; done)), H', ⟨by have := HJ6.out; have := HJ25.out; have := HK3.out; omega⟩, ⟨by (with_reducible repeat (first | apply Kd.R_alloc | apply Kd.R_drewN | apply Kd.R_drew)); exact Kd.R_mono (Kd.R_far (p := ⟨gb487, 1, none⟩) (Kd.R_far (p := ⟨gb487, 0, none⟩) (Kd.R_types HO486.out BK487.out (by decide)) (fun _ hk => hk.2) (.int .i64 t483)) (fun _ hk => hk.2) (.slice Ao58 t484.length co58)) (fun _ hk => trivial)⟩, ⟨by (with_reducible repeat (first | apply Kd.R_alloc | apply Kd.R_drewN | apply Kd.R_drew)); exact Kd.R_mono (Kd.R_far (p := ⟨gb487, 1, none⟩) (Kd.R_far (p := ⟨gb487, 0, none⟩) (Kd.R_types HO_461001.out BK487.out (by decide)) (fun _ hk => hk.2) (.int .i64 t483)) (fun _ hk => hk.2) (.slice Ao58 t484.length co58)) (fun _ hk => hk.1)⟩, ⟨by (with_reducible repeat (first | apply Kd.R_alloc | apply Kd.R_drewN | apply Kd.R_drew)); exact Kd.R_mono (Kd.R_far (p := ⟨gb487, 1, none⟩) (Kd.R_far (p := ⟨gb487, 0, none⟩) (Kd.R_types HO_466001.out BK487.out (by decide)) (fun _ hk => hk.2) (.int .i64 t483)) (fun _ hk => hk.2) (.slice Ao58 t484.length co58)) (fun _ hk => hk.1)⟩, ⟨by (with_reducible repeat (first | refine blk_drewN ?_ _ | refine blk_drew ?_ | refine blk_alloc ?_ _)); refine blk_far ?_ NB460_487.out _; (with_reducible repeat (first | refine blk_drewN ?_ _ | refine blk_drew ?_ | refine blk_alloc ?_ _)); refine blk_far ?_ NB460_487.out _; (with_reducible repeat (first | refine blk_drewN ?_ _ | refine blk_drew ?_ | refine blk_alloc ?_ _)); exact BK460.out⟩, ⟨by (with_reducible repeat (first | refine blk_drewN ?_ _ | refine blk_drew ?_ | refine blk_alloc ?_ _)); refine blk_far ?_ NB465_487.out _; (with_reducible repeat (first | refine blk_drewN ?_ _ | refine blk_drew ?_ | refine blk_alloc ?_ _)); refine blk_far ?_ NB465_487.out _; (with_reducible repeat (first | refine blk_drewN ?_ _ | refine blk_drew ?_ | refine blk_alloc ?_ _)); exact BK465.out⟩, ⟨by repeat (first | (with_reducible first | exact HB.out | apply below_alloc | apply pw_below_drewN | apply below_drew1 | refine below_set ?_ GE460.out | refine below_set ?_ GE465.out | refine below_set ?_ GE487.out) | exact HB.out)⟩⟩
                                · rw [if_neg c48] at H
                                  have c48b0 : ((t484.length : Int) == 8) = false := beq_eq_false_iff_ne.mpr c48
                                  have c48b1 : ((t484.length : Int) != 8) = true := bne_iff_ne.mpr c48
                                  exact absurd ((Option.some.inj H).trans hr_) (by decide)
                              · rw [if_neg c47] at H
                                have c47b0 : (t483 == 0) = false := beq_eq_false_iff_ne.mpr c47
                                have c47b1 : (t483 != 0) = true := bne_iff_ne.mpr c47
                                exact absurd ((Option.some.inj H).trans hr_) (by decide)
                            · rw [if_neg c45] at H
                              exact absurd H (by simp)
                          · rw [if_neg c44] at H
                            exact absurd H (by simp)
                        · rw [if_neg c43] at H
                          exact absurd H (by simp)
                      · rw [if_neg c42] at H
                        have c42b0 : decide (x7_3 < (t462.length : Int)) = false := decide_eq_false c42
                        clear c42
                        obtain ⟨y488, hy488⟩ : ∃ y_ : List Int, y_ = (([] : List Int)) := ⟨_, rfl⟩
                        replace H : (laws_FnDigests.l1 k3 x6_3 y488 0 t456 t457) = some r := by first | (rw [hy488]; with_reducible exact H) | (have H2_ := (Option.bind_some _ _).symm.trans H; rw [hy488]; with_reducible exact H2_) | (have H2_ := (Option.bind_some _ _).symm.trans H; with_reducible exact H2_) | with_reducible exact H | (rw [hy488]; exact H) | exact H
                        have Ny488 := Aside0.mk hy488
                        clear hy488
                        have H' := Aside0.mk H
                        clear H
                        have hnb59 := NB465_460.out
                        have hnc59 := NB460_465.out
                        have hcz60_0 : wr.cell? ⟨gb465, 0, none⟩ = some (.int .i64 t461) := (blk_cell BK465.out 0).trans rfl
                        have hcz60_1 : wr.cell? ⟨gb465, 1, none⟩ = some (.slice Ao18 t462.length co18) := (blk_cell BK465.out 1).trans rfl
                        have hfz60_0 := blk_frozen BK465.out 0
                        have hfz60_1 := blk_frozen BK465.out 1
                        go_wp2_with (first | ((with_reducible refine gate_dst (N := 95) rfl ?_); (try (refine gate_guard (by rfl) ?_; dsimp only)); refine Kd.R_lit (Kd.int .u8) _ 5 ?hg (N := 95) ?hd (xs := ([] : List Int)) (inner := []) (ok := fun _ => True) (okp := fun _ => True) ?hr ?hp (fun _ hk => hk) trivial (Below.refl _ _) (Nat.le_refl _) (by simp) ?_; (case hd => rfl); (case hg => rfl); (case hr => first | (go_simp; done) | (go_simp; rfl)); (case hp => exact (Reps.none _ _)); intro v489 w61 ho62 hb hg_ hnew_; clear hg_ hnew_; (first | rw [← Ny488.out] at ho62 | (simp only [Int.reduceToNat] at ho62; rw [← Ny488.out] at ho62)); have n0_ := Aside0.mk (Kd.R_below (by (with_reducible repeat (first | apply Kd.R_alloc | apply Kd.R_drewN | apply Kd.R_drew)); exact HO_6.out) hb); have n1_ := Aside0.mk (Kd.R_elder' (by (with_reducible repeat (first | apply Kd.R_alloc | apply Kd.R_drewN | apply Kd.R_drew)); exact HO_461001.out) (Kd.R_base ho62) hb); have n2_ := Aside0.mk (Kd.R_elder' (by (with_reducible repeat (first | apply Kd.R_alloc | apply Kd.R_drewN | apply Kd.R_drew)); exact HO_466001.out) (Kd.R_base ho62) hb); have n3_ := Aside0.mk (Kd.R_lower (Kd.R_new' (Kd.R_new' ho62 (Kd.R_lt (by (with_reducible repeat (first | apply Kd.R_alloc | apply Kd.R_drewN | apply Kd.R_drew)); exact HO_461001.out))) (Kd.R_lt (by (with_reducible repeat (first | apply Kd.R_alloc | apply Kd.R_drewN | apply Kd.R_drew)); exact HO_466001.out))) (below_size (by repeat (first | (with_reducible first | exact HB.out | apply below_alloc | apply pw_below_drewN | apply below_drew1 | refine below_set ?_ GE460.out | refine below_set ?_ GE465.out) | exact HB.out)))); have n4_ := Aside0.mk (blk_below (g := gb460) (o := .cells #[.int .i64 t456, .slice Ao13 t457.length co13] 39 (0, 0)) (by (with_reducible repeat (first | refine blk_drewN ?_ _ | refine blk_drew ?_ | refine blk_alloc ?_ _)); exact BK460.out) hb); have n5_ := Aside0.mk (blk_below (g := gb465) (o := .cells #[.int .i64 t461, .slice Ao18 t462.length co18] 39 (0, 0)) (by (with_reducible repeat (first | refine blk_drewN ?_ _ | refine blk_drew ?_ | refine blk_alloc ?_ _)); exact BK465.out) hb); have n6_ := Aside0.mk (below_step (by repeat (first | (with_reducible first | exact HB.out | apply below_alloc | apply pw_below_drewN | apply below_drew1 | refine below_set ?_ GE460.out | refine below_set ?_ GE465.out) | exact HB.out)) hb); clear HO_6; clear HO_461001; clear HO_466001; clear BK460; clear BK465; clear HB; have HO_6 := n0_; have HO_461001 := n1_; have HO_466001 := n2_; have HO490 := n3_; have BK460 := n4_; have BK465 := n5_; have HB := n6_; clear n0_ n1_ n2_ n3_ n4_ n5_ n6_; clear hb ho62))
                        go_loopg [9, 10] k3 (fun kq v9 v10 w' => ∃ (x9_4 : List Int) (x10_4 : Int), v10 = .int .i64 x10_4 ∧ Aside0 (laws_FnDigests.l1 kq x6_3 x9_4 x10_4 t456 t457 = some r) ∧ Aside0 (kq ≤ k3) ∧ Aside0 (Kd.R (Kd.int .i64) 2 w' w.heap.size (fun _ => True) u6 x6_3) ∧ Aside0 (Kd.R (Kd.int .u8) 5 w' w.heap.size (fun k_ => some k_ ≠ ((.slice Ao13 t457.length co13) : Value).ownBlock ∧ some k_ ≠ ((.slice Ao18 t462.length co18) : Value).ownBlock) v9 x9_4) ∧ Aside0 (Kd.R (Kd.int .u8) 5 w' w.heap.size (fun k_ => some k_ ≠ (v9 : Value).ownBlock ∧ some k_ ≠ ((.slice Ao18 t462.length co18) : Value).ownBlock) (.slice Ao13 t457.length co13) t457) ∧ Aside0 (Kd.R (Kd.int .u8) 5 w' w.heap.size (fun k_ => some k_ ≠ (v9 : Value).ownBlock ∧ some k_ ≠ ((.slice Ao13 t457.length co13) : Value).ownBlock) (.slice Ao18 t462.length co18) t462) ∧ Aside0 (w'.heap[gb460]? = some (.cells #[.int .i64 t456, (.slice Ao13 t457.length co13)] 39 (0, 0))) ∧ Aside0 (w'.heap[gb465]? = some (.cells #[.int .i64 t461, (.slice Ao18 t462.length co18)] 39 (0, 0))) ∧ Aside0 (Below w.heap.size w w'))
                        case atStart => exact ⟨(y488), (0), (by first | rfl | (simp; done) | (simp [*]; done) | (simp [Int.tmod_eq_emod_of_nonneg (Int.natCast_nonneg _), *]; done)), H', ⟨Nat.le_refl _⟩, ⟨by (with_reducible repeat (first | apply Kd.R_alloc | apply Kd.R_drewN | apply Kd.R_drew)); exact HO_6.out⟩, ⟨by (with_reducible repeat (first | apply Kd.R_alloc | apply Kd.R_drewN | apply Kd.R_drew)); exact Kd.R_mono HO490.out (fun _ hk => ⟨hk.1.2, hk.2⟩)⟩, ⟨by (with_reducible repeat (first | apply Kd.R_alloc | apply Kd.R_drewN | apply Kd.R_drew)); exact Kd.R_mono HO_461001.out (fun _ hk => ⟨hk.2, hk.1⟩)⟩, ⟨by (with_reducible repeat (first | apply Kd.R_alloc | apply Kd.R_drewN | apply Kd.R_drew)); exact Kd.R_mono HO_466001.out (fun _ hk => ⟨hk.2, hk.1⟩)⟩, ⟨by (with_reducible repeat (first | refine blk_drewN ?_ _ | refine blk_drew ?_ | refine blk_alloc ?_ _)); exact BK460.out⟩, ⟨by (with_reducible repeat (first | refine blk_drewN ?_ _ | refine blk_drew ?_ | refine blk_alloc ?_ _)); exact BK465.out⟩, ⟨by repeat (first | (with_reducible first | exact HB.out | apply below_alloc | apply pw_below_drewN | apply below_drew1 | refine below_set ?_ GE460.out | refine below_set ?_ GE465.out) | exact HB.out)⟩⟩
                        case round =>
                          clear H'
                          try clear c1
                          try clear c2
                          try clear p2
                          try clear c3
                          try clear q3
                          try clear c4
                          try clear p4
                          try clear q4
                          try clear hx4
                          try clear c5
                          try clear q5
                          try clear c6
                          try clear p6
                          try clear c16
                          try clear c20
                          try clear c20b0
                          try clear c20b1
                          try clear c24
                          try clear c25
                          try clear c25b0
                          try clear c25b1
                          try clear c27
                          try clear c28
                          try clear c29
                          try clear c29b0
                          try clear c29b1
                          try clear c30
                          try clear c30b0
                          try clear c31
                          try clear c31b0
                          try clear c31b1
                          try clear c32
                          try clear c32b0
                          try clear c32b1
                          try clear c33
                          try clear c34
                          try clear c35
                          try clear c35b0
                          try clear c35b1
                          try clear c36
                          try clear q38
                          try clear c39
                          try clear c42
                          try clear c42b0
                          try clear c43
                          try clear c43b0
                          try clear c43b1
                          try clear c44
                          try clear c44b0
                          try clear c44b1
                          try clear c45
                          try clear c45b0
                          try clear c45b1
                          try clear c47
                          try clear c47b0
                          try clear c47b1
                          try clear p47
                          try clear q47
                          try clear hx47
                          try clear c48
                          try clear c48b0
                          try clear c48b1
                          try clear c49
                          try clear c51
                          try clear q51
                          try clear c55
                          try clear c56
                          try clear c59
                          try clear hcz12_0
                          try clear hcz12_1
                          try clear hcz17_0
                          try clear hcz17_1
                          try clear hcz28_0
                          try clear hcz28_1
                          try clear hcz37_0
                          try clear hcz37_1
                          try clear hcz50_0
                          try clear hcz50_1
                          try clear hcz57_0
                          try clear hcz57_1
                          try clear hcz60_0
                          try clear hcz60_1
                          try clear hfz12_0
                          try clear hfz12_1
                          try clear hfz17_0
                          try clear hfz17_1
                          try clear hfz28_0
                          try clear hfz28_1
                          try clear hfz37_0
                          try clear hfz37_1
                          try clear hfz50_0
                          try clear hfz50_1
                          try clear hfz57_0
                          try clear hfz57_1
                          try clear hfz60_0
                          try clear hfz60_1
                          try clear hx475_0
                          try clear p2
                          try clear p4
                          try clear p475
                          try clear p6
                          try clear q051
                          try clear q3
                          try clear q38
                          try clear q4
                          try clear q475
                          try clear q51
                          obtain ⟨x9_4, x10_4, rfl, HA, HK4, HO_6, HO_9, HO_461001, HO_466001, BK460, BK465, HB⟩ := hrel
                          cases gk with
                          | zero => exact absurd HA.out (by simp [laws_FnDigests.l1])
                          | succ k4 =>
                            have H := HA.out
                            clear HA
                            simp only [laws_FnDigests.l1] at H
                            by_cases c63 : x10_4 < 8
                            · rw [if_pos c63] at H
                              have c63b0 : decide (x10_4 < 8) = true := decide_eq_true c63
                              clear c63
                              by_cases c64 : 0 ≤ x10_4
                              · rw [if_pos c64] at H
                                have c64b0 : decide (0 ≤ x10_4) = true := decide_eq_true c64
                                clear c64
                                by_cases c65 : x10_4 < (x6_3.length : Int)
                                · rw [if_pos c65] at H
                                  have c65b0 : decide (x10_4 < (x6_3.length : Int)) = true := decide_eq_true c65
                                  clear c65
                                  replace H := Option.bind_eq_some_iff.mp H
                                  obtain ⟨⟨t492, t493⟩, A660, H⟩ := H
                                  replace H : (if x9_4.length + t493.length < 140737488355328 then (laws_FnDigests.l1 k4 x6_3 (x9_4 ++ t493) (wrap64 (x10_4 + 1)) t456 t457) else (none)) = some r := H
                                  have A66 := Aside0.mk A660
                                  clear A660
                                  by_cases c67 : x9_4.length + t493.length < 140737488355328
                                  · rw [if_pos c67] at H
                                    have LMc67 := Aside0.mk c67
                                    clear c67
                                    obtain ⟨y496, hy496⟩ : ∃ y_ : List Int, y_ = (x9_4 ++ t493) := ⟨_, rfl⟩
                                    replace H : (laws_FnDigests.l1 k4 x6_3 y496 (wrap64 (x10_4 + 1)) t456 t457) = some r := by first | (rw [hy496]; with_reducible exact H) | (have H2_ := (Option.bind_some _ _).symm.trans H; rw [hy496]; with_reducible exact H2_) | (have H2_ := (Option.bind_some _ _).symm.trans H; with_reducible exact H2_) | with_reducible exact H | (rw [hy496]; exact H) | exact H
                                    have Ny496 := Aside0.mk hy496
                                    clear hy496
                                    have H' := Aside0.mk H
                                    clear H
                                    obtain ⟨Ao68, co68, eo68⟩ := Kd.R_slice HO_6.out
                                    subst eo68
                                    have p491 : 0 ≤ (x10_4 : Int) := of_decide_eq_true (by first | (with_reducible assumption) | assumption)
                                    have q491 : x10_4 < (x6_3.length : Int) := of_decide_eq_true (by first | (with_reducible assumption) | assumption)
                                    obtain ⟨ad491, e491, hx491_0⟩ := Kd.at_int (Kd.R_reads' HO_6.out).2.2 x10_4 p491 q491
                                    cases e491
                                    replace p491 := eq_true p491
                                    replace q491 := eq_true q491
                                    go_wp2_with (first | ((with_reducible refine gate_callee (f := 37) rfl ?_); refine goesL_ (some 105) rfl rfl Try.func37 (by kernel_rfl) rfl #[.int .i64 (rd x6_3 x10_4)] rfl (by (try simp only [List.map_toArray, List.map_cons, List.map_nil]); first | done | rfl | (simp only [List.length_drop, List.length_take]; rfl)) ?_; (with_reducible refine (impl_PackWord.calls (rd x6_3 x10_4) t492 t493 _ A66.out).mono ?_); rintro e w69 ⟨v494, rfl, ho0, hb⟩; refine ⟨_, rfl, ?_⟩; have n0_ := Aside0.mk (Kd.R_below (by (with_reducible repeat (first | apply Kd.R_alloc | apply Kd.R_drewN | apply Kd.R_drew)); exact HO_6.out) hb); have n1_ := Aside0.mk (Kd.R_elder' (by (with_reducible repeat (first | apply Kd.R_alloc | apply Kd.R_drewN | apply Kd.R_drew)); exact HO_9.out) (Kd.R_base ho0) hb); have n2_ := Aside0.mk (Kd.R_elder' (by (with_reducible repeat (first | apply Kd.R_alloc | apply Kd.R_drewN | apply Kd.R_drew)); exact HO_461001.out) (Kd.R_base ho0) hb); have n3_ := Aside0.mk (Kd.R_elder' (by (with_reducible repeat (first | apply Kd.R_alloc | apply Kd.R_drewN | apply Kd.R_drew)); exact HO_466001.out) (Kd.R_base ho0) hb); have n4_ := Aside0.mk (Kd.R_lower (Kd.R_new' (Kd.R_new' (Kd.R_new' ho0 (Kd.R_lt (by (with_reducible repeat (first | apply Kd.R_alloc | apply Kd.R_drewN | apply Kd.R_drew)); exact HO_9.out))) (Kd.R_lt (by (with_reducible repeat (first | apply Kd.R_alloc | apply Kd.R_drewN | apply Kd.R_drew)); exact HO_461001.out))) (Kd.R_lt (by (with_reducible repeat (first | apply Kd.R_alloc | apply Kd.R_drewN | apply Kd.R_drew)); exact HO_466001.out))) (below_size (by repeat (first | (with_reducible first | exact HB.out | apply below_alloc | apply pw_below_drewN | apply below_drew1 | refine below_set ?_ GE460.out | refine below_set ?_ GE465.out) | exact HB.out)))); have n5_ := Aside0.mk (blk_below (g := gb460) (o := .cells #[.int .i64 t456, .slice Ao13 t457.length co13] 39 (0, 0)) (by (with_reducible repeat (first | refine blk_drewN ?_ _ | refine blk_drew ?_ | refine blk_alloc ?_ _)); exact BK460.out) hb); have n6_ := Aside0.mk (blk_below (g := gb465) (o := .cells #[.int .i64 t461, .slice Ao18 t462.length co18] 39 (0, 0)) (by (with_reducible repeat (first | refine blk_drewN ?_ _ | refine blk_drew ?_ | refine blk_alloc ?_ _)); exact BK465.out) hb); have n7_ := Aside0.mk (below_step (by repeat (first | (with_reducible first | exact HB.out | apply below_alloc | apply pw_below_drewN | apply below_drew1 | refine below_set ?_ GE460.out | refine below_set ?_ GE465.out) | exact HB.out)) hb); clear HO_6; clear HO_9; clear HO_461001; clear HO_466001; clear BK460; clear BK465; clear HB; have HO_6 := n0_; have HO_9 := n1_; have HO_461001 := n2_; have HO_466001 := n3_; have HO495 := n4_; have BK460 := n5_; have BK465 := n6_; have HB := n7_; clear n0_ n1_ n2_ n3_ n4_ n5_ n6_ n7_; (try clear hb); (try clear hb2); (try clear hk); (try clear hi); (try clear ho0); obtain ⟨Ao71, co71, eo71⟩ := Kd.R_slice HO495.out; subst eo71) | ((with_reducible refine gate_builtin (b := .append) (xs := #[.tmp 100, .tmp 106]) rfl ?_); (try (refine gate_guard (by rfl) ?_; dsimp only)); at_builtin; refine Kd.R_append_rows (Kd.int .u8) (w0 := w) w.heap.size rfl (.tmp 100) (.tmp 106) 22 5 (.int .u8 0) 1 rfl Try.underlying22 info5 rfl (by decide) (by omega) u9 x9_4 t493 _ _ _ (fun k_ => some k_ ≠ (.slice Ao13 t457.length co13 : Value).ownBlock ∧ some k_ ≠ (.slice Ao18 t462.length co18 : Value).ownBlock ∧ some k_ ≠ (.slice Ao71 t493.length co71 : Value).ownBlock) (fun _ => False) rfl rfl ?aO ?aR (fun _ _ h => h) (fun _ h => h.elim) ?aF ?aB ?aS ?aL ?_; (case aR => repeat (first | exact (Kd.R_reads' HO495.out).2.2 | (with_reducible refine Kd.C_alloc ?_ _) | (with_reducible refine Kd.C_drewN ?_ _) | (with_reducible refine Kd.C_drew ?_))); (case aB => exact (by repeat (first | (with_reducible first | exact HB.out | apply below_alloc | apply pw_below_drewN | apply below_drew1 | refine below_set ?_ GE460.out | refine below_set ?_ GE465.out) | exact HB.out))); (case aF => exact (fun k_ hk => ⟨Kd.fresh' (Kd.R_lt (by (with_reducible repeat (first | apply Kd.R_alloc | apply Kd.R_drewN | apply Kd.R_drew)); exact HO_461001.out)) k_ hk, Kd.fresh' (Kd.R_lt (by (with_reducible repeat (first | apply Kd.R_alloc | apply Kd.R_drewN | apply Kd.R_drew)); exact HO_466001.out)) k_ hk, Kd.fresh' (Kd.R_lt (by (with_reducible repeat (first | apply Kd.R_alloc | apply Kd.R_drewN | apply Kd.R_drew)); exact HO495.out)) k_ hk⟩)); (case aO => exact (by (with_reducible repeat (first | apply Kd.R_alloc | apply Kd.R_drewN | apply Kd.R_drew)); exact Kd.R_mono HO_9.out (fun _ hk => ⟨hk.1.1, ⟨hk.1.2, hk.2⟩⟩))); (case aS => exact (below_size (by repeat (first | (with_reducible first | exact HB.out | apply below_alloc | apply pw_below_drewN | apply below_drew1 | refine below_set ?_ GE460.out | refine below_set ?_ GE465.out) | exact HB.out)))); (case aL => have := LMc67.out; omega); intro v497 w70 ho hb hg hat; rw [← Ny496.out] at ho; have n0_ := Aside0.mk (Kd.R_over' (by (with_reducible repeat (first | apply Kd.R_alloc | apply Kd.R_drewN | apply Kd.R_drew)); exact HO_6.out) (Kd.R_typed (by (with_reducible repeat (first | apply Kd.R_alloc | apply Kd.R_drewN | apply Kd.R_drew)); exact HO_9.out)) (by decide) hg); have n1_ := Aside0.mk (Kd.R_after (ok := (fun k_ => some k_ ≠ (.slice Ao18 t462.length co18 : Value).ownBlock ∧ some k_ ≠ (.slice Ao71 t493.length co71 : Value).ownBlock)) (by (with_reducible repeat (first | apply Kd.R_alloc | apply Kd.R_drewN | apply Kd.R_drew)); exact Kd.R_mono HO_461001.out (fun _ hk => ⟨⟨hk.1.2, hk.2⟩, hk.1.1⟩)) hg hat); have n2_ := Aside0.mk (Kd.R_after (ok := (fun k_ => some k_ ≠ (.slice Ao13 t457.length co13 : Value).ownBlock ∧ some k_ ≠ (.slice Ao71 t493.length co71 : Value).ownBlock)) (by (with_reducible repeat (first | apply Kd.R_alloc | apply Kd.R_drewN | apply Kd.R_drew)); exact Kd.R_mono HO_466001.out (fun _ hk => ⟨⟨hk.1.2, hk.2⟩, hk.1.1⟩)) hg hat); have n3_ := Aside0.mk (blk_grown (g := gb460) (o := .cells #[.int .i64 t456, .slice Ao13 t457.length co13] 39 (0, 0)) (by (with_reducible repeat (first | refine blk_drewN ?_ _ | refine blk_drew ?_ | refine blk_alloc ?_ _)); exact BK460.out) hg (Kd.R_ne HO_9.out BK460.out (by decide))); have n4_ := Aside0.mk (blk_grown (g := gb465) (o := .cells #[.int .i64 t461, .slice Ao18 t462.length co18] 39 (0, 0)) (by (with_reducible repeat (first | refine blk_drewN ?_ _ | refine blk_drew ?_ | refine blk_alloc ?_ _)); exact BK465.out) hg (Kd.R_ne HO_9.out BK465.out (by decide))); have n5_ := Aside0.mk (Kd.R_after (ok := (fun k_ => some k_ ≠ (.slice Ao13 t457.length co13 : Value).ownBlock ∧ some k_ ≠ (.slice Ao18 t462.length co18 : Value).ownBlock)) (by (with_reducible repeat (first | apply Kd.R_alloc | apply Kd.R_drewN | apply Kd.R_drew)); exact Kd.R_mono HO495.out (fun _ hk => ⟨⟨hk.1.2, hk.2⟩, hk.1.1.2⟩)) hg hat); have n6_ := Aside0.mk (hb); have n7_ := Aside0.mk (ho); clear HO_6; clear HO_461001; clear HO_466001; clear BK460; clear BK465; clear HO495; clear HB; clear HO_9; have HO_6 := n0_; have HO_461001 := n1_; have HO_466001 := n2_; have BK460 := n3_; have BK465 := n4_; have HO495 := n5_; have HB := n6_; have HO498 := n7_; clear n0_ n1_ n2_ n3_ n4_ n5_ n6_ n7_; clear ho hb hg hat))
                                    go_roundg k4
                                    case measure => have := HJ6.out; have := HJ25.out; have := HK3.out; have := HK4.out; omega
                                    case rel => exact ⟨(y496), (wrap64 (x10_4 + 1)), (by first | rfl | (simp; done) | (simp [*]; done) | (simp [Int.tmod_eq_emod_of_nonneg (Int.natCast_nonneg _), *]; done)), H', ⟨by have := HJ6.out; have := HJ25.out; have := HK3.out; have := HK4.out; omega⟩, ⟨by (with_reducible repeat (first | apply Kd.R_alloc | apply Kd.R_drewN | apply Kd.R_drew)); exact HO_6.out⟩, ⟨by (with_reducible repeat (first | apply Kd.R_alloc | apply Kd.R_drewN | apply Kd.R_drew)); exact Kd.R_mono HO498.out (fun _ hk => ⟨hk.1, hk.2.1⟩)⟩, ⟨by (with_reducible repeat (first | apply Kd.R_alloc | apply Kd.R_drewN | apply Kd.R_drew)); exact Kd.R_mono HO_461001.out (fun _ hk => ⟨hk.2, hk.1.1⟩)⟩, ⟨by (with_reducible repeat (first | apply Kd.R_alloc | apply Kd.R_drewN | apply Kd.R_drew)); exact Kd.R_mono HO_466001.out (fun _ hk => ⟨hk.2, hk.1.1⟩)⟩, ⟨by (with_reducible repeat (first | refine blk_drewN ?_ _ | refine blk_drew ?_ | refine blk_alloc ?_ _)); exact BK460.out⟩, ⟨by (with_reducible repeat (first | refine blk_drewN ?_ _ | refine blk_drew ?_ | refine blk_alloc ?_ _)); exact BK465.out⟩, ⟨by repeat (first | (with_reducible first | exact HB.out | apply below_alloc | apply pw_below_drewN | apply below_drew1 | refine below_set ?_ GE460.out | refine below_set ?_ GE465.out) | exact HB.out)⟩⟩
                                  · rw [if_neg c67] at H
                                    exact absurd H (by simp)
                                · rw [if_neg c65] at H
                                  exact absurd H (by simp)
                              · rw [if_neg c64] at H
                                exact absurd H (by simp)
                            · rw [if_neg c63] at H
                              have c63b0 : decide (x10_4 < 8) = false := decide_eq_false c63
                              clear c63
                              replace H := Option.bind_eq_some_iff.mp H
                              obtain ⟨t499, A720, H⟩ := H
                              replace H : (if t499 = true then (some ((t457.length : Int) == 32)) else (some false)) = some r := H
                              have A72 := Aside0.mk A720
                              clear A720
                              by_cases c73 : t499 = true
                              · subst c73
                                have H1 : (some ((t457.length : Int) == 32)) = some r := by rw [if_pos rfl] at H; exact H
                                clear H
                                have H := H1
                                clear H1
                                obtain rfl := Option.some.inj H
                                have hnb74 := NB460_465.out
                                have hnc74 := NB465_460.out
                                have hcz75_0 : wr.cell? ⟨gb460, 0, none⟩ = some (.int .i64 t456) := (blk_cell BK460.out 0).trans rfl
                                have hcz75_1 : wr.cell? ⟨gb460, 1, none⟩ = some (.slice Ao13 t457.length co13) := (blk_cell BK460.out 1).trans rfl
                                have hfz75_0 := blk_frozen BK460.out 0
                                have hfz75_1 := blk_frozen BK460.out 1
                                obtain ⟨Ao76, co76, eo76⟩ := Kd.R_slice HO_9.out
                                subst eo76
                                go_wp2_with (first | ((with_reducible refine gate_callee (f := 36) rfl ?_); refine goesL_ (some 111) rfl rfl Try.func36 (by kernel_rfl) rfl #[.slice Ao76 x9_4.length co76, .slice Ao13 t457.length co13] rfl (by (try simp only [List.map_toArray, List.map_cons, List.map_nil]); first | done | rfl | (simp only [List.length_drop, List.length_take]; rfl)) ?_; (with_reducible refine (laws_lwBytes.calls _ _ x9_4 _ _ t457 true _ ?side1 ?side2 ?side3 ?side4 A72.out).mono ?_); (case side1 => repeat (first | exact (Kd.R_reads' HO_9.out).2.2 | (with_reducible refine Kd.C_alloc ?_ _) | (with_reducible refine Kd.C_drewN ?_ _) | (with_reducible refine Kd.C_drew ?_))); (case side2 => exact (Kd.R_reads' HO_9.out).2.1); (case side3 => repeat (first | exact (Kd.R_reads' HO_461001.out).2.2 | (with_reducible refine Kd.C_alloc ?_ _) | (with_reducible refine Kd.C_drewN ?_ _) | (with_reducible refine Kd.C_drew ?_))); (case side4 => exact (Kd.R_reads' HO_461001.out).2.1); rintro e w' ⟨rfl, ⟨nd, rfl⟩⟩; refine ⟨_, rfl, ?_⟩))
                                go_ret
                                exact ⟨by first | rfl | (simp [errW_none, errW_some] <;> rfl) | (simp [*, errW_none, errW_some] <;> rfl), by repeat (first | (with_reducible first | exact HB.out | apply below_alloc | apply pw_below_drewN | apply below_drew1 | refine below_set ?_ GE460.out | refine below_set ?_ GE465.out) | exact HB.out)⟩
                              · replace c73 := Bool.eq_false_iff.mpr c73
                                subst c73
                                have H1 : (some false) = some r := by rw [if_neg (show ¬ (false = true) by decide)] at H; exact H
                                clear H
                                have H := H1
                                clear H1
                                exact absurd ((Option.some.inj H).trans hr_) (by decide)
          · rw [if_neg c25] at H
            have c25b0 : (t456 == 0) = false := beq_eq_false_iff_ne.mpr c25
            have c25b1 : (t456 != 0) = true := bne_iff_ne.mpr c25
            obtain rfl := Option.some.inj H
            have hnb77 := NB460_465.out
            have hnc77 := NB465_460.out
            have hcz78_0 : wc.cell? ⟨gb460, 0, none⟩ = some (.int .i64 t456) := (blk_cell BK460.out 0).trans rfl
            have hcz78_1 : wc.cell? ⟨gb460, 1, none⟩ = some (.slice Ao13 t457.length co13) := (blk_cell BK460.out 1).trans rfl
            have hfz78_0 := blk_frozen BK460.out 0
            have hfz78_1 := blk_frozen BK460.out 1
            go_wp2
            go_ret
            exact ⟨by first | rfl | (simp [errW_none, errW_some] <;> rfl) | (simp [*, errW_none, errW_some] <;> rfl), by repeat (first | (with_reducible first | exact HB.out | apply below_alloc | apply pw_below_drewN | apply below_drew1 | refine below_set ?_ GE460.out | refine below_set ?_ GE465.out) | exact HB.out)⟩

/-- THE ONE PURE STATEMENT of laws_FnDigests: yours. -/
def laws_FnDigests.Pure : Prop := ∀ (l0 : List Int), l0.length ≤ maxLen → l0.length * 1 ≤ 140737488351232 → (∀ x ∈ l0, (Lit.int .u8 x).wf = true) → ∃ k, laws_FnDigests.f k l0 = some true
theorem laws_FnDigests.walk (P : laws_FnDigests.Pure) (a0 : Option Addr) (len0 cap0 : Nat) (z0 : List Int) (w : World) (w0 : (a0 = none ∧ len0 = 0 ∧ cap0 = 0 ∧ z0 = []) ∨ ∃ x, a0 = some x ∧ len0 ≤ cap0 ∧ cap0 ≤ maxLen ∧ z0.length = cap0 ∧ (∀ i, i < z0.length → w.cell? (x.add i) = some (.int .u8 (z0.getD i 0))) ∧ ∀ n ∈ z0, (Lit.int .u8 n).wf = true) (y0 : len0 * 1 ≤ 140737488351232) :
    Calls Try.prog 6 #[.slice a0 len0 cap0] w fun e w' => e = .returned (.bool true) ∧ Below w.heap.size w w' := by
  obtain ⟨l0, rfl, hr0, hm0, hw0, hc0⟩ := ReadsInt.ofRowC w0
  obtain ⟨k, h⟩ := P l0 hm0 y0 hw0
  refine (laws_FnDigests.calls k _ _ l0 true w (Kd.C_of_reads (d := (0 : Int)) (h1 := fun _ => rfl) hr0) hc0 h rfl).mono ?_
  rintro e w' ⟨rfl, hd⟩
  exact ⟨rfl, hd⟩

end Go.Proofs.Ytceobpekmladdaa.PFnDigests
