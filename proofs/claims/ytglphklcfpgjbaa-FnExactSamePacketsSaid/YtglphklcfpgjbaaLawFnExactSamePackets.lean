-- Laid by a program of this session (wip/print): the kit's printer with changes of this session's own.
import Derived.Test.YtglphklcfpgjbaaRows
import Derived.Test.YtglphklcfpgjbaaPFnExactSamePacketsx4
import Derived.Test.YtglphklcfpgjbaaPureFnExactSamePackets
import Derived.Test.YtglphklcfpgjbaaOpen
import Derived.WalkKit
import Derived.ProofKit
import Derived.OpenShut
import Derived.ShutString
import Derived.ChangeOld
import Derived.Below
import Derived.SizedLaws
namespace Go.Proofs.Ytglphklcfpgjbaa.fnExactSamePackets
open Go.ChangeShapes Go.WideShapes Go.ChangeAt Go.RowKit Go.Proofs.Ytglphklcfpgjbaa.Open Go.Proofs.YtglphklcfpgjbaaW.PrintWords
open Go.ChangeMaps (open_string shut_string)
set_option linter.unusedVariables false
theorem own : ownKnob Try.prog.godebug = none := by kernel_rfl
theorem laidOut : laidOutB Try.prog = true := by kernel_rfl
open Go.Proofs.Ytglphklcfpgjbaa.PFnExactSamePackets (k24 S24 z24 k24_mk)
set_option maxRecDepth 100000 in
theorem opens_k24 {W : World} : Opens Try.prog W k24 24 (fun x_ => ((Lit.int .i64 x_.f0).wf = true ∧ (Lit.int .i64 x_.f1).wf = true ∧ (x_.f2.length ≤ 9223372036854775807 ∧ ∀ x__ ∈ x_.f2, (Lit.int .u8 x__).wf = true))) := by
  intro H enc base sp held fuel cs x h
  obtain ⟨xs, n, rfl, rfl, hl, hx, hf⟩ := DataW.trod_struct Try.underlying24 h
  have hlen : cs.length = 3 := hl.trans (by kernel_rfl)
  obtain ⟨u0, t0, ht, hlen0⟩ := cons_of hlen
  obtain ⟨u1, t1, rfl, hlen1⟩ := cons_of hlen0
  obtain ⟨u2, t2, rfl, hlen2⟩ := cons_of hlen1
  obtain rfl := List.eq_nil_of_length_eq_zero hlen2
  subst ht
  obtain ⟨y0, hy0⟩ := trod_field hf hx 0 _ rfl (by kernel_rfl) u0 rfl
  obtain ⟨f0, e0, w0⟩ := (opens_int Try.underlying2) _ _ _ _ _ _ _ _ hy0
  have e0 := (List.cons.inj e0).1
  subst e0
  obtain ⟨y1, hy1⟩ := trod_field hf hx 1 _ rfl (by kernel_rfl) u1 rfl
  obtain ⟨f1, e1, w1⟩ := (opens_int Try.underlying2) _ _ _ _ _ _ _ _ hy1
  have e1 := (List.cons.inj e1).1
  subst e1
  obtain ⟨y2, hy2⟩ := trod_field hf hx 2 _ rfl (by kernel_rfl) u2 rfl
  obtain ⟨f2, ⟨A2, c2, e2, hc2, hr2⟩, w2⟩ := (opens_slice 5 Try.underlying22 (by kernel_rfl) (opens_int Try.underlying5)) _ _ _ _ _ _ _ _ hy2
  have e2 := (List.cons.inj e2).1
  subst e2
  exact ⟨⟨f0, f1, f2⟩, k24_mk W ⟨f0, f1, f2⟩ hc2 hr2, w0, w1, w2⟩
set_option maxRecDepth 100000 in
theorem opens_st39 {H : Type} {enc : TypeId × Value → H} {W : World} {base : Nat} {sp : Nat → Bool} {held : Bool} {fuel : Nat} {cs : List Value} {x : DataW H × List MemPlace} (h : DataW.trod enc Try.prog W base sp held fuel 39 cs = some x) :
    ∃ u0 u1 : Value, cs = [u0, u1] ∧ (∃ a, (Kd.int .i64).K W a [u0] ∧ (Lit.int .i64 a).wf = true) ∧ (∃ a, (Kd.slice 24 k24).K W a [u1] ∧ (a.length ≤ 9223372036854775807 ∧ ∀ x_ ∈ a, ((Lit.int .i64 x_.f0).wf = true ∧ (Lit.int .i64 x_.f1).wf = true ∧ (x_.f2.length ≤ 9223372036854775807 ∧ ∀ x__ ∈ x_.f2, (Lit.int .u8 x__).wf = true)))) := by
  obtain ⟨xs, n, rfl, rfl, hl, hx, hf⟩ := DataW.trod_struct Try.underlying39 h
  have hlen : cs.length = 2 := hl.trans (by kernel_rfl)
  obtain ⟨u0, t0, ht, hlen0⟩ := cons_of hlen
  obtain ⟨u1, t1, rfl, hlen1⟩ := cons_of hlen0
  obtain rfl := List.eq_nil_of_length_eq_zero hlen1
  subst ht
  refine ⟨u0, u1, rfl, ?_, ?_⟩
  · obtain ⟨y, hy⟩ := trod_field hf hx 0 _ rfl (by kernel_rfl) u0 rfl
    exact (opens_int Try.underlying2) _ _ _ _ _ _ _ _ hy
  · obtain ⟨y, hy⟩ := trod_field hf hx 1 _ rfl (by kernel_rfl) u1 rfl
    exact (haveI : Inhabited S24 := ⟨z24⟩; opens_slice 24 Try.underlying37 (by kernel_rfl) opens_k24) _ _ _ _ _ _ _ _ hy
set_option maxRecDepth 100000 in
theorem lifted (os : Os) (started : os.Started) (H : Type) (enc : TypeId × Value → H) :
    ReturnsInHanded {} Try.checked os 10 .any (Rows.fnExactSamePacketsSpec.pre6 enc Try.prog Try.f10 Rows.fnExactSamePacketsRow.domain false) (Rows.fnExactSamePacketsSpec.post enc Try.prog Try.f10 false true false false) := by
  refine returnsInHanded_of_change_sized (C := Try.checked) own started (by kernel_rfl) Try.func10
    (ChangeSpec.witness6 (enc := enc) (C := Try.checked) false ⟨#[], #[.agg #[.int .i64 0, .slice none 0 0], .agg #[.int .i64 0, .slice none 0 0]], []⟩ 8 (by kernel_rfl) (by kernel_rfl) (by kernel_rfl) (by kernel_rfl)) ?_
  intro W base args ds gs before hval0 hW hcnd hsz0 _
  have hval : ∀ (j : Nat) t v, Try.f10.params[j]? = some t → args[j]? = some v → Value.okWide Try.prog W .any base t v := hval0
  have hW' := hW
  obtain ⟨p, q, hA0, hV, rfl, hfz, hnd⟩ := hW
  have hA : DataW.TrodAll enc Try.prog W 0 (fun _ => true) true Try.f10.params.toList args.toList ds p := hA0
  rw [Try.params10] at hA hval
  obtain ⟨v0, vs0, d0, ds0, p0, q0, hargs, rfl, rfl, h0, r0⟩ := trodAll_cons hA
  obtain ⟨v1, vs1, d1, ds1, p1, q1, rfl, rfl, rfl, h1, r1⟩ := trodAll_cons r0
  obtain ⟨rfl, rfl, rfl⟩ := trodAll_nil r1
  obtain rfl : args = #[v0, v1] := by cases args; simp_all
  obtain ⟨rfl, rfl⟩ := trodVars_none hV
  have k0 := h0
  have lt0 : ∀ x ∈ p0, x.block < W.heap.size := by obtain ⟨m, hm⟩ := k0; exact DataW.trod_lt m _ _ _ hm
  obtain ⟨fuel0, hf0⟩ := h0
  obtain ⟨cs0, rfl, _⟩ := okWide_struct Try.underlying39 (hval 0 39 v0 rfl rfl)
  obtain ⟨u0_0, u0_1, hcs0, ⟨a0_0, e0_0, w0_0⟩, ⟨l0_1, e0_1, w0_1⟩⟩ := opens_st39 hf0
  have e0_0 := (List.cons.inj e0_0).1
  subst e0_0
  obtain ⟨A0_1, c0_1, e0_1, hc0_1, hr0_1⟩ := e0_1
  have e0_1 := (List.cons.inj e0_1).1
  subst e0_1
  have hcs0 : cs0 = #[.int .i64 a0_0, .slice A0_1 l0_1.length c0_1] := agg_of hcs0
  subst hcs0
  have k1 := h1
  have lt1 : ∀ x ∈ p1, x.block < W.heap.size := by obtain ⟨m, hm⟩ := k1; exact DataW.trod_lt m _ _ _ hm
  obtain ⟨fuel1, hf1⟩ := h1
  obtain ⟨cs1, rfl, _⟩ := okWide_struct Try.underlying39 (hval 1 39 v1 rfl rfl)
  obtain ⟨u1_0, u1_1, hcs1, ⟨a1_0, e1_0, w1_0⟩, ⟨l1_1, e1_1, w1_1⟩⟩ := opens_st39 hf1
  have e1_0 := (List.cons.inj e1_0).1
  subst e1_0
  obtain ⟨A1_1, c1_1, e1_1, hc1_1, hr1_1⟩ := e1_1
  have e1_1 := (List.cons.inj e1_1).1
  subst e1_1
  have hcs1 : cs1 = #[.int .i64 a1_0, .slice A1_1 l1_1.length c1_1] := agg_of hcs1
  subst hcs1
  clear hA0 hval0 hsz0
  refine (PFnExactSamePackets.laws_FnExactSamePackets.walk Pure.FnExactSamePackets a0_0 A0_1 c0_1 l0_1 a1_0 A1_1 c1_1 l1_1 W w0_0 w0_1 w1_0 w1_1 hr0_1 hc0_1 hr1_1 hc1_1).mono fun e W' ⟨he, bel⟩ => ?_
  subst he
  exact ⟨_, rfl, _, _, _, [], _, [], hW', trodAll_mk1 (shut_bool Try.underlying4 _), (trodAll_cons_mk (Below.trod laidOut (by kernel_rfl) (of_decide_eq_true (by kernel_rfl)) k0 bel lt0) (trodAll_cons_mk (Below.trod laidOut (by kernel_rfl) (of_decide_eq_true (by kernel_rfl)) k1 bel lt1) trodAll_mk0)), rfl, bel.frame _, fun h => by cases h⟩
theorem over : Rows.fnExactSamePacketsRow.holds Try.pinned (OpenSpec.ofChange Rows.fnExactSamePacketsSpec) :=
  OpenClaim.holds_of_wide 10 Try.f10 rfl rfl rfl rfl rfl rfl rfl ⟨rfl, rfl, rfl, rfl, rfl⟩ rfl rfl rfl rfl rfl (by kernel_rfl) Try.func10 (by kernel_rfl)
    (of_decide_eq_true (by kernel_rfl)) (by unfold Func.isWrapper; first | (rw [if_pos (by decide +kernel)]; kernel_rfl) | (rw [if_neg (by decide +kernel)]; exact ⟨rfl, rfl⟩))
    (fun os started H enc _ => lifted os started H enc)
theorem proved : Rows.FnExactSamePacketsSaid := over
#print axioms proved
end Go.Proofs.Ytglphklcfpgjbaa.fnExactSamePackets
namespace Go.Proofs.Ytglphklcfpgjbaa
/-- The row, under a short name, for the claim. -/
theorem fnExactSamePackets_holds : Rows.FnExactSamePacketsSaid := fnExactSamePackets.proved
end Go.Proofs.Ytglphklcfpgjbaa
