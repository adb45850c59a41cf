-- Laid by a program of this session (wip/print): the kit's printer with changes of this session's own.
import Derived.Test.YtacfebnfdmbkaaaRows
import Derived.Test.YtacfebnfdmbkaaaPFnExactPackInitx9
import Derived.Test.YtacfebnfdmbkaaaPureFnExactPackInit
import Derived.Test.YtacfebnfdmbkaaaUFnExactPackInitOpen
import Derived.WalkKit
import Derived.ProofKit
import Derived.OpenShut
import Derived.ShutString
import Derived.ChangeOld
import Derived.Below
import Derived.SizedLaws
namespace Go.Proofs.Ytacfebnfdmbkaaa.fnExactPackInit
open Go.ChangeShapes Go.WideShapes Go.ChangeAt Go.RowKit Go.Proofs.Ytacfebnfdmbkaaa.Open Go.Proofs.YtacfebnfdmbkaaaW.PrintWords
open Go.ChangeMaps (open_string shut_string)
set_option linter.unusedVariables false
theorem own : ownKnob Try.prog.godebug = none := by kernel_rfl
theorem laidOut : laidOutB Try.prog = true := by kernel_rfl
set_option maxRecDepth 100000 in
theorem opens_st66 {H : Type} {enc : TypeId × Value → H} {W : World} {base : Nat} {sp : Nat → Bool} {held : Bool} {fuel : Nat} {cs : List Value} {x : DataW H × List MemPlace} (h : DataW.trod enc Try.prog W base sp held fuel 66 cs = some x) :
    ∃ u0 u1 u2 u3 u4 : Value, cs = [u0, u1, u2, u3, u4] ∧ (∃ a, (Kd.int .i64).K W a [u0] ∧ (Lit.int .i64 a).wf = true) ∧ (∃ a, (Kd.int .i64).K W a [u1] ∧ (Lit.int .i64 a).wf = true) ∧ (∃ a, (Kd.slice 5 (Kd.int .u8)).K W a [u2] ∧ (a.length ≤ 9223372036854775807 ∧ ∀ x_ ∈ a, (Lit.int .u8 x_).wf = true)) ∧ (∃ a, (Kd.slice 2 (Kd.int .i64)).K W a [u3] ∧ (a.length ≤ 9223372036854775807 ∧ ∀ x_ ∈ a, (Lit.int .i64 x_).wf = true)) ∧ (∃ a, (Kd.slice 5 (Kd.int .u8)).K W a [u4] ∧ (a.length ≤ 9223372036854775807 ∧ ∀ x_ ∈ a, (Lit.int .u8 x_).wf = true)) := by
  obtain ⟨xs, n, rfl, rfl, hl, hx, hf⟩ := DataW.trod_struct Try.underlying66 h
  have hlen : cs.length = 5 := hl.trans (by kernel_rfl)
  obtain ⟨u0, t0, ht, hlen0⟩ := cons_of hlen
  obtain ⟨u1, t1, rfl, hlen1⟩ := cons_of hlen0
  obtain ⟨u2, t2, rfl, hlen2⟩ := cons_of hlen1
  obtain ⟨u3, t3, rfl, hlen3⟩ := cons_of hlen2
  obtain ⟨u4, t4, rfl, hlen4⟩ := cons_of hlen3
  obtain rfl := List.eq_nil_of_length_eq_zero hlen4
  subst ht
  refine ⟨u0, u1, u2, u3, u4, rfl, ?_, ?_, ?_, ?_, ?_⟩
  · obtain ⟨y, hy⟩ := trod_field hf hx 0 _ rfl (by kernel_rfl) u0 rfl
    exact (opens_int Try.underlying2) _ _ _ _ _ _ _ _ hy
  · obtain ⟨y, hy⟩ := trod_field hf hx 1 _ rfl (by kernel_rfl) u1 rfl
    exact (opens_int Try.underlying2) _ _ _ _ _ _ _ _ hy
  · obtain ⟨y, hy⟩ := trod_field hf hx 2 _ rfl (by kernel_rfl) u2 rfl
    exact (opens_slice 5 Try.underlying23 (by kernel_rfl) (opens_int Try.underlying5)) _ _ _ _ _ _ _ _ hy
  · obtain ⟨y, hy⟩ := trod_field hf hx 3 _ rfl (by kernel_rfl) u3 rfl
    exact (opens_slice 2 Try.underlying61 (by kernel_rfl) (opens_int Try.underlying2)) _ _ _ _ _ _ _ _ hy
  · obtain ⟨y, hy⟩ := trod_field hf hx 4 _ rfl (by kernel_rfl) u4 rfl
    exact (opens_slice 5 Try.underlying23 (by kernel_rfl) (opens_int Try.underlying5)) _ _ _ _ _ _ _ _ hy
set_option maxRecDepth 100000 in
theorem lifted (os : Os) (started : os.Started) (H : Type) (enc : TypeId × Value → H) :
    ReturnsInHanded {} Try.checked os 10 .any (Rows.fnExactPackInitSpec.pre6 enc Try.prog Try.f10 Rows.fnExactPackInitRow.domain false) (Rows.fnExactPackInitSpec.post enc Try.prog Try.f10 false true false false) := by
  refine returnsInHanded_of_change_sized (C := Try.checked) own started (by kernel_rfl) Try.func10
    (ChangeSpec.witness6 (enc := enc) (C := Try.checked) false ⟨#[], #[.agg #[.int .i64 0, .int .i64 0, .slice none 0 0, .slice none 0 0, .slice none 0 0], .int .i64 0], []⟩ 8 (by kernel_rfl) (by kernel_rfl) (by kernel_rfl) (by kernel_rfl)) ?_
  intro W base args ds gs before hval0 hW hcnd hsz0 _
  have hval : ∀ (j : Nat) t v, Try.f10.params[j]? = some t → args[j]? = some v → Value.okWide Try.prog W .any base t v := hval0
  have hW' := hW
  obtain ⟨p, q, hA0, hV, rfl, hfz, hnd⟩ := hW
  have hA : DataW.TrodAll enc Try.prog W 0 (fun _ => true) true Try.f10.params.toList args.toList ds p := hA0
  rw [Try.params10] at hA hval
  obtain ⟨v0, vs0, d0, ds0, p0, q0, hargs, rfl, rfl, h0, r0⟩ := trodAll_cons hA
  obtain ⟨v1, vs1, d1, ds1, p1, q1, rfl, rfl, rfl, h1, r1⟩ := trodAll_cons r0
  obtain ⟨rfl, rfl, rfl⟩ := trodAll_nil r1
  obtain rfl : args = #[v0, v1] := by cases args; simp_all
  obtain ⟨rfl, rfl⟩ := trodVars_none hV
  have k0 := h0
  have lt0 : ∀ x ∈ p0, x.block < W.heap.size := by obtain ⟨m, hm⟩ := k0; exact DataW.trod_lt m _ _ _ hm
  obtain ⟨fuel0, hf0⟩ := h0
  obtain ⟨cs0, rfl, _⟩ := okWide_struct Try.underlying66 (hval 0 66 v0 rfl rfl)
  obtain ⟨u0_0, u0_1, u0_2, u0_3, u0_4, hcs0, ⟨a0_0, e0_0, w0_0⟩, ⟨a0_1, e0_1, w0_1⟩, ⟨l0_2, e0_2, w0_2⟩, ⟨l0_3, e0_3, w0_3⟩, ⟨l0_4, e0_4, w0_4⟩⟩ := opens_st66 hf0
  have e0_0 := (List.cons.inj e0_0).1
  subst e0_0
  have e0_1 := (List.cons.inj e0_1).1
  subst e0_1
  obtain ⟨A0_2, c0_2, e0_2, hc0_2, hr0_2⟩ := e0_2
  have e0_2 := (List.cons.inj e0_2).1
  subst e0_2
  obtain ⟨A0_3, c0_3, e0_3, hc0_3, hr0_3⟩ := e0_3
  have e0_3 := (List.cons.inj e0_3).1
  subst e0_3
  obtain ⟨A0_4, c0_4, e0_4, hc0_4, hr0_4⟩ := e0_4
  have e0_4 := (List.cons.inj e0_4).1
  subst e0_4
  have hcs0 : cs0 = #[.int .i64 a0_0, .int .i64 a0_1, .slice A0_2 l0_2.length c0_2, .slice A0_3 l0_3.length c0_3, .slice A0_4 l0_4.length c0_4] := agg_of hcs0
  subst hcs0
  obtain ⟨a1, rfl, rfl, rfl, w1⟩ := open_int Try.underlying2 (hval 1 2 v1 rfl rfl) h1
  clear hA0 hval0 hsz0
  refine (PFnExactPackInit.laws_FnExactPackInit.walk Pure.FnExactPackInit a0_0 a0_1 A0_2 c0_2 l0_2 A0_3 c0_3 l0_3 A0_4 c0_4 l0_4 a1 W w0_0 w0_1 w0_2 w0_3 w0_4 w1 hr0_2 hc0_2 hr0_3 hc0_3 hr0_4 hc0_4).mono fun e W' ⟨he, bel⟩ => ?_
  subst he
  exact ⟨_, rfl, _, _, _, [], _, [], hW', trodAll_mk1 (shut_bool Try.underlying4 _), (trodAll_cons_mk (Below.trod laidOut (by kernel_rfl) (of_decide_eq_true (by kernel_rfl)) k0 bel lt0) (trodAll_cons_mk (shut_int Try.underlying2 w1) trodAll_mk0)), rfl, bel.frame _, fun h => by cases h⟩
theorem over : Rows.fnExactPackInitRow.holds Try.pinned (OpenSpec.ofChange Rows.fnExactPackInitSpec) :=
  OpenClaim.holds_of_wide 10 Try.f10 rfl rfl rfl rfl rfl rfl rfl ⟨rfl, rfl, rfl, rfl, rfl⟩ rfl rfl rfl rfl rfl (by kernel_rfl) Try.func10 (by kernel_rfl)
    (of_decide_eq_true (by kernel_rfl)) (by unfold Func.isWrapper; first | (rw [if_pos (by decide +kernel)]; kernel_rfl) | (rw [if_neg (by decide +kernel)]; exact ⟨rfl, rfl⟩))
    (fun os started H enc _ => lifted os started H enc)
theorem proved : Rows.FnExactPackInitSaid := over
#print axioms proved
end Go.Proofs.Ytacfebnfdmbkaaa.fnExactPackInit
namespace Go.Proofs.Ytacfebnfdmbkaaa
/-- The row, under a short name, for the claim. -/
theorem fnExactPackInit_holds : Rows.FnExactPackInitSaid := fnExactPackInit.proved
end Go.Proofs.Ytacfebnfdmbkaaa
