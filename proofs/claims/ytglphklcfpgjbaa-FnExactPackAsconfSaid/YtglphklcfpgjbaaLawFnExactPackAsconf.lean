-- Laid by a program of this session (wip/print): the kit's printer with changes of this session's own.
import Derived.Test.YtglphklcfpgjbaaRows
import Derived.Test.YtglphklcfpgjbaaPFnExactPackAsconfx6
import Derived.Test.YtglphklcfpgjbaaPureFnExactPackAsconf
import Derived.Test.YtglphklcfpgjbaaOpen
import Derived.WalkKit
import Derived.ProofKit
import Derived.OpenShut
import Derived.ShutString
import Derived.ChangeOld
import Derived.Below
import Derived.SizedLaws
namespace Go.Proofs.Ytglphklcfpgjbaa.fnExactPackAsconf
open Go.ChangeShapes Go.WideShapes Go.ChangeAt Go.RowKit Go.Proofs.Ytglphklcfpgjbaa.Open Go.Proofs.YtglphklcfpgjbaaW.PrintWords
open Go.ChangeMaps (open_string shut_string)
set_option linter.unusedVariables false
theorem own : ownKnob Try.prog.godebug = none := by kernel_rfl
theorem laidOut : laidOutB Try.prog = true := by kernel_rfl
open Go.Proofs.Ytglphklcfpgjbaa.PFnExactPackAsconf (k167 S167 z167 k167_mk)
set_option maxRecDepth 100000 in
theorem opens_k167 {W : World} : Opens Try.prog W k167 167 (fun x_ => ((Lit.int .i64 x_.f0).wf = true ∧ (Lit.int .i64 x_.f1).wf = true)) := by
  intro H enc base sp held fuel cs x h
  obtain ⟨xs, n, rfl, rfl, hl, hx, hf⟩ := DataW.trod_struct Try.underlying167 h
  have hlen : cs.length = 2 := hl.trans (by kernel_rfl)
  obtain ⟨u0, t0, ht, hlen0⟩ := cons_of hlen
  obtain ⟨u1, t1, rfl, hlen1⟩ := cons_of hlen0
  obtain rfl := List.eq_nil_of_length_eq_zero hlen1
  subst ht
  obtain ⟨y0, hy0⟩ := trod_field hf hx 0 _ rfl (by kernel_rfl) u0 rfl
  obtain ⟨f0, e0, w0⟩ := (opens_int Try.underlying2) _ _ _ _ _ _ _ _ hy0
  have e0 := (List.cons.inj e0).1
  subst e0
  obtain ⟨y1, hy1⟩ := trod_field hf hx 1 _ rfl (by kernel_rfl) u1 rfl
  obtain ⟨f1, e1, w1⟩ := (opens_int Try.underlying2) _ _ _ _ _ _ _ _ hy1
  have e1 := (List.cons.inj e1).1
  subst e1
  exact ⟨⟨f0, f1⟩, k167_mk W ⟨f0, f1⟩ , w0, w1⟩
set_option maxRecDepth 100000 in
theorem opens_st101 {H : Type} {enc : TypeId × Value → H} {W : World} {base : Nat} {sp : Nat → Bool} {held : Bool} {fuel : Nat} {cs : List Value} {x : DataW H × List MemPlace} (h : DataW.trod enc Try.prog W base sp held fuel 101 cs = some x) :
    ∃ u0 u1 : Value, cs = [u0, u1] ∧ (∃ a, (Kd.int .i64).K W a [u0] ∧ (Lit.int .i64 a).wf = true) ∧ (∃ a, (Kd.slice 167 k167).K W a [u1] ∧ (a.length ≤ 9223372036854775807 ∧ ∀ x_ ∈ a, ((Lit.int .i64 x_.f0).wf = true ∧ (Lit.int .i64 x_.f1).wf = true))) := by
  obtain ⟨xs, n, rfl, rfl, hl, hx, hf⟩ := DataW.trod_struct Try.underlying101 h
  have hlen : cs.length = 2 := hl.trans (by kernel_rfl)
  obtain ⟨u0, t0, ht, hlen0⟩ := cons_of hlen
  obtain ⟨u1, t1, rfl, hlen1⟩ := cons_of hlen0
  obtain rfl := List.eq_nil_of_length_eq_zero hlen1
  subst ht
  refine ⟨u0, u1, rfl, ?_, ?_⟩
  · obtain ⟨y, hy⟩ := trod_field hf hx 0 _ rfl (by kernel_rfl) u0 rfl
    exact (opens_int Try.underlying2) _ _ _ _ _ _ _ _ hy
  · obtain ⟨y, hy⟩ := trod_field hf hx 1 _ rfl (by kernel_rfl) u1 rfl
    exact (haveI : Inhabited S167 := ⟨z167⟩; opens_slice 167 Try.underlying99 (by kernel_rfl) opens_k167) _ _ _ _ _ _ _ _ hy
set_option maxRecDepth 100000 in
theorem lifted (os : Os) (started : os.Started) (H : Type) (enc : TypeId × Value → H) :
    ReturnsInHanded {} Try.checked os 14 .any (Rows.fnExactPackAsconfSpec.pre6 enc Try.prog Try.f14 Rows.fnExactPackAsconfRow.domain false) (Rows.fnExactPackAsconfSpec.post enc Try.prog Try.f14 false true false false) := by
  refine returnsInHanded_of_change_sized (C := Try.checked) own started (by kernel_rfl) Try.func14
    (ChangeSpec.witness6 (enc := enc) (C := Try.checked) false ⟨#[], #[.agg #[.int .i64 0, .slice none 0 0]], []⟩ 8 (by kernel_rfl) (by kernel_rfl) (by kernel_rfl) (by kernel_rfl)) ?_
  intro W base args ds gs before hval0 hW hcnd hsz0 _
  have hval : ∀ (j : Nat) t v, Try.f14.params[j]? = some t → args[j]? = some v → Value.okWide Try.prog W .any base t v := hval0
  have hW' := hW
  obtain ⟨p, q, hA0, hV, rfl, hfz, hnd⟩ := hW
  have hA : DataW.TrodAll enc Try.prog W 0 (fun _ => true) true Try.f14.params.toList args.toList ds p := hA0
  rw [Try.params14] at hA hval
  obtain ⟨v0, vs0, d0, ds0, p0, q0, hargs, rfl, rfl, h0, r0⟩ := trodAll_cons hA
  obtain ⟨rfl, rfl, rfl⟩ := trodAll_nil r0
  obtain rfl : args = #[v0] := by cases args; simp_all
  obtain ⟨rfl, rfl⟩ := trodVars_none hV
  have k0 := h0
  have lt0 : ∀ x ∈ p0, x.block < W.heap.size := by obtain ⟨m, hm⟩ := k0; exact DataW.trod_lt m _ _ _ hm
  obtain ⟨fuel0, hf0⟩ := h0
  obtain ⟨cs0, rfl, _⟩ := okWide_struct Try.underlying101 (hval 0 101 v0 rfl rfl)
  obtain ⟨u0_0, u0_1, hcs0, ⟨a0_0, e0_0, w0_0⟩, ⟨l0_1, e0_1, w0_1⟩⟩ := opens_st101 hf0
  have e0_0 := (List.cons.inj e0_0).1
  subst e0_0
  obtain ⟨A0_1, c0_1, e0_1, hc0_1, hr0_1⟩ := e0_1
  have e0_1 := (List.cons.inj e0_1).1
  subst e0_1
  have hcs0 : cs0 = #[.int .i64 a0_0, .slice A0_1 l0_1.length c0_1] := agg_of hcs0
  subst hcs0
  clear hA0 hval0 hsz0
  refine (PFnExactPackAsconf.laws_FnExactPackAsconf.walk Pure.FnExactPackAsconf a0_0 A0_1 c0_1 l0_1 W w0_0 w0_1 hr0_1 hc0_1).mono fun e W' ⟨he, bel⟩ => ?_
  subst he
  exact ⟨_, rfl, _, _, _, [], _, [], hW', trodAll_mk1 (shut_bool Try.underlying4 _), (trodAll_cons_mk (Below.trod laidOut (by kernel_rfl) (of_decide_eq_true (by kernel_rfl)) k0 bel lt0) trodAll_mk0), rfl, bel.frame _, fun h => by cases h⟩
theorem over : Rows.fnExactPackAsconfRow.holds Try.pinned (OpenSpec.ofChange Rows.fnExactPackAsconfSpec) :=
  OpenClaim.holds_of_wide 14 Try.f14 rfl rfl rfl rfl rfl rfl rfl ⟨rfl, rfl, rfl, rfl, rfl⟩ rfl rfl rfl rfl rfl (by kernel_rfl) Try.func14 (by kernel_rfl)
    (of_decide_eq_true (by kernel_rfl)) (by unfold Func.isWrapper; first | (rw [if_pos (by decide +kernel)]; kernel_rfl) | (rw [if_neg (by decide +kernel)]; exact ⟨rfl, rfl⟩))
    (fun os started H enc _ => lifted os started H enc)
theorem proved : Rows.FnExactPackAsconfSaid := over
#print axioms proved
end Go.Proofs.Ytglphklcfpgjbaa.fnExactPackAsconf
namespace Go.Proofs.Ytglphklcfpgjbaa
/-- The row, under a short name, for the claim. -/
theorem fnExactPackAsconf_holds : Rows.FnExactPackAsconfSaid := fnExactPackAsconf.proved
end Go.Proofs.Ytglphklcfpgjbaa
