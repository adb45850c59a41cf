-- Laid by a program of this session (wip/print): the kit's printer with changes of this session's own.
import Derived.Test.YtglphklcfpgjbaaRows
import Derived.Test.YtglphklcfpgjbaaPFnExactFindAuthx4
import Derived.Test.YtglphklcfpgjbaaPureFnExactFindAuth
import Derived.Test.YtglphklcfpgjbaaOpen
import Derived.WalkKit
import Derived.ProofKit
import Derived.OpenShut
import Derived.ShutString
import Derived.ChangeOld
import Derived.Below
import Derived.SizedLaws
namespace Go.Proofs.Ytglphklcfpgjbaa.fnExactFindAuth
open Go.ChangeShapes Go.WideShapes Go.ChangeAt Go.RowKit Go.Proofs.Ytglphklcfpgjbaa.Open Go.Proofs.YtglphklcfpgjbaaW.PrintWords
open Go.ChangeMaps (open_string shut_string)
set_option linter.unusedVariables false
theorem own : ownKnob Try.prog.godebug = none := by kernel_rfl
theorem laidOut : laidOutB Try.prog = true := by kernel_rfl
open Go.Proofs.Ytglphklcfpgjbaa.PFnExactFindAuth (k24 S24 z24 k24_mk)
set_option maxRecDepth 100000 in
theorem opens_k24 {W : World} : Opens Try.prog W k24 24 (fun x_ => ((Lit.int .i64 x_.f0).wf = true ∧ (Lit.int .i64 x_.f1).wf = true ∧ (x_.f2.length ≤ 9223372036854775807 ∧ ∀ x__ ∈ x_.f2, (Lit.int .u8 x__).wf = true))) := by
  intro H enc base sp held fuel cs x h
  obtain ⟨xs, n, rfl, rfl, hl, hx, hf⟩ := DataW.trod_struct Try.underlying24 h
  have hlen : cs.length = 3 := hl.trans (by kernel_rfl)
  obtain ⟨u0, t0, ht, hlen0⟩ := cons_of hlen
  obtain ⟨u1, t1, rfl, hlen1⟩ := cons_of hlen0
  obtain ⟨u2, t2, rfl, hlen2⟩ := cons_of hlen1
  obtain rfl := List.eq_nil_of_length_eq_zero hlen2
  subst ht
  obtain ⟨y0, hy0⟩ := trod_field hf hx 0 _ rfl (by kernel_rfl) u0 rfl
  obtain ⟨f0, e0, w0⟩ := (opens_int Try.underlying2) _ _ _ _ _ _ _ _ hy0
  have e0 := (List.cons.inj e0).1
  subst e0
  obtain ⟨y1, hy1⟩ := trod_field hf hx 1 _ rfl (by kernel_rfl) u1 rfl
  obtain ⟨f1, e1, w1⟩ := (opens_int Try.underlying2) _ _ _ _ _ _ _ _ hy1
  have e1 := (List.cons.inj e1).1
  subst e1
  obtain ⟨y2, hy2⟩ := trod_field hf hx 2 _ rfl (by kernel_rfl) u2 rfl
  obtain ⟨f2, ⟨A2, c2, e2, hc2, hr2⟩, w2⟩ := (opens_slice 5 Try.underlying22 (by kernel_rfl) (opens_int Try.underlying5)) _ _ _ _ _ _ _ _ hy2
  have e2 := (List.cons.inj e2).1
  subst e2
  exact ⟨⟨f0, f1, f2⟩, k24_mk W ⟨f0, f1, f2⟩ hc2 hr2, w0, w1, w2⟩
set_option maxRecDepth 100000 in
theorem lifted (os : Os) (started : os.Started) (H : Type) (enc : TypeId × Value → H) :
    ReturnsInHanded {} Try.checked os 11 .any (Rows.fnExactFindAuthSpec.pre6 enc Try.prog Try.f11 Rows.fnExactFindAuthRow.domain false) (Rows.fnExactFindAuthSpec.post enc Try.prog Try.f11 false true false false) := by
  refine returnsInHanded_of_change_sized (C := Try.checked) own started (by kernel_rfl) Try.func11
    (ChangeSpec.witness6 (enc := enc) (C := Try.checked) false ⟨#[], #[.slice none 0 0], []⟩ 8 (by kernel_rfl) (by kernel_rfl) (by kernel_rfl) (by kernel_rfl)) ?_
  intro W base args ds gs before hval0 hW hcnd hsz0 _
  have hval : ∀ (j : Nat) t v, Try.f11.params[j]? = some t → args[j]? = some v → Value.okWide Try.prog W .any base t v := hval0
  have hW' := hW
  obtain ⟨p, q, hA0, hV, rfl, hfz, hnd⟩ := hW
  have hA : DataW.TrodAll enc Try.prog W 0 (fun _ => true) true Try.f11.params.toList args.toList ds p := hA0
  rw [Try.params11] at hA hval
  obtain ⟨v0, vs0, d0, ds0, p0, q0, hargs, rfl, rfl, h0, r0⟩ := trodAll_cons hA
  obtain ⟨rfl, rfl, rfl⟩ := trodAll_nil r0
  obtain rfl : args = #[v0] := by cases args; simp_all
  obtain ⟨rfl, rfl⟩ := trodVars_none hV
  have k0 := h0
  have lt0 : ∀ x ∈ p0, x.block < W.heap.size := by obtain ⟨m, hm⟩ := k0; exact DataW.trod_lt m _ _ _ hm
  obtain ⟨fuel0, hf0⟩ := h0
  obtain ⟨l0, ⟨A0, c0, e0, hc0, hr0⟩, w0⟩ := (haveI : Inhabited S24 := ⟨z24⟩; opens_slice 24 Try.underlying37 (by kernel_rfl) opens_k24) _ _ _ _ _ _ _ _ hf0
  obtain ⟨b0, len0, cap0, rfl⟩ := okWide_slice Try.underlying37 (hval 0 37 v0 rfl rfl)
  have e0 := (List.cons.inj e0).1
  injection e0 with e1_0 e2_0 e3_0
  replace e1_0 := e1_0.symm
  replace e3_0 := e3_0.symm
  subst e1_0 e2_0 e3_0
  clear hA0 hval0 hsz0
  refine (PFnExactFindAuth.laws_FnExactFindAuth.walk Pure.FnExactFindAuth A0 c0 l0 W w0 hr0 hc0).mono fun e W' ⟨he, bel⟩ => ?_
  subst he
  exact ⟨_, rfl, _, _, _, [], _, [], hW', trodAll_mk1 (shut_bool Try.underlying4 _), (trodAll_cons_mk (Below.trod laidOut (by kernel_rfl) (of_decide_eq_true (by kernel_rfl)) k0 bel lt0) trodAll_mk0), rfl, bel.frame _, fun h => by cases h⟩
theorem over : Rows.fnExactFindAuthRow.holds Try.pinned (OpenSpec.ofChange Rows.fnExactFindAuthSpec) :=
  OpenClaim.holds_of_wide 11 Try.f11 rfl rfl rfl rfl rfl rfl rfl ⟨rfl, rfl, rfl, rfl, rfl⟩ rfl rfl rfl rfl rfl (by kernel_rfl) Try.func11 (by kernel_rfl)
    (of_decide_eq_true (by kernel_rfl)) (by unfold Func.isWrapper; first | (rw [if_pos (by decide +kernel)]; kernel_rfl) | (rw [if_neg (by decide +kernel)]; exact ⟨rfl, rfl⟩))
    (fun os started H enc _ => lifted os started H enc)
theorem proved : Rows.FnExactFindAuthSaid := over
#print axioms proved
end Go.Proofs.Ytglphklcfpgjbaa.fnExactFindAuth
namespace Go.Proofs.Ytglphklcfpgjbaa
/-- The row, under a short name, for the claim. -/
theorem fnExactFindAuth_holds : Rows.FnExactFindAuthSaid := fnExactFindAuth.proved
end Go.Proofs.Ytglphklcfpgjbaa
