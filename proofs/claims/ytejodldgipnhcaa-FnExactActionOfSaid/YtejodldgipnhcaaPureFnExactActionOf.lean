/- The pure statement of FnExactActionOf: what the printed functions of the program and of the reference compute makes the law answer true, for all arguments (each number of its kind). -/
import Derived.Test.YtejodldgipnhcaaPFnExactActionOfx1
import Derived.Test.YtejodldgipnhcaaBase
set_option linter.unusedVariables false
set_option linter.unusedSimpArgs false
namespace Go.Proofs.Ytejodldgipnhcaa.Pure
open Go.RowKit Go.Proofs.Ytejodldgipnhcaa.PFnExactActionOf Go.Proofs.YtejodldgipnhcaaW.PrintWords Go.Proofs.YtejodldgipnhcaaW.PrintLast Go.Proofs.YtejodldgipnhcaaW.PrintMore Go.Proofs.Ytejodldgipnhcaa.Base
namespace FnExactActionOf_
theorem l1In_eq (a b c : Int) : spec_l1In.f a b c = some (inB a b c) := ge_le
theorem within_eq (a b c : Int) : impl_within.f a b c = some (inB a b c) := ge_le
theorem eqIntResult_self (a b : Int) : laws_eqIntResult.f a b a b = some true := by
  unfold laws_eqIntResult.f; rw [if_pos rfl, if_pos rfl]
def actOf (a : Int) : Int × Int := if inB a 0 255 = true then (0, wrap64 (Int.tdiv a 64)) else (3, 0)
theorem specActionOf_eq (a : Int) : spec_ActionOf.f a = some (actOf a) := by
  unfold spec_ActionOf.f actOf; rw [l1In_eq]; simp only [Option.bind_some]; split <;> rfl
theorem implActionOf_eq (a : Int) : impl_ActionOf.f a = some (actOf a) := by
  unfold impl_ActionOf.f actOf; rw [within_eq]; simp only [Option.bind_some]; split <;> rfl
theorem FnExactActionOf : laws_FnExactActionOf.Pure := by
  intro a0 _
  unfold laws_FnExactActionOf.f
  simp only [specActionOf_eq, implActionOf_eq, Option.bind_some, eqIntResult_self, if_true]
end FnExactActionOf_
theorem FnExactActionOf : laws_FnExactActionOf.Pure := FnExactActionOf_.FnExactActionOf
end Go.Proofs.Ytejodldgipnhcaa.Pure
