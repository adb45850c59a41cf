/- The pure statement of FnExactNeedsAuth: what the printed functions of the program and of the reference compute makes the law answer true, for all arguments (each number of its kind). -/
import Derived.Test.YtejodldgipnhcaaPFnExactNeedsAuthx1
import Derived.Test.YtejodldgipnhcaaBase
set_option linter.unusedVariables false
set_option linter.unusedSimpArgs false
namespace Go.Proofs.Ytejodldgipnhcaa.Pure
open Go.RowKit Go.Proofs.Ytejodldgipnhcaa.PFnExactNeedsAuth Go.Proofs.YtejodldgipnhcaaW.PrintWords Go.Proofs.YtejodldgipnhcaaW.PrintLast Go.Proofs.YtejodldgipnhcaaW.PrintMore Go.Proofs.Ytejodldgipnhcaa.Base
namespace FnExactNeedsAuth_
theorem FnExactNeedsAuth : laws_FnExactNeedsAuth.Pure := by
  intro a0 _
  unfold laws_FnExactNeedsAuth.f
  have e : impl_NeedsAuth.f a0 = spec_NeedsAuth.f a0 := rfl
  have hs : ∃ b, spec_NeedsAuth.f a0 = some b := by unfold spec_NeedsAuth.f; split <;> exact ⟨_, rfl⟩
  obtain ⟨b, hb⟩ := hs
  rw [e, hb]
  simp only [Option.bind_some, bne_self_eq_false, Bool.false_eq_true, if_false]
end FnExactNeedsAuth_
theorem FnExactNeedsAuth : laws_FnExactNeedsAuth.Pure := FnExactNeedsAuth_.FnExactNeedsAuth
end Go.Proofs.Ytejodldgipnhcaa.Pure
