/- The pure statement of FnExactRoundWord: what the printed functions of the program and of the reference compute makes the law answer true, for all arguments (each number of its kind). -/
import Derived.Test.YtejodldgipnhcaaPFnExactRoundWordx1
import Derived.Test.YtejodldgipnhcaaBase
set_option linter.unusedVariables false
set_option linter.unusedSimpArgs false
namespace Go.Proofs.Ytejodldgipnhcaa.Pure
open Go.RowKit Go.Proofs.Ytejodldgipnhcaa.PFnExactRoundWord Go.Proofs.YtejodldgipnhcaaW.PrintWords Go.Proofs.YtejodldgipnhcaaW.PrintLast Go.Proofs.YtejodldgipnhcaaW.PrintMore Go.Proofs.Ytejodldgipnhcaa.Base
namespace FnExactRoundWord_
theorem l1In_eq (a b c : Int) : spec_l1In.f a b c = some (inB a b c) := ge_le
theorem within_eq (a b c : Int) : impl_within.f a b c = some (inB a b c) := ge_le
theorem eqIntResult_self (a b : Int) : laws_eqIntResult.f a b a b = some true := by
  unfold laws_eqIntResult.f; rw [if_pos rfl, if_pos rfl]
theorem specRoundWord_eq (a : Int) : spec_RoundWord.f a = some (if inB a 0 63 = true then (0, rd keys64 a) else (3, 0)) := by
  unfold spec_RoundWord.f
  rw [l1In_eq]; simp only [Option.bind_some]
  cases h : inB a 0 63 with
  | false => rfl
  | true =>
    obtain ⟨h0, h1⟩ := inB_true.1 h
    simp only [if_true]
    show (if 0 ≤ a then (if a < 64 then (some (0, rd keys64 a)) else (none)) else (none)) = _
    rw [if_pos h0, if_pos (by omega)]
theorem implRoundWord_eq (a : Int) : impl_RoundWord.f a = some (if inB a 0 63 = true then (0, rd keys64 a) else (3, 0)) := by
  unfold impl_RoundWord.f
  rw [within_eq]; simp only [Option.bind_some]
  cases inB a 0 63 <;> rfl
theorem FnExactRoundWord : laws_FnExactRoundWord.Pure := by
  intro a0 _
  unfold laws_FnExactRoundWord.f
  simp only [specRoundWord_eq, implRoundWord_eq, Option.bind_some, eqIntResult_self, if_true]
end FnExactRoundWord_
theorem FnExactRoundWord : laws_FnExactRoundWord.Pure := FnExactRoundWord_.FnExactRoundWord
end Go.Proofs.Ytejodldgipnhcaa.Pure
