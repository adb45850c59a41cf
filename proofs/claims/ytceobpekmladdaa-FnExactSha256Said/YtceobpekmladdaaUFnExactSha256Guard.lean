/- Lemmas for the printed walks of FnExactSha256: of the words that the kit's printer laid for this seat, those that this law's texts name. -/
import Derived.Test.YtceobpekmladdaaUFnExactSha256Words
namespace Go.Proofs.YtceobpekmladdaaW.PrintWords
open Go.RowKit
section
variable {P : Program} {ops : Array Oper} {rest : List Oper} {o : Oper} {a : Act} {Q : Exit → Act → World → Prop} {W : World}
end
end Go.Proofs.YtceobpekmladdaaW.PrintWords
