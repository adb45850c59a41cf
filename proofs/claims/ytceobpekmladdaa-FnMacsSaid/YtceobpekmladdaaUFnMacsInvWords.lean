/- Lemmas for the printed walks of FnMacs: of the words that the kit's printer laid for this seat, those that this law's texts name. -/
import Derived.Test.YtceobpekmladdaaUFnMacsInv
import Derived.Test.YtceobpekmladdaaUFnMacsFootNe
namespace Go.Proofs.YtceobpekmladdaaW.PrintWords
open Go.RowKit
end Go.Proofs.YtceobpekmladdaaW.PrintWords
namespace Go.Proofs.YtceobpekmladdaaW.PrintLast
section
variable {ops : Array Oper} {a : Act} {o og : Oper} {g : Nat} {t : Tmp} {u : Bool}
end
end Go.Proofs.YtceobpekmladdaaW.PrintLast
