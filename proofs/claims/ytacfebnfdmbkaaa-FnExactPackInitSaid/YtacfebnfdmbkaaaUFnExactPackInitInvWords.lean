/- Lemmas for the printed walks of FnExactPackInit: of the words that the kit's printer laid for this seat, those that this law's texts name. -/
import Derived.Test.YtacfebnfdmbkaaaUFnExactPackInitInv
import Derived.Test.YtacfebnfdmbkaaaUFnExactPackInitFootNe
namespace Go.Proofs.YtacfebnfdmbkaaaW.PrintWords
open Go.RowKit
end Go.Proofs.YtacfebnfdmbkaaaW.PrintWords
namespace Go.Proofs.YtacfebnfdmbkaaaW.PrintLast
section
variable {ops : Array Oper} {a : Act} {o og : Oper} {g : Nat} {t : Tmp} {u : Bool}
end
end Go.Proofs.YtacfebnfdmbkaaaW.PrintLast
