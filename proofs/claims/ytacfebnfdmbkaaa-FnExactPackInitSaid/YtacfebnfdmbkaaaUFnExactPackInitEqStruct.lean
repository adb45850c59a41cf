/- Lemmas for the printed walks of FnExactPackInit: of the words that the kit's printer laid for this seat, those that this law's texts name. -/
import Derived.Test.YtacfebnfdmbkaaaUFnExactPackInitWords
import Derived.Laws.StructEq
namespace Go.Proofs.YtacfebnfdmbkaaaW.PrintWords
open Go.RowKit
section
variable {P : Program} {d : Nat} {xs ys : Array Value} {f : Field} {fs : List Field} {a b : Value} {r s : Bool} {w : World}
end
end Go.Proofs.YtacfebnfdmbkaaaW.PrintWords
