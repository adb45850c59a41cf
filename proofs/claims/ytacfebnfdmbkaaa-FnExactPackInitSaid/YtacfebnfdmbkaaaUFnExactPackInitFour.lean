/- Lemmas for the printed walks of FnExactPackInit: of the words that the kit's printer laid for this seat, those that this law's texts name. -/
import Derived.Test.YtacfebnfdmbkaaaUFnExactPackInitTab
namespace Go.Proofs.YtacfebnfdmbkaaaW.PrintLast
section
variable {P : Program} {ops : Array Oper} {Q : Exit → Act → World → Prop} {md : Region.Mode} {S : World → Prop} {ds : List Nat} {T : Bool × List (List Nat × List Nat)}
end
end Go.Proofs.YtacfebnfdmbkaaaW.PrintLast
