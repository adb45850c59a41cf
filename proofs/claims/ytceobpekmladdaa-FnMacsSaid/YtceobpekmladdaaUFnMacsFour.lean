/- Lemmas for the printed walks of FnMacs: of the words that the kit's printer laid for this seat, those that this law's texts name. -/
import Derived.Test.YtceobpekmladdaaUFnMacsTab
namespace Go.Proofs.YtceobpekmladdaaW.PrintLast
section
variable {P : Program} {ops : Array Oper} {Q : Exit → Act → World → Prop} {md : Region.Mode} {S : World → Prop} {ds : List Nat} {T : Bool × List (List Nat × List Nat)}
end
end Go.Proofs.YtceobpekmladdaaW.PrintLast
