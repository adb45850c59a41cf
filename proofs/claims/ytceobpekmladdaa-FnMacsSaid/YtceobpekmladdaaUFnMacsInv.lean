/- Lemmas for the printed walks of FnMacs: of the words that the kit's printer laid for this seat, those that this law's texts name. -/
import Derived.Test.YtceobpekmladdaaUFnMacsTab
namespace Go.Proofs.YtceobpekmladdaaW.PrintLast
section
variable {P : Program} {ops : Array Oper} {Q : Exit → Act → World → Prop} {md : Region.Mode} {T : Bool × List (List Nat × List Nat)} {B : List Nat} {O : List Nat} {b : Nat → Bool} {i j n : Nat}
end
end Go.Proofs.YtceobpekmladdaaW.PrintLast
