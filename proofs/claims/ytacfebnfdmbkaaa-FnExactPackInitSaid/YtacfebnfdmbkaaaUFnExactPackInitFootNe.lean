/- Lemmas for the printed walks of FnExactPackInit: of the words that the kit's printer laid for this seat, those that this law's texts name. -/
import Derived.Test.YtacfebnfdmbkaaaUFnExactPackInitN
namespace Go.Proofs.YtacfebnfdmbkaaaW.PrintWords
open Go.RowKit
namespace Kd
section
variable {α : Type} {d : Kd α} {W : World} {g n : Nat} {S ok : Nat → Prop} {A : Option Addr} {ad : Addr} {xs : List α}
end
end Kd
end Go.Proofs.YtacfebnfdmbkaaaW.PrintWords
