/- The printed rows of laws over slices name a lemma of the words by a short name; here it stands under that name: a row's slice of whole numbers is no longer than its weight allows. -/
import Derived.Test.YtacfebnfdmbkaaaWSized
namespace Go.Proofs.Ytacfebnfdmbkaaa.PrintWords
open Go.ChangeShapes Go.WideShapes
theorem sized_ints {H : Type} {enc : TypeId × Value → H} {P : Program} {W : World} {base : Nat} {spare : Nat → Bool} {held : Bool} {t e : TypeId} {k : IntKind} {a : Option Addr} {len cap : Nat} {d : DataW H} {ps : List MemPlace} {ts : List TypeId} {ds : List (DataW H)} {j : Nat}
    (hsz : (DataW.weightsEach P ts ds).all (· ≤ reachBytes) = true) (ht : ts[j]? = some t) (hd : ds[j]? = some d) (hu : P.underlying t = some (.slice e)) (he : P.underlying e = some (.int k)) (hc : P.cellsOf e = 1) {B : Nat} (hB : P.bytesOf e = B)
    (h : DataW.Trod enc P W base spare held t (.slice a len cap) d ps) : len * B ≤ 140737488351232 :=
  Go.Proofs.YtacfebnfdmbkaaaW.PrintWords.sized_ints hsz ht hd hu he hc hB h
end Go.Proofs.Ytacfebnfdmbkaaa.PrintWords
