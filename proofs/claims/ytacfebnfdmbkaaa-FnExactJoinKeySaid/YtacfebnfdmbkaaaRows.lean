/-
  No cell of these rows narrows 'for every input' (looked for: loops, veiled, ifaces, maps, wideKeys, modest, calm, conditions, laid).
  DERIVED. THE GIVEN ROWS OF THIS SEAT. 12 by the template 'for every input the law returns true; each argument reads behind the call as it read before'; 0 by the template 'total and deterministic' (their statements: YtacfebnfdmbkaaaTotals.lean).
  GIVEN WITH THE SEED: the statements are not yours to turn. If you find one false, say at which input.
  Laid BY PROGRAM, IN A SANDBOX (cutbox-rows.mjs): the forced cells as the released guide's own fill.sh prints them over the translation b4c29d9d1e02373a… (all of the seat's roots in one cut). By AI agents, Wed Nov 11 2026. No macro, syntax, notation, axiom, sorry.
-/
import Derived.Test.YtacfebnfdmbkaaaChecked
import GoSem.Claim
import GoSem.ClaimJoined
import GoSem.ClaimMapViews
import Derived.JoinedTies
import Derived.KernelRfl
namespace Go.Proofs.Ytacfebnfdmbkaaa
/- THE CELL 'sum', in the pinned program and in every row, IS THE sha256 OF THE DUMP (.gsa) THAT YtacfebnfdmbkaaaProg.lean LOADS. Nothing in Lean hashes anything: it is a label: what it is worth is what the hold of that sum in a sandbox is worth. -/
noncomputable def Try.pinned : Pinned := { name := "ytacfebnfdmbkaaa", sum := "b4c29d9d1e02373aa14c5ea8a1a2ed67bc4100075ff1eec8d9360daf0a35e39c", checked := Try.checked }
namespace Rows
def none {H : Type} : Left H := { results := [], args := [] }

/-- 'laws.FnExactPutSecret': WHATEVER THE INPUT: true; the input reads as it did. -/
def fnExactPutSecretSpec : ChangeSpec := { name := "fnExactPutSecret", fn := fun _ => fun
  | [d1, d2] => { results := [.lit (.bool true)], args := [d1, d2] }
  | _ => none }
def fnExactPutSecretRow : OpenClaim := { program := "ytacfebnfdmbkaaa", sum := "b4c29d9d1e02373aa14c5ea8a1a2ed67bc4100075ff1eec8d9360daf0a35e39c", func := "loop.example/g00670/laws.FnExactPutSecret", spec := "fnExactPutSecret", unfollowed := true, recurses := true, apart := false }
def FnExactPutSecretSaid : Prop := fnExactPutSecretRow.holds Try.pinned (OpenSpec.ofChange fnExactPutSecretSpec)

/-- ITS FALSE NEIGHBOUR: 'it returns false'. Refute it at one input. -/
def fnExactPutSecretWrong : ChangeSpec := { name := "fnExactPutSecret", fn := fun _ => fun
  | [d1, d2] => { results := [.lit (.bool false)], args := [d1, d2] }
  | _ => none }
def FnExactPutSecretWrongFalsely : Prop := fnExactPutSecretRow.holds Try.pinned (OpenSpec.ofChange fnExactPutSecretWrong)

/-- 'laws.FnExactJoinKey': WHATEVER THE INPUT: true; the input reads as it did. -/
def fnExactJoinKeySpec : ChangeSpec := { name := "fnExactJoinKey", fn := fun _ => fun
  | [d1, d2, d3] => { results := [.lit (.bool true)], args := [d1, d2, d3] }
  | _ => none }
def fnExactJoinKeyRow : OpenClaim := { program := "ytacfebnfdmbkaaa", sum := "b4c29d9d1e02373aa14c5ea8a1a2ed67bc4100075ff1eec8d9360daf0a35e39c", func := "loop.example/g00670/laws.FnExactJoinKey", spec := "fnExactJoinKey", inPlace := ["internal/bytealg.Compare"], apart := false }
def FnExactJoinKeySaid : Prop := fnExactJoinKeyRow.holds Try.pinned (OpenSpec.ofChange fnExactJoinKeySpec)

/-- ITS FALSE NEIGHBOUR: 'it returns false'. Refute it at one input. -/
def fnExactJoinKeyWrong : ChangeSpec := { name := "fnExactJoinKey", fn := fun _ => fun
  | [d1, d2, d3] => { results := [.lit (.bool false)], args := [d1, d2, d3] }
  | _ => none }
def FnExactJoinKeyWrongFalsely : Prop := fnExactJoinKeyRow.holds Try.pinned (OpenSpec.ofChange fnExactJoinKeyWrong)

/-- 'laws.FnExactSameSecrets': WHATEVER THE INPUT: true; the input reads as it did. -/
def fnExactSameSecretsSpec : ChangeSpec := { name := "fnExactSameSecrets", fn := fun _ => fun
  | [d1, d2] => { results := [.lit (.bool true)], args := [d1, d2] }
  | _ => none }
def fnExactSameSecretsRow : OpenClaim := { program := "ytacfebnfdmbkaaa", sum := "b4c29d9d1e02373aa14c5ea8a1a2ed67bc4100075ff1eec8d9360daf0a35e39c", func := "loop.example/g00670/laws.FnExactSameSecrets", spec := "fnExactSameSecrets", unfollowed := true, recurses := true, apart := false }
def FnExactSameSecretsSaid : Prop := fnExactSameSecretsRow.holds Try.pinned (OpenSpec.ofChange fnExactSameSecretsSpec)

/-- ITS FALSE NEIGHBOUR: 'it returns false'. Refute it at one input. -/
def fnExactSameSecretsWrong : ChangeSpec := { name := "fnExactSameSecrets", fn := fun _ => fun
  | [d1, d2] => { results := [.lit (.bool false)], args := [d1, d2] }
  | _ => none }
def FnExactSameSecretsWrongFalsely : Prop := fnExactSameSecretsRow.holds Try.pinned (OpenSpec.ofChange fnExactSameSecretsWrong)

/-- 'laws.FnExactSecretsFault': WHATEVER THE INPUT: true; the input reads as it did. -/
def fnExactSecretsFaultSpec : ChangeSpec := { name := "fnExactSecretsFault", fn := fun _ => fun
  | [d] => { results := [.lit (.bool true)], args := [d] }
  | _ => none }
def fnExactSecretsFaultRow : OpenClaim := { program := "ytacfebnfdmbkaaa", sum := "b4c29d9d1e02373aa14c5ea8a1a2ed67bc4100075ff1eec8d9360daf0a35e39c", func := "loop.example/g00670/laws.FnExactSecretsFault", spec := "fnExactSecretsFault", apart := false }
def FnExactSecretsFaultSaid : Prop := fnExactSecretsFaultRow.holds Try.pinned (OpenSpec.ofChange fnExactSecretsFaultSpec)

/-- ITS FALSE NEIGHBOUR: 'it returns false'. Refute it at one input. -/
def fnExactSecretsFaultWrong : ChangeSpec := { name := "fnExactSecretsFault", fn := fun _ => fun
  | [d] => { results := [.lit (.bool false)], args := [d] }
  | _ => none }
def FnExactSecretsFaultWrongFalsely : Prop := fnExactSecretsFaultRow.holds Try.pinned (OpenSpec.ofChange fnExactSecretsFaultWrong)

/-- 'laws.FnExactKeyOf': WHATEVER THE INPUT: true; the input reads as it did. -/
def fnExactKeyOfSpec : ChangeSpec := { name := "fnExactKeyOf", fn := fun _ => fun
  | [d1, d2, d3, d4] => { results := [.lit (.bool true)], args := [d1, d2, d3, d4] }
  | _ => none }
def fnExactKeyOfRow : OpenClaim := { program := "ytacfebnfdmbkaaa", sum := "b4c29d9d1e02373aa14c5ea8a1a2ed67bc4100075ff1eec8d9360daf0a35e39c", func := "loop.example/g00670/laws.FnExactKeyOf", spec := "fnExactKeyOf", inPlace := ["internal/bytealg.Compare"], unfollowed := true, recurses := true, apart := false }
def FnExactKeyOfSaid : Prop := fnExactKeyOfRow.holds Try.pinned (OpenSpec.ofChange fnExactKeyOfSpec)

/-- ITS FALSE NEIGHBOUR: 'it returns false'. Refute it at one input. -/
def fnExactKeyOfWrong : ChangeSpec := { name := "fnExactKeyOf", fn := fun _ => fun
  | [d1, d2, d3, d4] => { results := [.lit (.bool false)], args := [d1, d2, d3, d4] }
  | _ => none }
def FnExactKeyOfWrongFalsely : Prop := fnExactKeyOfRow.holds Try.pinned (OpenSpec.ofChange fnExactKeyOfWrong)

/-- 'laws.FnKeys': WHATEVER THE INPUT: true; the input reads as it did. -/
def fnKeysSpec : ChangeSpec := { name := "fnKeys", fn := fun _ => fun
  | [d] => { results := [.lit (.bool true)], args := [d] }
  | _ => none }
def fnKeysRow : OpenClaim := { program := "ytacfebnfdmbkaaa", sum := "b4c29d9d1e02373aa14c5ea8a1a2ed67bc4100075ff1eec8d9360daf0a35e39c", func := "loop.example/g00670/laws.FnKeys", spec := "fnKeys", inPlace := ["internal/bytealg.Compare"], unfollowed := true, recurses := true, apart := false }
def FnKeysSaid : Prop := fnKeysRow.holds Try.pinned (OpenSpec.ofChange fnKeysSpec)

/-- ITS FALSE NEIGHBOUR: 'it returns false'. Refute it at one input. -/
def fnKeysWrong : ChangeSpec := { name := "fnKeys", fn := fun _ => fun
  | [d] => { results := [.lit (.bool false)], args := [d] }
  | _ => none }
def FnKeysWrongFalsely : Prop := fnKeysRow.holds Try.pinned (OpenSpec.ofChange fnKeysWrong)

/-- 'laws.FnExactVectorOf': WHATEVER THE INPUT: true; the input reads as it did. -/
def fnExactVectorOfSpec : ChangeSpec := { name := "fnExactVectorOf", fn := fun _ => fun
  | [d] => { results := [.lit (.bool true)], args := [d] }
  | _ => none }
def fnExactVectorOfRow : OpenClaim := { program := "ytacfebnfdmbkaaa", sum := "b4c29d9d1e02373aa14c5ea8a1a2ed67bc4100075ff1eec8d9360daf0a35e39c", func := "loop.example/g00670/laws.FnExactVectorOf", spec := "fnExactVectorOf", apart := false }
def FnExactVectorOfSaid : Prop := fnExactVectorOfRow.holds Try.pinned (OpenSpec.ofChange fnExactVectorOfSpec)

/-- ITS FALSE NEIGHBOUR: 'it returns false'. Refute it at one input. -/
def fnExactVectorOfWrong : ChangeSpec := { name := "fnExactVectorOf", fn := fun _ => fun
  | [d] => { results := [.lit (.bool false)], args := [d] }
  | _ => none }
def FnExactVectorOfWrongFalsely : Prop := fnExactVectorOfRow.holds Try.pinned (OpenSpec.ofChange fnExactVectorOfWrong)

/-- 'laws.FnExactPackInit': WHATEVER THE INPUT: true; the input reads as it did. -/
def fnExactPackInitSpec : ChangeSpec := { name := "fnExactPackInit", fn := fun _ => fun
  | [d1, d2] => { results := [.lit (.bool true)], args := [d1, d2] }
  | _ => none }
def fnExactPackInitRow : OpenClaim := { program := "ytacfebnfdmbkaaa", sum := "b4c29d9d1e02373aa14c5ea8a1a2ed67bc4100075ff1eec8d9360daf0a35e39c", func := "loop.example/g00670/laws.FnExactPackInit", spec := "fnExactPackInit", apart := false }
def FnExactPackInitSaid : Prop := fnExactPackInitRow.holds Try.pinned (OpenSpec.ofChange fnExactPackInitSpec)

/-- ITS FALSE NEIGHBOUR: 'it returns false'. Refute it at one input. -/
def fnExactPackInitWrong : ChangeSpec := { name := "fnExactPackInit", fn := fun _ => fun
  | [d1, d2] => { results := [.lit (.bool false)], args := [d1, d2] }
  | _ => none }
def FnExactPackInitWrongFalsely : Prop := fnExactPackInitRow.holds Try.pinned (OpenSpec.ofChange fnExactPackInitWrong)

/-- 'laws.FnExactPackSack': WHATEVER THE INPUT: true; the input reads as it did. -/
def fnExactPackSackSpec : ChangeSpec := { name := "fnExactPackSack", fn := fun _ => fun
  | [d] => { results := [.lit (.bool true)], args := [d] }
  | _ => none }
def fnExactPackSackRow : OpenClaim := { program := "ytacfebnfdmbkaaa", sum := "b4c29d9d1e02373aa14c5ea8a1a2ed67bc4100075ff1eec8d9360daf0a35e39c", func := "loop.example/g00670/laws.FnExactPackSack", spec := "fnExactPackSack", apart := false }
def FnExactPackSackSaid : Prop := fnExactPackSackRow.holds Try.pinned (OpenSpec.ofChange fnExactPackSackSpec)

/-- ITS FALSE NEIGHBOUR: 'it returns false'. Refute it at one input. -/
def fnExactPackSackWrong : ChangeSpec := { name := "fnExactPackSack", fn := fun _ => fun
  | [d] => { results := [.lit (.bool false)], args := [d] }
  | _ => none }
def FnExactPackSackWrongFalsely : Prop := fnExactPackSackRow.holds Try.pinned (OpenSpec.ofChange fnExactPackSackWrong)

/-- 'laws.FnSerials': WHATEVER THE INPUT: true; the input reads as it did. -/
def fnSerialsSpec : ChangeSpec := { name := "fnSerials", fn := fun _ => fun
  | [d] => { results := [.lit (.bool true)], args := [d] }
  | _ => none }
def fnSerialsRow : OpenClaim := { program := "ytacfebnfdmbkaaa", sum := "b4c29d9d1e02373aa14c5ea8a1a2ed67bc4100075ff1eec8d9360daf0a35e39c", func := "loop.example/g00670/laws.FnSerials", spec := "fnSerials", apart := false }
def FnSerialsSaid : Prop := fnSerialsRow.holds Try.pinned (OpenSpec.ofChange fnSerialsSpec)

/-- ITS FALSE NEIGHBOUR: 'it returns false'. Refute it at one input. -/
def fnSerialsWrong : ChangeSpec := { name := "fnSerials", fn := fun _ => fun
  | [d] => { results := [.lit (.bool false)], args := [d] }
  | _ => none }
def FnSerialsWrongFalsely : Prop := fnSerialsRow.holds Try.pinned (OpenSpec.ofChange fnSerialsWrong)

/-- 'laws.FnWords': WHATEVER THE INPUT: true; the input reads as it did. -/
def fnWordsSpec : ChangeSpec := { name := "fnWords", fn := fun _ => fun
  | [d] => { results := [.lit (.bool true)], args := [d] }
  | _ => none }
def fnWordsRow : OpenClaim := { program := "ytacfebnfdmbkaaa", sum := "b4c29d9d1e02373aa14c5ea8a1a2ed67bc4100075ff1eec8d9360daf0a35e39c", func := "loop.example/g00670/laws.FnWords", spec := "fnWords", apart := false }
def FnWordsSaid : Prop := fnWordsRow.holds Try.pinned (OpenSpec.ofChange fnWordsSpec)

/-- ITS FALSE NEIGHBOUR: 'it returns false'. Refute it at one input. -/
def fnWordsWrong : ChangeSpec := { name := "fnWords", fn := fun _ => fun
  | [d] => { results := [.lit (.bool false)], args := [d] }
  | _ => none }
def FnWordsWrongFalsely : Prop := fnWordsRow.holds Try.pinned (OpenSpec.ofChange fnWordsWrong)

/-- 'laws.FnCrcs': WHATEVER THE INPUT: true; the input reads as it did. -/
def fnCrcsSpec : ChangeSpec := { name := "fnCrcs", fn := fun _ => fun
  | [d] => { results := [.lit (.bool true)], args := [d] }
  | _ => none }
def fnCrcsRow : OpenClaim := { program := "ytacfebnfdmbkaaa", sum := "b4c29d9d1e02373aa14c5ea8a1a2ed67bc4100075ff1eec8d9360daf0a35e39c", func := "loop.example/g00670/laws.FnCrcs", spec := "fnCrcs", apart := false }
def FnCrcsSaid : Prop := fnCrcsRow.holds Try.pinned (OpenSpec.ofChange fnCrcsSpec)

/-- ITS FALSE NEIGHBOUR: 'it returns false'. Refute it at one input. -/
def fnCrcsWrong : ChangeSpec := { name := "fnCrcs", fn := fun _ => fun
  | [d] => { results := [.lit (.bool false)], args := [d] }
  | _ => none }
def FnCrcsWrongFalsely : Prop := fnCrcsRow.holds Try.pinned (OpenSpec.ofChange fnCrcsWrong)

/- THE SECOND FORM. 'bulk': how many values and letters a reading holds, each counted each time it is reached (what is shared counts as often as it is met; a slice's spare places count too). A statement '..UptoSaid' is the law's where the arguments, and the package variables that the reading takes, are together of bulk at most 1048576: NARROWER than '..Said'. Prove '..Said' where nothing that the law and all that it calls make is longer than what came in: it says more and counts as full. Else prove '..UptoSaid'. A law counts once. -/
mutual
def uptoBulk {H : Type} : DataW H → Nat
  | .lit (.string bytes) => bytes.length + 1
  | .lit _ => 1
  | .nil => 1
  | .ptr d => uptoBulk d + 1
  | .slice elems spare => uptoBulkAll elems + uptoBulkAll spare + 1
  | .agg parts => uptoBulkAll parts + 1
  | .iface _ d => uptoBulk d + 1
  | .map entries => uptoBulkEntries entries + 1
  | .held _ => 1
def uptoBulkAll {H : Type} : List (DataW H) → Nat
  | [] => 0
  | d :: r => uptoBulk d + uptoBulkAll r
def uptoBulkEntries {H : Type} : List (Lit × DataW H) → Nat
  | [] => 0
  | x :: r => uptoBulkEntry x + uptoBulkEntries r
def uptoBulkEntry {H : Type} : Lit × DataW H → Nat
  | (.string bytes, d) => bytes.length + uptoBulk d + 1
  | (_, d) => uptoBulk d + 1
 end
def uptoSmall : (H : Type) → List (DataW H) → Bool := fun _ ds => decide (uptoBulkAll ds ≤ 1048576)
def OpenSpec.upto (s : _root_.Go.ChangeSpec) : _root_.Go.OpenSpec := { _root_.Go.OpenSpec.ofChange s with cond := some uptoSmall }

/-- 'laws.FnExactPutSecret', WHERE WHAT IT READS IS OF BULK AT MOST 1048576: true; the input reads as it did. -/
def fnExactPutSecretUptoRow : OpenClaim := { program := "ytacfebnfdmbkaaa", sum := "b4c29d9d1e02373aa14c5ea8a1a2ed67bc4100075ff1eec8d9360daf0a35e39c", func := "loop.example/g00670/laws.FnExactPutSecret", spec := "fnExactPutSecret", unfollowed := true, recurses := true, apart := false, narrowed := true }
def FnExactPutSecretUptoSaid : Prop := fnExactPutSecretUptoRow.holds Try.pinned (OpenSpec.upto fnExactPutSecretSpec)

/-- 'laws.FnExactJoinKey', WHERE WHAT IT READS IS OF BULK AT MOST 1048576: true; the input reads as it did. -/
def fnExactJoinKeyUptoRow : OpenClaim := { program := "ytacfebnfdmbkaaa", sum := "b4c29d9d1e02373aa14c5ea8a1a2ed67bc4100075ff1eec8d9360daf0a35e39c", func := "loop.example/g00670/laws.FnExactJoinKey", spec := "fnExactJoinKey", inPlace := ["internal/bytealg.Compare"], apart := false, narrowed := true }
def FnExactJoinKeyUptoSaid : Prop := fnExactJoinKeyUptoRow.holds Try.pinned (OpenSpec.upto fnExactJoinKeySpec)

/-- 'laws.FnExactSameSecrets', WHERE WHAT IT READS IS OF BULK AT MOST 1048576: true; the input reads as it did. -/
def fnExactSameSecretsUptoRow : OpenClaim := { program := "ytacfebnfdmbkaaa", sum := "b4c29d9d1e02373aa14c5ea8a1a2ed67bc4100075ff1eec8d9360daf0a35e39c", func := "loop.example/g00670/laws.FnExactSameSecrets", spec := "fnExactSameSecrets", unfollowed := true, recurses := true, apart := false, narrowed := true }
def FnExactSameSecretsUptoSaid : Prop := fnExactSameSecretsUptoRow.holds Try.pinned (OpenSpec.upto fnExactSameSecretsSpec)

/-- 'laws.FnExactSecretsFault', WHERE WHAT IT READS IS OF BULK AT MOST 1048576: true; the input reads as it did. -/
def fnExactSecretsFaultUptoRow : OpenClaim := { program := "ytacfebnfdmbkaaa", sum := "b4c29d9d1e02373aa14c5ea8a1a2ed67bc4100075ff1eec8d9360daf0a35e39c", func := "loop.example/g00670/laws.FnExactSecretsFault", spec := "fnExactSecretsFault", apart := false, narrowed := true }
def FnExactSecretsFaultUptoSaid : Prop := fnExactSecretsFaultUptoRow.holds Try.pinned (OpenSpec.upto fnExactSecretsFaultSpec)

/-- 'laws.FnExactKeyOf', WHERE WHAT IT READS IS OF BULK AT MOST 1048576: true; the input reads as it did. -/
def fnExactKeyOfUptoRow : OpenClaim := { program := "ytacfebnfdmbkaaa", sum := "b4c29d9d1e02373aa14c5ea8a1a2ed67bc4100075ff1eec8d9360daf0a35e39c", func := "loop.example/g00670/laws.FnExactKeyOf", spec := "fnExactKeyOf", inPlace := ["internal/bytealg.Compare"], unfollowed := true, recurses := true, apart := false, narrowed := true }
def FnExactKeyOfUptoSaid : Prop := fnExactKeyOfUptoRow.holds Try.pinned (OpenSpec.upto fnExactKeyOfSpec)

/-- 'laws.FnKeys', WHERE WHAT IT READS IS OF BULK AT MOST 1048576: true; the input reads as it did. -/
def fnKeysUptoRow : OpenClaim := { program := "ytacfebnfdmbkaaa", sum := "b4c29d9d1e02373aa14c5ea8a1a2ed67bc4100075ff1eec8d9360daf0a35e39c", func := "loop.example/g00670/laws.FnKeys", spec := "fnKeys", inPlace := ["internal/bytealg.Compare"], unfollowed := true, recurses := true, apart := false, narrowed := true }
def FnKeysUptoSaid : Prop := fnKeysUptoRow.holds Try.pinned (OpenSpec.upto fnKeysSpec)

/-- 'laws.FnExactVectorOf', WHERE WHAT IT READS IS OF BULK AT MOST 1048576: true; the input reads as it did. -/
def fnExactVectorOfUptoRow : OpenClaim := { program := "ytacfebnfdmbkaaa", sum := "b4c29d9d1e02373aa14c5ea8a1a2ed67bc4100075ff1eec8d9360daf0a35e39c", func := "loop.example/g00670/laws.FnExactVectorOf", spec := "fnExactVectorOf", apart := false, narrowed := true }
def FnExactVectorOfUptoSaid : Prop := fnExactVectorOfUptoRow.holds Try.pinned (OpenSpec.upto fnExactVectorOfSpec)

/-- 'laws.FnExactPackInit', WHERE WHAT IT READS IS OF BULK AT MOST 1048576: true; the input reads as it did. -/
def fnExactPackInitUptoRow : OpenClaim := { program := "ytacfebnfdmbkaaa", sum := "b4c29d9d1e02373aa14c5ea8a1a2ed67bc4100075ff1eec8d9360daf0a35e39c", func := "loop.example/g00670/laws.FnExactPackInit", spec := "fnExactPackInit", apart := false, narrowed := true }
def FnExactPackInitUptoSaid : Prop := fnExactPackInitUptoRow.holds Try.pinned (OpenSpec.upto fnExactPackInitSpec)

/-- 'laws.FnExactPackSack', WHERE WHAT IT READS IS OF BULK AT MOST 1048576: true; the input reads as it did. -/
def fnExactPackSackUptoRow : OpenClaim := { program := "ytacfebnfdmbkaaa", sum := "b4c29d9d1e02373aa14c5ea8a1a2ed67bc4100075ff1eec8d9360daf0a35e39c", func := "loop.example/g00670/laws.FnExactPackSack", spec := "fnExactPackSack", apart := false, narrowed := true }
def FnExactPackSackUptoSaid : Prop := fnExactPackSackUptoRow.holds Try.pinned (OpenSpec.upto fnExactPackSackSpec)

/-- 'laws.FnSerials', WHERE WHAT IT READS IS OF BULK AT MOST 1048576: true; the input reads as it did. -/
def fnSerialsUptoRow : OpenClaim := { program := "ytacfebnfdmbkaaa", sum := "b4c29d9d1e02373aa14c5ea8a1a2ed67bc4100075ff1eec8d9360daf0a35e39c", func := "loop.example/g00670/laws.FnSerials", spec := "fnSerials", apart := false, narrowed := true }
def FnSerialsUptoSaid : Prop := fnSerialsUptoRow.holds Try.pinned (OpenSpec.upto fnSerialsSpec)

/-- 'laws.FnWords', WHERE WHAT IT READS IS OF BULK AT MOST 1048576: true; the input reads as it did. -/
def fnWordsUptoRow : OpenClaim := { program := "ytacfebnfdmbkaaa", sum := "b4c29d9d1e02373aa14c5ea8a1a2ed67bc4100075ff1eec8d9360daf0a35e39c", func := "loop.example/g00670/laws.FnWords", spec := "fnWords", apart := false, narrowed := true }
def FnWordsUptoSaid : Prop := fnWordsUptoRow.holds Try.pinned (OpenSpec.upto fnWordsSpec)

/-- 'laws.FnCrcs', WHERE WHAT IT READS IS OF BULK AT MOST 1048576: true; the input reads as it did. -/
def fnCrcsUptoRow : OpenClaim := { program := "ytacfebnfdmbkaaa", sum := "b4c29d9d1e02373aa14c5ea8a1a2ed67bc4100075ff1eec8d9360daf0a35e39c", func := "loop.example/g00670/laws.FnCrcs", spec := "fnCrcs", apart := false, narrowed := true }
def FnCrcsUptoSaid : Prop := fnCrcsUptoRow.holds Try.pinned (OpenSpec.upto fnCrcsSpec)

end Rows
end Go.Proofs.Ytacfebnfdmbkaaa
