/-
  No cell of these rows narrows 'for every input' (looked for: loops, veiled, ifaces, maps, wideKeys, modest, calm, conditions, laid).
  DERIVED. THE GIVEN ROWS OF THIS SEAT. 12 by the template 'for every input the law returns true; each argument reads behind the call as it read before'; 0 by the template 'total and deterministic' (their statements: YtejodldgipnhcaaTotals.lean).
  GIVEN WITH THE SEED: the statements are not yours to turn. If you find one false, say at which input.
  Laid BY PROGRAM, IN A SANDBOX (cutbox-rows.mjs): the forced cells as the released guide's own fill.sh prints them over the translation 6ab97ed896324e7f… (all of the seat's roots in one cut). By AI agents, Wed Nov 11 2026. No macro, syntax, notation, axiom, sorry.
-/
import Derived.Test.YtejodldgipnhcaaChecked
import GoSem.Claim
import GoSem.ClaimJoined
import GoSem.ClaimMapViews
import Derived.JoinedTies
import Derived.KernelRfl
namespace Go.Proofs.Ytejodldgipnhcaa
/- THE CELL 'sum', in the pinned program and in every row, IS THE sha256 OF THE DUMP (.gsa) THAT YtejodldgipnhcaaProg.lean LOADS. Nothing in Lean hashes anything: it is a label: what it is worth is what the hold of that sum in a sandbox is worth. -/
noncomputable def Try.pinned : Pinned := { name := "ytejodldgipnhcaa", sum := "6ab97ed896324e7f98b6306e0f1f712ac07a24cb095fb6c35e1e4417554d6d8a", checked := Try.checked }
namespace Rows
def none {H : Type} : Left H := { results := [], args := [] }

/-- 'laws.FnExactConstants': WHATEVER THE INPUT: true; the input reads as it did. -/
def fnExactConstantsSpec : ChangeSpec := { name := "fnExactConstants", fn := fun _ => fun
  | [] => { results := [.lit (.bool true)], args := [] }
  | _ => none }
def fnExactConstantsRow : OpenClaim := { program := "ytejodldgipnhcaa", sum := "6ab97ed896324e7f98b6306e0f1f712ac07a24cb095fb6c35e1e4417554d6d8a", func := "loop.example/g00670/laws.FnExactConstants", spec := "fnExactConstants", apart := false }
def FnExactConstantsSaid : Prop := fnExactConstantsRow.holds Try.pinned (OpenSpec.ofChange fnExactConstantsSpec)

/-- ITS FALSE NEIGHBOUR: 'it returns false'. Refute it at one input. -/
def fnExactConstantsWrong : ChangeSpec := { name := "fnExactConstants", fn := fun _ => fun
  | [] => { results := [.lit (.bool false)], args := [] }
  | _ => none }
def FnExactConstantsWrongFalsely : Prop := fnExactConstantsRow.holds Try.pinned (OpenSpec.ofChange fnExactConstantsWrong)

/-- 'laws.FnExactNeedsAuth': WHATEVER THE INPUT: true; the input reads as it did. -/
def fnExactNeedsAuthSpec : ChangeSpec := { name := "fnExactNeedsAuth", fn := fun _ => fun
  | [d] => { results := [.lit (.bool true)], args := [d] }
  | _ => none }
def fnExactNeedsAuthRow : OpenClaim := { program := "ytejodldgipnhcaa", sum := "6ab97ed896324e7f98b6306e0f1f712ac07a24cb095fb6c35e1e4417554d6d8a", func := "loop.example/g00670/laws.FnExactNeedsAuth", spec := "fnExactNeedsAuth", apart := false }
def FnExactNeedsAuthSaid : Prop := fnExactNeedsAuthRow.holds Try.pinned (OpenSpec.ofChange fnExactNeedsAuthSpec)

/-- ITS FALSE NEIGHBOUR: 'it returns false'. Refute it at one input. -/
def fnExactNeedsAuthWrong : ChangeSpec := { name := "fnExactNeedsAuth", fn := fun _ => fun
  | [d] => { results := [.lit (.bool false)], args := [d] }
  | _ => none }
def FnExactNeedsAuthWrongFalsely : Prop := fnExactNeedsAuthRow.holds Try.pinned (OpenSpec.ofChange fnExactNeedsAuthWrong)

/-- 'laws.FnExactSerialLess': WHATEVER THE INPUT: true; the input reads as it did. -/
def fnExactSerialLessSpec : ChangeSpec := { name := "fnExactSerialLess", fn := fun _ => fun
  | [d1, d2] => { results := [.lit (.bool true)], args := [d1, d2] }
  | _ => none }
def fnExactSerialLessRow : OpenClaim := { program := "ytejodldgipnhcaa", sum := "6ab97ed896324e7f98b6306e0f1f712ac07a24cb095fb6c35e1e4417554d6d8a", func := "loop.example/g00670/laws.FnExactSerialLess", spec := "fnExactSerialLess", apart := false }
def FnExactSerialLessSaid : Prop := fnExactSerialLessRow.holds Try.pinned (OpenSpec.ofChange fnExactSerialLessSpec)

/-- ITS FALSE NEIGHBOUR: 'it returns false'. Refute it at one input. -/
def fnExactSerialLessWrong : ChangeSpec := { name := "fnExactSerialLess", fn := fun _ => fun
  | [d1, d2] => { results := [.lit (.bool false)], args := [d1, d2] }
  | _ => none }
def FnExactSerialLessWrongFalsely : Prop := fnExactSerialLessRow.holds Try.pinned (OpenSpec.ofChange fnExactSerialLessWrong)

/-- 'laws.FnExactActionOf': WHATEVER THE INPUT: true; the input reads as it did. -/
def fnExactActionOfSpec : ChangeSpec := { name := "fnExactActionOf", fn := fun _ => fun
  | [d] => { results := [.lit (.bool true)], args := [d] }
  | _ => none }
def fnExactActionOfRow : OpenClaim := { program := "ytejodldgipnhcaa", sum := "6ab97ed896324e7f98b6306e0f1f712ac07a24cb095fb6c35e1e4417554d6d8a", func := "loop.example/g00670/laws.FnExactActionOf", spec := "fnExactActionOf", apart := false }
def FnExactActionOfSaid : Prop := fnExactActionOfRow.holds Try.pinned (OpenSpec.ofChange fnExactActionOfSpec)

/-- ITS FALSE NEIGHBOUR: 'it returns false'. Refute it at one input. -/
def fnExactActionOfWrong : ChangeSpec := { name := "fnExactActionOf", fn := fun _ => fun
  | [d] => { results := [.lit (.bool false)], args := [d] }
  | _ => none }
def FnExactActionOfWrongFalsely : Prop := fnExactActionOfRow.holds Try.pinned (OpenSpec.ofChange fnExactActionOfWrong)

/-- 'laws.FnExactSameMac': WHATEVER THE INPUT: true; the input reads as it did. -/
def fnExactSameMacSpec : ChangeSpec := { name := "fnExactSameMac", fn := fun _ => fun
  | [d1, d2] => { results := [.lit (.bool true)], args := [d1, d2] }
  | _ => none }
def fnExactSameMacRow : OpenClaim := { program := "ytejodldgipnhcaa", sum := "6ab97ed896324e7f98b6306e0f1f712ac07a24cb095fb6c35e1e4417554d6d8a", func := "loop.example/g00670/laws.FnExactSameMac", spec := "fnExactSameMac", apart := false }
def FnExactSameMacSaid : Prop := fnExactSameMacRow.holds Try.pinned (OpenSpec.ofChange fnExactSameMacSpec)

/-- ITS FALSE NEIGHBOUR: 'it returns false'. Refute it at one input. -/
def fnExactSameMacWrong : ChangeSpec := { name := "fnExactSameMac", fn := fun _ => fun
  | [d1, d2] => { results := [.lit (.bool false)], args := [d1, d2] }
  | _ => none }
def FnExactSameMacWrongFalsely : Prop := fnExactSameMacRow.holds Try.pinned (OpenSpec.ofChange fnExactSameMacWrong)

/-- 'laws.FnExactSerialGap': WHATEVER THE INPUT: true; the input reads as it did. -/
def fnExactSerialGapSpec : ChangeSpec := { name := "fnExactSerialGap", fn := fun _ => fun
  | [d1, d2] => { results := [.lit (.bool true)], args := [d1, d2] }
  | _ => none }
def fnExactSerialGapRow : OpenClaim := { program := "ytejodldgipnhcaa", sum := "6ab97ed896324e7f98b6306e0f1f712ac07a24cb095fb6c35e1e4417554d6d8a", func := "loop.example/g00670/laws.FnExactSerialGap", spec := "fnExactSerialGap", apart := false }
def FnExactSerialGapSaid : Prop := fnExactSerialGapRow.holds Try.pinned (OpenSpec.ofChange fnExactSerialGapSpec)

/-- ITS FALSE NEIGHBOUR: 'it returns false'. Refute it at one input. -/
def fnExactSerialGapWrong : ChangeSpec := { name := "fnExactSerialGap", fn := fun _ => fun
  | [d1, d2] => { results := [.lit (.bool false)], args := [d1, d2] }
  | _ => none }
def FnExactSerialGapWrongFalsely : Prop := fnExactSerialGapRow.holds Try.pinned (OpenSpec.ofChange fnExactSerialGapWrong)

/-- 'laws.FnExactRotateWord': WHATEVER THE INPUT: true; the input reads as it did. -/
def fnExactRotateWordSpec : ChangeSpec := { name := "fnExactRotateWord", fn := fun _ => fun
  | [d1, d2] => { results := [.lit (.bool true)], args := [d1, d2] }
  | _ => none }
def fnExactRotateWordRow : OpenClaim := { program := "ytejodldgipnhcaa", sum := "6ab97ed896324e7f98b6306e0f1f712ac07a24cb095fb6c35e1e4417554d6d8a", func := "loop.example/g00670/laws.FnExactRotateWord", spec := "fnExactRotateWord", apart := false }
def FnExactRotateWordSaid : Prop := fnExactRotateWordRow.holds Try.pinned (OpenSpec.ofChange fnExactRotateWordSpec)

/-- ITS FALSE NEIGHBOUR: 'it returns false'. Refute it at one input. -/
def fnExactRotateWordWrong : ChangeSpec := { name := "fnExactRotateWord", fn := fun _ => fun
  | [d1, d2] => { results := [.lit (.bool false)], args := [d1, d2] }
  | _ => none }
def FnExactRotateWordWrongFalsely : Prop := fnExactRotateWordRow.holds Try.pinned (OpenSpec.ofChange fnExactRotateWordWrong)

/-- 'laws.FnExactRoundWord': WHATEVER THE INPUT: true; the input reads as it did. -/
def fnExactRoundWordSpec : ChangeSpec := { name := "fnExactRoundWord", fn := fun _ => fun
  | [d] => { results := [.lit (.bool true)], args := [d] }
  | _ => none }
def fnExactRoundWordRow : OpenClaim := { program := "ytejodldgipnhcaa", sum := "6ab97ed896324e7f98b6306e0f1f712ac07a24cb095fb6c35e1e4417554d6d8a", func := "loop.example/g00670/laws.FnExactRoundWord", spec := "fnExactRoundWord", apart := false }
def FnExactRoundWordSaid : Prop := fnExactRoundWordRow.holds Try.pinned (OpenSpec.ofChange fnExactRoundWordSpec)

/-- ITS FALSE NEIGHBOUR: 'it returns false'. Refute it at one input. -/
def fnExactRoundWordWrong : ChangeSpec := { name := "fnExactRoundWord", fn := fun _ => fun
  | [d] => { results := [.lit (.bool false)], args := [d] }
  | _ => none }
def FnExactRoundWordWrongFalsely : Prop := fnExactRoundWordRow.holds Try.pinned (OpenSpec.ofChange fnExactRoundWordWrong)

/-- 'laws.FnExactAddWords': WHATEVER THE INPUT: true; the input reads as it did. -/
def fnExactAddWordsSpec : ChangeSpec := { name := "fnExactAddWords", fn := fun _ => fun
  | [d1, d2] => { results := [.lit (.bool true)], args := [d1, d2] }
  | _ => none }
def fnExactAddWordsRow : OpenClaim := { program := "ytejodldgipnhcaa", sum := "6ab97ed896324e7f98b6306e0f1f712ac07a24cb095fb6c35e1e4417554d6d8a", func := "loop.example/g00670/laws.FnExactAddWords", spec := "fnExactAddWords", apart := false }
def FnExactAddWordsSaid : Prop := fnExactAddWordsRow.holds Try.pinned (OpenSpec.ofChange fnExactAddWordsSpec)

/-- ITS FALSE NEIGHBOUR: 'it returns false'. Refute it at one input. -/
def fnExactAddWordsWrong : ChangeSpec := { name := "fnExactAddWords", fn := fun _ => fun
  | [d1, d2] => { results := [.lit (.bool false)], args := [d1, d2] }
  | _ => none }
def FnExactAddWordsWrongFalsely : Prop := fnExactAddWordsRow.holds Try.pinned (OpenSpec.ofChange fnExactAddWordsWrong)

/-- 'laws.FnExactWordAt': WHATEVER THE INPUT: true; the input reads as it did. -/
def fnExactWordAtSpec : ChangeSpec := { name := "fnExactWordAt", fn := fun _ => fun
  | [d1, d2] => { results := [.lit (.bool true)], args := [d1, d2] }
  | _ => none }
def fnExactWordAtRow : OpenClaim := { program := "ytejodldgipnhcaa", sum := "6ab97ed896324e7f98b6306e0f1f712ac07a24cb095fb6c35e1e4417554d6d8a", func := "loop.example/g00670/laws.FnExactWordAt", spec := "fnExactWordAt", apart := false }
def FnExactWordAtSaid : Prop := fnExactWordAtRow.holds Try.pinned (OpenSpec.ofChange fnExactWordAtSpec)

/-- ITS FALSE NEIGHBOUR: 'it returns false'. Refute it at one input. -/
def fnExactWordAtWrong : ChangeSpec := { name := "fnExactWordAt", fn := fun _ => fun
  | [d1, d2] => { results := [.lit (.bool false)], args := [d1, d2] }
  | _ => none }
def FnExactWordAtWrongFalsely : Prop := fnExactWordAtRow.holds Try.pinned (OpenSpec.ofChange fnExactWordAtWrong)

/-- 'laws.FnExactCrc32c': WHATEVER THE INPUT: true; the input reads as it did. -/
def fnExactCrc32cSpec : ChangeSpec := { name := "fnExactCrc32c", fn := fun _ => fun
  | [d] => { results := [.lit (.bool true)], args := [d] }
  | _ => none }
def fnExactCrc32cRow : OpenClaim := { program := "ytejodldgipnhcaa", sum := "6ab97ed896324e7f98b6306e0f1f712ac07a24cb095fb6c35e1e4417554d6d8a", func := "loop.example/g00670/laws.FnExactCrc32c", spec := "fnExactCrc32c", apart := false }
def FnExactCrc32cSaid : Prop := fnExactCrc32cRow.holds Try.pinned (OpenSpec.ofChange fnExactCrc32cSpec)

/-- ITS FALSE NEIGHBOUR: 'it returns false'. Refute it at one input. -/
def fnExactCrc32cWrong : ChangeSpec := { name := "fnExactCrc32c", fn := fun _ => fun
  | [d] => { results := [.lit (.bool false)], args := [d] }
  | _ => none }
def FnExactCrc32cWrongFalsely : Prop := fnExactCrc32cRow.holds Try.pinned (OpenSpec.ofChange fnExactCrc32cWrong)

/-- 'laws.FnExactPackWord': WHATEVER THE INPUT: true; the input reads as it did. -/
def fnExactPackWordSpec : ChangeSpec := { name := "fnExactPackWord", fn := fun _ => fun
  | [d] => { results := [.lit (.bool true)], args := [d] }
  | _ => none }
def fnExactPackWordRow : OpenClaim := { program := "ytejodldgipnhcaa", sum := "6ab97ed896324e7f98b6306e0f1f712ac07a24cb095fb6c35e1e4417554d6d8a", func := "loop.example/g00670/laws.FnExactPackWord", spec := "fnExactPackWord", apart := false }
def FnExactPackWordSaid : Prop := fnExactPackWordRow.holds Try.pinned (OpenSpec.ofChange fnExactPackWordSpec)

/-- ITS FALSE NEIGHBOUR: 'it returns false'. Refute it at one input. -/
def fnExactPackWordWrong : ChangeSpec := { name := "fnExactPackWord", fn := fun _ => fun
  | [d] => { results := [.lit (.bool false)], args := [d] }
  | _ => none }
def FnExactPackWordWrongFalsely : Prop := fnExactPackWordRow.holds Try.pinned (OpenSpec.ofChange fnExactPackWordWrong)

/- THE SECOND FORM. 'bulk': how many values and letters a reading holds, each counted each time it is reached (what is shared counts as often as it is met; a slice's spare places count too). A statement '..UptoSaid' is the law's where the arguments, and the package variables that the reading takes, are together of bulk at most 1048576: NARROWER than '..Said'. Prove '..Said' where nothing that the law and all that it calls make is longer than what came in: it says more and counts as full. Else prove '..UptoSaid'. A law counts once. -/
mutual
def uptoBulk {H : Type} : DataW H → Nat
  | .lit (.string bytes) => bytes.length + 1
  | .lit _ => 1
  | .nil => 1
  | .ptr d => uptoBulk d + 1
  | .slice elems spare => uptoBulkAll elems + uptoBulkAll spare + 1
  | .agg parts => uptoBulkAll parts + 1
  | .iface _ d => uptoBulk d + 1
  | .map entries => uptoBulkEntries entries + 1
  | .held _ => 1
def uptoBulkAll {H : Type} : List (DataW H) → Nat
  | [] => 0
  | d :: r => uptoBulk d + uptoBulkAll r
def uptoBulkEntries {H : Type} : List (Lit × DataW H) → Nat
  | [] => 0
  | x :: r => uptoBulkEntry x + uptoBulkEntries r
def uptoBulkEntry {H : Type} : Lit × DataW H → Nat
  | (.string bytes, d) => bytes.length + uptoBulk d + 1
  | (_, d) => uptoBulk d + 1
 end
def uptoSmall : (H : Type) → List (DataW H) → Bool := fun _ ds => decide (uptoBulkAll ds ≤ 1048576)
def OpenSpec.upto (s : _root_.Go.ChangeSpec) : _root_.Go.OpenSpec := { _root_.Go.OpenSpec.ofChange s with cond := some uptoSmall }

/-- 'laws.FnExactConstants', WHERE WHAT IT READS IS OF BULK AT MOST 1048576: true; the input reads as it did. -/
def fnExactConstantsUptoRow : OpenClaim := { program := "ytejodldgipnhcaa", sum := "6ab97ed896324e7f98b6306e0f1f712ac07a24cb095fb6c35e1e4417554d6d8a", func := "loop.example/g00670/laws.FnExactConstants", spec := "fnExactConstants", apart := false, narrowed := true }
def FnExactConstantsUptoSaid : Prop := fnExactConstantsUptoRow.holds Try.pinned (OpenSpec.upto fnExactConstantsSpec)

/-- 'laws.FnExactNeedsAuth', WHERE WHAT IT READS IS OF BULK AT MOST 1048576: true; the input reads as it did. -/
def fnExactNeedsAuthUptoRow : OpenClaim := { program := "ytejodldgipnhcaa", sum := "6ab97ed896324e7f98b6306e0f1f712ac07a24cb095fb6c35e1e4417554d6d8a", func := "loop.example/g00670/laws.FnExactNeedsAuth", spec := "fnExactNeedsAuth", apart := false, narrowed := true }
def FnExactNeedsAuthUptoSaid : Prop := fnExactNeedsAuthUptoRow.holds Try.pinned (OpenSpec.upto fnExactNeedsAuthSpec)

/-- 'laws.FnExactSerialLess', WHERE WHAT IT READS IS OF BULK AT MOST 1048576: true; the input reads as it did. -/
def fnExactSerialLessUptoRow : OpenClaim := { program := "ytejodldgipnhcaa", sum := "6ab97ed896324e7f98b6306e0f1f712ac07a24cb095fb6c35e1e4417554d6d8a", func := "loop.example/g00670/laws.FnExactSerialLess", spec := "fnExactSerialLess", apart := false, narrowed := true }
def FnExactSerialLessUptoSaid : Prop := fnExactSerialLessUptoRow.holds Try.pinned (OpenSpec.upto fnExactSerialLessSpec)

/-- 'laws.FnExactActionOf', WHERE WHAT IT READS IS OF BULK AT MOST 1048576: true; the input reads as it did. -/
def fnExactActionOfUptoRow : OpenClaim := { program := "ytejodldgipnhcaa", sum := "6ab97ed896324e7f98b6306e0f1f712ac07a24cb095fb6c35e1e4417554d6d8a", func := "loop.example/g00670/laws.FnExactActionOf", spec := "fnExactActionOf", apart := false, narrowed := true }
def FnExactActionOfUptoSaid : Prop := fnExactActionOfUptoRow.holds Try.pinned (OpenSpec.upto fnExactActionOfSpec)

/-- 'laws.FnExactSameMac', WHERE WHAT IT READS IS OF BULK AT MOST 1048576: true; the input reads as it did. -/
def fnExactSameMacUptoRow : OpenClaim := { program := "ytejodldgipnhcaa", sum := "6ab97ed896324e7f98b6306e0f1f712ac07a24cb095fb6c35e1e4417554d6d8a", func := "loop.example/g00670/laws.FnExactSameMac", spec := "fnExactSameMac", apart := false, narrowed := true }
def FnExactSameMacUptoSaid : Prop := fnExactSameMacUptoRow.holds Try.pinned (OpenSpec.upto fnExactSameMacSpec)

/-- 'laws.FnExactSerialGap', WHERE WHAT IT READS IS OF BULK AT MOST 1048576: true; the input reads as it did. -/
def fnExactSerialGapUptoRow : OpenClaim := { program := "ytejodldgipnhcaa", sum := "6ab97ed896324e7f98b6306e0f1f712ac07a24cb095fb6c35e1e4417554d6d8a", func := "loop.example/g00670/laws.FnExactSerialGap", spec := "fnExactSerialGap", apart := false, narrowed := true }
def FnExactSerialGapUptoSaid : Prop := fnExactSerialGapUptoRow.holds Try.pinned (OpenSpec.upto fnExactSerialGapSpec)

/-- 'laws.FnExactRotateWord', WHERE WHAT IT READS IS OF BULK AT MOST 1048576: true; the input reads as it did. -/
def fnExactRotateWordUptoRow : OpenClaim := { program := "ytejodldgipnhcaa", sum := "6ab97ed896324e7f98b6306e0f1f712ac07a24cb095fb6c35e1e4417554d6d8a", func := "loop.example/g00670/laws.FnExactRotateWord", spec := "fnExactRotateWord", apart := false, narrowed := true }
def FnExactRotateWordUptoSaid : Prop := fnExactRotateWordUptoRow.holds Try.pinned (OpenSpec.upto fnExactRotateWordSpec)

/-- 'laws.FnExactRoundWord', WHERE WHAT IT READS IS OF BULK AT MOST 1048576: true; the input reads as it did. -/
def fnExactRoundWordUptoRow : OpenClaim := { program := "ytejodldgipnhcaa", sum := "6ab97ed896324e7f98b6306e0f1f712ac07a24cb095fb6c35e1e4417554d6d8a", func := "loop.example/g00670/laws.FnExactRoundWord", spec := "fnExactRoundWord", apart := false, narrowed := true }
def FnExactRoundWordUptoSaid : Prop := fnExactRoundWordUptoRow.holds Try.pinned (OpenSpec.upto fnExactRoundWordSpec)

/-- 'laws.FnExactAddWords', WHERE WHAT IT READS IS OF BULK AT MOST 1048576: true; the input reads as it did. -/
def fnExactAddWordsUptoRow : OpenClaim := { program := "ytejodldgipnhcaa", sum := "6ab97ed896324e7f98b6306e0f1f712ac07a24cb095fb6c35e1e4417554d6d8a", func := "loop.example/g00670/laws.FnExactAddWords", spec := "fnExactAddWords", apart := false, narrowed := true }
def FnExactAddWordsUptoSaid : Prop := fnExactAddWordsUptoRow.holds Try.pinned (OpenSpec.upto fnExactAddWordsSpec)

/-- 'laws.FnExactWordAt', WHERE WHAT IT READS IS OF BULK AT MOST 1048576: true; the input reads as it did. -/
def fnExactWordAtUptoRow : OpenClaim := { program := "ytejodldgipnhcaa", sum := "6ab97ed896324e7f98b6306e0f1f712ac07a24cb095fb6c35e1e4417554d6d8a", func := "loop.example/g00670/laws.FnExactWordAt", spec := "fnExactWordAt", apart := false, narrowed := true }
def FnExactWordAtUptoSaid : Prop := fnExactWordAtUptoRow.holds Try.pinned (OpenSpec.upto fnExactWordAtSpec)

/-- 'laws.FnExactCrc32c', WHERE WHAT IT READS IS OF BULK AT MOST 1048576: true; the input reads as it did. -/
def fnExactCrc32cUptoRow : OpenClaim := { program := "ytejodldgipnhcaa", sum := "6ab97ed896324e7f98b6306e0f1f712ac07a24cb095fb6c35e1e4417554d6d8a", func := "loop.example/g00670/laws.FnExactCrc32c", spec := "fnExactCrc32c", apart := false, narrowed := true }
def FnExactCrc32cUptoSaid : Prop := fnExactCrc32cUptoRow.holds Try.pinned (OpenSpec.upto fnExactCrc32cSpec)

/-- 'laws.FnExactPackWord', WHERE WHAT IT READS IS OF BULK AT MOST 1048576: true; the input reads as it did. -/
def fnExactPackWordUptoRow : OpenClaim := { program := "ytejodldgipnhcaa", sum := "6ab97ed896324e7f98b6306e0f1f712ac07a24cb095fb6c35e1e4417554d6d8a", func := "loop.example/g00670/laws.FnExactPackWord", spec := "fnExactPackWord", apart := false, narrowed := true }
def FnExactPackWordUptoSaid : Prop := fnExactPackWordUptoRow.holds Try.pinned (OpenSpec.upto fnExactPackWordSpec)

end Rows
end Go.Proofs.Ytejodldgipnhcaa
