/-
  No cell of these rows narrows 'for every input' (looked for: loops, veiled, ifaces, maps, wideKeys, modest, calm, conditions, laid).
  DERIVED. THE GIVEN ROWS OF THIS SEAT. 12 by the template 'for every input the law returns true; each argument reads behind the call as it read before'; 0 by the template 'total and deterministic' (their statements: YtceobpekmladdaaTotals.lean).
  GIVEN WITH THE SEED: the statements are not yours to turn. If you find one false, say at which input.
  Laid BY PROGRAM, IN A SANDBOX (cutbox-rows.mjs): the forced cells as the released guide's own fill.sh prints them over the translation 9ac24250e90dadfb… (all of the seat's roots in one cut). By AI agents, Wed Nov 11 2026. No macro, syntax, notation, axiom, sorry.
-/
import Derived.Test.YtceobpekmladdaaChecked
import GoSem.Claim
import GoSem.ClaimJoined
import GoSem.ClaimMapViews
import Derived.JoinedTies
import Derived.KernelRfl
namespace Go.Proofs.Ytceobpekmladdaa
/- THE CELL 'sum', in the pinned program and in every row, IS THE sha256 OF THE DUMP (.gsa) THAT YtceobpekmladdaaProg.lean LOADS. Nothing in Lean hashes anything: it is a label: what it is worth is what the hold of that sum in a sandbox is worth. -/
noncomputable def Try.pinned : Pinned := { name := "ytceobpekmladdaa", sum := "9ac24250e90dadfb8d698d3f7484eb56daf094e414ce7afb9f4402d9bbbecc3c", checked := Try.checked }
namespace Rows
def none {H : Type} : Left H := { results := [], args := [] }

/-- 'laws.FnExactScheduleOf': WHATEVER THE INPUT: true; the input reads as it did. -/
def fnExactScheduleOfSpec : ChangeSpec := { name := "fnExactScheduleOf", fn := fun _ => fun
  | [d] => { results := [.lit (.bool true)], args := [d] }
  | _ => none }
def fnExactScheduleOfRow : OpenClaim := { program := "ytceobpekmladdaa", sum := "9ac24250e90dadfb8d698d3f7484eb56daf094e414ce7afb9f4402d9bbbecc3c", func := "loop.example/g00670/laws.FnExactScheduleOf", spec := "fnExactScheduleOf", apart := false }
def FnExactScheduleOfSaid : Prop := fnExactScheduleOfRow.holds Try.pinned (OpenSpec.ofChange fnExactScheduleOfSpec)

/-- ITS FALSE NEIGHBOUR: 'it returns false'. Refute it at one input. -/
def fnExactScheduleOfWrong : ChangeSpec := { name := "fnExactScheduleOf", fn := fun _ => fun
  | [d] => { results := [.lit (.bool false)], args := [d] }
  | _ => none }
def FnExactScheduleOfWrongFalsely : Prop := fnExactScheduleOfRow.holds Try.pinned (OpenSpec.ofChange fnExactScheduleOfWrong)

/-- 'laws.FnExactCompressBlock': WHATEVER THE INPUT: true; the input reads as it did. -/
def fnExactCompressBlockSpec : ChangeSpec := { name := "fnExactCompressBlock", fn := fun _ => fun
  | [d1, d2] => { results := [.lit (.bool true)], args := [d1, d2] }
  | _ => none }
def fnExactCompressBlockRow : OpenClaim := { program := "ytceobpekmladdaa", sum := "9ac24250e90dadfb8d698d3f7484eb56daf094e414ce7afb9f4402d9bbbecc3c", func := "loop.example/g00670/laws.FnExactCompressBlock", spec := "fnExactCompressBlock", apart := false }
def FnExactCompressBlockSaid : Prop := fnExactCompressBlockRow.holds Try.pinned (OpenSpec.ofChange fnExactCompressBlockSpec)

/-- ITS FALSE NEIGHBOUR: 'it returns false'. Refute it at one input. -/
def fnExactCompressBlockWrong : ChangeSpec := { name := "fnExactCompressBlock", fn := fun _ => fun
  | [d1, d2] => { results := [.lit (.bool false)], args := [d1, d2] }
  | _ => none }
def FnExactCompressBlockWrongFalsely : Prop := fnExactCompressBlockRow.holds Try.pinned (OpenSpec.ofChange fnExactCompressBlockWrong)

/-- 'laws.FnExactSha256': WHATEVER THE INPUT: true; the input reads as it did. -/
def fnExactSha256Spec : ChangeSpec := { name := "fnExactSha256", fn := fun _ => fun
  | [d] => { results := [.lit (.bool true)], args := [d] }
  | _ => none }
def fnExactSha256Row : OpenClaim := { program := "ytceobpekmladdaa", sum := "9ac24250e90dadfb8d698d3f7484eb56daf094e414ce7afb9f4402d9bbbecc3c", func := "loop.example/g00670/laws.FnExactSha256", spec := "fnExactSha256", apart := false }
def FnExactSha256Said : Prop := fnExactSha256Row.holds Try.pinned (OpenSpec.ofChange fnExactSha256Spec)

/-- ITS FALSE NEIGHBOUR: 'it returns false'. Refute it at one input. -/
def fnExactSha256Wrong : ChangeSpec := { name := "fnExactSha256", fn := fun _ => fun
  | [d] => { results := [.lit (.bool false)], args := [d] }
  | _ => none }
def FnExactSha256WrongFalsely : Prop := fnExactSha256Row.holds Try.pinned (OpenSpec.ofChange fnExactSha256Wrong)

/-- 'laws.FnDigests': WHATEVER THE INPUT: true; the input reads as it did. -/
def fnDigestsSpec : ChangeSpec := { name := "fnDigests", fn := fun _ => fun
  | [d] => { results := [.lit (.bool true)], args := [d] }
  | _ => none }
def fnDigestsRow : OpenClaim := { program := "ytceobpekmladdaa", sum := "9ac24250e90dadfb8d698d3f7484eb56daf094e414ce7afb9f4402d9bbbecc3c", func := "loop.example/g00670/laws.FnDigests", spec := "fnDigests", apart := false }
def FnDigestsSaid : Prop := fnDigestsRow.holds Try.pinned (OpenSpec.ofChange fnDigestsSpec)

/-- ITS FALSE NEIGHBOUR: 'it returns false'. Refute it at one input. -/
def fnDigestsWrong : ChangeSpec := { name := "fnDigests", fn := fun _ => fun
  | [d] => { results := [.lit (.bool false)], args := [d] }
  | _ => none }
def FnDigestsWrongFalsely : Prop := fnDigestsRow.holds Try.pinned (OpenSpec.ofChange fnDigestsWrong)

/-- 'laws.FnSchedules': WHATEVER THE INPUT: true; the input reads as it did. -/
def fnSchedulesSpec : ChangeSpec := { name := "fnSchedules", fn := fun _ => fun
  | [d] => { results := [.lit (.bool true)], args := [d] }
  | _ => none }
def fnSchedulesRow : OpenClaim := { program := "ytceobpekmladdaa", sum := "9ac24250e90dadfb8d698d3f7484eb56daf094e414ce7afb9f4402d9bbbecc3c", func := "loop.example/g00670/laws.FnSchedules", spec := "fnSchedules", apart := false }
def FnSchedulesSaid : Prop := fnSchedulesRow.holds Try.pinned (OpenSpec.ofChange fnSchedulesSpec)

/-- ITS FALSE NEIGHBOUR: 'it returns false'. Refute it at one input. -/
def fnSchedulesWrong : ChangeSpec := { name := "fnSchedules", fn := fun _ => fun
  | [d] => { results := [.lit (.bool false)], args := [d] }
  | _ => none }
def FnSchedulesWrongFalsely : Prop := fnSchedulesRow.holds Try.pinned (OpenSpec.ofChange fnSchedulesWrong)

/-- 'laws.FnExactHmacSha': WHATEVER THE INPUT: true; the input reads as it did. -/
def fnExactHmacShaSpec : ChangeSpec := { name := "fnExactHmacSha", fn := fun _ => fun
  | [d1, d2] => { results := [.lit (.bool true)], args := [d1, d2] }
  | _ => none }
def fnExactHmacShaRow : OpenClaim := { program := "ytceobpekmladdaa", sum := "9ac24250e90dadfb8d698d3f7484eb56daf094e414ce7afb9f4402d9bbbecc3c", func := "loop.example/g00670/laws.FnExactHmacSha", spec := "fnExactHmacSha", apart := false }
def FnExactHmacShaSaid : Prop := fnExactHmacShaRow.holds Try.pinned (OpenSpec.ofChange fnExactHmacShaSpec)

/-- ITS FALSE NEIGHBOUR: 'it returns false'. Refute it at one input. -/
def fnExactHmacShaWrong : ChangeSpec := { name := "fnExactHmacSha", fn := fun _ => fun
  | [d1, d2] => { results := [.lit (.bool false)], args := [d1, d2] }
  | _ => none }
def FnExactHmacShaWrongFalsely : Prop := fnExactHmacShaRow.holds Try.pinned (OpenSpec.ofChange fnExactHmacShaWrong)

/-- 'laws.FnMacs': WHATEVER THE INPUT: true; the input reads as it did. -/
def fnMacsSpec : ChangeSpec := { name := "fnMacs", fn := fun _ => fun
  | [d] => { results := [.lit (.bool true)], args := [d] }
  | _ => none }
def fnMacsRow : OpenClaim := { program := "ytceobpekmladdaa", sum := "9ac24250e90dadfb8d698d3f7484eb56daf094e414ce7afb9f4402d9bbbecc3c", func := "loop.example/g00670/laws.FnMacs", spec := "fnMacs", apart := false }
def FnMacsSaid : Prop := fnMacsRow.holds Try.pinned (OpenSpec.ofChange fnMacsSpec)

/-- ITS FALSE NEIGHBOUR: 'it returns false'. Refute it at one input. -/
def fnMacsWrong : ChangeSpec := { name := "fnMacs", fn := fun _ => fun
  | [d] => { results := [.lit (.bool false)], args := [d] }
  | _ => none }
def FnMacsWrongFalsely : Prop := fnMacsRow.holds Try.pinned (OpenSpec.ofChange fnMacsWrong)

/-- 'laws.FnExactCheckAuth': WHATEVER THE INPUT: true; the input reads as it did. -/
def fnExactCheckAuthSpec : ChangeSpec := { name := "fnExactCheckAuth", fn := fun _ => fun
  | [d1, d2] => { results := [.lit (.bool true)], args := [d1, d2] }
  | _ => none }
def fnExactCheckAuthRow : OpenClaim := { program := "ytceobpekmladdaa", sum := "9ac24250e90dadfb8d698d3f7484eb56daf094e414ce7afb9f4402d9bbbecc3c", func := "loop.example/g00670/laws.FnExactCheckAuth", spec := "fnExactCheckAuth", unfollowed := true, recurses := true, apart := false }
def FnExactCheckAuthSaid : Prop := fnExactCheckAuthRow.holds Try.pinned (OpenSpec.ofChange fnExactCheckAuthSpec)

/-- ITS FALSE NEIGHBOUR: 'it returns false'. Refute it at one input. -/
def fnExactCheckAuthWrong : ChangeSpec := { name := "fnExactCheckAuth", fn := fun _ => fun
  | [d1, d2] => { results := [.lit (.bool false)], args := [d1, d2] }
  | _ => none }
def FnExactCheckAuthWrongFalsely : Prop := fnExactCheckAuthRow.holds Try.pinned (OpenSpec.ofChange fnExactCheckAuthWrong)

/-- 'laws.FnExactProtectChunks': WHATEVER THE INPUT: true; the input reads as it did. -/
def fnExactProtectChunksSpec : ChangeSpec := { name := "fnExactProtectChunks", fn := fun _ => fun
  | [d1, d2, d3] => { results := [.lit (.bool true)], args := [d1, d2, d3] }
  | _ => none }
def fnExactProtectChunksRow : OpenClaim := { program := "ytceobpekmladdaa", sum := "9ac24250e90dadfb8d698d3f7484eb56daf094e414ce7afb9f4402d9bbbecc3c", func := "loop.example/g00670/laws.FnExactProtectChunks", spec := "fnExactProtectChunks", apart := false }
def FnExactProtectChunksSaid : Prop := fnExactProtectChunksRow.holds Try.pinned (OpenSpec.ofChange fnExactProtectChunksSpec)

/-- ITS FALSE NEIGHBOUR: 'it returns false'. Refute it at one input. -/
def fnExactProtectChunksWrong : ChangeSpec := { name := "fnExactProtectChunks", fn := fun _ => fun
  | [d1, d2, d3] => { results := [.lit (.bool false)], args := [d1, d2, d3] }
  | _ => none }
def FnExactProtectChunksWrongFalsely : Prop := fnExactProtectChunksRow.holds Try.pinned (OpenSpec.ofChange fnExactProtectChunksWrong)

/-- 'laws.FnAuths': WHATEVER THE INPUT: true; the input reads as it did. -/
def fnAuthsSpec : ChangeSpec := { name := "fnAuths", fn := fun _ => fun
  | [d] => { results := [.lit (.bool true)], args := [d] }
  | _ => none }
def fnAuthsRow : OpenClaim := { program := "ytceobpekmladdaa", sum := "9ac24250e90dadfb8d698d3f7484eb56daf094e414ce7afb9f4402d9bbbecc3c", func := "loop.example/g00670/laws.FnAuths", spec := "fnAuths", unfollowed := true, recurses := true, apart := false }
def FnAuthsSaid : Prop := fnAuthsRow.holds Try.pinned (OpenSpec.ofChange fnAuthsSpec)

/-- ITS FALSE NEIGHBOUR: 'it returns false'. Refute it at one input. -/
def fnAuthsWrong : ChangeSpec := { name := "fnAuths", fn := fun _ => fun
  | [d] => { results := [.lit (.bool false)], args := [d] }
  | _ => none }
def FnAuthsWrongFalsely : Prop := fnAuthsRow.holds Try.pinned (OpenSpec.ofChange fnAuthsWrong)

/-- 'laws.FnExactMacText': WHATEVER THE INPUT: true; the input reads as it did. -/
def fnExactMacTextSpec : ChangeSpec := { name := "fnExactMacText", fn := fun _ => fun
  | [d1, d2] => { results := [.lit (.bool true)], args := [d1, d2] }
  | _ => none }
def fnExactMacTextRow : OpenClaim := { program := "ytceobpekmladdaa", sum := "9ac24250e90dadfb8d698d3f7484eb56daf094e414ce7afb9f4402d9bbbecc3c", func := "loop.example/g00670/laws.FnExactMacText", spec := "fnExactMacText", apart := false }
def FnExactMacTextSaid : Prop := fnExactMacTextRow.holds Try.pinned (OpenSpec.ofChange fnExactMacTextSpec)

/-- ITS FALSE NEIGHBOUR: 'it returns false'. Refute it at one input. -/
def fnExactMacTextWrong : ChangeSpec := { name := "fnExactMacText", fn := fun _ => fun
  | [d1, d2] => { results := [.lit (.bool false)], args := [d1, d2] }
  | _ => none }
def FnExactMacTextWrongFalsely : Prop := fnExactMacTextRow.holds Try.pinned (OpenSpec.ofChange fnExactMacTextWrong)

/-- 'laws.FnExactPadMessage': WHATEVER THE INPUT: true; the input reads as it did. -/
def fnExactPadMessageSpec : ChangeSpec := { name := "fnExactPadMessage", fn := fun _ => fun
  | [d] => { results := [.lit (.bool true)], args := [d] }
  | _ => none }
def fnExactPadMessageRow : OpenClaim := { program := "ytceobpekmladdaa", sum := "9ac24250e90dadfb8d698d3f7484eb56daf094e414ce7afb9f4402d9bbbecc3c", func := "loop.example/g00670/laws.FnExactPadMessage", spec := "fnExactPadMessage", apart := false }
def FnExactPadMessageSaid : Prop := fnExactPadMessageRow.holds Try.pinned (OpenSpec.ofChange fnExactPadMessageSpec)

/-- ITS FALSE NEIGHBOUR: 'it returns false'. Refute it at one input. -/
def fnExactPadMessageWrong : ChangeSpec := { name := "fnExactPadMessage", fn := fun _ => fun
  | [d] => { results := [.lit (.bool false)], args := [d] }
  | _ => none }
def FnExactPadMessageWrongFalsely : Prop := fnExactPadMessageRow.holds Try.pinned (OpenSpec.ofChange fnExactPadMessageWrong)

/- THE SECOND FORM. 'bulk': how many values and letters a reading holds, each counted each time it is reached (what is shared counts as often as it is met; a slice's spare places count too). A statement '..UptoSaid' is the law's where the arguments, and the package variables that the reading takes, are together of bulk at most 1048576: NARROWER than '..Said'. Prove '..Said' where nothing that the law and all that it calls make is longer than what came in: it says more and counts as full. Else prove '..UptoSaid'. A law counts once. -/
mutual
def uptoBulk {H : Type} : DataW H → Nat
  | .lit (.string bytes) => bytes.length + 1
  | .lit _ => 1
  | .nil => 1
  | .ptr d => uptoBulk d + 1
  | .slice elems spare => uptoBulkAll elems + uptoBulkAll spare + 1
  | .agg parts => uptoBulkAll parts + 1
  | .iface _ d => uptoBulk d + 1
  | .map entries => uptoBulkEntries entries + 1
  | .held _ => 1
def uptoBulkAll {H : Type} : List (DataW H) → Nat
  | [] => 0
  | d :: r => uptoBulk d + uptoBulkAll r
def uptoBulkEntries {H : Type} : List (Lit × DataW H) → Nat
  | [] => 0
  | x :: r => uptoBulkEntry x + uptoBulkEntries r
def uptoBulkEntry {H : Type} : Lit × DataW H → Nat
  | (.string bytes, d) => bytes.length + uptoBulk d + 1
  | (_, d) => uptoBulk d + 1
 end
def uptoSmall : (H : Type) → List (DataW H) → Bool := fun _ ds => decide (uptoBulkAll ds ≤ 1048576)
def OpenSpec.upto (s : _root_.Go.ChangeSpec) : _root_.Go.OpenSpec := { _root_.Go.OpenSpec.ofChange s with cond := some uptoSmall }

/-- 'laws.FnExactScheduleOf', WHERE WHAT IT READS IS OF BULK AT MOST 1048576: true; the input reads as it did. -/
def fnExactScheduleOfUptoRow : OpenClaim := { program := "ytceobpekmladdaa", sum := "9ac24250e90dadfb8d698d3f7484eb56daf094e414ce7afb9f4402d9bbbecc3c", func := "loop.example/g00670/laws.FnExactScheduleOf", spec := "fnExactScheduleOf", apart := false, narrowed := true }
def FnExactScheduleOfUptoSaid : Prop := fnExactScheduleOfUptoRow.holds Try.pinned (OpenSpec.upto fnExactScheduleOfSpec)

/-- 'laws.FnExactCompressBlock', WHERE WHAT IT READS IS OF BULK AT MOST 1048576: true; the input reads as it did. -/
def fnExactCompressBlockUptoRow : OpenClaim := { program := "ytceobpekmladdaa", sum := "9ac24250e90dadfb8d698d3f7484eb56daf094e414ce7afb9f4402d9bbbecc3c", func := "loop.example/g00670/laws.FnExactCompressBlock", spec := "fnExactCompressBlock", apart := false, narrowed := true }
def FnExactCompressBlockUptoSaid : Prop := fnExactCompressBlockUptoRow.holds Try.pinned (OpenSpec.upto fnExactCompressBlockSpec)

/-- 'laws.FnExactSha256', WHERE WHAT IT READS IS OF BULK AT MOST 1048576: true; the input reads as it did. -/
def fnExactSha256UptoRow : OpenClaim := { program := "ytceobpekmladdaa", sum := "9ac24250e90dadfb8d698d3f7484eb56daf094e414ce7afb9f4402d9bbbecc3c", func := "loop.example/g00670/laws.FnExactSha256", spec := "fnExactSha256", apart := false, narrowed := true }
def FnExactSha256UptoSaid : Prop := fnExactSha256UptoRow.holds Try.pinned (OpenSpec.upto fnExactSha256Spec)

/-- 'laws.FnDigests', WHERE WHAT IT READS IS OF BULK AT MOST 1048576: true; the input reads as it did. -/
def fnDigestsUptoRow : OpenClaim := { program := "ytceobpekmladdaa", sum := "9ac24250e90dadfb8d698d3f7484eb56daf094e414ce7afb9f4402d9bbbecc3c", func := "loop.example/g00670/laws.FnDigests", spec := "fnDigests", apart := false, narrowed := true }
def FnDigestsUptoSaid : Prop := fnDigestsUptoRow.holds Try.pinned (OpenSpec.upto fnDigestsSpec)

/-- 'laws.FnSchedules', WHERE WHAT IT READS IS OF BULK AT MOST 1048576: true; the input reads as it did. -/
def fnSchedulesUptoRow : OpenClaim := { program := "ytceobpekmladdaa", sum := "9ac24250e90dadfb8d698d3f7484eb56daf094e414ce7afb9f4402d9bbbecc3c", func := "loop.example/g00670/laws.FnSchedules", spec := "fnSchedules", apart := false, narrowed := true }
def FnSchedulesUptoSaid : Prop := fnSchedulesUptoRow.holds Try.pinned (OpenSpec.upto fnSchedulesSpec)

/-- 'laws.FnExactHmacSha', WHERE WHAT IT READS IS OF BULK AT MOST 1048576: true; the input reads as it did. -/
def fnExactHmacShaUptoRow : OpenClaim := { program := "ytceobpekmladdaa", sum := "9ac24250e90dadfb8d698d3f7484eb56daf094e414ce7afb9f4402d9bbbecc3c", func := "loop.example/g00670/laws.FnExactHmacSha", spec := "fnExactHmacSha", apart := false, narrowed := true }
def FnExactHmacShaUptoSaid : Prop := fnExactHmacShaUptoRow.holds Try.pinned (OpenSpec.upto fnExactHmacShaSpec)

/-- 'laws.FnMacs', WHERE WHAT IT READS IS OF BULK AT MOST 1048576: true; the input reads as it did. -/
def fnMacsUptoRow : OpenClaim := { program := "ytceobpekmladdaa", sum := "9ac24250e90dadfb8d698d3f7484eb56daf094e414ce7afb9f4402d9bbbecc3c", func := "loop.example/g00670/laws.FnMacs", spec := "fnMacs", apart := false, narrowed := true }
def FnMacsUptoSaid : Prop := fnMacsUptoRow.holds Try.pinned (OpenSpec.upto fnMacsSpec)

/-- 'laws.FnExactCheckAuth', WHERE WHAT IT READS IS OF BULK AT MOST 1048576: true; the input reads as it did. -/
def fnExactCheckAuthUptoRow : OpenClaim := { program := "ytceobpekmladdaa", sum := "9ac24250e90dadfb8d698d3f7484eb56daf094e414ce7afb9f4402d9bbbecc3c", func := "loop.example/g00670/laws.FnExactCheckAuth", spec := "fnExactCheckAuth", unfollowed := true, recurses := true, apart := false, narrowed := true }
def FnExactCheckAuthUptoSaid : Prop := fnExactCheckAuthUptoRow.holds Try.pinned (OpenSpec.upto fnExactCheckAuthSpec)

/-- 'laws.FnExactProtectChunks', WHERE WHAT IT READS IS OF BULK AT MOST 1048576: true; the input reads as it did. -/
def fnExactProtectChunksUptoRow : OpenClaim := { program := "ytceobpekmladdaa", sum := "9ac24250e90dadfb8d698d3f7484eb56daf094e414ce7afb9f4402d9bbbecc3c", func := "loop.example/g00670/laws.FnExactProtectChunks", spec := "fnExactProtectChunks", apart := false, narrowed := true }
def FnExactProtectChunksUptoSaid : Prop := fnExactProtectChunksUptoRow.holds Try.pinned (OpenSpec.upto fnExactProtectChunksSpec)

/-- 'laws.FnAuths', WHERE WHAT IT READS IS OF BULK AT MOST 1048576: true; the input reads as it did. -/
def fnAuthsUptoRow : OpenClaim := { program := "ytceobpekmladdaa", sum := "9ac24250e90dadfb8d698d3f7484eb56daf094e414ce7afb9f4402d9bbbecc3c", func := "loop.example/g00670/laws.FnAuths", spec := "fnAuths", unfollowed := true, recurses := true, apart := false, narrowed := true }
def FnAuthsUptoSaid : Prop := fnAuthsUptoRow.holds Try.pinned (OpenSpec.upto fnAuthsSpec)

/-- 'laws.FnExactMacText', WHERE WHAT IT READS IS OF BULK AT MOST 1048576: true; the input reads as it did. -/
def fnExactMacTextUptoRow : OpenClaim := { program := "ytceobpekmladdaa", sum := "9ac24250e90dadfb8d698d3f7484eb56daf094e414ce7afb9f4402d9bbbecc3c", func := "loop.example/g00670/laws.FnExactMacText", spec := "fnExactMacText", apart := false, narrowed := true }
def FnExactMacTextUptoSaid : Prop := fnExactMacTextUptoRow.holds Try.pinned (OpenSpec.upto fnExactMacTextSpec)

/-- 'laws.FnExactPadMessage', WHERE WHAT IT READS IS OF BULK AT MOST 1048576: true; the input reads as it did. -/
def fnExactPadMessageUptoRow : OpenClaim := { program := "ytceobpekmladdaa", sum := "9ac24250e90dadfb8d698d3f7484eb56daf094e414ce7afb9f4402d9bbbecc3c", func := "loop.example/g00670/laws.FnExactPadMessage", spec := "fnExactPadMessage", apart := false, narrowed := true }
def FnExactPadMessageUptoSaid : Prop := fnExactPadMessageUptoRow.holds Try.pinned (OpenSpec.upto fnExactPadMessageSpec)

end Rows
end Go.Proofs.Ytceobpekmladdaa
