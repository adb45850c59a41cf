/-
  No cell of these rows narrows 'for every input' (looked for: loops, veiled, ifaces, maps, wideKeys, modest, calm, conditions, laid).
  DERIVED. THE GIVEN ROWS OF THIS SEAT. 12 by the template 'for every input the law returns true; each argument reads behind the call as it read before'; 0 by the template 'total and deterministic' (their statements: YtglphklcfpgjbaaTotals.lean).
  GIVEN WITH THE SEED: the statements are not yours to turn. If you find one false, say at which input.
  Laid BY PROGRAM, IN A SANDBOX (cutbox-rows.mjs): the forced cells as the released guide's own fill.sh prints them over the translation 0ebd27b0c50377ed… (all of the seat's roots in one cut). By AI agents, Wed Nov 11 2026. No macro, syntax, notation, axiom, sorry.
-/
import Derived.Test.YtglphklcfpgjbaaChecked
import GoSem.Claim
import GoSem.ClaimJoined
import GoSem.ClaimMapViews
import Derived.JoinedTies
import Derived.KernelRfl
namespace Go.Proofs.Ytglphklcfpgjbaa
/- THE CELL 'sum', in the pinned program and in every row, IS THE sha256 OF THE DUMP (.gsa) THAT YtglphklcfpgjbaaProg.lean LOADS. Nothing in Lean hashes anything: it is a label: what it is worth is what the hold of that sum in a sandbox is worth. -/
noncomputable def Try.pinned : Pinned := { name := "ytglphklcfpgjbaa", sum := "0ebd27b0c50377ed51cf1e17e36f322d20a49fc161de5883916f591e90871c19", checked := Try.checked }
namespace Rows
def none {H : Type} : Left H := { results := [], args := [] }

/-- 'laws.FnExactChunkFault': WHATEVER THE INPUT: true; the input reads as it did. -/
def fnExactChunkFaultSpec : ChangeSpec := { name := "fnExactChunkFault", fn := fun _ => fun
  | [d] => { results := [.lit (.bool true)], args := [d] }
  | _ => none }
def fnExactChunkFaultRow : OpenClaim := { program := "ytglphklcfpgjbaa", sum := "0ebd27b0c50377ed51cf1e17e36f322d20a49fc161de5883916f591e90871c19", func := "loop.example/g00670/laws.FnExactChunkFault", spec := "fnExactChunkFault", apart := false }
def FnExactChunkFaultSaid : Prop := fnExactChunkFaultRow.holds Try.pinned (OpenSpec.ofChange fnExactChunkFaultSpec)

/-- ITS FALSE NEIGHBOUR: 'it returns false'. Refute it at one input. -/
def fnExactChunkFaultWrong : ChangeSpec := { name := "fnExactChunkFault", fn := fun _ => fun
  | [d] => { results := [.lit (.bool false)], args := [d] }
  | _ => none }
def FnExactChunkFaultWrongFalsely : Prop := fnExactChunkFaultRow.holds Try.pinned (OpenSpec.ofChange fnExactChunkFaultWrong)

/-- 'laws.FnExactPackChunk': WHATEVER THE INPUT: true; the input reads as it did. -/
def fnExactPackChunkSpec : ChangeSpec := { name := "fnExactPackChunk", fn := fun _ => fun
  | [d] => { results := [.lit (.bool true)], args := [d] }
  | _ => none }
def fnExactPackChunkRow : OpenClaim := { program := "ytglphklcfpgjbaa", sum := "0ebd27b0c50377ed51cf1e17e36f322d20a49fc161de5883916f591e90871c19", func := "loop.example/g00670/laws.FnExactPackChunk", spec := "fnExactPackChunk", apart := false }
def FnExactPackChunkSaid : Prop := fnExactPackChunkRow.holds Try.pinned (OpenSpec.ofChange fnExactPackChunkSpec)

/-- ITS FALSE NEIGHBOUR: 'it returns false'. Refute it at one input. -/
def fnExactPackChunkWrong : ChangeSpec := { name := "fnExactPackChunk", fn := fun _ => fun
  | [d] => { results := [.lit (.bool false)], args := [d] }
  | _ => none }
def FnExactPackChunkWrongFalsely : Prop := fnExactPackChunkRow.holds Try.pinned (OpenSpec.ofChange fnExactPackChunkWrong)

/-- 'laws.FnExactPacketFault': WHATEVER THE INPUT: true; the input reads as it did. -/
def fnExactPacketFaultSpec : ChangeSpec := { name := "fnExactPacketFault", fn := fun _ => fun
  | [d] => { results := [.lit (.bool true)], args := [d] }
  | _ => none }
def fnExactPacketFaultRow : OpenClaim := { program := "ytglphklcfpgjbaa", sum := "0ebd27b0c50377ed51cf1e17e36f322d20a49fc161de5883916f591e90871c19", func := "loop.example/g00670/laws.FnExactPacketFault", spec := "fnExactPacketFault", apart := false }
def FnExactPacketFaultSaid : Prop := fnExactPacketFaultRow.holds Try.pinned (OpenSpec.ofChange fnExactPacketFaultSpec)

/-- ITS FALSE NEIGHBOUR: 'it returns false'. Refute it at one input. -/
def fnExactPacketFaultWrong : ChangeSpec := { name := "fnExactPacketFault", fn := fun _ => fun
  | [d] => { results := [.lit (.bool false)], args := [d] }
  | _ => none }
def FnExactPacketFaultWrongFalsely : Prop := fnExactPacketFaultRow.holds Try.pinned (OpenSpec.ofChange fnExactPacketFaultWrong)

/-- 'laws.FnExactPackPacket': WHATEVER THE INPUT: true; the input reads as it did. -/
def fnExactPackPacketSpec : ChangeSpec := { name := "fnExactPackPacket", fn := fun _ => fun
  | [d] => { results := [.lit (.bool true)], args := [d] }
  | _ => none }
def fnExactPackPacketRow : OpenClaim := { program := "ytglphklcfpgjbaa", sum := "0ebd27b0c50377ed51cf1e17e36f322d20a49fc161de5883916f591e90871c19", func := "loop.example/g00670/laws.FnExactPackPacket", spec := "fnExactPackPacket", apart := false }
def FnExactPackPacketSaid : Prop := fnExactPackPacketRow.holds Try.pinned (OpenSpec.ofChange fnExactPackPacketSpec)

/-- ITS FALSE NEIGHBOUR: 'it returns false'. Refute it at one input. -/
def fnExactPackPacketWrong : ChangeSpec := { name := "fnExactPackPacket", fn := fun _ => fun
  | [d] => { results := [.lit (.bool false)], args := [d] }
  | _ => none }
def FnExactPackPacketWrongFalsely : Prop := fnExactPackPacketRow.holds Try.pinned (OpenSpec.ofChange fnExactPackPacketWrong)

/-- 'laws.FnExactReadPacket': WHATEVER THE INPUT: true; the input reads as it did. -/
def fnExactReadPacketSpec : ChangeSpec := { name := "fnExactReadPacket", fn := fun _ => fun
  | [d] => { results := [.lit (.bool true)], args := [d] }
  | _ => none }
def fnExactReadPacketRow : OpenClaim := { program := "ytglphklcfpgjbaa", sum := "0ebd27b0c50377ed51cf1e17e36f322d20a49fc161de5883916f591e90871c19", func := "loop.example/g00670/laws.FnExactReadPacket", spec := "fnExactReadPacket", apart := false }
def FnExactReadPacketSaid : Prop := fnExactReadPacketRow.holds Try.pinned (OpenSpec.ofChange fnExactReadPacketSpec)

/-- ITS FALSE NEIGHBOUR: 'it returns false'. Refute it at one input. -/
def fnExactReadPacketWrong : ChangeSpec := { name := "fnExactReadPacket", fn := fun _ => fun
  | [d] => { results := [.lit (.bool false)], args := [d] }
  | _ => none }
def FnExactReadPacketWrongFalsely : Prop := fnExactReadPacketRow.holds Try.pinned (OpenSpec.ofChange fnExactReadPacketWrong)

/-- 'laws.FnPackets': WHATEVER THE INPUT: true; the input reads as it did. -/
def fnPacketsSpec : ChangeSpec := { name := "fnPackets", fn := fun _ => fun
  | [d] => { results := [.lit (.bool true)], args := [d] }
  | _ => none }
def fnPacketsRow : OpenClaim := { program := "ytglphklcfpgjbaa", sum := "0ebd27b0c50377ed51cf1e17e36f322d20a49fc161de5883916f591e90871c19", func := "loop.example/g00670/laws.FnPackets", spec := "fnPackets", unfollowed := true, recurses := true, apart := false }
def FnPacketsSaid : Prop := fnPacketsRow.holds Try.pinned (OpenSpec.ofChange fnPacketsSpec)

/-- ITS FALSE NEIGHBOUR: 'it returns false'. Refute it at one input. -/
def fnPacketsWrong : ChangeSpec := { name := "fnPackets", fn := fun _ => fun
  | [d] => { results := [.lit (.bool false)], args := [d] }
  | _ => none }
def FnPacketsWrongFalsely : Prop := fnPacketsRow.holds Try.pinned (OpenSpec.ofChange fnPacketsWrong)

/-- 'laws.FnChunks': WHATEVER THE INPUT: true; the input reads as it did. -/
def fnChunksSpec : ChangeSpec := { name := "fnChunks", fn := fun _ => fun
  | [d] => { results := [.lit (.bool true)], args := [d] }
  | _ => none }
def fnChunksRow : OpenClaim := { program := "ytglphklcfpgjbaa", sum := "0ebd27b0c50377ed51cf1e17e36f322d20a49fc161de5883916f591e90871c19", func := "loop.example/g00670/laws.FnChunks", spec := "fnChunks", apart := false }
def FnChunksSaid : Prop := fnChunksRow.holds Try.pinned (OpenSpec.ofChange fnChunksSpec)

/-- ITS FALSE NEIGHBOUR: 'it returns false'. Refute it at one input. -/
def fnChunksWrong : ChangeSpec := { name := "fnChunks", fn := fun _ => fun
  | [d] => { results := [.lit (.bool false)], args := [d] }
  | _ => none }
def FnChunksWrongFalsely : Prop := fnChunksRow.holds Try.pinned (OpenSpec.ofChange fnChunksWrong)

/-- 'laws.FnExactSamePackets': WHATEVER THE INPUT: true; the input reads as it did. -/
def fnExactSamePacketsSpec : ChangeSpec := { name := "fnExactSamePackets", fn := fun _ => fun
  | [d1, d2] => { results := [.lit (.bool true)], args := [d1, d2] }
  | _ => none }
def fnExactSamePacketsRow : OpenClaim := { program := "ytglphklcfpgjbaa", sum := "0ebd27b0c50377ed51cf1e17e36f322d20a49fc161de5883916f591e90871c19", func := "loop.example/g00670/laws.FnExactSamePackets", spec := "fnExactSamePackets", unfollowed := true, recurses := true, apart := false }
def FnExactSamePacketsSaid : Prop := fnExactSamePacketsRow.holds Try.pinned (OpenSpec.ofChange fnExactSamePacketsSpec)

/-- ITS FALSE NEIGHBOUR: 'it returns false'. Refute it at one input. -/
def fnExactSamePacketsWrong : ChangeSpec := { name := "fnExactSamePackets", fn := fun _ => fun
  | [d1, d2] => { results := [.lit (.bool false)], args := [d1, d2] }
  | _ => none }
def FnExactSamePacketsWrongFalsely : Prop := fnExactSamePacketsRow.holds Try.pinned (OpenSpec.ofChange fnExactSamePacketsWrong)

/-- 'laws.FnExactFindAuth': WHATEVER THE INPUT: true; the input reads as it did. -/
def fnExactFindAuthSpec : ChangeSpec := { name := "fnExactFindAuth", fn := fun _ => fun
  | [d] => { results := [.lit (.bool true)], args := [d] }
  | _ => none }
def fnExactFindAuthRow : OpenClaim := { program := "ytglphklcfpgjbaa", sum := "0ebd27b0c50377ed51cf1e17e36f322d20a49fc161de5883916f591e90871c19", func := "loop.example/g00670/laws.FnExactFindAuth", spec := "fnExactFindAuth", unfollowed := true, recurses := true, apart := false }
def FnExactFindAuthSaid : Prop := fnExactFindAuthRow.holds Try.pinned (OpenSpec.ofChange fnExactFindAuthSpec)

/-- ITS FALSE NEIGHBOUR: 'it returns false'. Refute it at one input. -/
def fnExactFindAuthWrong : ChangeSpec := { name := "fnExactFindAuth", fn := fun _ => fun
  | [d] => { results := [.lit (.bool false)], args := [d] }
  | _ => none }
def FnExactFindAuthWrongFalsely : Prop := fnExactFindAuthRow.holds Try.pinned (OpenSpec.ofChange fnExactFindAuthWrong)

/-- 'laws.FnExactPackAnswer': WHATEVER THE INPUT: true; the input reads as it did. -/
def fnExactPackAnswerSpec : ChangeSpec := { name := "fnExactPackAnswer", fn := fun _ => fun
  | [d] => { results := [.lit (.bool true)], args := [d] }
  | _ => none }
def fnExactPackAnswerRow : OpenClaim := { program := "ytglphklcfpgjbaa", sum := "0ebd27b0c50377ed51cf1e17e36f322d20a49fc161de5883916f591e90871c19", func := "loop.example/g00670/laws.FnExactPackAnswer", spec := "fnExactPackAnswer", apart := false }
def FnExactPackAnswerSaid : Prop := fnExactPackAnswerRow.holds Try.pinned (OpenSpec.ofChange fnExactPackAnswerSpec)

/-- ITS FALSE NEIGHBOUR: 'it returns false'. Refute it at one input. -/
def fnExactPackAnswerWrong : ChangeSpec := { name := "fnExactPackAnswer", fn := fun _ => fun
  | [d] => { results := [.lit (.bool false)], args := [d] }
  | _ => none }
def FnExactPackAnswerWrongFalsely : Prop := fnExactPackAnswerRow.holds Try.pinned (OpenSpec.ofChange fnExactPackAnswerWrong)

/-- 'laws.FnExactPackData': WHATEVER THE INPUT: true; the input reads as it did. -/
def fnExactPackDataSpec : ChangeSpec := { name := "fnExactPackData", fn := fun _ => fun
  | [d] => { results := [.lit (.bool true)], args := [d] }
  | _ => none }
def fnExactPackDataRow : OpenClaim := { program := "ytglphklcfpgjbaa", sum := "0ebd27b0c50377ed51cf1e17e36f322d20a49fc161de5883916f591e90871c19", func := "loop.example/g00670/laws.FnExactPackData", spec := "fnExactPackData", apart := false }
def FnExactPackDataSaid : Prop := fnExactPackDataRow.holds Try.pinned (OpenSpec.ofChange fnExactPackDataSpec)

/-- ITS FALSE NEIGHBOUR: 'it returns false'. Refute it at one input. -/
def fnExactPackDataWrong : ChangeSpec := { name := "fnExactPackData", fn := fun _ => fun
  | [d] => { results := [.lit (.bool false)], args := [d] }
  | _ => none }
def FnExactPackDataWrongFalsely : Prop := fnExactPackDataRow.holds Try.pinned (OpenSpec.ofChange fnExactPackDataWrong)

/-- 'laws.FnExactPackAsconf': WHATEVER THE INPUT: true; the input reads as it did. -/
def fnExactPackAsconfSpec : ChangeSpec := { name := "fnExactPackAsconf", fn := fun _ => fun
  | [d] => { results := [.lit (.bool true)], args := [d] }
  | _ => none }
def fnExactPackAsconfRow : OpenClaim := { program := "ytglphklcfpgjbaa", sum := "0ebd27b0c50377ed51cf1e17e36f322d20a49fc161de5883916f591e90871c19", func := "loop.example/g00670/laws.FnExactPackAsconf", spec := "fnExactPackAsconf", apart := false }
def FnExactPackAsconfSaid : Prop := fnExactPackAsconfRow.holds Try.pinned (OpenSpec.ofChange fnExactPackAsconfSpec)

/-- ITS FALSE NEIGHBOUR: 'it returns false'. Refute it at one input. -/
def fnExactPackAsconfWrong : ChangeSpec := { name := "fnExactPackAsconf", fn := fun _ => fun
  | [d] => { results := [.lit (.bool false)], args := [d] }
  | _ => none }
def FnExactPackAsconfWrongFalsely : Prop := fnExactPackAsconfRow.holds Try.pinned (OpenSpec.ofChange fnExactPackAsconfWrong)

/- THE SECOND FORM. 'bulk': how many values and letters a reading holds, each counted each time it is reached (what is shared counts as often as it is met; a slice's spare places count too). A statement '..UptoSaid' is the law's where the arguments, and the package variables that the reading takes, are together of bulk at most 1048576: NARROWER than '..Said'. Prove '..Said' where nothing that the law and all that it calls make is longer than what came in: it says more and counts as full. Else prove '..UptoSaid'. A law counts once. -/
mutual
def uptoBulk {H : Type} : DataW H → Nat
  | .lit (.string bytes) => bytes.length + 1
  | .lit _ => 1
  | .nil => 1
  | .ptr d => uptoBulk d + 1
  | .slice elems spare => uptoBulkAll elems + uptoBulkAll spare + 1
  | .agg parts => uptoBulkAll parts + 1
  | .iface _ d => uptoBulk d + 1
  | .map entries => uptoBulkEntries entries + 1
  | .held _ => 1
def uptoBulkAll {H : Type} : List (DataW H) → Nat
  | [] => 0
  | d :: r => uptoBulk d + uptoBulkAll r
def uptoBulkEntries {H : Type} : List (Lit × DataW H) → Nat
  | [] => 0
  | x :: r => uptoBulkEntry x + uptoBulkEntries r
def uptoBulkEntry {H : Type} : Lit × DataW H → Nat
  | (.string bytes, d) => bytes.length + uptoBulk d + 1
  | (_, d) => uptoBulk d + 1
 end
def uptoSmall : (H : Type) → List (DataW H) → Bool := fun _ ds => decide (uptoBulkAll ds ≤ 1048576)
def OpenSpec.upto (s : _root_.Go.ChangeSpec) : _root_.Go.OpenSpec := { _root_.Go.OpenSpec.ofChange s with cond := some uptoSmall }

/-- 'laws.FnExactChunkFault', WHERE WHAT IT READS IS OF BULK AT MOST 1048576: true; the input reads as it did. -/
def fnExactChunkFaultUptoRow : OpenClaim := { program := "ytglphklcfpgjbaa", sum := "0ebd27b0c50377ed51cf1e17e36f322d20a49fc161de5883916f591e90871c19", func := "loop.example/g00670/laws.FnExactChunkFault", spec := "fnExactChunkFault", apart := false, narrowed := true }
def FnExactChunkFaultUptoSaid : Prop := fnExactChunkFaultUptoRow.holds Try.pinned (OpenSpec.upto fnExactChunkFaultSpec)

/-- 'laws.FnExactPackChunk', WHERE WHAT IT READS IS OF BULK AT MOST 1048576: true; the input reads as it did. -/
def fnExactPackChunkUptoRow : OpenClaim := { program := "ytglphklcfpgjbaa", sum := "0ebd27b0c50377ed51cf1e17e36f322d20a49fc161de5883916f591e90871c19", func := "loop.example/g00670/laws.FnExactPackChunk", spec := "fnExactPackChunk", apart := false, narrowed := true }
def FnExactPackChunkUptoSaid : Prop := fnExactPackChunkUptoRow.holds Try.pinned (OpenSpec.upto fnExactPackChunkSpec)

/-- 'laws.FnExactPacketFault', WHERE WHAT IT READS IS OF BULK AT MOST 1048576: true; the input reads as it did. -/
def fnExactPacketFaultUptoRow : OpenClaim := { program := "ytglphklcfpgjbaa", sum := "0ebd27b0c50377ed51cf1e17e36f322d20a49fc161de5883916f591e90871c19", func := "loop.example/g00670/laws.FnExactPacketFault", spec := "fnExactPacketFault", apart := false, narrowed := true }
def FnExactPacketFaultUptoSaid : Prop := fnExactPacketFaultUptoRow.holds Try.pinned (OpenSpec.upto fnExactPacketFaultSpec)

/-- 'laws.FnExactPackPacket', WHERE WHAT IT READS IS OF BULK AT MOST 1048576: true; the input reads as it did. -/
def fnExactPackPacketUptoRow : OpenClaim := { program := "ytglphklcfpgjbaa", sum := "0ebd27b0c50377ed51cf1e17e36f322d20a49fc161de5883916f591e90871c19", func := "loop.example/g00670/laws.FnExactPackPacket", spec := "fnExactPackPacket", apart := false, narrowed := true }
def FnExactPackPacketUptoSaid : Prop := fnExactPackPacketUptoRow.holds Try.pinned (OpenSpec.upto fnExactPackPacketSpec)

/-- 'laws.FnExactReadPacket', WHERE WHAT IT READS IS OF BULK AT MOST 1048576: true; the input reads as it did. -/
def fnExactReadPacketUptoRow : OpenClaim := { program := "ytglphklcfpgjbaa", sum := "0ebd27b0c50377ed51cf1e17e36f322d20a49fc161de5883916f591e90871c19", func := "loop.example/g00670/laws.FnExactReadPacket", spec := "fnExactReadPacket", apart := false, narrowed := true }
def FnExactReadPacketUptoSaid : Prop := fnExactReadPacketUptoRow.holds Try.pinned (OpenSpec.upto fnExactReadPacketSpec)

/-- 'laws.FnPackets', WHERE WHAT IT READS IS OF BULK AT MOST 1048576: true; the input reads as it did. -/
def fnPacketsUptoRow : OpenClaim := { program := "ytglphklcfpgjbaa", sum := "0ebd27b0c50377ed51cf1e17e36f322d20a49fc161de5883916f591e90871c19", func := "loop.example/g00670/laws.FnPackets", spec := "fnPackets", unfollowed := true, recurses := true, apart := false, narrowed := true }
def FnPacketsUptoSaid : Prop := fnPacketsUptoRow.holds Try.pinned (OpenSpec.upto fnPacketsSpec)

/-- 'laws.FnChunks', WHERE WHAT IT READS IS OF BULK AT MOST 1048576: true; the input reads as it did. -/
def fnChunksUptoRow : OpenClaim := { program := "ytglphklcfpgjbaa", sum := "0ebd27b0c50377ed51cf1e17e36f322d20a49fc161de5883916f591e90871c19", func := "loop.example/g00670/laws.FnChunks", spec := "fnChunks", apart := false, narrowed := true }
def FnChunksUptoSaid : Prop := fnChunksUptoRow.holds Try.pinned (OpenSpec.upto fnChunksSpec)

/-- 'laws.FnExactSamePackets', WHERE WHAT IT READS IS OF BULK AT MOST 1048576: true; the input reads as it did. -/
def fnExactSamePacketsUptoRow : OpenClaim := { program := "ytglphklcfpgjbaa", sum := "0ebd27b0c50377ed51cf1e17e36f322d20a49fc161de5883916f591e90871c19", func := "loop.example/g00670/laws.FnExactSamePackets", spec := "fnExactSamePackets", unfollowed := true, recurses := true, apart := false, narrowed := true }
def FnExactSamePacketsUptoSaid : Prop := fnExactSamePacketsUptoRow.holds Try.pinned (OpenSpec.upto fnExactSamePacketsSpec)

/-- 'laws.FnExactFindAuth', WHERE WHAT IT READS IS OF BULK AT MOST 1048576: true; the input reads as it did. -/
def fnExactFindAuthUptoRow : OpenClaim := { program := "ytglphklcfpgjbaa", sum := "0ebd27b0c50377ed51cf1e17e36f322d20a49fc161de5883916f591e90871c19", func := "loop.example/g00670/laws.FnExactFindAuth", spec := "fnExactFindAuth", unfollowed := true, recurses := true, apart := false, narrowed := true }
def FnExactFindAuthUptoSaid : Prop := fnExactFindAuthUptoRow.holds Try.pinned (OpenSpec.upto fnExactFindAuthSpec)

/-- 'laws.FnExactPackAnswer', WHERE WHAT IT READS IS OF BULK AT MOST 1048576: true; the input reads as it did. -/
def fnExactPackAnswerUptoRow : OpenClaim := { program := "ytglphklcfpgjbaa", sum := "0ebd27b0c50377ed51cf1e17e36f322d20a49fc161de5883916f591e90871c19", func := "loop.example/g00670/laws.FnExactPackAnswer", spec := "fnExactPackAnswer", apart := false, narrowed := true }
def FnExactPackAnswerUptoSaid : Prop := fnExactPackAnswerUptoRow.holds Try.pinned (OpenSpec.upto fnExactPackAnswerSpec)

/-- 'laws.FnExactPackData', WHERE WHAT IT READS IS OF BULK AT MOST 1048576: true; the input reads as it did. -/
def fnExactPackDataUptoRow : OpenClaim := { program := "ytglphklcfpgjbaa", sum := "0ebd27b0c50377ed51cf1e17e36f322d20a49fc161de5883916f591e90871c19", func := "loop.example/g00670/laws.FnExactPackData", spec := "fnExactPackData", apart := false, narrowed := true }
def FnExactPackDataUptoSaid : Prop := fnExactPackDataUptoRow.holds Try.pinned (OpenSpec.upto fnExactPackDataSpec)

/-- 'laws.FnExactPackAsconf', WHERE WHAT IT READS IS OF BULK AT MOST 1048576: true; the input reads as it did. -/
def fnExactPackAsconfUptoRow : OpenClaim := { program := "ytglphklcfpgjbaa", sum := "0ebd27b0c50377ed51cf1e17e36f322d20a49fc161de5883916f591e90871c19", func := "loop.example/g00670/laws.FnExactPackAsconf", spec := "fnExactPackAsconf", apart := false, narrowed := true }
def FnExactPackAsconfUptoSaid : Prop := fnExactPackAsconfUptoRow.holds Try.pinned (OpenSpec.upto fnExactPackAsconfSpec)

end Rows
end Go.Proofs.Ytglphklcfpgjbaa
