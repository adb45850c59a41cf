-- Laid by a program of this session (wip/print): the kit's printer with changes of this session's own.
import Derived.Test.YtceobpekmladdaaProg
import Derived.Below
import Derived.Deep.Draws
import Derived.Deep.AppendLies
import Derived.Maps.AppendAt
import Derived.OwnWalk
import Derived.Laws.BytesArg
import Derived.Laws.MakeOwn
import Derived.Laws.OwnMore
import Derived.Deep.OwnRows
import Derived.Tactics
import Derived.Lib.ConvBytes
import Derived.Laws.Slices
import Derived.WalkKit
import Derived.KernelRfl
import Derived.RowKit3
import Derived.Deep.LoopGhost
import Derived.Deep.QuietTactic
import Derived.BigQuiet
import Derived.WideLaws
import Derived.Deep.DeepCutAuto
import Derived.Deep.CutBlock
import Derived.Deep.RegionHeld3
import Derived.Laws.Rows
import Derived.Lib.AppendStr
import Derived.ArgAppend
import Derived.Laws.IdiomCopy
import Derived.OrdersHeld
import Derived.Laws.BitsLemmas
import Derived.RowKit
import Derived.Lib.SliceRun
import Derived.WalkSpells
import Derived.Test.YtceobpekmladdaaUFnMacsWords
import Derived.Test.YtceobpekmladdaaUFnMacsLast
import Derived.Test.YtceobpekmladdaaUFnMacsTab
import Derived.Test.YtceobpekmladdaaUFnMacsFour
import Derived.Test.YtceobpekmladdaaUFnMacsQPut
import Derived.Test.YtceobpekmladdaaUFnMacsApart
import Derived.Test.YtceobpekmladdaaUFnMacsArr
import Derived.Test.YtceobpekmladdaaUFnMacsZeros
import Derived.Test.YtceobpekmladdaaUFnMacsFoot
import Derived.Test.YtceobpekmladdaaUFnMacsKept
import Derived.Test.YtceobpekmladdaaUFnMacsShare
import Derived.Test.YtceobpekmladdaaUFnMacsN
import Derived.Test.YtceobpekmladdaaUFnMacsFootNe
import Derived.Test.YtceobpekmladdaaUFnMacsAt
import Derived.Test.YtceobpekmladdaaUFnMacsEqStruct
import Derived.Test.YtceobpekmladdaaUFnMacsRepsOne
import Derived.Test.YtceobpekmladdaaUFnMacsInv
import Derived.Test.YtceobpekmladdaaUFnMacsInvWords
import Derived.Test.YtceobpekmladdaaUFnMacsGuard
import Derived.Test.YtceobpekmladdaaUFnMacsNEv
import Derived.Test.YtceobpekmladdaaUFnMacsMore
namespace Go.Proofs.Ytceobpekmladdaa.PFnMacs
open Go.RowKit Go.Proofs.YtceobpekmladdaaW.PrintWords Go.Proofs.YtceobpekmladdaaW.PrintLast Go.Proofs.YtceobpekmladdaaW.PrintMore
attribute [local go_sem] max2_int min2_int max_two min_two max_three min_three max_four min_four   -- for this text's walks alone
set_option linter.unusedVariables false
set_option linter.unusedSimpArgs false



def errW : Option Int → Value
 | none => .nilIface
 | some c => .iface 0 (.int .i64 c)
theorem errW_none : errW none = .nilIface := rfl
theorem errW_some (c : Int) : errW (some c) = .iface 0 (.int .i64 c) := rfl

theorem info2 : (Try.prog.info? 2).map (fun i => (i.zero, i.size, i.bytes)) = some (some (.int .i64 0), 1, 8) := by kernel_rfl
theorem info5 : (Try.prog.info? 5).map (fun i => (i.zero, i.size, i.bytes)) = some (some (.int .u8 0), 1, 1) := by kernel_rfl
-- the values' own types

end Go.Proofs.Ytceobpekmladdaa.PFnMacs
