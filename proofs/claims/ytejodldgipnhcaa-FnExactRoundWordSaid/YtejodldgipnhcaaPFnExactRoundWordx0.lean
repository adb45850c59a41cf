-- Laid by a program of this session (wip/print): the kit's printer with changes of this session's own.
import Derived.Test.YtejodldgipnhcaaProg
import Derived.Below
import Derived.Deep.Draws
import Derived.Deep.AppendLies
import Derived.Maps.AppendAt
import Derived.OwnWalk
import Derived.Laws.BytesArg
import Derived.Laws.MakeOwn
import Derived.Laws.OwnMore
import Derived.Deep.OwnRows
import Derived.Tactics
import Derived.Lib.ConvBytes
import Derived.Laws.Slices
import Derived.WalkKit
import Derived.KernelRfl
import Derived.RowKit3
import Derived.Deep.LoopGhost
import Derived.Deep.QuietTactic
import Derived.BigQuiet
import Derived.WideLaws
import Derived.Deep.DeepCutAuto
import Derived.Deep.CutBlock
import Derived.Deep.RegionHeld3
import Derived.Laws.Rows
import Derived.Lib.AppendStr
import Derived.ArgAppend
import Derived.Laws.IdiomCopy
import Derived.OrdersHeld
import Derived.Laws.BitsLemmas
import Derived.RowKit
import Derived.Lib.SliceRun
import Derived.WalkSpells
import Derived.Test.YtejodldgipnhcaaWWords
import Derived.Test.YtejodldgipnhcaaWLast
import Derived.Test.YtejodldgipnhcaaWTab
import Derived.Test.YtejodldgipnhcaaWFour
import Derived.Test.YtejodldgipnhcaaWQPut
import Derived.Test.YtejodldgipnhcaaWApart
import Derived.Test.YtejodldgipnhcaaWArr
import Derived.Test.YtejodldgipnhcaaWZeros
import Derived.Test.YtejodldgipnhcaaWFoot
import Derived.Test.YtejodldgipnhcaaWKept
import Derived.Test.YtejodldgipnhcaaWShare
import Derived.Test.YtejodldgipnhcaaWN
import Derived.Test.YtejodldgipnhcaaWFootNe
import Derived.Test.YtejodldgipnhcaaWAt
import Derived.Test.YtejodldgipnhcaaWEqStruct
import Derived.Test.YtejodldgipnhcaaWRepsOne
import Derived.Test.YtejodldgipnhcaaWInv
import Derived.Test.YtejodldgipnhcaaWInvWords
import Derived.Test.YtejodldgipnhcaaWGuard
import Derived.Test.YtejodldgipnhcaaWNEv
import Derived.Test.YtejodldgipnhcaaWMore
namespace Go.Proofs.Ytejodldgipnhcaa.PFnExactRoundWord
open Go.RowKit Go.Proofs.YtejodldgipnhcaaW.PrintWords Go.Proofs.YtejodldgipnhcaaW.PrintLast Go.Proofs.YtejodldgipnhcaaW.PrintMore
attribute [local go_sem] max2_int min2_int max_two min_two max_three min_three max_four min_four   -- for this text's walks alone
set_option linter.unusedVariables false
set_option linter.unusedSimpArgs false



def errW : Option Int → Value
  | none => .nilIface
  | some c => .iface 0 (.int .i64 c)
theorem errW_none : errW none = .nilIface := rfl
theorem errW_some (c : Int) : errW (some c) = .iface 0 (.int .i64 c) := rfl

theorem info2 : (Try.prog.info? 2).map (fun i => (i.zero, i.size, i.bytes)) = some (some (.int .i64 0), 1, 8) := by kernel_rfl
-- the values' own types

end Go.Proofs.Ytejodldgipnhcaa.PFnExactRoundWord
