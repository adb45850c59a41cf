-- Laid by a program of this session (wip/print): the kit's printer with changes of this session's own.
import Derived.Test.YtglphklcfpgjbaaProg
import Derived.Below
import Derived.Deep.Draws
import Derived.Deep.AppendLies
import Derived.Maps.AppendAt
import Derived.OwnWalk
import Derived.Laws.BytesArg
import Derived.Laws.MakeOwn
import Derived.Laws.OwnMore
import Derived.Deep.OwnRows
import Derived.Tactics
import Derived.Lib.ConvBytes
import Derived.Laws.Slices
import Derived.WalkKit
import Derived.KernelRfl
import Derived.RowKit3
import Derived.Deep.LoopGhost
import Derived.Deep.QuietTactic
import Derived.BigQuiet
import Derived.WideLaws
import Derived.Deep.DeepCutAuto
import Derived.Deep.CutBlock
import Derived.Deep.RegionHeld3
import Derived.Laws.Rows
import Derived.Lib.AppendStr
import Derived.ArgAppend
import Derived.Laws.IdiomCopy
import Derived.OrdersHeld
import Derived.Laws.BitsLemmas
import Derived.RowKit
import Derived.Lib.SliceRun
import Derived.WalkSpells
import Derived.Test.YtglphklcfpgjbaaWWords
import Derived.Test.YtglphklcfpgjbaaWLast
import Derived.Test.YtglphklcfpgjbaaWTab
import Derived.Test.YtglphklcfpgjbaaWFour
import Derived.Test.YtglphklcfpgjbaaWQPut
import Derived.Test.YtglphklcfpgjbaaWApart
import Derived.Test.YtglphklcfpgjbaaWArr
import Derived.Test.YtglphklcfpgjbaaWZeros
import Derived.Test.YtglphklcfpgjbaaWFoot
import Derived.Test.YtglphklcfpgjbaaWKept
import Derived.Test.YtglphklcfpgjbaaWShare
import Derived.Test.YtglphklcfpgjbaaWN
import Derived.Test.YtglphklcfpgjbaaWFootNe
import Derived.Test.YtglphklcfpgjbaaWAt
import Derived.Test.YtglphklcfpgjbaaWEqStruct
import Derived.Test.YtglphklcfpgjbaaWRepsOne
import Derived.Test.YtglphklcfpgjbaaWInv
import Derived.Test.YtglphklcfpgjbaaWInvWords
import Derived.Test.YtglphklcfpgjbaaWGuard
import Derived.Test.YtglphklcfpgjbaaWNEv
import Derived.Test.YtglphklcfpgjbaaWMore
namespace Go.Proofs.Ytglphklcfpgjbaa.PFnExactPackChunk
open Go.RowKit Go.Proofs.YtglphklcfpgjbaaW.PrintWords Go.Proofs.YtglphklcfpgjbaaW.PrintLast Go.Proofs.YtglphklcfpgjbaaW.PrintMore
attribute [local go_sem] max2_int min2_int max_two min_two max_three min_three max_four min_four   -- for this text's walks alone
set_option linter.unusedVariables false
set_option linter.unusedSimpArgs false



def errW : Option Int → Value
  | none => .nilIface
  | some c => .iface 0 (.int .i64 c)
theorem errW_none : errW none = .nilIface := rfl
theorem errW_some (c : Int) : errW (some c) = .iface 0 (.int .i64 c) := rfl

theorem info5 : (Try.prog.info? 5).map (fun i => (i.zero, i.size, i.bytes)) = some (some (.int .u8 0), 1, 1) := by kernel_rfl
-- the values' own types

end Go.Proofs.Ytglphklcfpgjbaa.PFnExactPackChunk
