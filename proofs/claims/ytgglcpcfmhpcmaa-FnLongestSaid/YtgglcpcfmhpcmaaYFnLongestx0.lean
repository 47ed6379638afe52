-- of this session: its walks are told by a program (wip/ext.py) out of the translation
import Derived.Test.YtgglcpcfmhpcmaaProg
import Derived.Below
import Derived.Deep.Draws
import Derived.Deep.AppendLies
import Derived.Maps.AppendAt
import Derived.OwnWalk
import Derived.Laws.BytesArg
import Derived.Laws.MakeOwn
import Derived.Laws.OwnMore
import Derived.Deep.OwnRows
import Derived.Tactics
import Derived.Lib.ConvBytes
import Derived.Laws.Slices
import Derived.WalkKit
import Derived.KernelRfl
import Derived.RowKit3
import Derived.Deep.LoopGhost
import Derived.Deep.QuietTactic
import Derived.BigQuiet
import Derived.WideLaws
import Derived.Deep.DeepCutAuto
import Derived.Deep.CutBlock
import Derived.Deep.RegionHeld3
import Derived.Laws.Rows
import Derived.Lib.AppendStr
import Derived.ArgAppend
import Derived.Laws.IdiomCopy
import Derived.OrdersHeld
import Derived.Laws.BitsLemmas
import Derived.RowKit
import Derived.Test.YtgglcpcfmhpcmaaWWords
import Derived.Test.YtgglcpcfmhpcmaaWLast
import Derived.Test.YtgglcpcfmhpcmaaWTab
import Derived.Test.YtgglcpcfmhpcmaaWFour
import Derived.Test.YtgglcpcfmhpcmaaWQPut
import Derived.Test.YtgglcpcfmhpcmaaWApart
import Derived.Test.YtgglcpcfmhpcmaaWArr
import Derived.Test.YtgglcpcfmhpcmaaWZeros
import Derived.Test.YtgglcpcfmhpcmaaWFoot
import Derived.Test.YtgglcpcfmhpcmaaWKept
import Derived.Test.YtgglcpcfmhpcmaaWShare
import Derived.Test.YtgglcpcfmhpcmaaWN
import Derived.Test.YtgglcpcfmhpcmaaWFootNe
import Derived.Test.YtgglcpcfmhpcmaaWAt
import Derived.Test.YtgglcpcfmhpcmaaWEqStruct
import Derived.Test.YtgglcpcfmhpcmaaWRepsOne
import Derived.Test.YtgglcpcfmhpcmaaWInv
import Derived.Test.YtgglcpcfmhpcmaaWInvWords
import Derived.Test.YtgglcpcfmhpcmaaWGuard
import Derived.Test.YtgglcpcfmhpcmaaWNEv
import Derived.Test.YtgglcpcfmhpcmaaWMore
import Derived.Test.YtgglcpcfmhpcmaaEv
namespace Go.Proofs.Ytgglcpcfmhpcmaa.PFnLongest
open Go.RowKit Go.Proofs.YtgglcpcfmhpcmaaW.PrintWords Go.Proofs.YtgglcpcfmhpcmaaW.PrintLast Go.Proofs.YtgglcpcfmhpcmaaW.PrintMore
attribute [local go_sem] max2_int min2_int max_two min_two max_three min_three max_four min_four   -- for this text's walks alone
set_option linter.unusedVariables false
set_option linter.unusedSimpArgs false



def errW : Option Int → Value
  | none => .nilIface
  | some c => .iface 0 (.int .i64 c)
theorem errW_none : errW none = .nilIface := rfl
theorem errW_some (c : Int) : errW (some c) = .iface 0 (.int .i64 c) := rfl

theorem info5 : (Try.prog.info? 5).map (fun i => (i.zero, i.size, i.bytes)) = some (some (.int .u8 0), 1, 1) := by kernel_rfl
theorem info9 : (Try.prog.info? 9).map (fun i => (i.zero, i.size, i.bytes)) = some (some (.string ⟨#[]⟩), 1, 16) := by kernel_rfl
-- the values' own types

end Go.Proofs.Ytgglcpcfmhpcmaa.PFnLongest
