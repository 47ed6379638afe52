-- of this session: its walks are told by a program (wip/ext.py) out of the translation
import Derived.Test.YtdlaegianaofjaaProg
import Derived.Below
import Derived.Deep.Draws
import Derived.Deep.AppendLies
import Derived.Maps.AppendAt
import Derived.OwnWalk
import Derived.Laws.BytesArg
import Derived.Laws.MakeOwn
import Derived.Laws.OwnMore
import Derived.Deep.OwnRows
import Derived.Tactics
import Derived.Lib.ConvBytes
import Derived.Laws.Slices
import Derived.WalkKit
import Derived.KernelRfl
import Derived.RowKit3
import Derived.Deep.LoopGhost
import Derived.Deep.QuietTactic
import Derived.BigQuiet
import Derived.WideLaws
import Derived.Deep.DeepCutAuto
import Derived.Deep.CutBlock
import Derived.Deep.RegionHeld3
import Derived.Laws.Rows
import Derived.Lib.AppendStr
import Derived.ArgAppend
import Derived.Laws.IdiomCopy
import Derived.OrdersHeld
import Derived.Laws.BitsLemmas
import Derived.RowKit
import Derived.Test.YtdlaegianaofjaaWWords
import Derived.Test.YtdlaegianaofjaaWLast
import Derived.Test.YtdlaegianaofjaaWTab
import Derived.Test.YtdlaegianaofjaaWFour
import Derived.Test.YtdlaegianaofjaaWQPut
import Derived.Test.YtdlaegianaofjaaWApart
import Derived.Test.YtdlaegianaofjaaWArr
import Derived.Test.YtdlaegianaofjaaWZeros
import Derived.Test.YtdlaegianaofjaaWFoot
import Derived.Test.YtdlaegianaofjaaWKept
import Derived.Test.YtdlaegianaofjaaWShare
import Derived.Test.YtdlaegianaofjaaWN
import Derived.Test.YtdlaegianaofjaaWFootNe
import Derived.Test.YtdlaegianaofjaaWAt
import Derived.Test.YtdlaegianaofjaaWEqStruct
import Derived.Test.YtdlaegianaofjaaWRepsOne
import Derived.Test.YtdlaegianaofjaaWInv
import Derived.Test.YtdlaegianaofjaaWInvWords
import Derived.Test.YtdlaegianaofjaaWGuard
import Derived.Test.YtdlaegianaofjaaWNEv
import Derived.Test.YtdlaegianaofjaaWMore
import Derived.Test.YtdlaegianaofjaaEv
namespace Go.Proofs.Ytdlaegianaofjaa.PFnCuts
open Go.RowKit Go.Proofs.YtdlaegianaofjaaW.PrintWords Go.Proofs.YtdlaegianaofjaaW.PrintLast Go.Proofs.YtdlaegianaofjaaW.PrintMore
attribute [local go_sem] max2_int min2_int max_two min_two max_three min_three max_four min_four   -- for this text's walks alone
set_option linter.unusedVariables false
set_option linter.unusedSimpArgs false



def errW : Option Int → Value
  | none => .nilIface
  | some c => .iface 0 (.int .i64 c)
theorem errW_none : errW none = .nilIface := rfl
theorem errW_some (c : Int) : errW (some c) = .iface 0 (.int .i64 c) := rfl

theorem info3 : (Try.prog.info? 3).map (fun i => (i.zero, i.size, i.bytes)) = some (some (.int .i64 0), 1, 8) := by kernel_rfl
theorem info5 : (Try.prog.info? 5).map (fun i => (i.zero, i.size, i.bytes)) = some (some (.int .u8 0), 1, 1) := by kernel_rfl
theorem info9 : (Try.prog.info? 9).map (fun i => (i.zero, i.size, i.bytes)) = some (some (.string ⟨#[]⟩), 1, 16) := by kernel_rfl
-- the values' own types

end Go.Proofs.Ytdlaegianaofjaa.PFnCuts
