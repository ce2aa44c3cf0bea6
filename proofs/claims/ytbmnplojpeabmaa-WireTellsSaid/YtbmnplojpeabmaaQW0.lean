-- written by a program of this session (wip/tools) out of the translation's own print and the session's texts; nothing here is trusted: Lean checks it
import Derived.Test.YtbmnplojpeabmaaProg
import Derived.Below
import Derived.Deep.Draws
import Derived.Deep.AppendLies
import Derived.Maps.AppendAt
import Derived.OwnWalk
import Derived.Laws.BytesArg
import Derived.Laws.MakeOwn
import Derived.Laws.OwnMore
import Derived.Deep.OwnRows
import Derived.Tactics
import Derived.Lib.ConvBytes
import Derived.Laws.Slices
import Derived.WalkKit
import Derived.KernelRfl
import Derived.RowKit3
import Derived.Deep.LoopGhost
import Derived.Deep.QuietTactic
import Derived.BigQuiet
import Derived.WideLaws
import Derived.Deep.DeepCutAuto
import Derived.Deep.CutBlock
import Derived.Deep.RegionHeld3
import Derived.Laws.Rows
import Derived.Lib.AppendStr
import Derived.ArgAppend
import Derived.Laws.IdiomCopy
import Derived.OrdersHeld
import Derived.Laws.BitsLemmas
import Derived.RowKit
import Derived.WalkSpells
import Derived.Laws.CopyOwn
import Derived.Lib.Hide
import Derived.OpenShut
import Derived.Handy
import Derived.Lib.LazyBuf
import Derived.Test.YtbmnplojpeabmaaWWords
import Derived.Test.YtbmnplojpeabmaaWLast
import Derived.Test.YtbmnplojpeabmaaWTab
import Derived.Test.YtbmnplojpeabmaaWFour
import Derived.Test.YtbmnplojpeabmaaWQPut
import Derived.Test.YtbmnplojpeabmaaWApart
import Derived.Test.YtbmnplojpeabmaaWArr
import Derived.Test.YtbmnplojpeabmaaWZeros
import Derived.Test.YtbmnplojpeabmaaWFoot
import Derived.Test.YtbmnplojpeabmaaWKept
import Derived.Test.YtbmnplojpeabmaaWShare
import Derived.Test.YtbmnplojpeabmaaWN
import Derived.Test.YtbmnplojpeabmaaWFootNe
import Derived.Test.YtbmnplojpeabmaaWAt
import Derived.Test.YtbmnplojpeabmaaWEqStruct
import Derived.Test.YtbmnplojpeabmaaWRepsOne
import Derived.Test.YtbmnplojpeabmaaWInv
import Derived.Test.YtbmnplojpeabmaaWInvWords
import Derived.Test.YtbmnplojpeabmaaWGuard
import Derived.Test.YtbmnplojpeabmaaWNEv
import Derived.Test.YtbmnplojpeabmaaWMore
namespace Go.Proofs.Ytbmnplojpeabmaa.QW
open Go.RowKit Go.Proofs.YtbmnplojpeabmaaW.PrintWords Go.Proofs.YtbmnplojpeabmaaW.PrintLast Go.Proofs.YtbmnplojpeabmaaW.PrintMore
attribute [local go_sem] max2_int min2_int max_two min_two max_three min_three max_four min_four   -- for this text's walks alone
set_option linter.unusedVariables false
set_option linter.unusedSimpArgs false



def errW : Option Int → Value
  | none => .nilIface
  | some c => .iface 0 (.int .i64 c)
theorem errW_none : errW none = .nilIface := rfl
theorem errW_some (c : Int) : errW (some c) = .iface 0 (.int .i64 c) := rfl

theorem info5 : (Try.prog.info? 5).map (fun i => (i.zero, i.size, i.bytes)) = some (some (.int .u8 0), 1, 1) := by kernel_rfl
-- the values' own types

end Go.Proofs.Ytbmnplojpeabmaa.QW
