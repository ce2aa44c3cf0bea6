-- written by a program of this session (wip/tools) out of the translation's own print and the session's texts; nothing here is trusted: Lean checks it
import Derived.Test.YtjkadheknjkkbaaProg
import Derived.Below
import Derived.Maps.Own
import Derived.Deep.Draws
import Derived.Deep.AppendLies
import Derived.Maps.AppendAt
import Derived.OwnWalk
import Derived.Laws.BytesArg
import Derived.Laws.MakeOwn
import Derived.Laws.OwnMore
import Derived.Deep.OwnRows
import Derived.Tactics
import Derived.Lib.ConvBytes
import Derived.Laws.Slices
import Derived.WalkKit
import Derived.KernelRfl
import Derived.RowKit3
import Derived.Deep.LoopGhost
import Derived.Deep.QuietTactic
import Derived.BigQuiet
import Derived.WideLaws
import Derived.Deep.DeepCutAuto
import Derived.Deep.CutBlock
import Derived.Deep.RegionHeld3
import Derived.Laws.Rows
import Derived.Lib.AppendStr
import Derived.ArgAppend
import Derived.Laws.IdiomCopy
import Derived.OrdersHeld
import Derived.Laws.BitsLemmas
import Derived.RowKit
import Derived.WalkMore
import Derived.WalkSpells
import Derived.Laws.CopyOwn
import Derived.Lib.Hide
import Derived.OpenShut
import Derived.Handy
import Derived.Lib.LazyBuf
import Derived.Test.YtjkadheknjkkbaaWWords
import Derived.Test.YtjkadheknjkkbaaWLast
import Derived.Test.YtjkadheknjkkbaaWTab
import Derived.Test.YtjkadheknjkkbaaWFour
import Derived.Test.YtjkadheknjkkbaaWQPut
import Derived.Test.YtjkadheknjkkbaaWApart
import Derived.Test.YtjkadheknjkkbaaWArr
import Derived.Test.YtjkadheknjkkbaaWZeros
import Derived.Test.YtjkadheknjkkbaaWFoot
import Derived.Test.YtjkadheknjkkbaaWKept
import Derived.Test.YtjkadheknjkkbaaWShare
import Derived.Test.YtjkadheknjkkbaaWN
import Derived.Test.YtjkadheknjkkbaaWFootNe
import Derived.Test.YtjkadheknjkkbaaWAt
import Derived.Test.YtjkadheknjkkbaaWEqStruct
import Derived.Test.YtjkadheknjkkbaaWRepsOne
import Derived.Test.YtjkadheknjkkbaaWInv
import Derived.Test.YtjkadheknjkkbaaWInvWords
import Derived.Test.YtjkadheknjkkbaaWGuard
import Derived.Test.YtjkadheknjkkbaaWNEv
import Derived.Test.YtjkadheknjkkbaaWMore
namespace Go.Proofs.Ytjkadheknjkkbaa.QR
open Go.RowKit Go.Proofs.YtjkadheknjkkbaaW.PrintWords Go.Proofs.YtjkadheknjkkbaaW.PrintLast Go.Proofs.YtjkadheknjkkbaaW.PrintMore
attribute [local go_sem] max2_int min2_int max_two min_two max_three min_three max_four min_four   -- for this text's walks alone
set_option linter.unusedVariables false
set_option linter.unusedSimpArgs false



def errW : Option Int → Value
  | none => .nilIface
  | some c => .iface 0 (.int .i64 c)
theorem errW_none : errW none = .nilIface := rfl
theorem errW_some (c : Int) : errW (some c) = .iface 0 (.int .i64 c) := rfl

-- the values' own types

end Go.Proofs.Ytjkadheknjkkbaa.QR
