-- written by a program of this session (wip/tools) out of the translation's own print and the session's texts; nothing here is trusted: Lean checks it
import Derived.Test.YtlbjhbanfpnogaaProg
import Derived.Below
import Derived.Deep.Draws
import Derived.Deep.AppendLies
import Derived.Maps.AppendAt
import Derived.OwnWalk
import Derived.Laws.BytesArg
import Derived.Laws.MakeOwn
import Derived.Laws.OwnMore
import Derived.Deep.OwnRows
import Derived.Tactics
import Derived.Lib.ConvBytes
import Derived.Laws.Slices
import Derived.WalkKit
import Derived.KernelRfl
import Derived.RowKit3
import Derived.Deep.LoopGhost
import Derived.Deep.QuietTactic
import Derived.BigQuiet
import Derived.WideLaws
import Derived.Deep.DeepCutAuto
import Derived.Deep.CutBlock
import Derived.Deep.RegionHeld3
import Derived.Laws.Rows
import Derived.Lib.AppendStr
import Derived.ArgAppend
import Derived.Laws.IdiomCopy
import Derived.OrdersHeld
import Derived.Laws.BitsLemmas
import Derived.RowKit
import Derived.WalkMore
import Derived.WalkSpells
import Derived.Laws.CopyOwn
import Derived.Lib.Hide
import Derived.OpenShut
import Derived.Handy
import Derived.Lib.LazyBuf
import Derived.Test.YtlbjhbanfpnogaaWWords
import Derived.Test.YtlbjhbanfpnogaaWLast
import Derived.Test.YtlbjhbanfpnogaaWTab
import Derived.Test.YtlbjhbanfpnogaaWFour
import Derived.Test.YtlbjhbanfpnogaaWQPut
import Derived.Test.YtlbjhbanfpnogaaWApart
import Derived.Test.YtlbjhbanfpnogaaWArr
import Derived.Test.YtlbjhbanfpnogaaWZeros
import Derived.Test.YtlbjhbanfpnogaaWFoot
import Derived.Test.YtlbjhbanfpnogaaWKept
import Derived.Test.YtlbjhbanfpnogaaWShare
import Derived.Test.YtlbjhbanfpnogaaWN
import Derived.Test.YtlbjhbanfpnogaaWFootNe
import Derived.Test.YtlbjhbanfpnogaaWAt
import Derived.Test.YtlbjhbanfpnogaaWEqStruct
import Derived.Test.YtlbjhbanfpnogaaWRepsOne
import Derived.Test.YtlbjhbanfpnogaaWInv
import Derived.Test.YtlbjhbanfpnogaaWInvWords
import Derived.Test.YtlbjhbanfpnogaaWGuard
import Derived.Test.YtlbjhbanfpnogaaWNEv
import Derived.Test.YtlbjhbanfpnogaaWMore
namespace Go.Proofs.Ytlbjhbanfpnogaa.QP
open Go.RowKit Go.Proofs.YtlbjhbanfpnogaaW.PrintWords Go.Proofs.YtlbjhbanfpnogaaW.PrintLast Go.Proofs.YtlbjhbanfpnogaaW.PrintMore
attribute [local go_sem] max2_int min2_int max_two min_two max_three min_three max_four min_four   -- for this text's walks alone
set_option linter.unusedVariables false
set_option linter.unusedSimpArgs false



def errW : Option Int → Value
  | none => .nilIface
  | some c => .iface 0 (.int .i64 c)
theorem errW_none : errW none = .nilIface := rfl
theorem errW_some (c : Int) : errW (some c) = .iface 0 (.int .i64 c) := rfl

theorem info5 : (Try.prog.info? 5).map (fun i => (i.zero, i.size, i.bytes)) = some (some (.int .u8 0), 1, 1) := by kernel_rfl
-- the values' own types

end Go.Proofs.Ytlbjhbanfpnogaa.QP
