-- written by a program of this session (wip/tools) out of the translation's own print and the session's texts; nothing here is trusted: Lean checks it
import Derived.Test.YtlbjhbanfpnogaaDoorProg
import Derived.Below
import Derived.Maps.Own
import Derived.Deep.Draws
import Derived.Deep.AppendLies
import Derived.Maps.AppendAt
import Derived.OwnWalk
import Derived.Laws.BytesArg
import Derived.Laws.MakeOwn
import Derived.Laws.OwnMore
import Derived.Deep.OwnRows
import Derived.Tactics
import Derived.Lib.ConvBytes
import Derived.Laws.Slices
import Derived.WalkKit
import Derived.KernelRfl
import Derived.RowKit3
import Derived.Deep.LoopGhost
import Derived.Deep.QuietTactic
import Derived.BigQuiet
import Derived.WideLaws
import Derived.Deep.DeepCutAuto
import Derived.Deep.CutBlock
import Derived.Deep.RegionHeld3
import Derived.Laws.Rows
import Derived.Lib.AppendStr
import Derived.ArgAppend
import Derived.Laws.IdiomCopy
import Derived.OrdersHeld
import Derived.Laws.BitsLemmas
import Derived.RowKit
import Derived.WalkMore
import Derived.WalkSpells
import Derived.Laws.CopyOwn
import Derived.Lib.Hide
import Derived.OpenShut
import Derived.Handy
import Derived.Lib.LazyBuf
import Derived.Test.YtlbjhbanfpnogaaDoorHf7
import Derived.Lib.SlBytesConst
import Derived.Test.YtlbjhbanfpnogaaDoorWWords
import Derived.Test.YtlbjhbanfpnogaaDoorWLast
import Derived.Test.YtlbjhbanfpnogaaDoorWTab
import Derived.Test.YtlbjhbanfpnogaaDoorWFour
import Derived.Test.YtlbjhbanfpnogaaDoorWQPut
import Derived.Test.YtlbjhbanfpnogaaDoorWApart
import Derived.Test.YtlbjhbanfpnogaaDoorWArr
import Derived.Test.YtlbjhbanfpnogaaDoorWZeros
import Derived.Test.YtlbjhbanfpnogaaDoorWFoot
import Derived.Test.YtlbjhbanfpnogaaDoorWKept
import Derived.Test.YtlbjhbanfpnogaaDoorWShare
import Derived.Test.YtlbjhbanfpnogaaDoorWN
import Derived.Test.YtlbjhbanfpnogaaDoorWFootNe
import Derived.Test.YtlbjhbanfpnogaaDoorWAt
import Derived.Test.YtlbjhbanfpnogaaDoorWEqStruct
import Derived.Test.YtlbjhbanfpnogaaDoorWRepsOne
import Derived.Test.YtlbjhbanfpnogaaDoorWInv
import Derived.Test.YtlbjhbanfpnogaaDoorWInvWords
import Derived.Test.YtlbjhbanfpnogaaDoorWGuard
import Derived.Test.YtlbjhbanfpnogaaDoorWNEv
import Derived.Test.YtlbjhbanfpnogaaDoorWMore
namespace Go.Proofs.YtlbjhbanfpnogaaDoor.QH
open Go.RowKit Go.Proofs.YtlbjhbanfpnogaaDoorW.PrintWords Go.Proofs.YtlbjhbanfpnogaaDoorW.PrintLast Go.Proofs.YtlbjhbanfpnogaaDoorW.PrintMore
attribute [local go_sem] max2_int min2_int max_two min_two max_three min_three max_four min_four   -- for this text's walks alone
set_option linter.unusedVariables false
set_option linter.unusedSimpArgs false



def errW : Option Int → Value
  | none => .nilIface
  | some c => .iface 0 (.int .i64 c)
theorem errW_none : errW none = .nilIface := rfl
theorem errW_some (c : Int) : errW (some c) = .iface 0 (.int .i64 c) := rfl

theorem info5 : (Tryd.prog.info? 5).map (fun i => (i.zero, i.size, i.bytes)) = some (some (.int .u8 0), 1, 1) := by kernel_rfl
-- the values' own types

end Go.Proofs.YtlbjhbanfpnogaaDoor.QH
