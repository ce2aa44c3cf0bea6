/-
  THE LAW HuffCodes: no code begins with another one; a longer code is greater.
  Conditions: none but the row's own.
-/
import Derived.Test.YtlbjhbanfpnogaaDoorHc0
import Derived.OpenShut
namespace Go.Proofs.YtlbjhbanfpnogaaDoor.Pure
open Go Go.RowKit Go.Proofs.YtlbjhbanfpnogaaDoor.QH
theorem HuffCodes (a0 a1 : Int) (w0 : (Lit.int .u8 a0).wf = true) (w1 : (Lit.int .u8 a1).wf = true) : gantletlaw04_HuffCodes.f a0 a1 = some true := by
  have h0 := bounds_u8 w0
  have h1 := bounds_u8 w1
  unfold gantletlaw04_HuffCodes.f
  rw [if_pos (by omega)]
end Go.Proofs.YtlbjhbanfpnogaaDoor.Pure
