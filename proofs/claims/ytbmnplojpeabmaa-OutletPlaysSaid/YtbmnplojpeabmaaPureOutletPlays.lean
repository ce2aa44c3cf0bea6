/-
  THE LAW OutletPlays: any acts: what the walk shows is the law itself, for acts whose kinds are bytes.
  Conditions: none but the row's own.
-/
import Derived.Test.YtbmnplojpeabmaaOutE
import Derived.OpenShut
namespace Go.Proofs.Ytbmnplojpeabmaa.Pure
open Go Go.RowKit Go.Proofs.Ytbmnplojpeabmaa.QO Go.Proofs.YtbmnplojpeabmaaW.PrintWords Go.Proofs.YtbmnplojpeabmaaW.PrintLast
set_option linter.unusedVariables false
theorem OutletPlays {R : S58 → Prop} (l : List S58) (hm : l.length ≤ maxLen) (hw : ∀ x ∈ l, (Lit.int .u8 x.f0).wf = true ∧ R x) : gantletlaw14_OutletPlays.f l = some true := by
  unfold gantletlaw14_OutletPlays.f
  rw [if_pos]
  rw [List.all_eq_true]
  intro x hx
  have := bounds_u8 (hw x hx).1
  exact decide_eq_true (by omega)
end Go.Proofs.Ytbmnplojpeabmaa.Pure
