/-
  THE LAW ControlPlays: any acts: what the walk shows is the law itself, for acts whose kinds are bytes.
  Conditions: none but the row's own.
-/
import Derived.Test.YtbmnplojpeabmaaCtJ
import Derived.OpenShut
namespace Go.Proofs.Ytbmnplojpeabmaa.Pure
open Go Go.RowKit Go.Proofs.Ytbmnplojpeabmaa.QK Go.Proofs.YtbmnplojpeabmaaW.PrintWords Go.Proofs.YtbmnplojpeabmaaW.PrintLast
set_option linter.unusedVariables false
theorem ControlPlays {R : S82 → Prop} (room : Int) (l : List S82) (_h0 : (Lit.int .i64 room).wf = true) (hm : l.length ≤ maxLen) (hw : ∀ x ∈ l, (Lit.int .u8 x.f0).wf = true ∧ R x) : gantletlaw19_ControlPlays.f room l = some true := by
  unfold gantletlaw19_ControlPlays.f
  rw [if_pos]
  rw [List.all_eq_true]
  intro x hx
  have := bounds_u8 (hw x hx).1
  exact decide_eq_true (by omega)
end Go.Proofs.Ytbmnplojpeabmaa.Pure
