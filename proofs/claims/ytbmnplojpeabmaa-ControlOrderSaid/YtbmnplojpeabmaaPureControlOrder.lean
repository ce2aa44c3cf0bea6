/-
  THE LAW ControlOrder: any acts: what the walk shows is the law itself, for acts whose kinds are bytes.
  Conditions: none but the row's own.
-/
import Derived.Test.YtbmnplojpeabmaaCtM
import Derived.OpenShut
namespace Go.Proofs.Ytbmnplojpeabmaa.Pure
open Go Go.RowKit Go.Proofs.Ytbmnplojpeabmaa.QK Go.Proofs.YtbmnplojpeabmaaW.PrintWords Go.Proofs.YtbmnplojpeabmaaW.PrintLast
set_option linter.unusedVariables false
theorem ControlOrder {R : S82 → Prop} (room : Int) (l : List S82) (h0 : (Lit.int .u8 room).wf = true) (hm : l.length ≤ maxLen) (hw : ∀ x ∈ l, (Lit.int .u8 x.f0).wf = true ∧ R x) : gantletlaw19_ControlOrder.f room l = some true := by
  unfold gantletlaw19_ControlOrder.f
  have hb := bounds_u8 h0
  rw [if_pos]
  rw [Bool.and_eq_true]
  refine ⟨decide_eq_true (by omega), ?_⟩
  rw [List.all_eq_true]
  intro x hx
  have := bounds_u8 (hw x hx).1
  exact decide_eq_true (by omega)
end Go.Proofs.Ytbmnplojpeabmaa.Pure
