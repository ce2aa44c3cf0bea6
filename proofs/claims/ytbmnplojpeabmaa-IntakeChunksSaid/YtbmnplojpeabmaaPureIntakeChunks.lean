/-
  THE LAW IntakeChunks: any chunks: what the walk shows is the law itself, for chunks of bytes.
  Conditions: none but the row's own.
-/
import Derived.Test.YtbmnplojpeabmaaIu16
import Derived.OpenShut
namespace Go.Proofs.Ytbmnplojpeabmaa.Pure
open Go Go.RowKit Go.Proofs.Ytbmnplojpeabmaa.It Go.Proofs.YtbmnplojpeabmaaW.PrintWords Go.Proofs.YtbmnplojpeabmaaW.PrintLast
set_option linter.unusedVariables false
theorem IntakeChunks (l : List S104) (hm : l.length ≤ maxLen) (hw : ∀ x ∈ l, (x.f0.length ≤ maxLen ∧ ∀ y ∈ x.f0, (Lit.int .u8 y).wf = true) ∧ (Lit.int .u8 x.f1).wf = true) : gantletlaw13_IntakeChunks.f l = some true := by
  unfold gantletlaw13_IntakeChunks.f
  rw [if_pos]
  rw [List.all_eq_true]
  intro x hx
  have h1 := hw x hx
  rw [Bool.and_eq_true, List.all_eq_true]
  refine ⟨fun y hy => ?_, ?_⟩
  · have := bounds_u8 (h1.1.2 y hy)
    exact decide_eq_true (by omega)
  · have := bounds_u8 h1.2
    exact decide_eq_true (by omega)
end Go.Proofs.Ytbmnplojpeabmaa.Pure
