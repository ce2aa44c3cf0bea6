/-
  THE LAW IntakePlays: any chunks: what the walk shows is the law itself, for chunks of bytes.
  Conditions: none but the row's own.
-/
import Derived.Test.YtbmnplojpeabmaaIt14
import Derived.OpenShut
namespace Go.Proofs.Ytbmnplojpeabmaa.Pure
open Go Go.RowKit Go.Proofs.Ytbmnplojpeabmaa.It Go.Proofs.YtbmnplojpeabmaaW.PrintWords Go.Proofs.YtbmnplojpeabmaaW.PrintLast
set_option linter.unusedVariables false
theorem IntakePlays (a0 : Int) (l : List S104) (h0 : (Lit.int .i64 a0).wf = true) (hm : l.length ≤ maxLen) (hw : ∀ x ∈ l, (x.f0.length ≤ maxLen ∧ ∀ y ∈ x.f0, (Lit.int .u8 y).wf = true) ∧ (Lit.int .u8 x.f1).wf = true) : gantletlaw13_IntakePlays.f a0 l = some true := by
  unfold gantletlaw13_IntakePlays.f
  rw [if_pos]
  rw [List.all_eq_true]
  intro x hx
  have h1 := hw x hx
  rw [Bool.and_eq_true, List.all_eq_true]
  refine ⟨fun y hy => ?_, ?_⟩
  · have := bounds_u8 (h1.1.2 y hy)
    exact decide_eq_true (by omega)
  · have := bounds_u8 h1.2
    exact decide_eq_true (by omega)
end Go.Proofs.Ytbmnplojpeabmaa.Pure
