/-
  THE LAW FrameBack: any frames, any bytes behind, any cut: what the walk shows is the law itself.
  Conditions: none but the row's own.
-/
import Derived.Test.YtbmnplojpeabmaaFbB
import Derived.OpenShut
namespace Go.Proofs.Ytbmnplojpeabmaa.Pure
open Go Go.RowKit Go.Proofs.Ytbmnplojpeabmaa.QB Go.Proofs.YtbmnplojpeabmaaW.PrintWords Go.Proofs.YtbmnplojpeabmaaW.PrintLast
set_option linter.unusedVariables false
theorem FrameBack (l0 : List S67) (l1 : List Int) (a2 : Int) (hm : l0.length ≤ maxLen) (hw : ∀ y ∈ l0, (Lit.int .i64 y.f0).wf = true ∧ (Lit.int .i64 y.f1).wf = true ∧ (Lit.int .i64 y.f2).wf = true ∧ y.f3.length ≤ maxLen ∧ ∀ z ∈ y.f3, (Lit.int .u8 z).wf = true)
    (hm1 : l1.length ≤ maxLen) (hw1 : ∀ z ∈ l1, (Lit.int .u8 z).wf = true) (h2 : (Lit.int .u16 a2).wf = true) : gantletlaw02_FrameBack.f l0 l1 a2 = some true := by
  unfold gantletlaw02_FrameBack.f
  rw [if_pos]
  simp only [Bool.and_eq_true, List.all_eq_true]
  refine ⟨⟨fun y hy z hz => ?_, fun z hz => ?_⟩, ?_⟩
  · have := bounds_u8 ((hw y hy).2.2.2.2 z hz)
    exact decide_eq_true (by omega)
  · have := bounds_u8 (hw1 z hz)
    exact decide_eq_true (by omega)
  · have := bounds_u16 h2
    exact decide_eq_true (by omega)
end Go.Proofs.Ytbmnplojpeabmaa.Pure
