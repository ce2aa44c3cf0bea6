/-
  THE LAW OutletWhole: any acts: what the walk shows is the law itself, for frames of bytes.
  Conditions: none but the row's own.
-/
import Derived.Test.YtbmnplojpeabmaaOutG
import Derived.OpenShut
namespace Go.Proofs.Ytbmnplojpeabmaa.Pure
open Go Go.RowKit Go.Proofs.Ytbmnplojpeabmaa.QO Go.Proofs.YtbmnplojpeabmaaW.PrintWords Go.Proofs.YtbmnplojpeabmaaW.PrintLast
set_option linter.unusedVariables false
theorem OutletWhole (l : List S58) (hm : l.length ≤ maxLen) (hw : ∀ x ∈ l, (Lit.int .u8 x.f0).wf = true ∧ (Lit.int .i64 x.f1).wf = true ∧ x.f2.length ≤ maxLen ∧ ∀ y ∈ x.f2, (Lit.int .i64 y.f0).wf = true ∧ (Lit.int .i64 y.f1).wf = true ∧ (Lit.int .i64 y.f2).wf = true ∧ y.f3.length ≤ maxLen ∧ ∀ z ∈ y.f3, (Lit.int .u8 z).wf = true) : gantletlaw14_OutletWhole.f l = some true := by
  unfold gantletlaw14_OutletWhole.f
  rw [if_pos]
  simp only [List.all_eq_true]
  intro x hx y hy z hz
  have := bounds_u8 (((hw x hx).2.2.2 y hy).2.2.2.2 z hz)
  exact decide_eq_true (by omega)
end Go.Proofs.Ytbmnplojpeabmaa.Pure
