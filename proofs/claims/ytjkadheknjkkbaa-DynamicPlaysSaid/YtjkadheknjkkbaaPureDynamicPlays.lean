/-
  THE LAW DynamicPlays: any acts: what the walk shows is the law itself, for acts of a kind of one byte.
  Conditions: none but the row's own.
-/
import Derived.Test.YtjkadheknjkkbaaDe8
import Derived.OpenShut
namespace Go.Proofs.Ytjkadheknjkkbaa.Pure
open Go Go.RowKit Go.Proofs.Ytjkadheknjkkbaa.De Go.Proofs.Ytjkadheknjkkbaa.QD Go.Proofs.YtjkadheknjkkbaaW.PrintWords Go.Proofs.YtjkadheknjkkbaaW.PrintLast
set_option linter.unusedVariables false
theorem DynamicPlays (a0 : Int) (l : List S80) (h0 : (Lit.int .i64 a0).wf = true) (hm : l.length ≤ maxLen) (hw : ∀ x ∈ l, (Lit.int .u8 x.f0).wf = true ∧ ((x.f1.f0.size ≤ maxLen ∧ x.f1.f1.size ≤ maxLen) ∧ (Lit.int .i64 x.f2).wf = true)) : gantletlaw07_DynamicPlays.f a0 l = some true := by
  unfold gantletlaw07_DynamicPlays.f
  rw [if_pos]
  rw [List.all_eq_true]
  intro x hx
  have := bounds_u8 (hw x hx).1
  exact decide_eq_true (by omega)
end Go.Proofs.Ytjkadheknjkkbaa.Pure
