/-
  THE LAW MeterPlays: any limits, any acts: what the walk shows is the law itself, for acts whose kinds are bytes.
  Conditions: none but the row's own.
-/
import Derived.Test.YtjkadheknjkkbaaMeterC
import Derived.OpenShut
namespace Go.Proofs.Ytjkadheknjkkbaa.Pure
open Go Go.RowKit Go.Proofs.Ytjkadheknjkkbaa.QR Go.Proofs.YtjkadheknjkkbaaW.PrintWords Go.Proofs.YtjkadheknjkkbaaW.PrintLast
set_option linter.unusedVariables false
theorem MeterPlays (a0 a1 a2 a3 a4 a5 : Int) (l : List S40) (hF : (Lit.int .i64 a0).wf = true ∧ (Lit.int .i64 a1).wf = true ∧ (Lit.int .i64 a2).wf = true ∧ (Lit.int .i64 a3).wf = true ∧ (Lit.int .i64 a4).wf = true ∧ (Lit.int .i64 a5).wf = true) (hm : l.length ≤ maxLen) (hw : ∀ x ∈ l, (Lit.int .u8 x.f0).wf = true ∧ (Lit.int .i64 x.f1).wf = true) : gantletlaw18_MeterPlays.f a0 a1 a2 a3 a4 a5 l = some true := by
  unfold gantletlaw18_MeterPlays.f
  rw [if_pos]
  rw [List.all_eq_true]
  intro x hx
  have := bounds_u8 (hw x hx).1
  exact decide_eq_true (by omega)
end Go.Proofs.Ytjkadheknjkkbaa.Pure
