/-
  THE LAW LifeDone: any events, that happen to a stream that is idle at first: what the walk shows is the law itself, for all bytes.
  Conditions: none but the row's own.
-/
import Derived.Test.YtjkadheknjkkbaaDoorQL3
import Derived.Test.YtjkadheknjkkbaaDoorPureLifeTells
import Derived.OpenShut
namespace Go.Proofs.YtjkadheknjkkbaaDoor.Pure
open Go Go.RowKit Go.Proofs.YtjkadheknjkkbaaDoor.QL Go.Proofs.YtjkadheknjkkbaaDoorW.PrintWords Go.Proofs.YtjkadheknjkkbaaDoorW.PrintLast
set_option linter.unusedVariables false
theorem LifeDone (l : List Int) (hm : l.length ≤ maxLen) (hw : ∀ x ∈ l, (Lit.int .u8 x).wf = true) : gantletlaw16_LifeDone.f l = some true := by
  unfold gantletlaw16_LifeDone.f
  rw [if_pos]
  rw [List.all_eq_true]
  intro x hx
  have := bounds_u8 (hw x hx)
  exact decide_eq_true (by omega)
end Go.Proofs.YtjkadheknjkkbaaDoor.Pure
