/-
  WHAT THE ROWS OF HUFF LIST: the table of lengths holds what the program's text lays; and a world that meets it, for the witness.
  Conditions: the row's own list.
-/
import Derived.Test.YtlbjhbanfpnogaaDoorCards
import Derived.Test.YtlbjhbanfpnogaaDoorTie
import Derived.Test.YtlbjhbanfpnogaaDoorMQ
import Derived.WalkKit
import Derived.ProofKit
import Derived.OpenShut
import Derived.Deep.DeepHandedRow
import Derived.Lib.LaidTab
import Derived.Stop.LaidErr
namespace Go.Proofs.YtlbjhbanfpnogaaDoor.Laid
open Go Go.ChangeShapes Go.WideShapes Go.ChangeAt Go.RowKit Go.Proofs.YtlbjhbanfpnogaaDoor.QH
set_option linter.unusedVariables false
def zs : List Int := lensN.map fun x : Nat => (x : Int)
set_option maxRecDepth 100000 in
theorem laid_is : (Rows.laid_gantlet_huff_lengths : DataW Unit) = Lib.tabData .i64 zs := by kernel_rfl
theorem zs_is : (zs.map fun z => Value.int .i64 z).toArray = lensV := by kernel_rfl
theorem gnamed : Tryd.prog.globalNamed "gantlet/huff.lengths" = some 0 := by kernel_rfl
theorem gb {W : World} (h : laidMetH Tryd.prog Rows.huffTellsRow.laid W) : GB W := by
  have h0 : laidMet Tryd.prog [("gantlet/huff.lengths", (Rows.laid_gantlet_huff_lengths : DataW Unit))] W := h
  rw [laid_is] at h0
  have h1 := Lib.tabIs_of_head (g := 0) (t := 57) (e := 3) (n := 257) gnamed (by kernel_rfl) Tryd.underlying57 Tryd.underlying3 (by kernel_rfl) (by kernel_rfl) h0
  unfold Lib.TabIs World.var? at h1
  rw [gnamed, Option.bind_some, zs_is] at h1
  cases ho : W.heap[0]? with
  | none => rw [ho] at h1; cases h1
  | some o =>
    rw [ho] at h1
    cases o with
    | cells cs t fr =>
      have e : cs = lensV := Option.some.inj h1
      exact ⟨⟨t, fr, by rw [ho, e]⟩⟩
    | _ => cases h1
/-- What the cells are in the witness's world. -/
def layOne : Obj → Obj
  | .cells _ t frozen => .cells lensV t frozen
  | o => o
/-- A world for the witness: the table laid. -/
noncomputable def laidWorld (os : Os) : World :=
  { World.holding Tryd.prog os ⟨#[], #[], []⟩ with heap := (World.holding Tryd.prog os ⟨#[], #[], []⟩).heap.modify 0 layOne }
end Go.Proofs.YtlbjhbanfpnogaaDoor.Laid
