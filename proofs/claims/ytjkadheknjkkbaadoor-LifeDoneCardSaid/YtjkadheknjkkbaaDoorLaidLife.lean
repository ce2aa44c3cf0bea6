/-
  WHAT THE ROWS OF LIFE LIST: the ten package-level variables hold what the program's text lays; and a world that meets it, for the witness.
  Conditions: the row's own list.
-/
import Derived.Test.YtjkadheknjkkbaaDoorCards
import Derived.Test.YtjkadheknjkkbaaDoorTie
import Derived.Test.YtjkadheknjkkbaaDoorQL0
import Derived.WalkKit
import Derived.ProofKit
import Derived.OpenShut
import Derived.Deep.DeepHandedRow
import Derived.Lib.LaidTab
import Derived.Stop.LaidErr
namespace Go.Proofs.YtjkadheknjkkbaaDoor.Laid
open Go Go.ChangeShapes Go.WideShapes Go.ChangeAt Go.RowKit Go.Proofs.YtjkadheknjkkbaaDoor.QL
set_option linter.unusedVariables false
theorem c45 : Tryd.prog.cellsOf 45 = 4 := by kernel_rfl
theorem c22 : Tryd.prog.cellsOf 22 = 1 := by kernel_rfl
theorem c23 : Tryd.prog.cellsOf 23 = 1 := by kernel_rfl
theorem c4 : Tryd.prog.cellsOf 4 = 1 := by kernel_rfl
theorem list4 {α : Type} : ∀ {l : List α}, l.length = 4 → ∃ a b c d, l = [a, b, c, d]
  | [a, b, c, d], _ => ⟨a, b, c, d, rfl⟩
/-- A cell of the table's type that reads as these four holds them. -/
theorem cells_of {H : Type} {enc : TypeId × Value → H} {w : World} {base : Nat} {sp : Nat → Bool} {held : Bool} {fuel : Nat} {cs : List Value} {a b : Int} {c d : Bool} {p : List MemPlace}
    (h : DataW.trod enc Tryd.prog w base sp held fuel 45 cs = some (.agg [.lit (.int .i64 a), .lit (.int .i64 b), .lit (.bool c), .lit (.bool d)], p)) : cs = LCell.vals (a, b, c, d) := by
  obtain ⟨xs, n, rfl, hx, hlen, hxl, hel⟩ := DataW.trod_struct Tryd.underlying45 h
  rw [c45] at hlen
  obtain ⟨v0, v1, v2, v3, rfl⟩ := list4 hlen
  obtain ⟨x0, x1, x2, x3, rfl⟩ := list4 (show xs.length = 4 from hxl)
  have h0 : DataW.trod enc Tryd.prog w base sp held n 22 (([v0, v1, v2, v3].drop 0).take (Tryd.prog.cellsOf 22)) = some x0 := hel 0 _ rfl
  have h1 : DataW.trod enc Tryd.prog w base sp held n 23 (([v0, v1, v2, v3].drop 1).take (Tryd.prog.cellsOf 23)) = some x1 := hel 1 _ rfl
  have h2 : DataW.trod enc Tryd.prog w base sp held n 4 (([v0, v1, v2, v3].drop 2).take (Tryd.prog.cellsOf 4)) = some x2 := hel 2 _ rfl
  have h3 : DataW.trod enc Tryd.prog w base sp held n 4 (([v0, v1, v2, v3].drop 3).take (Tryd.prog.cellsOf 4)) = some x3 := hel 3 _ rfl
  simp only [List.map_cons, List.map_nil, Prod.mk.injEq, DataW.agg.injEq, List.cons.injEq] at hx
  obtain ⟨⟨y0, y1, y2, y3, _⟩, _⟩ := hx
  rw [c22] at h0
  rw [c23] at h1
  rw [c4] at h2 h3
  obtain ⟨m0, e0, f0, _⟩ := DataW.trod_int Tryd.underlying22 h0
  obtain ⟨m1, e1, f1, _⟩ := DataW.trod_int Tryd.underlying23 h1
  obtain ⟨m2, e2, f2⟩ := DataW.trod_bool Tryd.underlying4 h2
  obtain ⟨m3, e3, f3⟩ := DataW.trod_bool Tryd.underlying4 h3
  rw [f0] at y0
  rw [f1] at y1
  rw [f2] at y2
  rw [f3] at y3
  cases y0
  cases y1
  cases y2
  cases y3
  simp only [List.drop_zero, List.drop_succ_cons, List.take_succ_cons, List.take_zero, List.cons.injEq, and_true] at e0 e1 e2 e3
  subst e0
  subst e1
  subst e2
  subst e3
  rfl
/-- One listed variable. -/
theorem one {W : World} {name : String} {g : Nat} {a b : Int} {c d : Bool} {rest : List (String × DataW Unit)} (hg : Tryd.prog.globalNamed name = some g) (hty : (Tryd.prog.globals[g]?).map (·.type) = some 45)
    (h : laidMet Tryd.prog ((name, .agg [.lit (.int .i64 a), .lit (.int .i64 b), .lit (.bool c), .lit (.bool d)]) :: rest) W) :
    ∀ j v, (LCell.vals (a, b, c, d))[j]? = some v → W.cell? ((⟨g, 0, none⟩ : Addr).add j) = some v := by
  obtain ⟨ps, ⟨g', t', cs, fuel, p, q, hg', ht', hvar, hd, _, _⟩, _⟩ := h
  obtain rfl := Option.some.inj (hg.symm.trans hg')
  obtain rfl := Option.some.inj (hty.symm.trans ht')
  have e := cells_of hd
  intro j v hj
  have h1 := World.var?_cell hg hvar j
  have h2 : (⟨g, 0, none⟩ : Addr).add j = ⟨g, j, none⟩ := by
    unfold Addr.add
    by_cases h0 : j = 0
    · subst h0; simp
    · simp [h0]
  rw [h2, h1, ← Array.getElem?_toList, e]
  exact hj
theorem gb {W : World} (h : laidMetH Tryd.prog Rows.lifeTellsRow.laid W) : GB W := by
  have h0 : laidMet Tryd.prog Rows.lifeTellsRow.laid W := h
  have h1 := h0.tail
  have h2 := h1.tail
  have h3 := h2.tail
  have h4 := h3.tail
  have h5 := h4.tail
  have h6 := h5.tail
  have h7 := h6.tail
  have h8 := h7.tail
  have h9 := h8.tail
  have k0 := one (g := 3) (by kernel_rfl) (by kernel_rfl) h0
  have k1 := one (g := 2) (by kernel_rfl) (by kernel_rfl) h1
  have k2 := one (g := 4) (by kernel_rfl) (by kernel_rfl) h2
  have k3 := one (g := 7) (by kernel_rfl) (by kernel_rfl) h3
  have k4 := one (g := 8) (by kernel_rfl) (by kernel_rfl) h4
  have k5 := one (g := 0) (by kernel_rfl) (by kernel_rfl) h5
  have k6 := one (g := 1) (by kernel_rfl) (by kernel_rfl) h6
  have k7 := one (g := 6) (by kernel_rfl) (by kernel_rfl) h7
  have k8 := one (g := 5) (by kernel_rfl) (by kernel_rfl) h8
  have k9 := one (g := 9) (by kernel_rfl) (by kernel_rfl) h9
  have all : ∀ i, i < 10 → ∀ j v, (gl i).vals[j]? = some v → W.cell? ((⟨i, 0, none⟩ : Addr).add j) = some v := by
    intro i hi
    have : i = 0 ∨ i = 1 ∨ i = 2 ∨ i = 3 ∨ i = 4 ∨ i = 5 ∨ i = 6 ∨ i = 7 ∨ i = 8 ∨ i = 9 := by omega
    rcases this with rfl | rfl | rfl | rfl | rfl | rfl | rfl | rfl | rfl | rfl
    · exact k5
    · exact k6
    · exact k1
    · exact k0
    · exact k2
    · exact k8
    · exact k7
    · exact k3
    · exact k4
    · exact k9
  refine ⟨?_, all⟩
  have h := all 9 (by decide) 0 _ rfl
  exact World.block_lt_of_cell? W _ h
/-- What the cells are in the witness's world. -/
def layOne (i : Nat) : Obj → Obj
  | .cells _ t frozen => .cells (gl i).vals.toArray t frozen
  | o => o
/-- A world for the witness: the ten cells laid. -/
noncomputable def laidWorld (os : Os) : World :=
  { World.holding Tryd.prog os ⟨#[], #[], []⟩ with heap := (List.range 10).foldl (fun h i => h.modify i (layOne i)) (World.holding Tryd.prog os ⟨#[], #[], []⟩).heap }
end Go.Proofs.YtjkadheknjkkbaaDoor.Laid
