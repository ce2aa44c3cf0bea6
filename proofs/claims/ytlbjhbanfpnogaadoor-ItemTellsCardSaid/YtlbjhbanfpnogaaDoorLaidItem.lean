/-
  WHAT THE ROWS OF ITEM LIST: the table of lengths, and that of shapes, hold what the program's text lays; and a world that meets it, for the witness.
  Conditions: the row's own list.
-/
import Derived.Test.YtlbjhbanfpnogaaDoorLaidHuff
import Derived.Test.YtlbjhbanfpnogaaDoorQJ0
namespace Go.Proofs.YtlbjhbanfpnogaaDoor.LaidItem
open Go Go.ChangeShapes Go.WideShapes Go.ChangeAt Go.RowKit Go.Proofs.YtlbjhbanfpnogaaDoor.QJ
set_option linter.unusedVariables false
theorem c3 : Tryd.prog.cellsOf 3 = 1 := by kernel_rfl
theorem c77 : Tryd.prog.cellsOf 77 = 2 := by kernel_rfl
theorem c78 : Tryd.prog.cellsOf 78 = 10 := by kernel_rfl
theorem list2 {α : Type} : ∀ {l : List α}, l.length = 2 → ∃ a b, l = [a, b]
  | [a, b], _ => ⟨a, b, rfl⟩
theorem list10 {α : Type} : ∀ {l : List α}, l.length = 10 → ∃ a b c d e f g h i j, l = [a, b, c, d, e, f, g, h, i, j]
  | [a, b, c, d, e, f, g, h, i, j], _ => ⟨a, b, c, d, e, f, g, h, i, j, rfl⟩
theorem two_of {H : Type} {enc : TypeId × Value → H} {w : World} {base : Nat} {sp : Nat → Bool} {held : Bool} {fuel : Nat} {cs : List Value} {a b : Int} {p : List MemPlace}
    (h : DataW.trod enc Tryd.prog w base sp held fuel 77 cs = some (.agg [.lit (.int .i64 a), .lit (.int .i64 b)], p)) : cs = [.int .i64 a, .int .i64 b] := by
  obtain ⟨xs, n, rfl, hx, hlen, hxl, hel⟩ := DataW.trod_struct Tryd.underlying77 h
  rw [c77] at hlen
  obtain ⟨v0, v1, rfl⟩ := list2 hlen
  obtain ⟨x0, x1, rfl⟩ := list2 (show xs.length = 2 from hxl)
  have h0 : DataW.trod enc Tryd.prog w base sp held n 3 (([v0, v1].drop 0).take (Tryd.prog.cellsOf 3)) = some x0 := hel 0 _ rfl
  have h1 : DataW.trod enc Tryd.prog w base sp held n 3 (([v0, v1].drop 1).take (Tryd.prog.cellsOf 3)) = some x1 := hel 1 _ rfl
  simp only [List.map_cons, List.map_nil, Prod.mk.injEq, DataW.agg.injEq, List.cons.injEq] at hx
  obtain ⟨⟨y0, y1, _⟩, _⟩ := hx
  rw [c3] at h0 h1
  obtain ⟨m0, e0, f0, _⟩ := DataW.trod_int Tryd.underlying3 h0
  obtain ⟨m1, e1, f1, _⟩ := DataW.trod_int Tryd.underlying3 h1
  rw [f0] at y0
  rw [f1] at y1
  cases y0
  cases y1
  simp only [List.drop_zero, List.drop_succ_cons, List.take_succ_cons, List.take_zero, List.cons.injEq, and_true] at e0 e1
  subst e0
  subst e1
  rfl
theorem shapes_of {H : Type} {enc : TypeId × Value → H} {w : World} {base : Nat} {sp : Nat → Bool} {held : Bool} {fuel : Nat} {cs : List Value} {p : List MemPlace}
    (h : DataW.trod enc Tryd.prog w base sp held fuel 78 cs = some (Rows.laid_gantlet_item_shapes, p)) : cs = shapesV.toList := by
  cases fuel with
  | zero => simp [DataW.trod] at h
  | succ fuel =>
    simp only [DataW.trod, Tryd.underlying78, c77, c78] at h
    split at h
    · rename_i hl
      obtain ⟨xs, hm, hx⟩ := Option.map_eq_some_iff.1 h
      have hxs := congrArg Prod.fst hx
      simp only [Rows.laid_gantlet_item_shapes, DataW.agg.injEq] at hxs
      have hxl : xs.length = 5 := by simpa using Lib.mapM_length hm
      have key : ∀ i a b, i < 5 → (xs.map (·.1))[i]? = some (.agg [.lit (.int .i64 a), .lit (.int .i64 b)]) → (cs.drop (i * 2)).take 2 = [.int .i64 a, .int .i64 b] := by
        intro i a b hi hab
        obtain ⟨x, hb, hf⟩ := Lib.mapM_at hm i i (by simp [hi])
        rw [List.getElem?_map, hb] at hab
        simp only [Option.map_some, Option.some.injEq] at hab
        obtain ⟨x1, x2⟩ := x
        simp only [] at hab
        subst hab
        exact two_of hf
      have k0 := key 0 7 128 (by omega) (by rw [hxs]; rfl)
      have k1 := key 1 6 64 (by omega) (by rw [hxs]; rfl)
      have k2 := key 2 4 0 (by omega) (by rw [hxs]; rfl)
      have k3 := key 3 4 16 (by omega) (by rw [hxs]; rfl)
      have k4 := key 4 5 32 (by omega) (by rw [hxs]; rfl)
      obtain ⟨a, b, c, d, e, f, g, h, i, j, rfl⟩ := list10 (show cs.length = 10 by simpa using hl)
      simp only [Nat.zero_mul, Nat.one_mul, List.drop_zero, List.drop_succ_cons, List.take_succ_cons, List.take_zero, List.cons.injEq, and_true, show 2 * 2 = 4 from rfl, show 3 * 2 = 6 from rfl, show 4 * 2 = 8 from rfl] at k0 k1 k2 k3 k4
      obtain ⟨rfl, rfl⟩ := k0
      obtain ⟨rfl, rfl⟩ := k1
      obtain ⟨rfl, rfl⟩ := k2
      obtain ⟨rfl, rfl⟩ := k3
      obtain ⟨rfl, rfl⟩ := k4
      rfl
    · cases h
theorem gnamed : Tryd.prog.globalNamed "gantlet/item.shapes" = some 1 := by kernel_rfl
theorem gb {W : World} (h : laidMetH Tryd.prog Rows.itemTellsRow.laid W) : GB W := by
  have h0 : laidMet Tryd.prog [("gantlet/huff.lengths", (Rows.laid_gantlet_huff_lengths : DataW Unit)), ("gantlet/item.shapes", (Rows.laid_gantlet_item_shapes : DataW Unit))] W := h
  refine ⟨?_, ?_⟩
  · rw [Laid.laid_is] at h0
    have h1 := Lib.tabIs_of_head (g := 0) (t := 57) (e := 3) (n := 257) Laid.gnamed (by kernel_rfl) Tryd.underlying57 Tryd.underlying3 (by kernel_rfl) (by kernel_rfl) h0
    unfold Lib.TabIs World.var? at h1
    rw [Laid.gnamed, Option.bind_some, Laid.zs_is] at h1
    cases ho : W.heap[0]? with
    | none => rw [ho] at h1; cases h1
    | some o =>
      rw [ho] at h1
      cases o with
      | cells cs t fr =>
        have e : cs = QH.lensV := Option.some.inj h1
        exact ⟨⟨t, fr, by rw [ho, e]⟩⟩
      | _ => cases h1
  · obtain ⟨ps, ⟨g', t', cs, fuel, p, q, hg', ht', hvar, hd, _, _⟩, _⟩ := h0.tail
    obtain rfl := Option.some.inj (gnamed.symm.trans hg')
    obtain rfl := Option.some.inj ((show (Tryd.prog.globals[1]?).map (·.type) = some 78 by kernel_rfl).symm.trans ht')
    have e := shapes_of hd
    unfold World.var? at hvar
    rw [gnamed, Option.bind_some] at hvar
    cases ho : W.heap[1]? with
    | none => rw [ho] at hvar; cases hvar
    | some o =>
      rw [ho] at hvar
      cases o with
      | cells cs2 t fr =>
        have e2 : cs2 = cs := Option.some.inj hvar
        exact ⟨t, fr, by rw [e2, show cs = shapesV from by rw [← Array.toList_inj]; exact e]⟩
      | _ => cases hvar
/-- What the cells are in the witness's world. -/
def layTwo : Obj → Obj
  | .cells _ t frozen => .cells shapesV t frozen
  | o => o
/-- A world for the witness: the tables laid. -/
noncomputable def laidWorld (os : Os) : World :=
  { World.holding Tryd.prog os ⟨#[], #[], []⟩ with heap := ((World.holding Tryd.prog os ⟨#[], #[], []⟩).heap.modify 0 Laid.layOne).modify 1 layTwo }
end Go.Proofs.YtlbjhbanfpnogaaDoor.LaidItem
