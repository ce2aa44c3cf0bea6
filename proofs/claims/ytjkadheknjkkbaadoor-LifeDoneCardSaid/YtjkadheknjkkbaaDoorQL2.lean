-- written by a program of this session (wip/tools) out of the translation's own print and the session's texts; nothing here is trusted: Lean checks it
import Derived.Test.YtjkadheknjkkbaaDoorQL0
import Derived.Test.YtjkadheknjkkbaaDoorQL1
namespace Go.Proofs.YtjkadheknjkkbaaDoor.QL
open Go.RowKit Go.Proofs.YtjkadheknjkkbaaDoorW.PrintWords Go.Proofs.YtjkadheknjkkbaaDoorW.PrintLast Go.Proofs.YtjkadheknjkkbaaDoorW.PrintMore
attribute [local go_sem] max2_int min2_int max_two min_two max_three min_three max_four min_four   -- for this text's walks alone
set_option linter.unusedVariables false
set_option linter.unusedSimpArgs false

attribute [local go_sem high] eqA25
-- NOT PRINTED: function 25 (life_table)

/-! ### life_After: function 6 (the session's own) -/
section
variable {P : Program}
theorem run_loadVar_at (w : World) (ad : Addr) (ty : TypeId) (cs : List Value) (d : TypeDesc) (hc : ∀ j v, cs[j]? = some v → w.cell? (ad.add j) = some v)
    (hu : P.underlying ty = some d) (hd : (match d with | .struct _ | .array _ _ => true | _ => false) = true) (hi : (P.info? ty).map (·.size) = some cs.length) :
    (loadVar ty ad).run P w = .ok (.agg cs.toArray) w := by
  have hl : (loadCells ad cs.length).run P w = .ok cs.toArray w := run_loadCells_list (P := P) w ad cs hc
  cases hq : P.info? ty with
  | none => simp [hq] at hi
  | some i =>
    have hs : i.size = cs.length := by simpa [hq] using hi
    have hagg : (isAgg ty).run P w = .ok true w := by
      unfold isAgg
      rw [Sem.run_bind, run_underlying hu w]
      cases d <;> simp_all
    simp [loadVar, Sem.run_bind, hagg, sizeOf, typeInfo, hq, hs, hl]
theorem wpList_load_at {ops : Array Oper} {rest : List Oper} {o : Oper} {a : Act} {w : World} {Q : Exit → Act → World → Prop} (hgd : o.guard = none) (ty : TypeId) (x : Operand) (ho : o.op = .load ty x)
    (ad : Addr) (hx : a.eval x = .pointer (some ad)) (cs : List Value) (d : TypeDesc) (hc : ∀ j v, cs[j]? = some v → w.cell? (ad.add j) = some v)
    (hu : P.underlying ty = some d) (hd : (match d with | .struct _ | .array _ _ => true | _ => false) = true) (hi : (P.info? ty).map (·.size) = some cs.length)
    (h : wpList P ops Q rest (a.put o.dst (.agg cs.toArray)) w) : wpList P ops Q (o :: rest) a w :=
  wpList_plain hgd fun K hK => by
    unfold Oper.wp execOp
    simp only [ho, hx, Instr.loadAt, Instr.sureAddr, Sem.run_bind, Sem.run_pure, Result.andThen_ok, run_loadVar_at w ad ty cs d hc hu hd hi]
    exact hK _ _ h
theorem wpList_build_to {ops : Array Oper} {rest : List Oper} {o : Oper} {a : Act} {w : World} {Q : Exit → Act → World → Prop} (hg : o.guard = none) (t : TypeId) (parts : Array (Nat × Operand)) (ho : o.op = .build t parts)
    (d : Tmp) (hd : o.dst = some d) (cells : Array Value) (hf : P.built t (parts.map fun (i, x) => (i, a.eval x)).toList = some cells)
    (h : wpList P ops Q rest (a.put (some d) (.agg cells)) w) : wpList P ops Q (o :: rest) a w :=
  wpList_build hg t parts ho (by rw [hf]; rfl) (by rw [hf, hd]; exact h)
end
theorem eval_glob (a : Act) (i : Nat) : a.eval (.global i) = .pointer (some ⟨i, 0, none⟩) := rfl
/-- The table's cells, row by row. -/
def rowsN : List (List Nat) := [[0, 1, 2, 2, 2, 2, 3, 3, 3], [4, 1, 0, 1, 5, 0, 0, 6, 5], [7, 7, 7, 7, 5, 1, 1, 5, 5], [4, 5, 6, 5, 5, 6, 3, 3, 5], [8, 8, 8, 8, 9, 9, 3, 3, 3]]
def rowCells (l : List Nat) : Array Value := (l.flatMap fun i => (gl i).vals).toArray
def rowV (l : List Nat) : Value := .agg (rowCells l)
def tableCells : Array Value := (rowsN.flatMap fun l => l.flatMap fun i => (gl i).vals).toArray
def tableV : Value := .agg tableCells
theorem sz45 : (Tryd.prog.info? 45).map (·.size) = some 4 := by kernel_rfl
theorem wpList_load_glob {ops : Array Oper} {rest : List Oper} {o : Oper} {a : Act} {w : World} {Q : Exit → Act → World → Prop} (hG : GB w) (hgd : o.guard = none) (i : Nat) (ho : o.op = .load 45 (.global i)) (hi : i < 10)
    (h : wpList Tryd.prog ops Q rest (a.put o.dst (.agg #[.int .i64 (gl i).1, .int .i64 (gl i).2.1, .bool (gl i).2.2.1, .bool (gl i).2.2.2])) w) : wpList Tryd.prog ops Q (o :: rest) a w :=
  wpList_load_at hgd 45 _ ho ⟨i, 0, none⟩ (eval_glob a i) (gl i).vals _ (hG.at_ i hi) Tryd.underlying45 rfl sz45 h
theorem sz47 : (Tryd.prog.info? 47).map (·.size) = some tableCells.size := by kernel_rfl
theorem one47 : tableCells.all (·.oneCell') = true := by kernel_rfl
theorem zero47 : (Tryd.zeroCells47).size = tableCells.size := by kernel_rfl
set_option maxHeartbeats 1000000 in
set_option maxRecDepth 100000 in
theorem life_table.calls (w : World) (hG : GB w) : Calls Tryd.prog 25 #[] w fun e w' => e = .returned tableV ∧ Below w.heap.size w w' := by
  have HG := Lib.hid hG
  have hz := hG.size
  clear hG
  go_enter Tryd.func25, Tryd.ntmps25
  go_wp2_with (first | (refine wpList_load_glob (HG.out.alloc _) rfl _ rfl (by decide) ?_; simp only [Act.put, List.setIfInBounds_toArray, List.set_cons_zero, List.set_cons_succ]) | (refine wpList_build_to rfl 46 _ rfl 10 rfl (rowCells (rowsN.getD 0 [])) (by kernel_rfl) ?_; simp only [Act.put, List.setIfInBounds_toArray, List.set_cons_zero, List.set_cons_succ]) | (refine wpList_build_to rfl 46 _ rfl 20 rfl (rowCells (rowsN.getD 1 [])) (by kernel_rfl) ?_; simp only [Act.put, List.setIfInBounds_toArray, List.set_cons_zero, List.set_cons_succ]) | (refine wpList_build_to rfl 46 _ rfl 30 rfl (rowCells (rowsN.getD 2 [])) (by kernel_rfl) ?_; simp only [Act.put, List.setIfInBounds_toArray, List.set_cons_zero, List.set_cons_succ]) | (refine wpList_build_to rfl 46 _ rfl 40 rfl (rowCells (rowsN.getD 3 [])) (by kernel_rfl) ?_; simp only [Act.put, List.setIfInBounds_toArray, List.set_cons_zero, List.set_cons_succ]) | (refine wpList_build_to rfl 46 _ rfl 50 rfl (rowCells (rowsN.getD 4 [])) (by kernel_rfl) ?_; simp only [Act.put, List.setIfInBounds_toArray, List.set_cons_zero, List.set_cons_succ]) | (refine wpList_build_to rfl 47 _ rfl 51 rfl tableCells (by kernel_rfl) ?_; simp only [Act.put, List.setIfInBounds_toArray, List.set_cons_zero, List.set_cons_succ]) | (refine wpList_store_row (w := w.alloc (.cells Tryd.zeroCells47 47)) rfl 47 (.tmp 0) (.tmp 51) rfl w.heap.size tableCells rfl rfl 47 Tryd.zeroCells47 (heap_alloc_new w _) sz47 zero47 one47 ?_; simp only [Act.put]))
  refine bodyPost_ret (v := tableV) ?r0 rfl ?_
  case r0 => exact results_cell_row Tryd.results25 _ _ w.heap.size 47 _ (0, 0) _ rfl (setRow_heap _ _ _ _ _ _ (heap_alloc_new _ _)) Tryd.underlying47 rfl sz47
  exact ⟨rfl, ((Below.refl _ _).alloc (Nat.le_refl _) _).trans ⟨rfl, rfl, rfl, by simp, fun k hk => setRow_other _ _ _ _ (by omega)⟩⟩
/-- The table's cell. -/
def cellAt (s e : Int) : LCell := gl ((rowsN.getD s.toNat []).getD e.toNat 0)
theorem idx_row0 (W : World) : (Instr.index 47 tableV (.int .i64 0)).run Tryd.prog W = .ok (rowV (rowsN.getD (Int.toNat 0) [])) W := by kernel_rfl
theorem idx_row1 (W : World) : (Instr.index 47 tableV (.int .i64 1)).run Tryd.prog W = .ok (rowV (rowsN.getD (Int.toNat 1) [])) W := by kernel_rfl
theorem idx_row2 (W : World) : (Instr.index 47 tableV (.int .i64 2)).run Tryd.prog W = .ok (rowV (rowsN.getD (Int.toNat 2) [])) W := by kernel_rfl
theorem idx_row3 (W : World) : (Instr.index 47 tableV (.int .i64 3)).run Tryd.prog W = .ok (rowV (rowsN.getD (Int.toNat 3) [])) W := by kernel_rfl
theorem idx_row4 (W : World) : (Instr.index 47 tableV (.int .i64 4)).run Tryd.prog W = .ok (rowV (rowsN.getD (Int.toNat 4) [])) W := by kernel_rfl
theorem idx_row {s : Int} (h0 : 0 ≤ s) (h1 : s < 5) (W : World) : (Instr.index 47 tableV (.int .i64 s)).run Tryd.prog W = .ok (rowV (rowsN.getD s.toNat [])) W := by
  have : s = 0 ∨ s = 1 ∨ s = 2 ∨ s = 3 ∨ s = 4 := by omega
  rcases this with rfl | rfl | rfl | rfl | rfl
  · exact idx_row0 W
  · exact idx_row1 W
  · exact idx_row2 W
  · exact idx_row3 W
  · exact idx_row4 W
theorem idx_cell00 (W : World) : (Instr.index 46 (rowV (rowsN.getD (Int.toNat 0) [])) (.int .i64 0)).run Tryd.prog W = .ok (.agg #[.int .i64 (cellAt 0 0).1, .int .i64 (cellAt 0 0).2.1, .bool (cellAt 0 0).2.2.1, .bool (cellAt 0 0).2.2.2]) W := by kernel_rfl
theorem idx_cell01 (W : World) : (Instr.index 46 (rowV (rowsN.getD (Int.toNat 0) [])) (.int .i64 1)).run Tryd.prog W = .ok (.agg #[.int .i64 (cellAt 0 1).1, .int .i64 (cellAt 0 1).2.1, .bool (cellAt 0 1).2.2.1, .bool (cellAt 0 1).2.2.2]) W := by kernel_rfl
theorem idx_cell02 (W : World) : (Instr.index 46 (rowV (rowsN.getD (Int.toNat 0) [])) (.int .i64 2)).run Tryd.prog W = .ok (.agg #[.int .i64 (cellAt 0 2).1, .int .i64 (cellAt 0 2).2.1, .bool (cellAt 0 2).2.2.1, .bool (cellAt 0 2).2.2.2]) W := by kernel_rfl
theorem idx_cell03 (W : World) : (Instr.index 46 (rowV (rowsN.getD (Int.toNat 0) [])) (.int .i64 3)).run Tryd.prog W = .ok (.agg #[.int .i64 (cellAt 0 3).1, .int .i64 (cellAt 0 3).2.1, .bool (cellAt 0 3).2.2.1, .bool (cellAt 0 3).2.2.2]) W := by kernel_rfl
theorem idx_cell04 (W : World) : (Instr.index 46 (rowV (rowsN.getD (Int.toNat 0) [])) (.int .i64 4)).run Tryd.prog W = .ok (.agg #[.int .i64 (cellAt 0 4).1, .int .i64 (cellAt 0 4).2.1, .bool (cellAt 0 4).2.2.1, .bool (cellAt 0 4).2.2.2]) W := by kernel_rfl
theorem idx_cell05 (W : World) : (Instr.index 46 (rowV (rowsN.getD (Int.toNat 0) [])) (.int .i64 5)).run Tryd.prog W = .ok (.agg #[.int .i64 (cellAt 0 5).1, .int .i64 (cellAt 0 5).2.1, .bool (cellAt 0 5).2.2.1, .bool (cellAt 0 5).2.2.2]) W := by kernel_rfl
theorem idx_cell06 (W : World) : (Instr.index 46 (rowV (rowsN.getD (Int.toNat 0) [])) (.int .i64 6)).run Tryd.prog W = .ok (.agg #[.int .i64 (cellAt 0 6).1, .int .i64 (cellAt 0 6).2.1, .bool (cellAt 0 6).2.2.1, .bool (cellAt 0 6).2.2.2]) W := by kernel_rfl
theorem idx_cell07 (W : World) : (Instr.index 46 (rowV (rowsN.getD (Int.toNat 0) [])) (.int .i64 7)).run Tryd.prog W = .ok (.agg #[.int .i64 (cellAt 0 7).1, .int .i64 (cellAt 0 7).2.1, .bool (cellAt 0 7).2.2.1, .bool (cellAt 0 7).2.2.2]) W := by kernel_rfl
theorem idx_cell08 (W : World) : (Instr.index 46 (rowV (rowsN.getD (Int.toNat 0) [])) (.int .i64 8)).run Tryd.prog W = .ok (.agg #[.int .i64 (cellAt 0 8).1, .int .i64 (cellAt 0 8).2.1, .bool (cellAt 0 8).2.2.1, .bool (cellAt 0 8).2.2.2]) W := by kernel_rfl
theorem idx_cell10 (W : World) : (Instr.index 46 (rowV (rowsN.getD (Int.toNat 1) [])) (.int .i64 0)).run Tryd.prog W = .ok (.agg #[.int .i64 (cellAt 1 0).1, .int .i64 (cellAt 1 0).2.1, .bool (cellAt 1 0).2.2.1, .bool (cellAt 1 0).2.2.2]) W := by kernel_rfl
theorem idx_cell11 (W : World) : (Instr.index 46 (rowV (rowsN.getD (Int.toNat 1) [])) (.int .i64 1)).run Tryd.prog W = .ok (.agg #[.int .i64 (cellAt 1 1).1, .int .i64 (cellAt 1 1).2.1, .bool (cellAt 1 1).2.2.1, .bool (cellAt 1 1).2.2.2]) W := by kernel_rfl
theorem idx_cell12 (W : World) : (Instr.index 46 (rowV (rowsN.getD (Int.toNat 1) [])) (.int .i64 2)).run Tryd.prog W = .ok (.agg #[.int .i64 (cellAt 1 2).1, .int .i64 (cellAt 1 2).2.1, .bool (cellAt 1 2).2.2.1, .bool (cellAt 1 2).2.2.2]) W := by kernel_rfl
theorem idx_cell13 (W : World) : (Instr.index 46 (rowV (rowsN.getD (Int.toNat 1) [])) (.int .i64 3)).run Tryd.prog W = .ok (.agg #[.int .i64 (cellAt 1 3).1, .int .i64 (cellAt 1 3).2.1, .bool (cellAt 1 3).2.2.1, .bool (cellAt 1 3).2.2.2]) W := by kernel_rfl
theorem idx_cell14 (W : World) : (Instr.index 46 (rowV (rowsN.getD (Int.toNat 1) [])) (.int .i64 4)).run Tryd.prog W = .ok (.agg #[.int .i64 (cellAt 1 4).1, .int .i64 (cellAt 1 4).2.1, .bool (cellAt 1 4).2.2.1, .bool (cellAt 1 4).2.2.2]) W := by kernel_rfl
theorem idx_cell15 (W : World) : (Instr.index 46 (rowV (rowsN.getD (Int.toNat 1) [])) (.int .i64 5)).run Tryd.prog W = .ok (.agg #[.int .i64 (cellAt 1 5).1, .int .i64 (cellAt 1 5).2.1, .bool (cellAt 1 5).2.2.1, .bool (cellAt 1 5).2.2.2]) W := by kernel_rfl
theorem idx_cell16 (W : World) : (Instr.index 46 (rowV (rowsN.getD (Int.toNat 1) [])) (.int .i64 6)).run Tryd.prog W = .ok (.agg #[.int .i64 (cellAt 1 6).1, .int .i64 (cellAt 1 6).2.1, .bool (cellAt 1 6).2.2.1, .bool (cellAt 1 6).2.2.2]) W := by kernel_rfl
theorem idx_cell17 (W : World) : (Instr.index 46 (rowV (rowsN.getD (Int.toNat 1) [])) (.int .i64 7)).run Tryd.prog W = .ok (.agg #[.int .i64 (cellAt 1 7).1, .int .i64 (cellAt 1 7).2.1, .bool (cellAt 1 7).2.2.1, .bool (cellAt 1 7).2.2.2]) W := by kernel_rfl
theorem idx_cell18 (W : World) : (Instr.index 46 (rowV (rowsN.getD (Int.toNat 1) [])) (.int .i64 8)).run Tryd.prog W = .ok (.agg #[.int .i64 (cellAt 1 8).1, .int .i64 (cellAt 1 8).2.1, .bool (cellAt 1 8).2.2.1, .bool (cellAt 1 8).2.2.2]) W := by kernel_rfl
theorem idx_cell20 (W : World) : (Instr.index 46 (rowV (rowsN.getD (Int.toNat 2) [])) (.int .i64 0)).run Tryd.prog W = .ok (.agg #[.int .i64 (cellAt 2 0).1, .int .i64 (cellAt 2 0).2.1, .bool (cellAt 2 0).2.2.1, .bool (cellAt 2 0).2.2.2]) W := by kernel_rfl
theorem idx_cell21 (W : World) : (Instr.index 46 (rowV (rowsN.getD (Int.toNat 2) [])) (.int .i64 1)).run Tryd.prog W = .ok (.agg #[.int .i64 (cellAt 2 1).1, .int .i64 (cellAt 2 1).2.1, .bool (cellAt 2 1).2.2.1, .bool (cellAt 2 1).2.2.2]) W := by kernel_rfl
theorem idx_cell22 (W : World) : (Instr.index 46 (rowV (rowsN.getD (Int.toNat 2) [])) (.int .i64 2)).run Tryd.prog W = .ok (.agg #[.int .i64 (cellAt 2 2).1, .int .i64 (cellAt 2 2).2.1, .bool (cellAt 2 2).2.2.1, .bool (cellAt 2 2).2.2.2]) W := by kernel_rfl
theorem idx_cell23 (W : World) : (Instr.index 46 (rowV (rowsN.getD (Int.toNat 2) [])) (.int .i64 3)).run Tryd.prog W = .ok (.agg #[.int .i64 (cellAt 2 3).1, .int .i64 (cellAt 2 3).2.1, .bool (cellAt 2 3).2.2.1, .bool (cellAt 2 3).2.2.2]) W := by kernel_rfl
theorem idx_cell24 (W : World) : (Instr.index 46 (rowV (rowsN.getD (Int.toNat 2) [])) (.int .i64 4)).run Tryd.prog W = .ok (.agg #[.int .i64 (cellAt 2 4).1, .int .i64 (cellAt 2 4).2.1, .bool (cellAt 2 4).2.2.1, .bool (cellAt 2 4).2.2.2]) W := by kernel_rfl
theorem idx_cell25 (W : World) : (Instr.index 46 (rowV (rowsN.getD (Int.toNat 2) [])) (.int .i64 5)).run Tryd.prog W = .ok (.agg #[.int .i64 (cellAt 2 5).1, .int .i64 (cellAt 2 5).2.1, .bool (cellAt 2 5).2.2.1, .bool (cellAt 2 5).2.2.2]) W := by kernel_rfl
theorem idx_cell26 (W : World) : (Instr.index 46 (rowV (rowsN.getD (Int.toNat 2) [])) (.int .i64 6)).run Tryd.prog W = .ok (.agg #[.int .i64 (cellAt 2 6).1, .int .i64 (cellAt 2 6).2.1, .bool (cellAt 2 6).2.2.1, .bool (cellAt 2 6).2.2.2]) W := by kernel_rfl
theorem idx_cell27 (W : World) : (Instr.index 46 (rowV (rowsN.getD (Int.toNat 2) [])) (.int .i64 7)).run Tryd.prog W = .ok (.agg #[.int .i64 (cellAt 2 7).1, .int .i64 (cellAt 2 7).2.1, .bool (cellAt 2 7).2.2.1, .bool (cellAt 2 7).2.2.2]) W := by kernel_rfl
theorem idx_cell28 (W : World) : (Instr.index 46 (rowV (rowsN.getD (Int.toNat 2) [])) (.int .i64 8)).run Tryd.prog W = .ok (.agg #[.int .i64 (cellAt 2 8).1, .int .i64 (cellAt 2 8).2.1, .bool (cellAt 2 8).2.2.1, .bool (cellAt 2 8).2.2.2]) W := by kernel_rfl
theorem idx_cell30 (W : World) : (Instr.index 46 (rowV (rowsN.getD (Int.toNat 3) [])) (.int .i64 0)).run Tryd.prog W = .ok (.agg #[.int .i64 (cellAt 3 0).1, .int .i64 (cellAt 3 0).2.1, .bool (cellAt 3 0).2.2.1, .bool (cellAt 3 0).2.2.2]) W := by kernel_rfl
theorem idx_cell31 (W : World) : (Instr.index 46 (rowV (rowsN.getD (Int.toNat 3) [])) (.int .i64 1)).run Tryd.prog W = .ok (.agg #[.int .i64 (cellAt 3 1).1, .int .i64 (cellAt 3 1).2.1, .bool (cellAt 3 1).2.2.1, .bool (cellAt 3 1).2.2.2]) W := by kernel_rfl
theorem idx_cell32 (W : World) : (Instr.index 46 (rowV (rowsN.getD (Int.toNat 3) [])) (.int .i64 2)).run Tryd.prog W = .ok (.agg #[.int .i64 (cellAt 3 2).1, .int .i64 (cellAt 3 2).2.1, .bool (cellAt 3 2).2.2.1, .bool (cellAt 3 2).2.2.2]) W := by kernel_rfl
theorem idx_cell33 (W : World) : (Instr.index 46 (rowV (rowsN.getD (Int.toNat 3) [])) (.int .i64 3)).run Tryd.prog W = .ok (.agg #[.int .i64 (cellAt 3 3).1, .int .i64 (cellAt 3 3).2.1, .bool (cellAt 3 3).2.2.1, .bool (cellAt 3 3).2.2.2]) W := by kernel_rfl
theorem idx_cell34 (W : World) : (Instr.index 46 (rowV (rowsN.getD (Int.toNat 3) [])) (.int .i64 4)).run Tryd.prog W = .ok (.agg #[.int .i64 (cellAt 3 4).1, .int .i64 (cellAt 3 4).2.1, .bool (cellAt 3 4).2.2.1, .bool (cellAt 3 4).2.2.2]) W := by kernel_rfl
theorem idx_cell35 (W : World) : (Instr.index 46 (rowV (rowsN.getD (Int.toNat 3) [])) (.int .i64 5)).run Tryd.prog W = .ok (.agg #[.int .i64 (cellAt 3 5).1, .int .i64 (cellAt 3 5).2.1, .bool (cellAt 3 5).2.2.1, .bool (cellAt 3 5).2.2.2]) W := by kernel_rfl
theorem idx_cell36 (W : World) : (Instr.index 46 (rowV (rowsN.getD (Int.toNat 3) [])) (.int .i64 6)).run Tryd.prog W = .ok (.agg #[.int .i64 (cellAt 3 6).1, .int .i64 (cellAt 3 6).2.1, .bool (cellAt 3 6).2.2.1, .bool (cellAt 3 6).2.2.2]) W := by kernel_rfl
theorem idx_cell37 (W : World) : (Instr.index 46 (rowV (rowsN.getD (Int.toNat 3) [])) (.int .i64 7)).run Tryd.prog W = .ok (.agg #[.int .i64 (cellAt 3 7).1, .int .i64 (cellAt 3 7).2.1, .bool (cellAt 3 7).2.2.1, .bool (cellAt 3 7).2.2.2]) W := by kernel_rfl
theorem idx_cell38 (W : World) : (Instr.index 46 (rowV (rowsN.getD (Int.toNat 3) [])) (.int .i64 8)).run Tryd.prog W = .ok (.agg #[.int .i64 (cellAt 3 8).1, .int .i64 (cellAt 3 8).2.1, .bool (cellAt 3 8).2.2.1, .bool (cellAt 3 8).2.2.2]) W := by kernel_rfl
theorem idx_cell40 (W : World) : (Instr.index 46 (rowV (rowsN.getD (Int.toNat 4) [])) (.int .i64 0)).run Tryd.prog W = .ok (.agg #[.int .i64 (cellAt 4 0).1, .int .i64 (cellAt 4 0).2.1, .bool (cellAt 4 0).2.2.1, .bool (cellAt 4 0).2.2.2]) W := by kernel_rfl
theorem idx_cell41 (W : World) : (Instr.index 46 (rowV (rowsN.getD (Int.toNat 4) [])) (.int .i64 1)).run Tryd.prog W = .ok (.agg #[.int .i64 (cellAt 4 1).1, .int .i64 (cellAt 4 1).2.1, .bool (cellAt 4 1).2.2.1, .bool (cellAt 4 1).2.2.2]) W := by kernel_rfl
theorem idx_cell42 (W : World) : (Instr.index 46 (rowV (rowsN.getD (Int.toNat 4) [])) (.int .i64 2)).run Tryd.prog W = .ok (.agg #[.int .i64 (cellAt 4 2).1, .int .i64 (cellAt 4 2).2.1, .bool (cellAt 4 2).2.2.1, .bool (cellAt 4 2).2.2.2]) W := by kernel_rfl
theorem idx_cell43 (W : World) : (Instr.index 46 (rowV (rowsN.getD (Int.toNat 4) [])) (.int .i64 3)).run Tryd.prog W = .ok (.agg #[.int .i64 (cellAt 4 3).1, .int .i64 (cellAt 4 3).2.1, .bool (cellAt 4 3).2.2.1, .bool (cellAt 4 3).2.2.2]) W := by kernel_rfl
theorem idx_cell44 (W : World) : (Instr.index 46 (rowV (rowsN.getD (Int.toNat 4) [])) (.int .i64 4)).run Tryd.prog W = .ok (.agg #[.int .i64 (cellAt 4 4).1, .int .i64 (cellAt 4 4).2.1, .bool (cellAt 4 4).2.2.1, .bool (cellAt 4 4).2.2.2]) W := by kernel_rfl
theorem idx_cell45 (W : World) : (Instr.index 46 (rowV (rowsN.getD (Int.toNat 4) [])) (.int .i64 5)).run Tryd.prog W = .ok (.agg #[.int .i64 (cellAt 4 5).1, .int .i64 (cellAt 4 5).2.1, .bool (cellAt 4 5).2.2.1, .bool (cellAt 4 5).2.2.2]) W := by kernel_rfl
theorem idx_cell46 (W : World) : (Instr.index 46 (rowV (rowsN.getD (Int.toNat 4) [])) (.int .i64 6)).run Tryd.prog W = .ok (.agg #[.int .i64 (cellAt 4 6).1, .int .i64 (cellAt 4 6).2.1, .bool (cellAt 4 6).2.2.1, .bool (cellAt 4 6).2.2.2]) W := by kernel_rfl
theorem idx_cell47 (W : World) : (Instr.index 46 (rowV (rowsN.getD (Int.toNat 4) [])) (.int .i64 7)).run Tryd.prog W = .ok (.agg #[.int .i64 (cellAt 4 7).1, .int .i64 (cellAt 4 7).2.1, .bool (cellAt 4 7).2.2.1, .bool (cellAt 4 7).2.2.2]) W := by kernel_rfl
theorem idx_cell48 (W : World) : (Instr.index 46 (rowV (rowsN.getD (Int.toNat 4) [])) (.int .i64 8)).run Tryd.prog W = .ok (.agg #[.int .i64 (cellAt 4 8).1, .int .i64 (cellAt 4 8).2.1, .bool (cellAt 4 8).2.2.1, .bool (cellAt 4 8).2.2.2]) W := by kernel_rfl
theorem idx_cell {s e : Int} (h0 : 0 ≤ s) (h1 : s < 5) (h2 : 0 ≤ e) (h3 : e < 9) (W : World) :
    (Instr.index 46 (rowV (rowsN.getD s.toNat [])) (.int .i64 e)).run Tryd.prog W = .ok (.agg #[.int .i64 (cellAt s e).1, .int .i64 (cellAt s e).2.1, .bool (cellAt s e).2.2.1, .bool (cellAt s e).2.2.2]) W := by
  have hs : s = 0 ∨ s = 1 ∨ s = 2 ∨ s = 3 ∨ s = 4 := by omega
  have he : e = 0 ∨ e = 1 ∨ e = 2 ∨ e = 3 ∨ e = 4 ∨ e = 5 ∨ e = 6 ∨ e = 7 ∨ e = 8 := by omega
  rcases hs with rfl | rfl | rfl | rfl | rfl
  · rcases he with rfl | rfl | rfl | rfl | rfl | rfl | rfl | rfl | rfl
    · exact idx_cell00 W
    · exact idx_cell01 W
    · exact idx_cell02 W
    · exact idx_cell03 W
    · exact idx_cell04 W
    · exact idx_cell05 W
    · exact idx_cell06 W
    · exact idx_cell07 W
    · exact idx_cell08 W
  · rcases he with rfl | rfl | rfl | rfl | rfl | rfl | rfl | rfl | rfl
    · exact idx_cell10 W
    · exact idx_cell11 W
    · exact idx_cell12 W
    · exact idx_cell13 W
    · exact idx_cell14 W
    · exact idx_cell15 W
    · exact idx_cell16 W
    · exact idx_cell17 W
    · exact idx_cell18 W
  · rcases he with rfl | rfl | rfl | rfl | rfl | rfl | rfl | rfl | rfl
    · exact idx_cell20 W
    · exact idx_cell21 W
    · exact idx_cell22 W
    · exact idx_cell23 W
    · exact idx_cell24 W
    · exact idx_cell25 W
    · exact idx_cell26 W
    · exact idx_cell27 W
    · exact idx_cell28 W
  · rcases he with rfl | rfl | rfl | rfl | rfl | rfl | rfl | rfl | rfl
    · exact idx_cell30 W
    · exact idx_cell31 W
    · exact idx_cell32 W
    · exact idx_cell33 W
    · exact idx_cell34 W
    · exact idx_cell35 W
    · exact idx_cell36 W
    · exact idx_cell37 W
    · exact idx_cell38 W
  · rcases he with rfl | rfl | rfl | rfl | rfl | rfl | rfl | rfl | rfl
    · exact idx_cell40 W
    · exact idx_cell41 W
    · exact idx_cell42 W
    · exact idx_cell43 W
    · exact idx_cell44 W
    · exact idx_cell45 W
    · exact idx_cell46 W
    · exact idx_cell47 W
    · exact idx_cell48 W
def life_After.f (a0 a1 : Int) : Option (Int × Int × Bool × Int) :=
  if a0 < 0 ∨ a0 ≥ 5 ∨ a1 < 0 ∨ a1 ≥ 9 then some (0, 0, false, 1)
  else if (cellAt a0 a1).2.2.2 = true then some (0, 0, false, 6)
  else if (cellAt a0 a1).2.1 ≠ 0 then some (a0, (cellAt a0 a1).2.1, (cellAt a0 a1).2.2.1, 0)
  else some ((cellAt a0 a1).1, 0, false, 0)
theorem alloc_lt (w : World) (o : Obj) : w.heap.size < (w.alloc o).heap.size := by show w.heap.size < (w.heap.push o).size; simp
theorem sz25 : (Tryd.prog.info? 25).map (·.size) = some 3 := by kernel_rfl
theorem wpList_store25 {ops : Array Oper} {rest : List Oper} {o : Oper} {a : Act} {w : World} {Q : Exit → Act → World → Prop} (hgd : o.guard = none) (t : Nat) (ho : o.op = .store 25 (.tmp 4) (.tmp t)) (g : Nat) (x y : Int) (b : Bool)
    (hx : a.eval (.tmp 4) = .pointer (some ⟨g, 0, none⟩)) (hy : a.eval (.tmp t) = .agg #[.int .i64 x, .int .i64 y, .bool b]) (hg : w.heap[g]? = some (.cells #[.int .i64 0, .int .i64 0, .bool false] 25))
    (h : wpList Tryd.prog ops Q rest (a.put o.dst undef) (w.setRow g #[.int .i64 x, .int .i64 y, .bool b])) : wpList Tryd.prog ops Q (o :: rest) a w :=
  wpList_store_row hgd 25 _ _ ho g _ hx hy 25 _ hg sz25 rfl (by kernel_rfl) h
theorem below_setRow (w : World) (g : Nat) (cs : Array Value) {B : Nat} (h : B ≤ g) : Below B w (w.setRow g cs) := ⟨rfl, rfl, rfl, by simp, fun k hk => setRow_other _ _ _ _ (by omega)⟩
theorem results6_row (tmps : Array Value) (w : World) (g : Nat) (x y : Int) (b : Bool) (hp : tmps.getD 4 undef = .pointer (some ⟨g, 0, none⟩)) (hg : w.heap[g]? = some (.cells #[.int .i64 x, .int .i64 y, .bool b] 25 (0, 0))) :
    (results Tryd.f6 tmps).run Tryd.prog w = .ok (.tuple #[.agg #[.int .i64 x, .int .i64 y, .bool b], tmps.getD 5 undef]) w := by
  rw [results_cell_tmp Tryd.results6, hp]
  simp [asAddr, run_loadVar_row w g 25 25 _ _ _ hg Tryd.underlying25 rfl sz25]
set_option maxHeartbeats 1000000 in
set_option maxRecDepth 100000 in
theorem after_end {w w_ : World} {o : Obj} {a : Act} {x y : Int} {b : Bool} {e : Int} (hg0 : w_.heap[w.heap.size]? = some (.cells #[.int .i64 0, .int .i64 0, .bool false] 25)) (hs0 : w.heap.size < w_.heap.size) (hB : Below w.heap.size w w_)
    (h4 : a.tmps.getD 4 undef = .pointer (some ⟨w.heap.size, 0, none⟩) := by rfl) (h5 : a.tmps.getD 5 undef = .int .i64 e := by rfl) (hd : a.defers = [] := by rfl) :
    bodyPost Tryd.prog Tryd.f6 (fun e_ w' => e_ = .returned (.tuple #[.agg #[.int .i64 x, .int .i64 y, .bool b], .int .i64 e]) ∧ Below w.heap.size w w') .ret a ((w_.alloc o).setRow w.heap.size #[.int .i64 x, .int .i64 y, .bool b]) := by
  refine bodyPost_ret (results6_row _ _ w.heap.size _ _ _ h4 (setRow_heap _ _ _ _ _ _ ((heap_alloc_old _ _ hs0).trans hg0))) hd ?_
  rw [h5]
  exact ⟨rfl, (hB.alloc (Nat.le_of_lt hs0) _).trans (below_setRow _ _ _ (Nat.le_refl _))⟩
set_option maxHeartbeats 1000000 in
set_option maxRecDepth 100000 in
theorem life_After.calls (a0 a1 : Int) (r1 r2 : Int) (r3 : Bool) (r4 : Int) (w : World) (hG : GB w) (h : life_After.f a0 a1 = some (r1, r2, r3, r4)) :
    Calls Tryd.prog 6 #[.int .i64 a0, .int .i64 a1] w fun e w' => e = .returned (.tuple #[.agg #[.int .i64 r1, .int .i64 r2, .bool r3], .int .i64 r4]) ∧ Below w.heap.size w w' := by
  have HG := Lib.hid hG
  have hz := hG.size
  clear hG
  have HP : life_After.f a0 a1 = some (r1, r2, r3, r4) := h
  clear h
  unfold life_After.f at HP
  by_cases hr : a0 < 0 ∨ a0 ≥ 5 ∨ a1 < 0 ∨ a1 ≥ 9
  · rw [if_pos hr] at HP
    simp only [Option.some.injEq, Prod.mk.injEq] at HP
    obtain ⟨rfl, rfl, rfl, rfl⟩ := HP
    go_enter Tryd.func6, Tryd.ntmps6
    go_wp2_with (first | (refine wpList_store25 rfl 21 rfl w.heap.size 0 0 false rfl rfl (heap_alloc_new _ _) ?_; simp only [Act.put]))
    all_goals first | (exfalso; omega) | (refine bodyPost_ret (results6_row _ _ w.heap.size _ _ _ rfl (by first | exact heap_alloc_new _ _ | exact setRow_heap _ _ _ _ _ _ (heap_alloc_new _ _))) rfl ?_)
    all_goals exact ⟨rfl, by first | exact below_alloc (Below.refl _ _) _ | exact (below_alloc (Below.refl _ _) _).trans (below_setRow _ _ _ (Nat.le_refl _))⟩
  · have i1 := fun W => idx_row (s := a0) (by omega) (by omega) W
    have i2 := fun W => idx_cell (s := a0) (e := a1) (by omega) (by omega) (by omega) (by omega) W
    rw [if_neg hr] at HP
    have b0 : 0 ≤ a0 := by omega
    have b1 : a0 < 5 := by omega
    have b2 : 0 ≤ a1 := by omega
    have b3 : a1 < 9 := by omega
    clear hr
    generalize rowV (rowsN.getD a0.toNat []) = R at i1 i2
    generalize cellAt a0 a1 = c at *
    obtain ⟨x, y, u, v⟩ := c
    simp only [] at HP i2
    cases v with
    | true =>
      rw [if_pos rfl] at HP
      simp only [Option.some.injEq, Prod.mk.injEq] at HP
      obtain ⟨rfl, rfl, rfl, rfl⟩ := HP
      go_enter Tryd.func6, Tryd.ntmps6
      go_wp2_with (first | (go_at_call 25; refine (life_table.calls _ (HG.out.alloc _)).mono ?_; rintro e_ w_ ⟨rfl, hb⟩; have hs0 : w.heap.size < w_.heap.size := Nat.lt_of_lt_of_le (alloc_lt _ _) hb.size; have hg0 : w_.heap[w.heap.size]? = some (.cells #[.int .i64 0, .int .i64 0, .bool false] 25) := (hb.block _ (alloc_lt _ _)).trans (heap_alloc_new _ _); have hB : Aside0 (Below w.heap.size w w_) := Aside0.mk (below_then (below_alloc (Below.refl _ _) _) (Nat.le_of_lt (alloc_lt _ _)) hb)) | (refine wpList_store25 rfl 30 rfl w.heap.size 0 0 false rfl rfl ((heap_alloc_old _ _ hs0).trans hg0) ?_; simp only [Act.put]))
      all_goals first | (exfalso; omega) | skip
      all_goals exact after_end hg0 hs0 hB.out
    | false =>
      rw [if_neg (by decide)] at HP
      by_cases hy : y = 0
      · rw [if_neg (by simpa using hy)] at HP
        simp only [Option.some.injEq, Prod.mk.injEq] at HP
        obtain ⟨rfl, rfl, rfl, rfl⟩ := HP
        subst hy
        go_enter Tryd.func6, Tryd.ntmps6
        go_wp2_with (first | (go_at_call 25; refine (life_table.calls _ (HG.out.alloc _)).mono ?_; rintro e_ w_ ⟨rfl, hb⟩; have hs0 : w.heap.size < w_.heap.size := Nat.lt_of_lt_of_le (alloc_lt _ _) hb.size; have hg0 : w_.heap[w.heap.size]? = some (.cells #[.int .i64 0, .int .i64 0, .bool false] 25) := (hb.block _ (alloc_lt _ _)).trans (heap_alloc_new _ _); have hB : Aside0 (Below w.heap.size w w_) := Aside0.mk (below_then (below_alloc (Below.refl _ _) _) (Nat.le_of_lt (alloc_lt _ _)) hb)) | (refine wpList_store25 rfl 43 rfl w.heap.size x 0 false rfl rfl ((heap_alloc_old _ _ hs0).trans hg0) ?_; simp only [Act.put]))
        all_goals first | (exfalso; omega) | skip
        all_goals exact after_end hg0 hs0 hB.out
      · rw [if_pos hy] at HP
        simp only [Option.some.injEq, Prod.mk.injEq] at HP
        obtain ⟨rfl, rfl, rfl, rfl⟩ := HP
        go_enter Tryd.func6, Tryd.ntmps6
        go_wp2_with (first | (go_at_call 25; refine (life_table.calls _ (HG.out.alloc _)).mono ?_; rintro e_ w_ ⟨rfl, hb⟩; have hs0 : w.heap.size < w_.heap.size := Nat.lt_of_lt_of_le (alloc_lt _ _) hb.size; have hg0 : w_.heap[w.heap.size]? = some (.cells #[.int .i64 0, .int .i64 0, .bool false] 25) := (hb.block _ (alloc_lt _ _)).trans (heap_alloc_new _ _); have hB : Aside0 (Below w.heap.size w w_) := Aside0.mk (below_then (below_alloc (Below.refl _ _) _) (Nat.le_of_lt (alloc_lt _ _)) hb)) | (refine wpList_store25 rfl 40 rfl w.heap.size a0 y u rfl rfl ((heap_alloc_old _ _ hs0).trans hg0) ?_; simp only [Act.put]))
        all_goals first | (exfalso; omega) | skip
        all_goals exact after_end hg0 hs0 hB.out

/-! ### gantletref16_fault: function 26 -/
def gantletref16_fault.f (a0 : Int) (a1 : Int) (a2 : Bool) : Option (Int × Int × Bool × Int) := some (a0, a1, a2, 0)
set_option maxHeartbeats 8000000 in
set_option maxRecDepth 100000 in
theorem gantletref16_fault.calls (a0 : Int) (a1 : Int) (a2 : Bool) (r1 : Int) (r2 : Int) (r3 : Bool) (r4 : Int) (w : World) (h : gantletref16_fault.f a0 a1 a2 = some (r1, r2, r3, r4)) :
    Calls Tryd.prog 26 #[.int .i64 a0, .int .i64 a1, .bool a2] w fun e w' => e = .returned (.tuple #[.agg #[.int .i64 r1, .int .i64 r2, .bool r3], .int .i64 r4]) ∧ Below w.heap.size w w' := by
  have hu31 := Tryd.underlying31
  have HB := Aside0.mk (Below.refl w.heap.size w)
  have H : (some (a0, a1, a2, 0)) = some (r1, r2, r3, r4) := h
  clear h
  simp only [Option.some.injEq, Prod.mk.injEq] at H
  obtain ⟨rfl, rfl, rfl, rfl⟩ := H
  go_enter Tryd.func26, Tryd.ntmps26
  go_wp2_with (first | ((with_reducible refine gate_dst (N := 6) rfl ?_); refine box_event ?hg (N := 6) ?hd (cs := #[.int .i64 0, .int .i64 0, .bool false]) (t := 31) ?hr ?_; (case hd => rfl); (case hg => rfl); (case hr => first | (go_simp; done) | (go_simp; rfl)); intro gb102 hg w4 hbox hb; have n0_ := Aside0.mk (below_step (by repeat (first | (with_reducible first | exact HB.out | apply below_alloc | apply pw_below_drewN | apply below_drew1) | exact HB.out)) hb); have n1_ := Aside0.mk (hbox); have n2_ := Aside0.mk ((by rw [hg]; exact (below_size (by repeat (first | (with_reducible first | exact HB.out | apply below_alloc | apply pw_below_drewN | apply below_drew1) | exact HB.out))) : w.heap.size ≤ gb102)); have n3_ := Aside0.mk ((by rw [hg]; exact (below_size (by repeat (first | (with_reducible first | exact HB.out | apply below_alloc | apply pw_below_drewN | apply below_drew1) | exact HB.out))) : w.heap.size ≤ gb102)); clear HB; have HB := n0_; have BK102 := n1_; have GW102 := n2_; have GE102 := n3_; clear n0_ n1_ n2_ n3_; clear hb hbox hg; have hcz5_0 : w4.cell? ⟨gb102, 0, none⟩ = some (.int .i64 0) := (blk_cell BK102.out 0).trans rfl; have hcz5_1 : w4.cell? ⟨gb102, 1, none⟩ = some (.int .i64 0) := (blk_cell BK102.out 1).trans rfl; have hcz5_2 : w4.cell? ⟨gb102, 2, none⟩ = some (.bool false) := (blk_cell BK102.out 2).trans rfl; have hfz5_0 := blk_frozen BK102.out 0; have hfz5_1 := blk_frozen BK102.out 1; have hfz5_2 := blk_frozen BK102.out 2))
  refine bodyPost_ret (results_ct rfl _ _ gb102 31 #[.int .i64 a0, .int .i64 a1, .bool a2] (0, 0) _ rfl (by (with_reducible repeat (first | refine blk_drewN ?_ _ | refine blk_drew ?_ | refine blk_alloc ?_ _)); refine blk_put (cs := #[.int .i64 a0, .int .i64 a1, .bool false]) ?_ 2 _ rfl; (with_reducible repeat (first | refine blk_drewN ?_ _ | refine blk_drew ?_ | refine blk_alloc ?_ _)); refine blk_put (cs := #[.int .i64 a0, .int .i64 0, .bool false]) ?_ 1 _ rfl; (with_reducible repeat (first | refine blk_drewN ?_ _ | refine blk_drew ?_ | refine blk_alloc ?_ _)); refine blk_put (cs := #[.int .i64 0, .int .i64 0, .bool false]) ?_ 0 _ rfl; (with_reducible repeat (first | refine blk_drewN ?_ _ | refine blk_drew ?_ | refine blk_alloc ?_ _)); exact BK102.out) Tryd.underlying31 rfl (by kernel_rfl)) rfl ?_
  exact ⟨by first | rfl | (simp [errW_none, errW_some] <;> rfl) | (simp [*, errW_none, errW_some] <;> rfl), by repeat (first | (with_reducible first | exact HB.out | apply below_alloc | apply pw_below_drewN | apply below_drew1 | refine below_set ?_ GE102.out) | exact HB.out)⟩

/-! ### gantletref16_After: function 7 (the session's own) -/
/-- The reference's answers, state by state. -/
def gantletref16_After.tab : List (List (Int × Int × Bool × Int)) := [[(1, 0, false, 0), (2, 0, false, 0), (0, 1, true, 0), (0, 1, true, 0), (0, 1, true, 0), (0, 1, true, 0), (0, 0, false, 6), (0, 0, false, 6), (0, 0, false, 6)],
  [(1, 1, false, 0), (2, 0, false, 0), (1, 0, false, 0), (2, 0, false, 0), (4, 0, false, 0), (1, 0, false, 0), (1, 0, false, 0), (3, 0, false, 0), (4, 0, false, 0)],
  [(2, 5, false, 0), (2, 5, false, 0), (2, 5, false, 0), (2, 5, false, 0), (4, 0, false, 0), (2, 0, false, 0), (2, 0, false, 0), (4, 0, false, 0), (4, 0, false, 0)],
  [(3, 1, false, 0), (4, 0, false, 0), (3, 0, false, 0), (4, 0, false, 0), (4, 0, false, 0), (3, 0, false, 0), (0, 0, false, 6), (0, 0, false, 6), (4, 0, false, 0)],
  [(4, 5, true, 0), (4, 5, true, 0), (4, 5, true, 0), (4, 5, true, 0), (4, 0, false, 0), (4, 0, false, 0), (0, 0, false, 6), (0, 0, false, 6), (0, 0, false, 6)]]
def gantletref16_After.f (a0 a1 : Int) : Option (Int × Int × Bool × Int) :=
  if a0 < 0 ∨ a0 > 4 ∨ a1 < 0 ∨ a1 > 8 then some (0, 0, false, 1) else some ((gantletref16_After.tab.getD a0.toNat []).getD a1.toNat (0, 0, false, 0))
theorem szr : (Tryd.prog.info? 31).map (·.size) = some 3 := by kernel_rfl
theorem ref16_ret {w W : World} {a : Act} {x y : Int} {b : Bool} {e : Int} (hg : W.heap[w.heap.size]? = some (.cells #[.int .i64 x, .int .i64 y, .bool b] 31 (0, 0))) (hB : Below w.heap.size w W)
    (h4 : a.tmps.getD 4 undef = .pointer (some ⟨w.heap.size, 0, none⟩)) (h5 : a.tmps.getD 5 undef = .int .i64 e) (hd : a.defers = []) :
    bodyPost Tryd.prog Tryd.f7 (fun e_ w' => e_ = .returned (.tuple #[.agg #[.int .i64 x, .int .i64 y, .bool b], .int .i64 e]) ∧ Below w.heap.size w w') .ret a W := by
  refine bodyPost_ret (v := .tuple #[.agg #[.int .i64 x, .int .i64 y, .bool b], .int .i64 e]) ?_ hd ⟨rfl, hB⟩
  have h4' : a.tmps[4]?.getD undef = .pointer (some ⟨w.heap.size, 0, none⟩) := by simpa using h4
  have h5' : a.tmps[5]?.getD undef = .int .i64 e := by simpa using h5
  simp [results, Tryd.results7, h4', h5', asAddr, run_loadVar_row W w.heap.size 31 31 #[.int .i64 x, .int .i64 y, .bool b] _ _ hg Tryd.underlying31 rfl szr]
set_option maxHeartbeats 4000000 in
set_option maxRecDepth 100000 in
theorem ref16_00 (w : World) : Calls Tryd.prog 7 #[.int .i64 0, .int .i64 0] w fun e w' => e = .returned (.tuple #[.agg #[.int .i64 1, .int .i64 0, .bool false], .int .i64 0]) ∧ Below w.heap.size w w' := by
  go_enter Tryd.func7, Tryd.ntmps7
  go_wp2
  exact ref16_ret (blk_new _ _) (below_alloc (Below.refl _ _) _) rfl rfl rfl
set_option maxHeartbeats 4000000 in
set_option maxRecDepth 100000 in
theorem ref16_01 (w : World) : Calls Tryd.prog 7 #[.int .i64 0, .int .i64 1] w fun e w' => e = .returned (.tuple #[.agg #[.int .i64 2, .int .i64 0, .bool false], .int .i64 0]) ∧ Below w.heap.size w w' := by
  go_enter Tryd.func7, Tryd.ntmps7
  go_wp2
  exact ref16_ret (blk_new _ _) (below_alloc (Below.refl _ _) _) rfl rfl rfl
set_option maxHeartbeats 4000000 in
set_option maxRecDepth 100000 in
theorem ref16_02 (w : World) : Calls Tryd.prog 7 #[.int .i64 0, .int .i64 2] w fun e w' => e = .returned (.tuple #[.agg #[.int .i64 0, .int .i64 1, .bool true], .int .i64 0]) ∧ Below w.heap.size w w' := by
  go_enter Tryd.func7, Tryd.ntmps7
  go_wp2_with (first | ((with_reducible refine gate_callee (f := 26) rfl ?_); refine goesL_ (some 57) rfl rfl Tryd.func26 (by kernel_rfl) rfl #[.int .i64 0, .int .i64 1, .bool true] rfl (by (try simp only [List.map_toArray, List.map_cons, List.map_nil]); first | done | rfl | (simp only [List.length_drop, List.length_take]; rfl)) ?_; (with_reducible refine (gantletref16_fault.calls 0 1 true 0 1 true 0 _ rfl).mono ?_); rintro e_ w_ ⟨rfl, hb⟩; refine ⟨_, rfl, ?_⟩; have hs0 : w.heap.size < w_.heap.size := Nat.lt_of_lt_of_le (alloc_lt _ _) hb.size; have hg0 : w_.heap[w.heap.size]? = some (.cells #[.int .i64 0, .int .i64 0, .bool false] 31) := (hb.block _ (alloc_lt _ _)).trans (heap_alloc_new _ _); have hB : Aside0 (Below w.heap.size w w_) := Aside0.mk (below_then (below_alloc (Below.refl _ _) _) (Nat.le_of_lt (alloc_lt _ _)) hb); have hz0 : w_.cell? ⟨w.heap.size, 0, none⟩ = some (.int .i64 0) := (blk_cell hg0 0).trans rfl; have hz1 : w_.cell? ⟨w.heap.size, 1, none⟩ = some (.int .i64 0) := (blk_cell hg0 1).trans rfl; have hz2 : w_.cell? ⟨w.heap.size, 2, none⟩ = some (.bool false) := (blk_cell hg0 2).trans rfl; have hf0 := blk_frozen hg0 0; have hf1 := blk_frozen hg0 1; have hf2 := blk_frozen hg0 2))
  exact ref16_ret (blk_put (blk_put (blk_put hg0 0 _ rfl) 1 _ rfl) 2 _ rfl) (below_set (below_set (below_set hB.out (Nat.le_refl _)) (Nat.le_refl _)) (Nat.le_refl _)) rfl rfl rfl
set_option maxHeartbeats 4000000 in
set_option maxRecDepth 100000 in
theorem ref16_03 (w : World) : Calls Tryd.prog 7 #[.int .i64 0, .int .i64 3] w fun e w' => e = .returned (.tuple #[.agg #[.int .i64 0, .int .i64 1, .bool true], .int .i64 0]) ∧ Below w.heap.size w w' := by
  go_enter Tryd.func7, Tryd.ntmps7
  go_wp2_with (first | ((with_reducible refine gate_callee (f := 26) rfl ?_); refine goesL_ (some 57) rfl rfl Tryd.func26 (by kernel_rfl) rfl #[.int .i64 0, .int .i64 1, .bool true] rfl (by (try simp only [List.map_toArray, List.map_cons, List.map_nil]); first | done | rfl | (simp only [List.length_drop, List.length_take]; rfl)) ?_; (with_reducible refine (gantletref16_fault.calls 0 1 true 0 1 true 0 _ rfl).mono ?_); rintro e_ w_ ⟨rfl, hb⟩; refine ⟨_, rfl, ?_⟩; have hs0 : w.heap.size < w_.heap.size := Nat.lt_of_lt_of_le (alloc_lt _ _) hb.size; have hg0 : w_.heap[w.heap.size]? = some (.cells #[.int .i64 0, .int .i64 0, .bool false] 31) := (hb.block _ (alloc_lt _ _)).trans (heap_alloc_new _ _); have hB : Aside0 (Below w.heap.size w w_) := Aside0.mk (below_then (below_alloc (Below.refl _ _) _) (Nat.le_of_lt (alloc_lt _ _)) hb); have hz0 : w_.cell? ⟨w.heap.size, 0, none⟩ = some (.int .i64 0) := (blk_cell hg0 0).trans rfl; have hz1 : w_.cell? ⟨w.heap.size, 1, none⟩ = some (.int .i64 0) := (blk_cell hg0 1).trans rfl; have hz2 : w_.cell? ⟨w.heap.size, 2, none⟩ = some (.bool false) := (blk_cell hg0 2).trans rfl; have hf0 := blk_frozen hg0 0; have hf1 := blk_frozen hg0 1; have hf2 := blk_frozen hg0 2))
  exact ref16_ret (blk_put (blk_put (blk_put hg0 0 _ rfl) 1 _ rfl) 2 _ rfl) (below_set (below_set (below_set hB.out (Nat.le_refl _)) (Nat.le_refl _)) (Nat.le_refl _)) rfl rfl rfl
set_option maxHeartbeats 4000000 in
set_option maxRecDepth 100000 in
theorem ref16_04 (w : World) : Calls Tryd.prog 7 #[.int .i64 0, .int .i64 4] w fun e w' => e = .returned (.tuple #[.agg #[.int .i64 0, .int .i64 1, .bool true], .int .i64 0]) ∧ Below w.heap.size w w' := by
  go_enter Tryd.func7, Tryd.ntmps7
  go_wp2_with (first | ((with_reducible refine gate_callee (f := 26) rfl ?_); refine goesL_ (some 57) rfl rfl Tryd.func26 (by kernel_rfl) rfl #[.int .i64 0, .int .i64 1, .bool true] rfl (by (try simp only [List.map_toArray, List.map_cons, List.map_nil]); first | done | rfl | (simp only [List.length_drop, List.length_take]; rfl)) ?_; (with_reducible refine (gantletref16_fault.calls 0 1 true 0 1 true 0 _ rfl).mono ?_); rintro e_ w_ ⟨rfl, hb⟩; refine ⟨_, rfl, ?_⟩; have hs0 : w.heap.size < w_.heap.size := Nat.lt_of_lt_of_le (alloc_lt _ _) hb.size; have hg0 : w_.heap[w.heap.size]? = some (.cells #[.int .i64 0, .int .i64 0, .bool false] 31) := (hb.block _ (alloc_lt _ _)).trans (heap_alloc_new _ _); have hB : Aside0 (Below w.heap.size w w_) := Aside0.mk (below_then (below_alloc (Below.refl _ _) _) (Nat.le_of_lt (alloc_lt _ _)) hb); have hz0 : w_.cell? ⟨w.heap.size, 0, none⟩ = some (.int .i64 0) := (blk_cell hg0 0).trans rfl; have hz1 : w_.cell? ⟨w.heap.size, 1, none⟩ = some (.int .i64 0) := (blk_cell hg0 1).trans rfl; have hz2 : w_.cell? ⟨w.heap.size, 2, none⟩ = some (.bool false) := (blk_cell hg0 2).trans rfl; have hf0 := blk_frozen hg0 0; have hf1 := blk_frozen hg0 1; have hf2 := blk_frozen hg0 2))
  exact ref16_ret (blk_put (blk_put (blk_put hg0 0 _ rfl) 1 _ rfl) 2 _ rfl) (below_set (below_set (below_set hB.out (Nat.le_refl _)) (Nat.le_refl _)) (Nat.le_refl _)) rfl rfl rfl
set_option maxHeartbeats 4000000 in
set_option maxRecDepth 100000 in
theorem ref16_05 (w : World) : Calls Tryd.prog 7 #[.int .i64 0, .int .i64 5] w fun e w' => e = .returned (.tuple #[.agg #[.int .i64 0, .int .i64 1, .bool true], .int .i64 0]) ∧ Below w.heap.size w w' := by
  go_enter Tryd.func7, Tryd.ntmps7
  go_wp2_with (first | ((with_reducible refine gate_callee (f := 26) rfl ?_); refine goesL_ (some 57) rfl rfl Tryd.func26 (by kernel_rfl) rfl #[.int .i64 0, .int .i64 1, .bool true] rfl (by (try simp only [List.map_toArray, List.map_cons, List.map_nil]); first | done | rfl | (simp only [List.length_drop, List.length_take]; rfl)) ?_; (with_reducible refine (gantletref16_fault.calls 0 1 true 0 1 true 0 _ rfl).mono ?_); rintro e_ w_ ⟨rfl, hb⟩; refine ⟨_, rfl, ?_⟩; have hs0 : w.heap.size < w_.heap.size := Nat.lt_of_lt_of_le (alloc_lt _ _) hb.size; have hg0 : w_.heap[w.heap.size]? = some (.cells #[.int .i64 0, .int .i64 0, .bool false] 31) := (hb.block _ (alloc_lt _ _)).trans (heap_alloc_new _ _); have hB : Aside0 (Below w.heap.size w w_) := Aside0.mk (below_then (below_alloc (Below.refl _ _) _) (Nat.le_of_lt (alloc_lt _ _)) hb); have hz0 : w_.cell? ⟨w.heap.size, 0, none⟩ = some (.int .i64 0) := (blk_cell hg0 0).trans rfl; have hz1 : w_.cell? ⟨w.heap.size, 1, none⟩ = some (.int .i64 0) := (blk_cell hg0 1).trans rfl; have hz2 : w_.cell? ⟨w.heap.size, 2, none⟩ = some (.bool false) := (blk_cell hg0 2).trans rfl; have hf0 := blk_frozen hg0 0; have hf1 := blk_frozen hg0 1; have hf2 := blk_frozen hg0 2))
  exact ref16_ret (blk_put (blk_put (blk_put hg0 0 _ rfl) 1 _ rfl) 2 _ rfl) (below_set (below_set (below_set hB.out (Nat.le_refl _)) (Nat.le_refl _)) (Nat.le_refl _)) rfl rfl rfl
set_option maxHeartbeats 4000000 in
set_option maxRecDepth 100000 in
theorem ref16_06 (w : World) : Calls Tryd.prog 7 #[.int .i64 0, .int .i64 6] w fun e w' => e = .returned (.tuple #[.agg #[.int .i64 0, .int .i64 0, .bool false], .int .i64 6]) ∧ Below w.heap.size w w' := by
  go_enter Tryd.func7, Tryd.ntmps7
  go_wp2
  exact ref16_ret (blk_new _ _) (below_alloc (Below.refl _ _) _) rfl rfl rfl
set_option maxHeartbeats 4000000 in
set_option maxRecDepth 100000 in
theorem ref16_07 (w : World) : Calls Tryd.prog 7 #[.int .i64 0, .int .i64 7] w fun e w' => e = .returned (.tuple #[.agg #[.int .i64 0, .int .i64 0, .bool false], .int .i64 6]) ∧ Below w.heap.size w w' := by
  go_enter Tryd.func7, Tryd.ntmps7
  go_wp2
  exact ref16_ret (blk_new _ _) (below_alloc (Below.refl _ _) _) rfl rfl rfl
set_option maxHeartbeats 4000000 in
set_option maxRecDepth 100000 in
theorem ref16_08 (w : World) : Calls Tryd.prog 7 #[.int .i64 0, .int .i64 8] w fun e w' => e = .returned (.tuple #[.agg #[.int .i64 0, .int .i64 0, .bool false], .int .i64 6]) ∧ Below w.heap.size w w' := by
  go_enter Tryd.func7, Tryd.ntmps7
  go_wp2
  exact ref16_ret (blk_new _ _) (below_alloc (Below.refl _ _) _) rfl rfl rfl
set_option maxHeartbeats 4000000 in
set_option maxRecDepth 100000 in
theorem ref16_10 (w : World) : Calls Tryd.prog 7 #[.int .i64 1, .int .i64 0] w fun e w' => e = .returned (.tuple #[.agg #[.int .i64 1, .int .i64 1, .bool false], .int .i64 0]) ∧ Below w.heap.size w w' := by
  go_enter Tryd.func7, Tryd.ntmps7
  go_wp2_with (first | ((with_reducible refine gate_callee (f := 26) rfl ?_); refine goesL_ (some 85) rfl rfl Tryd.func26 (by kernel_rfl) rfl #[.int .i64 1, .int .i64 1, .bool false] rfl (by (try simp only [List.map_toArray, List.map_cons, List.map_nil]); first | done | rfl | (simp only [List.length_drop, List.length_take]; rfl)) ?_; (with_reducible refine (gantletref16_fault.calls 1 1 false 1 1 false 0 _ rfl).mono ?_); rintro e_ w_ ⟨rfl, hb⟩; refine ⟨_, rfl, ?_⟩; have hs0 : w.heap.size < w_.heap.size := Nat.lt_of_lt_of_le (alloc_lt _ _) hb.size; have hg0 : w_.heap[w.heap.size]? = some (.cells #[.int .i64 0, .int .i64 0, .bool false] 31) := (hb.block _ (alloc_lt _ _)).trans (heap_alloc_new _ _); have hB : Aside0 (Below w.heap.size w w_) := Aside0.mk (below_then (below_alloc (Below.refl _ _) _) (Nat.le_of_lt (alloc_lt _ _)) hb); have hz0 : w_.cell? ⟨w.heap.size, 0, none⟩ = some (.int .i64 0) := (blk_cell hg0 0).trans rfl; have hz1 : w_.cell? ⟨w.heap.size, 1, none⟩ = some (.int .i64 0) := (blk_cell hg0 1).trans rfl; have hz2 : w_.cell? ⟨w.heap.size, 2, none⟩ = some (.bool false) := (blk_cell hg0 2).trans rfl; have hf0 := blk_frozen hg0 0; have hf1 := blk_frozen hg0 1; have hf2 := blk_frozen hg0 2))
  exact ref16_ret (blk_put (blk_put (blk_put hg0 0 _ rfl) 1 _ rfl) 2 _ rfl) (below_set (below_set (below_set hB.out (Nat.le_refl _)) (Nat.le_refl _)) (Nat.le_refl _)) rfl rfl rfl
set_option maxHeartbeats 4000000 in
set_option maxRecDepth 100000 in
theorem ref16_11 (w : World) : Calls Tryd.prog 7 #[.int .i64 1, .int .i64 1] w fun e w' => e = .returned (.tuple #[.agg #[.int .i64 2, .int .i64 0, .bool false], .int .i64 0]) ∧ Below w.heap.size w w' := by
  go_enter Tryd.func7, Tryd.ntmps7
  go_wp2
  exact ref16_ret (blk_new _ _) (below_alloc (Below.refl _ _) _) rfl rfl rfl
set_option maxHeartbeats 4000000 in
set_option maxRecDepth 100000 in
theorem ref16_12 (w : World) : Calls Tryd.prog 7 #[.int .i64 1, .int .i64 2] w fun e w' => e = .returned (.tuple #[.agg #[.int .i64 1, .int .i64 0, .bool false], .int .i64 0]) ∧ Below w.heap.size w w' := by
  go_enter Tryd.func7, Tryd.ntmps7
  go_wp2
  exact ref16_ret (blk_new _ _) (below_alloc (Below.refl _ _) _) rfl rfl rfl
set_option maxHeartbeats 4000000 in
set_option maxRecDepth 100000 in
theorem ref16_13 (w : World) : Calls Tryd.prog 7 #[.int .i64 1, .int .i64 3] w fun e w' => e = .returned (.tuple #[.agg #[.int .i64 2, .int .i64 0, .bool false], .int .i64 0]) ∧ Below w.heap.size w w' := by
  go_enter Tryd.func7, Tryd.ntmps7
  go_wp2
  exact ref16_ret (blk_new _ _) (below_alloc (Below.refl _ _) _) rfl rfl rfl
set_option maxHeartbeats 4000000 in
set_option maxRecDepth 100000 in
theorem ref16_14 (w : World) : Calls Tryd.prog 7 #[.int .i64 1, .int .i64 4] w fun e w' => e = .returned (.tuple #[.agg #[.int .i64 4, .int .i64 0, .bool false], .int .i64 0]) ∧ Below w.heap.size w w' := by
  go_enter Tryd.func7, Tryd.ntmps7
  go_wp2
  exact ref16_ret (blk_new _ _) (below_alloc (Below.refl _ _) _) rfl rfl rfl
set_option maxHeartbeats 4000000 in
set_option maxRecDepth 100000 in
theorem ref16_15 (w : World) : Calls Tryd.prog 7 #[.int .i64 1, .int .i64 5] w fun e w' => e = .returned (.tuple #[.agg #[.int .i64 1, .int .i64 0, .bool false], .int .i64 0]) ∧ Below w.heap.size w w' := by
  go_enter Tryd.func7, Tryd.ntmps7
  go_wp2
  exact ref16_ret (blk_new _ _) (below_alloc (Below.refl _ _) _) rfl rfl rfl
set_option maxHeartbeats 4000000 in
set_option maxRecDepth 100000 in
theorem ref16_16 (w : World) : Calls Tryd.prog 7 #[.int .i64 1, .int .i64 6] w fun e w' => e = .returned (.tuple #[.agg #[.int .i64 1, .int .i64 0, .bool false], .int .i64 0]) ∧ Below w.heap.size w w' := by
  go_enter Tryd.func7, Tryd.ntmps7
  go_wp2
  exact ref16_ret (blk_new _ _) (below_alloc (Below.refl _ _) _) rfl rfl rfl
set_option maxHeartbeats 4000000 in
set_option maxRecDepth 100000 in
theorem ref16_17 (w : World) : Calls Tryd.prog 7 #[.int .i64 1, .int .i64 7] w fun e w' => e = .returned (.tuple #[.agg #[.int .i64 3, .int .i64 0, .bool false], .int .i64 0]) ∧ Below w.heap.size w w' := by
  go_enter Tryd.func7, Tryd.ntmps7
  go_wp2
  exact ref16_ret (blk_new _ _) (below_alloc (Below.refl _ _) _) rfl rfl rfl
set_option maxHeartbeats 4000000 in
set_option maxRecDepth 100000 in
theorem ref16_18 (w : World) : Calls Tryd.prog 7 #[.int .i64 1, .int .i64 8] w fun e w' => e = .returned (.tuple #[.agg #[.int .i64 4, .int .i64 0, .bool false], .int .i64 0]) ∧ Below w.heap.size w w' := by
  go_enter Tryd.func7, Tryd.ntmps7
  go_wp2
  exact ref16_ret (blk_new _ _) (below_alloc (Below.refl _ _) _) rfl rfl rfl
set_option maxHeartbeats 4000000 in
set_option maxRecDepth 100000 in
theorem ref16_20 (w : World) : Calls Tryd.prog 7 #[.int .i64 2, .int .i64 0] w fun e w' => e = .returned (.tuple #[.agg #[.int .i64 2, .int .i64 5, .bool false], .int .i64 0]) ∧ Below w.heap.size w w' := by
  go_enter Tryd.func7, Tryd.ntmps7
  go_wp2_with (first | ((with_reducible refine gate_callee (f := 26) rfl ?_); refine goesL_ (some 75) rfl rfl Tryd.func26 (by kernel_rfl) rfl #[.int .i64 2, .int .i64 5, .bool false] rfl (by (try simp only [List.map_toArray, List.map_cons, List.map_nil]); first | done | rfl | (simp only [List.length_drop, List.length_take]; rfl)) ?_; (with_reducible refine (gantletref16_fault.calls 2 5 false 2 5 false 0 _ rfl).mono ?_); rintro e_ w_ ⟨rfl, hb⟩; refine ⟨_, rfl, ?_⟩; have hs0 : w.heap.size < w_.heap.size := Nat.lt_of_lt_of_le (alloc_lt _ _) hb.size; have hg0 : w_.heap[w.heap.size]? = some (.cells #[.int .i64 0, .int .i64 0, .bool false] 31) := (hb.block _ (alloc_lt _ _)).trans (heap_alloc_new _ _); have hB : Aside0 (Below w.heap.size w w_) := Aside0.mk (below_then (below_alloc (Below.refl _ _) _) (Nat.le_of_lt (alloc_lt _ _)) hb); have hz0 : w_.cell? ⟨w.heap.size, 0, none⟩ = some (.int .i64 0) := (blk_cell hg0 0).trans rfl; have hz1 : w_.cell? ⟨w.heap.size, 1, none⟩ = some (.int .i64 0) := (blk_cell hg0 1).trans rfl; have hz2 : w_.cell? ⟨w.heap.size, 2, none⟩ = some (.bool false) := (blk_cell hg0 2).trans rfl; have hf0 := blk_frozen hg0 0; have hf1 := blk_frozen hg0 1; have hf2 := blk_frozen hg0 2))
  exact ref16_ret (blk_put (blk_put (blk_put hg0 0 _ rfl) 1 _ rfl) 2 _ rfl) (below_set (below_set (below_set hB.out (Nat.le_refl _)) (Nat.le_refl _)) (Nat.le_refl _)) rfl rfl rfl
set_option maxHeartbeats 4000000 in
set_option maxRecDepth 100000 in
theorem ref16_21 (w : World) : Calls Tryd.prog 7 #[.int .i64 2, .int .i64 1] w fun e w' => e = .returned (.tuple #[.agg #[.int .i64 2, .int .i64 5, .bool false], .int .i64 0]) ∧ Below w.heap.size w w' := by
  go_enter Tryd.func7, Tryd.ntmps7
  go_wp2_with (first | ((with_reducible refine gate_callee (f := 26) rfl ?_); refine goesL_ (some 75) rfl rfl Tryd.func26 (by kernel_rfl) rfl #[.int .i64 2, .int .i64 5, .bool false] rfl (by (try simp only [List.map_toArray, List.map_cons, List.map_nil]); first | done | rfl | (simp only [List.length_drop, List.length_take]; rfl)) ?_; (with_reducible refine (gantletref16_fault.calls 2 5 false 2 5 false 0 _ rfl).mono ?_); rintro e_ w_ ⟨rfl, hb⟩; refine ⟨_, rfl, ?_⟩; have hs0 : w.heap.size < w_.heap.size := Nat.lt_of_lt_of_le (alloc_lt _ _) hb.size; have hg0 : w_.heap[w.heap.size]? = some (.cells #[.int .i64 0, .int .i64 0, .bool false] 31) := (hb.block _ (alloc_lt _ _)).trans (heap_alloc_new _ _); have hB : Aside0 (Below w.heap.size w w_) := Aside0.mk (below_then (below_alloc (Below.refl _ _) _) (Nat.le_of_lt (alloc_lt _ _)) hb); have hz0 : w_.cell? ⟨w.heap.size, 0, none⟩ = some (.int .i64 0) := (blk_cell hg0 0).trans rfl; have hz1 : w_.cell? ⟨w.heap.size, 1, none⟩ = some (.int .i64 0) := (blk_cell hg0 1).trans rfl; have hz2 : w_.cell? ⟨w.heap.size, 2, none⟩ = some (.bool false) := (blk_cell hg0 2).trans rfl; have hf0 := blk_frozen hg0 0; have hf1 := blk_frozen hg0 1; have hf2 := blk_frozen hg0 2))
  exact ref16_ret (blk_put (blk_put (blk_put hg0 0 _ rfl) 1 _ rfl) 2 _ rfl) (below_set (below_set (below_set hB.out (Nat.le_refl _)) (Nat.le_refl _)) (Nat.le_refl _)) rfl rfl rfl
set_option maxHeartbeats 4000000 in
set_option maxRecDepth 100000 in
theorem ref16_22 (w : World) : Calls Tryd.prog 7 #[.int .i64 2, .int .i64 2] w fun e w' => e = .returned (.tuple #[.agg #[.int .i64 2, .int .i64 5, .bool false], .int .i64 0]) ∧ Below w.heap.size w w' := by
  go_enter Tryd.func7, Tryd.ntmps7
  go_wp2_with (first | ((with_reducible refine gate_callee (f := 26) rfl ?_); refine goesL_ (some 75) rfl rfl Tryd.func26 (by kernel_rfl) rfl #[.int .i64 2, .int .i64 5, .bool false] rfl (by (try simp only [List.map_toArray, List.map_cons, List.map_nil]); first | done | rfl | (simp only [List.length_drop, List.length_take]; rfl)) ?_; (with_reducible refine (gantletref16_fault.calls 2 5 false 2 5 false 0 _ rfl).mono ?_); rintro e_ w_ ⟨rfl, hb⟩; refine ⟨_, rfl, ?_⟩; have hs0 : w.heap.size < w_.heap.size := Nat.lt_of_lt_of_le (alloc_lt _ _) hb.size; have hg0 : w_.heap[w.heap.size]? = some (.cells #[.int .i64 0, .int .i64 0, .bool false] 31) := (hb.block _ (alloc_lt _ _)).trans (heap_alloc_new _ _); have hB : Aside0 (Below w.heap.size w w_) := Aside0.mk (below_then (below_alloc (Below.refl _ _) _) (Nat.le_of_lt (alloc_lt _ _)) hb); have hz0 : w_.cell? ⟨w.heap.size, 0, none⟩ = some (.int .i64 0) := (blk_cell hg0 0).trans rfl; have hz1 : w_.cell? ⟨w.heap.size, 1, none⟩ = some (.int .i64 0) := (blk_cell hg0 1).trans rfl; have hz2 : w_.cell? ⟨w.heap.size, 2, none⟩ = some (.bool false) := (blk_cell hg0 2).trans rfl; have hf0 := blk_frozen hg0 0; have hf1 := blk_frozen hg0 1; have hf2 := blk_frozen hg0 2))
  exact ref16_ret (blk_put (blk_put (blk_put hg0 0 _ rfl) 1 _ rfl) 2 _ rfl) (below_set (below_set (below_set hB.out (Nat.le_refl _)) (Nat.le_refl _)) (Nat.le_refl _)) rfl rfl rfl
set_option maxHeartbeats 4000000 in
set_option maxRecDepth 100000 in
theorem ref16_23 (w : World) : Calls Tryd.prog 7 #[.int .i64 2, .int .i64 3] w fun e w' => e = .returned (.tuple #[.agg #[.int .i64 2, .int .i64 5, .bool false], .int .i64 0]) ∧ Below w.heap.size w w' := by
  go_enter Tryd.func7, Tryd.ntmps7
  go_wp2_with (first | ((with_reducible refine gate_callee (f := 26) rfl ?_); refine goesL_ (some 75) rfl rfl Tryd.func26 (by kernel_rfl) rfl #[.int .i64 2, .int .i64 5, .bool false] rfl (by (try simp only [List.map_toArray, List.map_cons, List.map_nil]); first | done | rfl | (simp only [List.length_drop, List.length_take]; rfl)) ?_; (with_reducible refine (gantletref16_fault.calls 2 5 false 2 5 false 0 _ rfl).mono ?_); rintro e_ w_ ⟨rfl, hb⟩; refine ⟨_, rfl, ?_⟩; have hs0 : w.heap.size < w_.heap.size := Nat.lt_of_lt_of_le (alloc_lt _ _) hb.size; have hg0 : w_.heap[w.heap.size]? = some (.cells #[.int .i64 0, .int .i64 0, .bool false] 31) := (hb.block _ (alloc_lt _ _)).trans (heap_alloc_new _ _); have hB : Aside0 (Below w.heap.size w w_) := Aside0.mk (below_then (below_alloc (Below.refl _ _) _) (Nat.le_of_lt (alloc_lt _ _)) hb); have hz0 : w_.cell? ⟨w.heap.size, 0, none⟩ = some (.int .i64 0) := (blk_cell hg0 0).trans rfl; have hz1 : w_.cell? ⟨w.heap.size, 1, none⟩ = some (.int .i64 0) := (blk_cell hg0 1).trans rfl; have hz2 : w_.cell? ⟨w.heap.size, 2, none⟩ = some (.bool false) := (blk_cell hg0 2).trans rfl; have hf0 := blk_frozen hg0 0; have hf1 := blk_frozen hg0 1; have hf2 := blk_frozen hg0 2))
  exact ref16_ret (blk_put (blk_put (blk_put hg0 0 _ rfl) 1 _ rfl) 2 _ rfl) (below_set (below_set (below_set hB.out (Nat.le_refl _)) (Nat.le_refl _)) (Nat.le_refl _)) rfl rfl rfl
set_option maxHeartbeats 4000000 in
set_option maxRecDepth 100000 in
theorem ref16_24 (w : World) : Calls Tryd.prog 7 #[.int .i64 2, .int .i64 4] w fun e w' => e = .returned (.tuple #[.agg #[.int .i64 4, .int .i64 0, .bool false], .int .i64 0]) ∧ Below w.heap.size w w' := by
  go_enter Tryd.func7, Tryd.ntmps7
  go_wp2
  exact ref16_ret (blk_new _ _) (below_alloc (Below.refl _ _) _) rfl rfl rfl
set_option maxHeartbeats 4000000 in
set_option maxRecDepth 100000 in
theorem ref16_25 (w : World) : Calls Tryd.prog 7 #[.int .i64 2, .int .i64 5] w fun e w' => e = .returned (.tuple #[.agg #[.int .i64 2, .int .i64 0, .bool false], .int .i64 0]) ∧ Below w.heap.size w w' := by
  go_enter Tryd.func7, Tryd.ntmps7
  go_wp2
  exact ref16_ret (blk_new _ _) (below_alloc (Below.refl _ _) _) rfl rfl rfl
set_option maxHeartbeats 4000000 in
set_option maxRecDepth 100000 in
theorem ref16_26 (w : World) : Calls Tryd.prog 7 #[.int .i64 2, .int .i64 6] w fun e w' => e = .returned (.tuple #[.agg #[.int .i64 2, .int .i64 0, .bool false], .int .i64 0]) ∧ Below w.heap.size w w' := by
  go_enter Tryd.func7, Tryd.ntmps7
  go_wp2
  exact ref16_ret (blk_new _ _) (below_alloc (Below.refl _ _) _) rfl rfl rfl
set_option maxHeartbeats 4000000 in
set_option maxRecDepth 100000 in
theorem ref16_27 (w : World) : Calls Tryd.prog 7 #[.int .i64 2, .int .i64 7] w fun e w' => e = .returned (.tuple #[.agg #[.int .i64 4, .int .i64 0, .bool false], .int .i64 0]) ∧ Below w.heap.size w w' := by
  go_enter Tryd.func7, Tryd.ntmps7
  go_wp2
  exact ref16_ret (blk_new _ _) (below_alloc (Below.refl _ _) _) rfl rfl rfl
set_option maxHeartbeats 4000000 in
set_option maxRecDepth 100000 in
theorem ref16_28 (w : World) : Calls Tryd.prog 7 #[.int .i64 2, .int .i64 8] w fun e w' => e = .returned (.tuple #[.agg #[.int .i64 4, .int .i64 0, .bool false], .int .i64 0]) ∧ Below w.heap.size w w' := by
  go_enter Tryd.func7, Tryd.ntmps7
  go_wp2
  exact ref16_ret (blk_new _ _) (below_alloc (Below.refl _ _) _) rfl rfl rfl
set_option maxHeartbeats 4000000 in
set_option maxRecDepth 100000 in
theorem ref16_30 (w : World) : Calls Tryd.prog 7 #[.int .i64 3, .int .i64 0] w fun e w' => e = .returned (.tuple #[.agg #[.int .i64 3, .int .i64 1, .bool false], .int .i64 0]) ∧ Below w.heap.size w w' := by
  go_enter Tryd.func7, Tryd.ntmps7
  go_wp2_with (first | ((with_reducible refine gate_callee (f := 26) rfl ?_); refine goesL_ (some 85) rfl rfl Tryd.func26 (by kernel_rfl) rfl #[.int .i64 3, .int .i64 1, .bool false] rfl (by (try simp only [List.map_toArray, List.map_cons, List.map_nil]); first | done | rfl | (simp only [List.length_drop, List.length_take]; rfl)) ?_; (with_reducible refine (gantletref16_fault.calls 3 1 false 3 1 false 0 _ rfl).mono ?_); rintro e_ w_ ⟨rfl, hb⟩; refine ⟨_, rfl, ?_⟩; have hs0 : w.heap.size < w_.heap.size := Nat.lt_of_lt_of_le (alloc_lt _ _) hb.size; have hg0 : w_.heap[w.heap.size]? = some (.cells #[.int .i64 0, .int .i64 0, .bool false] 31) := (hb.block _ (alloc_lt _ _)).trans (heap_alloc_new _ _); have hB : Aside0 (Below w.heap.size w w_) := Aside0.mk (below_then (below_alloc (Below.refl _ _) _) (Nat.le_of_lt (alloc_lt _ _)) hb); have hz0 : w_.cell? ⟨w.heap.size, 0, none⟩ = some (.int .i64 0) := (blk_cell hg0 0).trans rfl; have hz1 : w_.cell? ⟨w.heap.size, 1, none⟩ = some (.int .i64 0) := (blk_cell hg0 1).trans rfl; have hz2 : w_.cell? ⟨w.heap.size, 2, none⟩ = some (.bool false) := (blk_cell hg0 2).trans rfl; have hf0 := blk_frozen hg0 0; have hf1 := blk_frozen hg0 1; have hf2 := blk_frozen hg0 2))
  exact ref16_ret (blk_put (blk_put (blk_put hg0 0 _ rfl) 1 _ rfl) 2 _ rfl) (below_set (below_set (below_set hB.out (Nat.le_refl _)) (Nat.le_refl _)) (Nat.le_refl _)) rfl rfl rfl
set_option maxHeartbeats 4000000 in
set_option maxRecDepth 100000 in
theorem ref16_31 (w : World) : Calls Tryd.prog 7 #[.int .i64 3, .int .i64 1] w fun e w' => e = .returned (.tuple #[.agg #[.int .i64 4, .int .i64 0, .bool false], .int .i64 0]) ∧ Below w.heap.size w w' := by
  go_enter Tryd.func7, Tryd.ntmps7
  go_wp2
  exact ref16_ret (blk_new _ _) (below_alloc (Below.refl _ _) _) rfl rfl rfl
set_option maxHeartbeats 4000000 in
set_option maxRecDepth 100000 in
theorem ref16_32 (w : World) : Calls Tryd.prog 7 #[.int .i64 3, .int .i64 2] w fun e w' => e = .returned (.tuple #[.agg #[.int .i64 3, .int .i64 0, .bool false], .int .i64 0]) ∧ Below w.heap.size w w' := by
  go_enter Tryd.func7, Tryd.ntmps7
  go_wp2
  exact ref16_ret (blk_new _ _) (below_alloc (Below.refl _ _) _) rfl rfl rfl
set_option maxHeartbeats 4000000 in
set_option maxRecDepth 100000 in
theorem ref16_33 (w : World) : Calls Tryd.prog 7 #[.int .i64 3, .int .i64 3] w fun e w' => e = .returned (.tuple #[.agg #[.int .i64 4, .int .i64 0, .bool false], .int .i64 0]) ∧ Below w.heap.size w w' := by
  go_enter Tryd.func7, Tryd.ntmps7
  go_wp2
  exact ref16_ret (blk_new _ _) (below_alloc (Below.refl _ _) _) rfl rfl rfl
set_option maxHeartbeats 4000000 in
set_option maxRecDepth 100000 in
theorem ref16_34 (w : World) : Calls Tryd.prog 7 #[.int .i64 3, .int .i64 4] w fun e w' => e = .returned (.tuple #[.agg #[.int .i64 4, .int .i64 0, .bool false], .int .i64 0]) ∧ Below w.heap.size w w' := by
  go_enter Tryd.func7, Tryd.ntmps7
  go_wp2
  exact ref16_ret (blk_new _ _) (below_alloc (Below.refl _ _) _) rfl rfl rfl
set_option maxHeartbeats 4000000 in
set_option maxRecDepth 100000 in
theorem ref16_35 (w : World) : Calls Tryd.prog 7 #[.int .i64 3, .int .i64 5] w fun e w' => e = .returned (.tuple #[.agg #[.int .i64 3, .int .i64 0, .bool false], .int .i64 0]) ∧ Below w.heap.size w w' := by
  go_enter Tryd.func7, Tryd.ntmps7
  go_wp2
  exact ref16_ret (blk_new _ _) (below_alloc (Below.refl _ _) _) rfl rfl rfl
set_option maxHeartbeats 4000000 in
set_option maxRecDepth 100000 in
theorem ref16_36 (w : World) : Calls Tryd.prog 7 #[.int .i64 3, .int .i64 6] w fun e w' => e = .returned (.tuple #[.agg #[.int .i64 0, .int .i64 0, .bool false], .int .i64 6]) ∧ Below w.heap.size w w' := by
  go_enter Tryd.func7, Tryd.ntmps7
  go_wp2
  exact ref16_ret (blk_new _ _) (below_alloc (Below.refl _ _) _) rfl rfl rfl
set_option maxHeartbeats 4000000 in
set_option maxRecDepth 100000 in
theorem ref16_37 (w : World) : Calls Tryd.prog 7 #[.int .i64 3, .int .i64 7] w fun e w' => e = .returned (.tuple #[.agg #[.int .i64 0, .int .i64 0, .bool false], .int .i64 6]) ∧ Below w.heap.size w w' := by
  go_enter Tryd.func7, Tryd.ntmps7
  go_wp2
  exact ref16_ret (blk_new _ _) (below_alloc (Below.refl _ _) _) rfl rfl rfl
set_option maxHeartbeats 4000000 in
set_option maxRecDepth 100000 in
theorem ref16_38 (w : World) : Calls Tryd.prog 7 #[.int .i64 3, .int .i64 8] w fun e w' => e = .returned (.tuple #[.agg #[.int .i64 4, .int .i64 0, .bool false], .int .i64 0]) ∧ Below w.heap.size w w' := by
  go_enter Tryd.func7, Tryd.ntmps7
  go_wp2
  exact ref16_ret (blk_new _ _) (below_alloc (Below.refl _ _) _) rfl rfl rfl
set_option maxHeartbeats 4000000 in
set_option maxRecDepth 100000 in
theorem ref16_40 (w : World) : Calls Tryd.prog 7 #[.int .i64 4, .int .i64 0] w fun e w' => e = .returned (.tuple #[.agg #[.int .i64 4, .int .i64 5, .bool true], .int .i64 0]) ∧ Below w.heap.size w w' := by
  go_enter Tryd.func7, Tryd.ntmps7
  go_wp2_with (first | ((with_reducible refine gate_callee (f := 26) rfl ?_); refine goesL_ (some 66) rfl rfl Tryd.func26 (by kernel_rfl) rfl #[.int .i64 4, .int .i64 5, .bool true] rfl (by (try simp only [List.map_toArray, List.map_cons, List.map_nil]); first | done | rfl | (simp only [List.length_drop, List.length_take]; rfl)) ?_; (with_reducible refine (gantletref16_fault.calls 4 5 true 4 5 true 0 _ rfl).mono ?_); rintro e_ w_ ⟨rfl, hb⟩; refine ⟨_, rfl, ?_⟩; have hs0 : w.heap.size < w_.heap.size := Nat.lt_of_lt_of_le (alloc_lt _ _) hb.size; have hg0 : w_.heap[w.heap.size]? = some (.cells #[.int .i64 0, .int .i64 0, .bool false] 31) := (hb.block _ (alloc_lt _ _)).trans (heap_alloc_new _ _); have hB : Aside0 (Below w.heap.size w w_) := Aside0.mk (below_then (below_alloc (Below.refl _ _) _) (Nat.le_of_lt (alloc_lt _ _)) hb); have hz0 : w_.cell? ⟨w.heap.size, 0, none⟩ = some (.int .i64 0) := (blk_cell hg0 0).trans rfl; have hz1 : w_.cell? ⟨w.heap.size, 1, none⟩ = some (.int .i64 0) := (blk_cell hg0 1).trans rfl; have hz2 : w_.cell? ⟨w.heap.size, 2, none⟩ = some (.bool false) := (blk_cell hg0 2).trans rfl; have hf0 := blk_frozen hg0 0; have hf1 := blk_frozen hg0 1; have hf2 := blk_frozen hg0 2))
  exact ref16_ret (blk_put (blk_put (blk_put hg0 0 _ rfl) 1 _ rfl) 2 _ rfl) (below_set (below_set (below_set hB.out (Nat.le_refl _)) (Nat.le_refl _)) (Nat.le_refl _)) rfl rfl rfl
set_option maxHeartbeats 4000000 in
set_option maxRecDepth 100000 in
theorem ref16_41 (w : World) : Calls Tryd.prog 7 #[.int .i64 4, .int .i64 1] w fun e w' => e = .returned (.tuple #[.agg #[.int .i64 4, .int .i64 5, .bool true], .int .i64 0]) ∧ Below w.heap.size w w' := by
  go_enter Tryd.func7, Tryd.ntmps7
  go_wp2_with (first | ((with_reducible refine gate_callee (f := 26) rfl ?_); refine goesL_ (some 66) rfl rfl Tryd.func26 (by kernel_rfl) rfl #[.int .i64 4, .int .i64 5, .bool true] rfl (by (try simp only [List.map_toArray, List.map_cons, List.map_nil]); first | done | rfl | (simp only [List.length_drop, List.length_take]; rfl)) ?_; (with_reducible refine (gantletref16_fault.calls 4 5 true 4 5 true 0 _ rfl).mono ?_); rintro e_ w_ ⟨rfl, hb⟩; refine ⟨_, rfl, ?_⟩; have hs0 : w.heap.size < w_.heap.size := Nat.lt_of_lt_of_le (alloc_lt _ _) hb.size; have hg0 : w_.heap[w.heap.size]? = some (.cells #[.int .i64 0, .int .i64 0, .bool false] 31) := (hb.block _ (alloc_lt _ _)).trans (heap_alloc_new _ _); have hB : Aside0 (Below w.heap.size w w_) := Aside0.mk (below_then (below_alloc (Below.refl _ _) _) (Nat.le_of_lt (alloc_lt _ _)) hb); have hz0 : w_.cell? ⟨w.heap.size, 0, none⟩ = some (.int .i64 0) := (blk_cell hg0 0).trans rfl; have hz1 : w_.cell? ⟨w.heap.size, 1, none⟩ = some (.int .i64 0) := (blk_cell hg0 1).trans rfl; have hz2 : w_.cell? ⟨w.heap.size, 2, none⟩ = some (.bool false) := (blk_cell hg0 2).trans rfl; have hf0 := blk_frozen hg0 0; have hf1 := blk_frozen hg0 1; have hf2 := blk_frozen hg0 2))
  exact ref16_ret (blk_put (blk_put (blk_put hg0 0 _ rfl) 1 _ rfl) 2 _ rfl) (below_set (below_set (below_set hB.out (Nat.le_refl _)) (Nat.le_refl _)) (Nat.le_refl _)) rfl rfl rfl
set_option maxHeartbeats 4000000 in
set_option maxRecDepth 100000 in
theorem ref16_42 (w : World) : Calls Tryd.prog 7 #[.int .i64 4, .int .i64 2] w fun e w' => e = .returned (.tuple #[.agg #[.int .i64 4, .int .i64 5, .bool true], .int .i64 0]) ∧ Below w.heap.size w w' := by
  go_enter Tryd.func7, Tryd.ntmps7
  go_wp2_with (first | ((with_reducible refine gate_callee (f := 26) rfl ?_); refine goesL_ (some 66) rfl rfl Tryd.func26 (by kernel_rfl) rfl #[.int .i64 4, .int .i64 5, .bool true] rfl (by (try simp only [List.map_toArray, List.map_cons, List.map_nil]); first | done | rfl | (simp only [List.length_drop, List.length_take]; rfl)) ?_; (with_reducible refine (gantletref16_fault.calls 4 5 true 4 5 true 0 _ rfl).mono ?_); rintro e_ w_ ⟨rfl, hb⟩; refine ⟨_, rfl, ?_⟩; have hs0 : w.heap.size < w_.heap.size := Nat.lt_of_lt_of_le (alloc_lt _ _) hb.size; have hg0 : w_.heap[w.heap.size]? = some (.cells #[.int .i64 0, .int .i64 0, .bool false] 31) := (hb.block _ (alloc_lt _ _)).trans (heap_alloc_new _ _); have hB : Aside0 (Below w.heap.size w w_) := Aside0.mk (below_then (below_alloc (Below.refl _ _) _) (Nat.le_of_lt (alloc_lt _ _)) hb); have hz0 : w_.cell? ⟨w.heap.size, 0, none⟩ = some (.int .i64 0) := (blk_cell hg0 0).trans rfl; have hz1 : w_.cell? ⟨w.heap.size, 1, none⟩ = some (.int .i64 0) := (blk_cell hg0 1).trans rfl; have hz2 : w_.cell? ⟨w.heap.size, 2, none⟩ = some (.bool false) := (blk_cell hg0 2).trans rfl; have hf0 := blk_frozen hg0 0; have hf1 := blk_frozen hg0 1; have hf2 := blk_frozen hg0 2))
  exact ref16_ret (blk_put (blk_put (blk_put hg0 0 _ rfl) 1 _ rfl) 2 _ rfl) (below_set (below_set (below_set hB.out (Nat.le_refl _)) (Nat.le_refl _)) (Nat.le_refl _)) rfl rfl rfl
set_option maxHeartbeats 4000000 in
set_option maxRecDepth 100000 in
theorem ref16_43 (w : World) : Calls Tryd.prog 7 #[.int .i64 4, .int .i64 3] w fun e w' => e = .returned (.tuple #[.agg #[.int .i64 4, .int .i64 5, .bool true], .int .i64 0]) ∧ Below w.heap.size w w' := by
  go_enter Tryd.func7, Tryd.ntmps7
  go_wp2_with (first | ((with_reducible refine gate_callee (f := 26) rfl ?_); refine goesL_ (some 66) rfl rfl Tryd.func26 (by kernel_rfl) rfl #[.int .i64 4, .int .i64 5, .bool true] rfl (by (try simp only [List.map_toArray, List.map_cons, List.map_nil]); first | done | rfl | (simp only [List.length_drop, List.length_take]; rfl)) ?_; (with_reducible refine (gantletref16_fault.calls 4 5 true 4 5 true 0 _ rfl).mono ?_); rintro e_ w_ ⟨rfl, hb⟩; refine ⟨_, rfl, ?_⟩; have hs0 : w.heap.size < w_.heap.size := Nat.lt_of_lt_of_le (alloc_lt _ _) hb.size; have hg0 : w_.heap[w.heap.size]? = some (.cells #[.int .i64 0, .int .i64 0, .bool false] 31) := (hb.block _ (alloc_lt _ _)).trans (heap_alloc_new _ _); have hB : Aside0 (Below w.heap.size w w_) := Aside0.mk (below_then (below_alloc (Below.refl _ _) _) (Nat.le_of_lt (alloc_lt _ _)) hb); have hz0 : w_.cell? ⟨w.heap.size, 0, none⟩ = some (.int .i64 0) := (blk_cell hg0 0).trans rfl; have hz1 : w_.cell? ⟨w.heap.size, 1, none⟩ = some (.int .i64 0) := (blk_cell hg0 1).trans rfl; have hz2 : w_.cell? ⟨w.heap.size, 2, none⟩ = some (.bool false) := (blk_cell hg0 2).trans rfl; have hf0 := blk_frozen hg0 0; have hf1 := blk_frozen hg0 1; have hf2 := blk_frozen hg0 2))
  exact ref16_ret (blk_put (blk_put (blk_put hg0 0 _ rfl) 1 _ rfl) 2 _ rfl) (below_set (below_set (below_set hB.out (Nat.le_refl _)) (Nat.le_refl _)) (Nat.le_refl _)) rfl rfl rfl
set_option maxHeartbeats 4000000 in
set_option maxRecDepth 100000 in
theorem ref16_44 (w : World) : Calls Tryd.prog 7 #[.int .i64 4, .int .i64 4] w fun e w' => e = .returned (.tuple #[.agg #[.int .i64 4, .int .i64 0, .bool false], .int .i64 0]) ∧ Below w.heap.size w w' := by
  go_enter Tryd.func7, Tryd.ntmps7
  go_wp2
  exact ref16_ret (blk_new _ _) (below_alloc (Below.refl _ _) _) rfl rfl rfl
set_option maxHeartbeats 4000000 in
set_option maxRecDepth 100000 in
theorem ref16_45 (w : World) : Calls Tryd.prog 7 #[.int .i64 4, .int .i64 5] w fun e w' => e = .returned (.tuple #[.agg #[.int .i64 4, .int .i64 0, .bool false], .int .i64 0]) ∧ Below w.heap.size w w' := by
  go_enter Tryd.func7, Tryd.ntmps7
  go_wp2
  exact ref16_ret (blk_new _ _) (below_alloc (Below.refl _ _) _) rfl rfl rfl
set_option maxHeartbeats 4000000 in
set_option maxRecDepth 100000 in
theorem ref16_46 (w : World) : Calls Tryd.prog 7 #[.int .i64 4, .int .i64 6] w fun e w' => e = .returned (.tuple #[.agg #[.int .i64 0, .int .i64 0, .bool false], .int .i64 6]) ∧ Below w.heap.size w w' := by
  go_enter Tryd.func7, Tryd.ntmps7
  go_wp2
  exact ref16_ret (blk_new _ _) (below_alloc (Below.refl _ _) _) rfl rfl rfl
set_option maxHeartbeats 4000000 in
set_option maxRecDepth 100000 in
theorem ref16_47 (w : World) : Calls Tryd.prog 7 #[.int .i64 4, .int .i64 7] w fun e w' => e = .returned (.tuple #[.agg #[.int .i64 0, .int .i64 0, .bool false], .int .i64 6]) ∧ Below w.heap.size w w' := by
  go_enter Tryd.func7, Tryd.ntmps7
  go_wp2
  exact ref16_ret (blk_new _ _) (below_alloc (Below.refl _ _) _) rfl rfl rfl
set_option maxHeartbeats 4000000 in
set_option maxRecDepth 100000 in
theorem ref16_48 (w : World) : Calls Tryd.prog 7 #[.int .i64 4, .int .i64 8] w fun e w' => e = .returned (.tuple #[.agg #[.int .i64 0, .int .i64 0, .bool false], .int .i64 6]) ∧ Below w.heap.size w w' := by
  go_enter Tryd.func7, Tryd.ntmps7
  go_wp2
  exact ref16_ret (blk_new _ _) (below_alloc (Below.refl _ _) _) rfl rfl rfl
set_option maxHeartbeats 4000000 in
set_option maxRecDepth 100000 in
theorem ref16_out (a0 a1 : Int) (h : a0 < 0 ∨ a0 > 4 ∨ a1 < 0 ∨ a1 > 8) (w : World) : Calls Tryd.prog 7 #[.int .i64 a0, .int .i64 a1] w fun e w' => e = .returned (.tuple #[.agg #[.int .i64 0, .int .i64 0, .bool false], .int .i64 1]) ∧ Below w.heap.size w w' := by
  by_cases h0 : a0 < 0
  · have d0 : decide (a0 < 0) = true := decide_eq_true h0
    go_enter Tryd.func7, Tryd.ntmps7
    go_wp2
    all_goals first | (exfalso; omega) | exact ref16_ret (blk_new _ _) (below_alloc (Below.refl _ _) _) rfl rfl rfl
  have d0 : decide (a0 < 0) = false := decide_eq_false h0
  by_cases h1 : 4 < a0
  · have d1 : decide (4 < a0) = true := decide_eq_true h1
    go_enter Tryd.func7, Tryd.ntmps7
    go_wp2
    all_goals first | (exfalso; omega) | exact ref16_ret (blk_new _ _) (below_alloc (Below.refl _ _) _) rfl rfl rfl
  have d1 : decide (4 < a0) = false := decide_eq_false h1
  by_cases h2 : a1 < 0
  · have d2 : decide (a1 < 0) = true := decide_eq_true h2
    go_enter Tryd.func7, Tryd.ntmps7
    go_wp2
    all_goals first | (exfalso; omega) | exact ref16_ret (blk_new _ _) (below_alloc (Below.refl _ _) _) rfl rfl rfl
  have d2 : decide (a1 < 0) = false := decide_eq_false h2
  have h3 : 8 < a1 := by omega
  have d3 : decide (8 < a1) = true := decide_eq_true h3
  go_enter Tryd.func7, Tryd.ntmps7
  go_wp2
  all_goals first | (exfalso; omega) | exact ref16_ret (blk_new _ _) (below_alloc (Below.refl _ _) _) rfl rfl rfl
theorem gantletref16_After.calls (a0 a1 : Int) (r1 r2 : Int) (r3 : Bool) (r4 : Int) (w : World) (h : gantletref16_After.f a0 a1 = some (r1, r2, r3, r4)) :
    Calls Tryd.prog 7 #[.int .i64 a0, .int .i64 a1] w fun e w' => e = .returned (.tuple #[.agg #[.int .i64 r1, .int .i64 r2, .bool r3], .int .i64 r4]) ∧ Below w.heap.size w w' := by
  unfold gantletref16_After.f at h
  by_cases hr : a0 < 0 ∨ a0 > 4 ∨ a1 < 0 ∨ a1 > 8
  · rw [if_pos hr] at h
    simp only [Option.some.injEq, Prod.mk.injEq] at h
    obtain ⟨rfl, rfl, rfl, rfl⟩ := h
    exact ref16_out a0 a1 hr w
  · rw [if_neg hr] at h
    have hs : a0 = 0 ∨ a0 = 1 ∨ a0 = 2 ∨ a0 = 3 ∨ a0 = 4 := by omega
    have he : a1 = 0 ∨ a1 = 1 ∨ a1 = 2 ∨ a1 = 3 ∨ a1 = 4 ∨ a1 = 5 ∨ a1 = 6 ∨ a1 = 7 ∨ a1 = 8 := by omega
    clear hr
    rcases hs with rfl | rfl | rfl | rfl | rfl
    · rcases he with rfl | rfl | rfl | rfl | rfl | rfl | rfl | rfl | rfl
      · cases h; exact ref16_00 w
      · cases h; exact ref16_01 w
      · cases h; exact ref16_02 w
      · cases h; exact ref16_03 w
      · cases h; exact ref16_04 w
      · cases h; exact ref16_05 w
      · cases h; exact ref16_06 w
      · cases h; exact ref16_07 w
      · cases h; exact ref16_08 w
    · rcases he with rfl | rfl | rfl | rfl | rfl | rfl | rfl | rfl | rfl
      · cases h; exact ref16_10 w
      · cases h; exact ref16_11 w
      · cases h; exact ref16_12 w
      · cases h; exact ref16_13 w
      · cases h; exact ref16_14 w
      · cases h; exact ref16_15 w
      · cases h; exact ref16_16 w
      · cases h; exact ref16_17 w
      · cases h; exact ref16_18 w
    · rcases he with rfl | rfl | rfl | rfl | rfl | rfl | rfl | rfl | rfl
      · cases h; exact ref16_20 w
      · cases h; exact ref16_21 w
      · cases h; exact ref16_22 w
      · cases h; exact ref16_23 w
      · cases h; exact ref16_24 w
      · cases h; exact ref16_25 w
      · cases h; exact ref16_26 w
      · cases h; exact ref16_27 w
      · cases h; exact ref16_28 w
    · rcases he with rfl | rfl | rfl | rfl | rfl | rfl | rfl | rfl | rfl
      · cases h; exact ref16_30 w
      · cases h; exact ref16_31 w
      · cases h; exact ref16_32 w
      · cases h; exact ref16_33 w
      · cases h; exact ref16_34 w
      · cases h; exact ref16_35 w
      · cases h; exact ref16_36 w
      · cases h; exact ref16_37 w
      · cases h; exact ref16_38 w
    · rcases he with rfl | rfl | rfl | rfl | rfl | rfl | rfl | rfl | rfl
      · cases h; exact ref16_40 w
      · cases h; exact ref16_41 w
      · cases h; exact ref16_42 w
      · cases h; exact ref16_43 w
      · cases h; exact ref16_44 w
      · cases h; exact ref16_45 w
      · cases h; exact ref16_46 w
      · cases h; exact ref16_47 w
      · cases h; exact ref16_48 w

/-! ### life_Hears: function 9 -/
def life_Hears.f (a0 : Int) : Option (Bool) := if a0 = 1 then (some true) else (some (a0 == 3))
set_option maxHeartbeats 8000000 in
set_option maxRecDepth 100000 in
theorem life_Hears.calls (a0 : Int) (r : Bool) (w : World) (h : life_Hears.f a0 = some r) :
    Calls Tryd.prog 9 #[.int .i64 a0] w fun e w' => e = .returned (.bool r) ∧ Drawn0 w w' := by
  have H : (if a0 = 1 then (some true) else (some (a0 == 3))) = some r := h
  clear h
  by_cases c2 : a0 = 1
  · rw [if_pos c2] at H
    have c2b0 : (a0 == 1) = true := beq_iff_eq.mpr c2
    have c2b1 : (a0 != 1) = false := bne_eq_false_iff_eq.mpr c2
    clear c2
    obtain rfl := Option.some.inj H
    go_enter Tryd.func9, Tryd.ntmps9
    go_wp2
    go_ret
    exact ⟨by first | rfl | (simp; done) | (simp [*]; done), by repeat (first | exact Drawn0.refl _ | apply Drawn0.step)⟩
  · rw [if_neg c2] at H
    have c2b0 : (a0 == 1) = false := beq_eq_false_iff_ne.mpr c2
    have c2b1 : (a0 != 1) = true := bne_iff_ne.mpr c2
    obtain rfl := Option.some.inj H
    go_enter Tryd.func9, Tryd.ntmps9
    go_wp2
    go_ret
    exact ⟨by first | rfl | (simp; done) | (simp [*]; done), by repeat (first | exact Drawn0.refl _ | apply Drawn0.step)⟩

/-! ### life_Says: function 10 -/
def life_Says.f (a0 : Int) : Option (Bool) := if a0 = 1 then (some true) else (some (a0 == 2))
set_option maxHeartbeats 8000000 in
set_option maxRecDepth 100000 in
theorem life_Says.calls (a0 : Int) (r : Bool) (w : World) (h : life_Says.f a0 = some r) :
    Calls Tryd.prog 10 #[.int .i64 a0] w fun e w' => e = .returned (.bool r) ∧ Drawn0 w w' := by
  have H : (if a0 = 1 then (some true) else (some (a0 == 2))) = some r := h
  clear h
  by_cases c2 : a0 = 1
  · rw [if_pos c2] at H
    have c2b0 : (a0 == 1) = true := beq_iff_eq.mpr c2
    have c2b1 : (a0 != 1) = false := bne_eq_false_iff_eq.mpr c2
    clear c2
    obtain rfl := Option.some.inj H
    go_enter Tryd.func10, Tryd.ntmps10
    go_wp2
    go_ret
    exact ⟨by first | rfl | (simp; done) | (simp [*]; done), by repeat (first | exact Drawn0.refl _ | apply Drawn0.step)⟩
  · rw [if_neg c2] at H
    have c2b0 : (a0 == 1) = false := beq_eq_false_iff_ne.mpr c2
    have c2b1 : (a0 != 1) = true := bne_iff_ne.mpr c2
    obtain rfl := Option.some.inj H
    go_enter Tryd.func10, Tryd.ntmps10
    go_wp2
    go_ret
    exact ⟨by first | rfl | (simp; done) | (simp [*]; done), by repeat (first | exact Drawn0.refl _ | apply Drawn0.step)⟩

/-! ### gantletlaw16_alive: function 8 -/
def gantletlaw16_alive.f  : Option (Bool) := (life_After.f 0 0).bind fun bt103 => ((life_After.f 1 0).bind fun bt108 => ((life_After.f 2 7).bind fun bt113 => ((life_After.f 3 6).bind fun bt118 => ((life_After.f 4 2).bind fun bt123 => ((life_After.f 5 0).bind fun bt128 => (if bt103.2.2.2 = 0 then (if (bt103.1 == 1 && (bt103.2.1 == 0 && (!bt103.2.2.1))) = true then (if bt108.2.2.2 = 0 then (if (bt108.1 == 1 && (bt108.2.1 == 1 && (!bt108.2.2.1))) = true then (if bt113.2.2.2 = 0 then (if (bt113.1 == 4 && (bt113.2.1 == 0 && (!bt113.2.2.1))) = true then (if bt118.2.2.2 = 6 then (if bt123.2.2.2 = 0 then (if (bt123.1 == 4 && (bt123.2.1 == 5 && (bt123.2.2.1))) = true then (if bt128.2.2.2 = 1 then ((life_Hears.f 3).bind fun t133 => (if t133 = true then ((life_Says.f 3).bind fun t134 => (if t134 = true then (none) else (some true))) else (none))) else (none)) else (none)) else (none)) else (none)) else (none)) else (none)) else (none)) else (none)) else (none)) else (none)))))))
set_option maxHeartbeats 8000000 in
set_option maxRecDepth 100000 in
theorem gantletlaw16_alive.calls  (r : Bool) (w : World) (hG : GB w) (h : gantletlaw16_alive.f  = some r) :
    Calls Tryd.prog 8 #[] w fun e w' => e = .returned (.bool r) ∧ Below w.heap.size w w' := by
  have hu25 := Tryd.underlying25
  have HG := Aside0.mk hG
  clear hG
  have HB := Aside0.mk (Below.refl w.heap.size w)
  have H : ((life_After.f 0 0).bind fun bt103 => ((life_After.f 1 0).bind fun bt108 => ((life_After.f 2 7).bind fun bt113 => ((life_After.f 3 6).bind fun bt118 => ((life_After.f 4 2).bind fun bt123 => ((life_After.f 5 0).bind fun bt128 => (if bt103.2.2.2 = 0 then (if (bt103.1 == 1 && (bt103.2.1 == 0 && (!bt103.2.2.1))) = true then (if bt108.2.2.2 = 0 then (if (bt108.1 == 1 && (bt108.2.1 == 1 && (!bt108.2.2.1))) = true then (if bt113.2.2.2 = 0 then (if (bt113.1 == 4 && (bt113.2.1 == 0 && (!bt113.2.2.1))) = true then (if bt118.2.2.2 = 6 then (if bt123.2.2.2 = 0 then (if (bt123.1 == 4 && (bt123.2.1 == 5 && (bt123.2.2.1))) = true then (if bt128.2.2.2 = 1 then ((life_Hears.f 3).bind fun t133 => (if t133 = true then ((life_Says.f 3).bind fun t134 => (if t134 = true then (none) else (some true))) else (none))) else (none)) else (none)) else (none)) else (none)) else (none)) else (none)) else (none)) else (none)) else (none)) else (none)))))))) = some r := h
  clear h
  replace H := Option.bind_eq_some_iff.mp H
  obtain ⟨⟨t103, t104, t105, t106⟩, A10, H⟩ := H
  replace H : ((life_After.f 1 0).bind fun bt108 => ((life_After.f 2 7).bind fun bt113 => ((life_After.f 3 6).bind fun bt118 => ((life_After.f 4 2).bind fun bt123 => ((life_After.f 5 0).bind fun bt128 => (if t106 = 0 then (if (t103 == 1 && (t104 == 0 && (!t105))) = true then (if bt108.2.2.2 = 0 then (if (bt108.1 == 1 && (bt108.2.1 == 1 && (!bt108.2.2.1))) = true then (if bt113.2.2.2 = 0 then (if (bt113.1 == 4 && (bt113.2.1 == 0 && (!bt113.2.2.1))) = true then (if bt118.2.2.2 = 6 then (if bt123.2.2.2 = 0 then (if (bt123.1 == 4 && (bt123.2.1 == 5 && (bt123.2.2.1))) = true then (if bt128.2.2.2 = 1 then ((life_Hears.f 3).bind fun t133 => (if t133 = true then ((life_Says.f 3).bind fun t134 => (if t134 = true then (none) else (some true))) else (none))) else (none)) else (none)) else (none)) else (none)) else (none)) else (none)) else (none)) else (none)) else (none)) else (none))))))) = some r := H
  have A1 := Aside0.mk A10
  clear A10
  replace H := Option.bind_eq_some_iff.mp H
  obtain ⟨⟨t108, t109, t110, t111⟩, A20, H⟩ := H
  replace H : ((life_After.f 2 7).bind fun bt113 => ((life_After.f 3 6).bind fun bt118 => ((life_After.f 4 2).bind fun bt123 => ((life_After.f 5 0).bind fun bt128 => (if t106 = 0 then (if (t103 == 1 && (t104 == 0 && (!t105))) = true then (if t111 = 0 then (if (t108 == 1 && (t109 == 1 && (!t110))) = true then (if bt113.2.2.2 = 0 then (if (bt113.1 == 4 && (bt113.2.1 == 0 && (!bt113.2.2.1))) = true then (if bt118.2.2.2 = 6 then (if bt123.2.2.2 = 0 then (if (bt123.1 == 4 && (bt123.2.1 == 5 && (bt123.2.2.1))) = true then (if bt128.2.2.2 = 1 then ((life_Hears.f 3).bind fun t133 => (if t133 = true then ((life_Says.f 3).bind fun t134 => (if t134 = true then (none) else (some true))) else (none))) else (none)) else (none)) else (none)) else (none)) else (none)) else (none)) else (none)) else (none)) else (none)) else (none)))))) = some r := H
  have A2 := Aside0.mk A20
  clear A20
  replace H := Option.bind_eq_some_iff.mp H
  obtain ⟨⟨t113, t114, t115, t116⟩, A30, H⟩ := H
  replace H : ((life_After.f 3 6).bind fun bt118 => ((life_After.f 4 2).bind fun bt123 => ((life_After.f 5 0).bind fun bt128 => (if t106 = 0 then (if (t103 == 1 && (t104 == 0 && (!t105))) = true then (if t111 = 0 then (if (t108 == 1 && (t109 == 1 && (!t110))) = true then (if t116 = 0 then (if (t113 == 4 && (t114 == 0 && (!t115))) = true then (if bt118.2.2.2 = 6 then (if bt123.2.2.2 = 0 then (if (bt123.1 == 4 && (bt123.2.1 == 5 && (bt123.2.2.1))) = true then (if bt128.2.2.2 = 1 then ((life_Hears.f 3).bind fun t133 => (if t133 = true then ((life_Says.f 3).bind fun t134 => (if t134 = true then (none) else (some true))) else (none))) else (none)) else (none)) else (none)) else (none)) else (none)) else (none)) else (none)) else (none)) else (none)) else (none))))) = some r := H
  have A3 := Aside0.mk A30
  clear A30
  replace H := Option.bind_eq_some_iff.mp H
  obtain ⟨⟨t118, t119, t120, t121⟩, A40, H⟩ := H
  replace H : ((life_After.f 4 2).bind fun bt123 => ((life_After.f 5 0).bind fun bt128 => (if t106 = 0 then (if (t103 == 1 && (t104 == 0 && (!t105))) = true then (if t111 = 0 then (if (t108 == 1 && (t109 == 1 && (!t110))) = true then (if t116 = 0 then (if (t113 == 4 && (t114 == 0 && (!t115))) = true then (if t121 = 6 then (if bt123.2.2.2 = 0 then (if (bt123.1 == 4 && (bt123.2.1 == 5 && (bt123.2.2.1))) = true then (if bt128.2.2.2 = 1 then ((life_Hears.f 3).bind fun t133 => (if t133 = true then ((life_Says.f 3).bind fun t134 => (if t134 = true then (none) else (some true))) else (none))) else (none)) else (none)) else (none)) else (none)) else (none)) else (none)) else (none)) else (none)) else (none)) else (none)))) = some r := H
  have A4 := Aside0.mk A40
  clear A40
  replace H := Option.bind_eq_some_iff.mp H
  obtain ⟨⟨t123, t124, t125, t126⟩, A50, H⟩ := H
  replace H : ((life_After.f 5 0).bind fun bt128 => (if t106 = 0 then (if (t103 == 1 && (t104 == 0 && (!t105))) = true then (if t111 = 0 then (if (t108 == 1 && (t109 == 1 && (!t110))) = true then (if t116 = 0 then (if (t113 == 4 && (t114 == 0 && (!t115))) = true then (if t121 = 6 then (if t126 = 0 then (if (t123 == 4 && (t124 == 5 && (t125))) = true then (if bt128.2.2.2 = 1 then ((life_Hears.f 3).bind fun t133 => (if t133 = true then ((life_Says.f 3).bind fun t134 => (if t134 = true then (none) else (some true))) else (none))) else (none)) else (none)) else (none)) else (none)) else (none)) else (none)) else (none)) else (none)) else (none)) else (none))) = some r := H
  have A5 := Aside0.mk A50
  clear A50
  replace H := Option.bind_eq_some_iff.mp H
  obtain ⟨⟨t128, t129, t130, t131⟩, A60, H⟩ := H
  replace H : (if t106 = 0 then (if (t103 == 1 && (t104 == 0 && (!t105))) = true then (if t111 = 0 then (if (t108 == 1 && (t109 == 1 && (!t110))) = true then (if t116 = 0 then (if (t113 == 4 && (t114 == 0 && (!t115))) = true then (if t121 = 6 then (if t126 = 0 then (if (t123 == 4 && (t124 == 5 && (t125))) = true then (if t131 = 1 then ((life_Hears.f 3).bind fun t133 => (if t133 = true then ((life_Says.f 3).bind fun t134 => (if t134 = true then (none) else (some true))) else (none))) else (none)) else (none)) else (none)) else (none)) else (none)) else (none)) else (none)) else (none)) else (none)) else (none)) = some r := H
  have A6 := Aside0.mk A60
  clear A60
  by_cases c7 : t106 = 0
  · rw [if_pos c7] at H
    have c7b0 : (t106 == 0) = true := beq_iff_eq.mpr c7
    have c7b1 : (t106 != 0) = false := bne_eq_false_iff_eq.mpr c7
    clear c7
    by_cases c8 : (t103 == 1 && (t104 == 0 && (!t105))) = true
    · rw [if_pos c8] at H
      have c8b0 : (t103 == 1 && (t104 == 0 && (!t105))) = true := c8
      (try (have c8b1 : decide (t103 = 1 && (t104 == 0 && (!t105))) = true := by simpa using c8))
      (try (have c8b2 : (t103 == 1 && (t104 == 0 && (!t105))) = true := by simpa using c8))
      clear c8
      by_cases c9 : t111 = 0
      · rw [if_pos c9] at H
        have c9b0 : (t111 == 0) = true := beq_iff_eq.mpr c9
        have c9b1 : (t111 != 0) = false := bne_eq_false_iff_eq.mpr c9
        clear c9
        by_cases c10 : (t108 == 1 && (t109 == 1 && (!t110))) = true
        · rw [if_pos c10] at H
          have c10b0 : (t108 == 1 && (t109 == 1 && (!t110))) = true := c10
          (try (have c10b1 : decide (t108 = 1 && (t109 == 1 && (!t110))) = true := by simpa using c10))
          (try (have c10b2 : (t108 == 1 && (t109 == 1 && (!t110))) = true := by simpa using c10))
          clear c10
          by_cases c11 : t116 = 0
          · rw [if_pos c11] at H
            have c11b0 : (t116 == 0) = true := beq_iff_eq.mpr c11
            have c11b1 : (t116 != 0) = false := bne_eq_false_iff_eq.mpr c11
            clear c11
            by_cases c12 : (t113 == 4 && (t114 == 0 && (!t115))) = true
            · rw [if_pos c12] at H
              have c12b0 : (t113 == 4 && (t114 == 0 && (!t115))) = true := c12
              (try (have c12b1 : decide (t113 = 4 && (t114 == 0 && (!t115))) = true := by simpa using c12))
              (try (have c12b2 : (t113 == 4 && (t114 == 0 && (!t115))) = true := by simpa using c12))
              clear c12
              by_cases c13 : t121 = 6
              · rw [if_pos c13] at H
                have c13b0 : (t121 == 6) = true := beq_iff_eq.mpr c13
                have c13b1 : (t121 != 6) = false := bne_eq_false_iff_eq.mpr c13
                clear c13
                by_cases c14 : t126 = 0
                · rw [if_pos c14] at H
                  have c14b0 : (t126 == 0) = true := beq_iff_eq.mpr c14
                  have c14b1 : (t126 != 0) = false := bne_eq_false_iff_eq.mpr c14
                  clear c14
                  by_cases c15 : (t123 == 4 && (t124 == 5 && (t125))) = true
                  · rw [if_pos c15] at H
                    have c15b0 : (t123 == 4 && (t124 == 5 && (t125))) = true := c15
                    (try (have c15b1 : decide (t123 = 4 && (t124 == 5 && (t125))) = true := by simpa using c15))
                    (try (have c15b2 : (t123 == 4 && (t124 == 5 && (t125))) = true := by simpa using c15))
                    clear c15
                    by_cases c16 : t131 = 1
                    · rw [if_pos c16] at H
                      have c16b0 : (t131 == 1) = true := beq_iff_eq.mpr c16
                      have c16b1 : (t131 != 1) = false := bne_eq_false_iff_eq.mpr c16
                      clear c16
                      replace H := Option.bind_eq_some_iff.mp H
                      obtain ⟨t133, A170, H⟩ := H
                      replace H : (if t133 = true then ((life_Says.f 3).bind fun t134 => (if t134 = true then (none) else (some true))) else (none)) = some r := H
                      have A17 := Aside0.mk A170
                      clear A170
                      by_cases c18 : t133 = true
                      · subst c18
                        have H1 : ((life_Says.f 3).bind fun t134 => (if t134 = true then (none) else (some true))) = some r := by rw [if_pos rfl] at H; exact H
                        clear H
                        have H := H1
                        clear H1
                        replace H := Option.bind_eq_some_iff.mp H
                        obtain ⟨t134, A190, H⟩ := H
                        replace H : (if t134 = true then (none) else (some true)) = some r := H
                        have A19 := Aside0.mk A190
                        clear A190
                        by_cases c20 : t134 = true
                        · subst c20
                          have H1 : (none) = some r := by rw [if_pos rfl] at H; exact H
                          clear H
                          have H := H1
                          clear H1
                          exact absurd H (by simp)
                        · replace c20 := Bool.eq_false_iff.mpr c20
                          subst c20
                          have H1 : (some true) = some r := by rw [if_neg (show ¬ (false = true) by decide)] at H; exact H
                          clear H
                          have H := H1
                          clear H1
                          obtain rfl := Option.some.inj H
                          go_enter Tryd.func8, Tryd.ntmps8
                          go_wp2_with (first | ((with_reducible refine gate_callee (f := 6) rfl ?_); refine goesL_ (some 14) rfl rfl Tryd.func6 (by kernel_rfl) rfl #[.int .i64 0, .int .i64 0] rfl (by (try simp only [List.map_toArray, List.map_cons, List.map_nil]); first | done | rfl | (simp only [List.length_drop, List.length_take]; rfl)) ?_; (with_reducible refine (life_After.calls 0 0 t103 t104 t105 t106 _ ?side1 A1.out).mono ?_); (case side1 => exact GB.below HG.out (by repeat (first | (with_reducible first | exact HB.out | apply below_alloc | apply pw_below_drewN | apply below_drew1) | exact HB.out))); rintro e w21 ⟨rfl, hb⟩; refine ⟨_, rfl, ?_⟩; have n0_ := Aside0.mk (below_step (by repeat (first | (with_reducible first | exact HB.out | apply below_alloc | apply pw_below_drewN | apply below_drew1) | exact HB.out)) hb); clear HB; have HB := n0_; clear n0_; (try clear hb); (try clear hb2); (try clear hk); (try clear hi)) | ((with_reducible refine gate_dst (N := 1) rfl ?_); refine box_event ?hg (N := 1) ?hd (cs := #[.int .i64 0, .int .i64 0, .bool false]) (t := 25) ?hr ?_; (case hd => rfl); (case hg => rfl); (case hr => first | (go_simp; done) | (go_simp; rfl)); intro gb107 hg w22 hbox hb; have n0_ := Aside0.mk (below_step (by repeat (first | (with_reducible first | exact HB.out | apply below_alloc | apply pw_below_drewN | apply below_drew1) | exact HB.out)) hb); have n1_ := Aside0.mk (hbox); have n2_ := Aside0.mk ((by rw [hg]; exact (below_size (by repeat (first | (with_reducible first | exact HB.out | apply below_alloc | apply pw_below_drewN | apply below_drew1) | exact HB.out))) : w.heap.size ≤ gb107)); have n3_ := Aside0.mk ((by rw [hg]; exact (below_size (by repeat (first | (with_reducible first | exact HB.out | apply below_alloc | apply pw_below_drewN | apply below_drew1) | exact HB.out))) : w.heap.size ≤ gb107)); clear HB; have HB := n0_; have BK107 := n1_; have GW107 := n2_; have GE107 := n3_; clear n0_ n1_ n2_ n3_; clear hb hbox hg; have hcz23_0 : w22.cell? ⟨gb107, 0, none⟩ = some (.int .i64 0) := (blk_cell BK107.out 0).trans rfl; have hcz23_1 : w22.cell? ⟨gb107, 1, none⟩ = some (.int .i64 0) := (blk_cell BK107.out 1).trans rfl; have hcz23_2 : w22.cell? ⟨gb107, 2, none⟩ = some (.bool false) := (blk_cell BK107.out 2).trans rfl; have hfz23_0 := blk_frozen BK107.out 0; have hfz23_1 := blk_frozen BK107.out 1; have hfz23_2 := blk_frozen BK107.out 2) | ((with_reducible refine gate_callee (f := 6) rfl ?_); refine goesL_ (some 18) rfl rfl Tryd.func6 (by kernel_rfl) rfl #[.int .i64 1, .int .i64 0] rfl (by (try simp only [List.map_toArray, List.map_cons, List.map_nil]); first | done | rfl | (simp only [List.length_drop, List.length_take]; rfl)) ?_; (with_reducible refine (life_After.calls 1 0 t108 t109 t110 t111 _ ?side1 A2.out).mono ?_); (case side1 => exact GB.below HG.out (by repeat (first | (with_reducible first | exact HB.out | apply below_alloc | apply pw_below_drewN | apply below_drew1 | refine below_set ?_ GE107.out) | exact HB.out))); rintro e w24 ⟨rfl, hb⟩; refine ⟨_, rfl, ?_⟩; have n0_ := Aside0.mk (blk_below (g := gb107) (o := .cells #[.int .i64 t103, .int .i64 t104, .bool t105] 25 (0, 0)) (by (with_reducible repeat (first | refine blk_drewN ?_ _ | refine blk_drew ?_ | refine blk_alloc ?_ _)); refine blk_put (cs := #[.int .i64 t103, .int .i64 t104, .bool false]) ?_ 2 _ rfl; (with_reducible repeat (first | refine blk_drewN ?_ _ | refine blk_drew ?_ | refine blk_alloc ?_ _)); refine blk_put (cs := #[.int .i64 t103, .int .i64 0, .bool false]) ?_ 1 _ rfl; (with_reducible repeat (first | refine blk_drewN ?_ _ | refine blk_drew ?_ | refine blk_alloc ?_ _)); refine blk_put (cs := #[.int .i64 0, .int .i64 0, .bool false]) ?_ 0 _ rfl; (with_reducible repeat (first | refine blk_drewN ?_ _ | refine blk_drew ?_ | refine blk_alloc ?_ _)); exact BK107.out) hb); have n1_ := Aside0.mk (below_step (by repeat (first | (with_reducible first | exact HB.out | apply below_alloc | apply pw_below_drewN | apply below_drew1 | refine below_set ?_ GE107.out) | exact HB.out)) hb); clear BK107; clear HB; have BK107 := n0_; have HB := n1_; clear n0_ n1_; (try clear hb); (try clear hb2); (try clear hk); (try clear hi)) | ((with_reducible refine gate_dst (N := 3) rfl ?_); refine box_event ?hg (N := 3) ?hd (cs := #[.int .i64 0, .int .i64 0, .bool false]) (t := 25) ?hr ?_; (case hd => rfl); (case hg => rfl); (case hr => first | (go_simp; done) | (go_simp; rfl)); intro gb112 hg w25 hbox hb; have n0_ := Aside0.mk (blk_below (g := gb107) (o := .cells #[.int .i64 t103, .int .i64 t104, .bool t105] 25 (0, 0)) (by (with_reducible repeat (first | refine blk_drewN ?_ _ | refine blk_drew ?_ | refine blk_alloc ?_ _)); exact BK107.out) hb); have n1_ := Aside0.mk (below_step (by repeat (first | (with_reducible first | exact HB.out | apply below_alloc | apply pw_below_drewN | apply below_drew1 | refine below_set ?_ GE107.out) | exact HB.out)) hb); have n2_ := Aside0.mk (hbox); have n3_ := Aside0.mk ((by rw [hg]; exact (below_size (by repeat (first | (with_reducible first | exact HB.out | apply below_alloc | apply pw_below_drewN | apply below_drew1 | refine below_set ?_ GE107.out) | exact HB.out))) : w.heap.size ≤ gb112)); have n4_ := Aside0.mk ((by rw [hg]; exact (below_size (by repeat (first | (with_reducible first | exact HB.out | apply below_alloc | apply pw_below_drewN | apply below_drew1 | refine below_set ?_ GE107.out) | exact HB.out))) : w.heap.size ≤ gb112)); have n5_ := Aside0.mk ((by rw [hg]; exact Nat.ne_of_lt (blk_lt (g := gb107) (o := .cells #[.int .i64 t103, .int .i64 t104, .bool t105] 25 (0, 0)) (by (with_reducible repeat (first | refine blk_drewN ?_ _ | refine blk_drew ?_ | refine blk_alloc ?_ _)); exact BK107.out)) : gb107 ≠ gb112)); have n6_ := Aside0.mk ((by rw [hg]; exact Nat.ne_of_gt (blk_lt (g := gb107) (o := .cells #[.int .i64 t103, .int .i64 t104, .bool t105] 25 (0, 0)) (by (with_reducible repeat (first | refine blk_drewN ?_ _ | refine blk_drew ?_ | refine blk_alloc ?_ _)); exact BK107.out)) : gb112 ≠ gb107)); clear BK107; clear HB; have BK107 := n0_; have HB := n1_; have BK112 := n2_; have GW112 := n3_; have GE112 := n4_; have NB107_112 := n5_; have NB112_107 := n6_; clear n0_ n1_ n2_ n3_ n4_ n5_ n6_; clear hb hbox hg; have hnb26 := NB112_107.out; have hnc26 := NB107_112.out; have hcz27_0 : w25.cell? ⟨gb112, 0, none⟩ = some (.int .i64 0) := (blk_cell BK112.out 0).trans rfl; have hcz27_1 : w25.cell? ⟨gb112, 1, none⟩ = some (.int .i64 0) := (blk_cell BK112.out 1).trans rfl; have hcz27_2 : w25.cell? ⟨gb112, 2, none⟩ = some (.bool false) := (blk_cell BK112.out 2).trans rfl; have hfz27_0 := blk_frozen BK112.out 0; have hfz27_1 := blk_frozen BK112.out 1; have hfz27_2 := blk_frozen BK112.out 2) | ((with_reducible refine gate_callee (f := 6) rfl ?_); refine goesL_ (some 22) rfl rfl Tryd.func6 (by kernel_rfl) rfl #[.int .i64 2, .int .i64 7] rfl (by (try simp only [List.map_toArray, List.map_cons, List.map_nil]); first | done | rfl | (simp only [List.length_drop, List.length_take]; rfl)) ?_; (with_reducible refine (life_After.calls 2 7 t113 t114 t115 t116 _ ?side1 A3.out).mono ?_); (case side1 => exact GB.below HG.out (by repeat (first | (with_reducible first | exact HB.out | apply below_alloc | apply pw_below_drewN | apply below_drew1 | refine below_set ?_ GE107.out | refine below_set ?_ GE112.out) | exact HB.out))); rintro e w28 ⟨rfl, hb⟩; refine ⟨_, rfl, ?_⟩; have n0_ := Aside0.mk (blk_below (g := gb107) (o := .cells #[.int .i64 t103, .int .i64 t104, .bool t105] 25 (0, 0)) (by (with_reducible repeat (first | refine blk_drewN ?_ _ | refine blk_drew ?_ | refine blk_alloc ?_ _)); refine blk_far ?_ NB107_112.out _; (with_reducible repeat (first | refine blk_drewN ?_ _ | refine blk_drew ?_ | refine blk_alloc ?_ _)); refine blk_far ?_ NB107_112.out _; (with_reducible repeat (first | refine blk_drewN ?_ _ | refine blk_drew ?_ | refine blk_alloc ?_ _)); refine blk_far ?_ NB107_112.out _; (with_reducible repeat (first | refine blk_drewN ?_ _ | refine blk_drew ?_ | refine blk_alloc ?_ _)); exact BK107.out) hb); have n1_ := Aside0.mk (blk_below (g := gb112) (o := .cells #[.int .i64 t108, .int .i64 t109, .bool t110] 25 (0, 0)) (by (with_reducible repeat (first | refine blk_drewN ?_ _ | refine blk_drew ?_ | refine blk_alloc ?_ _)); refine blk_put (cs := #[.int .i64 t108, .int .i64 t109, .bool false]) ?_ 2 _ rfl; (with_reducible repeat (first | refine blk_drewN ?_ _ | refine blk_drew ?_ | refine blk_alloc ?_ _)); refine blk_put (cs := #[.int .i64 t108, .int .i64 0, .bool false]) ?_ 1 _ rfl; (with_reducible repeat (first | refine blk_drewN ?_ _ | refine blk_drew ?_ | refine blk_alloc ?_ _)); refine blk_put (cs := #[.int .i64 0, .int .i64 0, .bool false]) ?_ 0 _ rfl; (with_reducible repeat (first | refine blk_drewN ?_ _ | refine blk_drew ?_ | refine blk_alloc ?_ _)); exact BK112.out) hb); have n2_ := Aside0.mk (below_step (by repeat (first | (with_reducible first | exact HB.out | apply below_alloc | apply pw_below_drewN | apply below_drew1 | refine below_set ?_ GE107.out | refine below_set ?_ GE112.out) | exact HB.out)) hb); clear BK107; clear BK112; clear HB; have BK107 := n0_; have BK112 := n1_; have HB := n2_; clear n0_ n1_ n2_; (try clear hb); (try clear hb2); (try clear hk); (try clear hi)) | ((with_reducible refine gate_dst (N := 5) rfl ?_); refine box_event ?hg (N := 5) ?hd (cs := #[.int .i64 0, .int .i64 0, .bool false]) (t := 25) ?hr ?_; (case hd => rfl); (case hg => rfl); (case hr => first | (go_simp; done) | (go_simp; rfl)); intro gb117 hg w29 hbox hb; have n0_ := Aside0.mk (blk_below (g := gb107) (o := .cells #[.int .i64 t103, .int .i64 t104, .bool t105] 25 (0, 0)) (by (with_reducible repeat (first | refine blk_drewN ?_ _ | refine blk_drew ?_ | refine blk_alloc ?_ _)); exact BK107.out) hb); have n1_ := Aside0.mk (blk_below (g := gb112) (o := .cells #[.int .i64 t108, .int .i64 t109, .bool t110] 25 (0, 0)) (by (with_reducible repeat (first | refine blk_drewN ?_ _ | refine blk_drew ?_ | refine blk_alloc ?_ _)); exact BK112.out) hb); have n2_ := Aside0.mk (below_step (by repeat (first | (with_reducible first | exact HB.out | apply below_alloc | apply pw_below_drewN | apply below_drew1 | refine below_set ?_ GE107.out | refine below_set ?_ GE112.out) | exact HB.out)) hb); have n3_ := Aside0.mk (hbox); have n4_ := Aside0.mk ((by rw [hg]; exact (below_size (by repeat (first | (with_reducible first | exact HB.out | apply below_alloc | apply pw_below_drewN | apply below_drew1 | refine below_set ?_ GE107.out | refine below_set ?_ GE112.out) | exact HB.out))) : w.heap.size ≤ gb117)); have n5_ := Aside0.mk ((by rw [hg]; exact (below_size (by repeat (first | (with_reducible first | exact HB.out | apply below_alloc | apply pw_below_drewN | apply below_drew1 | refine below_set ?_ GE107.out | refine below_set ?_ GE112.out) | exact HB.out))) : w.heap.size ≤ gb117)); have n6_ := Aside0.mk ((by rw [hg]; exact Nat.ne_of_lt (blk_lt (g := gb107) (o := .cells #[.int .i64 t103, .int .i64 t104, .bool t105] 25 (0, 0)) (by (with_reducible repeat (first | refine blk_drewN ?_ _ | refine blk_drew ?_ | refine blk_alloc ?_ _)); exact BK107.out)) : gb107 ≠ gb117)); have n7_ := Aside0.mk ((by rw [hg]; exact Nat.ne_of_gt (blk_lt (g := gb107) (o := .cells #[.int .i64 t103, .int .i64 t104, .bool t105] 25 (0, 0)) (by (with_reducible repeat (first | refine blk_drewN ?_ _ | refine blk_drew ?_ | refine blk_alloc ?_ _)); exact BK107.out)) : gb117 ≠ gb107)); have n8_ := Aside0.mk ((by rw [hg]; exact Nat.ne_of_lt (blk_lt (g := gb112) (o := .cells #[.int .i64 t108, .int .i64 t109, .bool t110] 25 (0, 0)) (by (with_reducible repeat (first | refine blk_drewN ?_ _ | refine blk_drew ?_ | refine blk_alloc ?_ _)); exact BK112.out)) : gb112 ≠ gb117)); have n9_ := Aside0.mk ((by rw [hg]; exact Nat.ne_of_gt (blk_lt (g := gb112) (o := .cells #[.int .i64 t108, .int .i64 t109, .bool t110] 25 (0, 0)) (by (with_reducible repeat (first | refine blk_drewN ?_ _ | refine blk_drew ?_ | refine blk_alloc ?_ _)); exact BK112.out)) : gb117 ≠ gb112)); clear BK107; clear BK112; clear HB; have BK107 := n0_; have BK112 := n1_; have HB := n2_; have BK117 := n3_; have GW117 := n4_; have GE117 := n5_; have NB107_117 := n6_; have NB117_107 := n7_; have NB112_117 := n8_; have NB117_112 := n9_; clear n0_ n1_ n2_ n3_ n4_ n5_ n6_ n7_ n8_ n9_; clear hb hbox hg; have hnb30 := NB117_107.out; have hnc30 := NB107_117.out; have hnb31 := NB117_112.out; have hnc31 := NB112_117.out; have hcz32_0 : w29.cell? ⟨gb117, 0, none⟩ = some (.int .i64 0) := (blk_cell BK117.out 0).trans rfl; have hcz32_1 : w29.cell? ⟨gb117, 1, none⟩ = some (.int .i64 0) := (blk_cell BK117.out 1).trans rfl; have hcz32_2 : w29.cell? ⟨gb117, 2, none⟩ = some (.bool false) := (blk_cell BK117.out 2).trans rfl; have hfz32_0 := blk_frozen BK117.out 0; have hfz32_1 := blk_frozen BK117.out 1; have hfz32_2 := blk_frozen BK117.out 2) | ((with_reducible refine gate_callee (f := 6) rfl ?_); refine goesL_ (some 26) rfl rfl Tryd.func6 (by kernel_rfl) rfl #[.int .i64 3, .int .i64 6] rfl (by (try simp only [List.map_toArray, List.map_cons, List.map_nil]); first | done | rfl | (simp only [List.length_drop, List.length_take]; rfl)) ?_; (with_reducible refine (life_After.calls 3 6 t118 t119 t120 t121 _ ?side1 A4.out).mono ?_); (case side1 => exact GB.below HG.out (by repeat (first | (with_reducible first | exact HB.out | apply below_alloc | apply pw_below_drewN | apply below_drew1 | refine below_set ?_ GE107.out | refine below_set ?_ GE112.out | refine below_set ?_ GE117.out) | exact HB.out))); rintro e w33 ⟨rfl, hb⟩; refine ⟨_, rfl, ?_⟩; have n0_ := Aside0.mk (blk_below (g := gb107) (o := .cells #[.int .i64 t103, .int .i64 t104, .bool t105] 25 (0, 0)) (by (with_reducible repeat (first | refine blk_drewN ?_ _ | refine blk_drew ?_ | refine blk_alloc ?_ _)); refine blk_far ?_ NB107_117.out _; (with_reducible repeat (first | refine blk_drewN ?_ _ | refine blk_drew ?_ | refine blk_alloc ?_ _)); refine blk_far ?_ NB107_117.out _; (with_reducible repeat (first | refine blk_drewN ?_ _ | refine blk_drew ?_ | refine blk_alloc ?_ _)); refine blk_far ?_ NB107_117.out _; (with_reducible repeat (first | refine blk_drewN ?_ _ | refine blk_drew ?_ | refine blk_alloc ?_ _)); exact BK107.out) hb); have n1_ := Aside0.mk (blk_below (g := gb112) (o := .cells #[.int .i64 t108, .int .i64 t109, .bool t110] 25 (0, 0)) (by (with_reducible repeat (first | refine blk_drewN ?_ _ | refine blk_drew ?_ | refine blk_alloc ?_ _)); refine blk_far ?_ NB112_117.out _; (with_reducible repeat (first | refine blk_drewN ?_ _ | refine blk_drew ?_ | refine blk_alloc ?_ _)); refine blk_far ?_ NB112_117.out _; (with_reducible repeat (first | refine blk_drewN ?_ _ | refine blk_drew ?_ | refine blk_alloc ?_ _)); refine blk_far ?_ NB112_117.out _; (with_reducible repeat (first | refine blk_drewN ?_ _ | refine blk_drew ?_ | refine blk_alloc ?_ _)); exact BK112.out) hb); have n2_ := Aside0.mk (blk_below (g := gb117) (o := .cells #[.int .i64 t113, .int .i64 t114, .bool t115] 25 (0, 0)) (by (with_reducible repeat (first | refine blk_drewN ?_ _ | refine blk_drew ?_ | refine blk_alloc ?_ _)); refine blk_put (cs := #[.int .i64 t113, .int .i64 t114, .bool false]) ?_ 2 _ rfl; (with_reducible repeat (first | refine blk_drewN ?_ _ | refine blk_drew ?_ | refine blk_alloc ?_ _)); refine blk_put (cs := #[.int .i64 t113, .int .i64 0, .bool false]) ?_ 1 _ rfl; (with_reducible repeat (first | refine blk_drewN ?_ _ | refine blk_drew ?_ | refine blk_alloc ?_ _)); refine blk_put (cs := #[.int .i64 0, .int .i64 0, .bool false]) ?_ 0 _ rfl; (with_reducible repeat (first | refine blk_drewN ?_ _ | refine blk_drew ?_ | refine blk_alloc ?_ _)); exact BK117.out) hb); have n3_ := Aside0.mk (below_step (by repeat (first | (with_reducible first | exact HB.out | apply below_alloc | apply pw_below_drewN | apply below_drew1 | refine below_set ?_ GE107.out | refine below_set ?_ GE112.out | refine below_set ?_ GE117.out) | exact HB.out)) hb); clear BK107; clear BK112; clear BK117; clear HB; have BK107 := n0_; have BK112 := n1_; have BK117 := n2_; have HB := n3_; clear n0_ n1_ n2_ n3_; (try clear hb); (try clear hb2); (try clear hk); (try clear hi)) | ((with_reducible refine gate_dst (N := 7) rfl ?_); refine box_event ?hg (N := 7) ?hd (cs := #[.int .i64 0, .int .i64 0, .bool false]) (t := 25) ?hr ?_; (case hd => rfl); (case hg => rfl); (case hr => first | (go_simp; done) | (go_simp; rfl)); intro gb122 hg w34 hbox hb; have n0_ := Aside0.mk (blk_below (g := gb107) (o := .cells #[.int .i64 t103, .int .i64 t104, .bool t105] 25 (0, 0)) (by (with_reducible repeat (first | refine blk_drewN ?_ _ | refine blk_drew ?_ | refine blk_alloc ?_ _)); exact BK107.out) hb); have n1_ := Aside0.mk (blk_below (g := gb112) (o := .cells #[.int .i64 t108, .int .i64 t109, .bool t110] 25 (0, 0)) (by (with_reducible repeat (first | refine blk_drewN ?_ _ | refine blk_drew ?_ | refine blk_alloc ?_ _)); exact BK112.out) hb); have n2_ := Aside0.mk (blk_below (g := gb117) (o := .cells #[.int .i64 t113, .int .i64 t114, .bool t115] 25 (0, 0)) (by (with_reducible repeat (first | refine blk_drewN ?_ _ | refine blk_drew ?_ | refine blk_alloc ?_ _)); exact BK117.out) hb); have n3_ := Aside0.mk (below_step (by repeat (first | (with_reducible first | exact HB.out | apply below_alloc | apply pw_below_drewN | apply below_drew1 | refine below_set ?_ GE107.out | refine below_set ?_ GE112.out | refine below_set ?_ GE117.out) | exact HB.out)) hb); have n4_ := Aside0.mk (hbox); have n5_ := Aside0.mk ((by rw [hg]; exact (below_size (by repeat (first | (with_reducible first | exact HB.out | apply below_alloc | apply pw_below_drewN | apply below_drew1 | refine below_set ?_ GE107.out | refine below_set ?_ GE112.out | refine below_set ?_ GE117.out) | exact HB.out))) : w.heap.size ≤ gb122)); have n6_ := Aside0.mk ((by rw [hg]; exact (below_size (by repeat (first | (with_reducible first | exact HB.out | apply below_alloc | apply pw_below_drewN | apply below_drew1 | refine below_set ?_ GE107.out | refine below_set ?_ GE112.out | refine below_set ?_ GE117.out) | exact HB.out))) : w.heap.size ≤ gb122)); have n7_ := Aside0.mk ((by rw [hg]; exact Nat.ne_of_lt (blk_lt (g := gb107) (o := .cells #[.int .i64 t103, .int .i64 t104, .bool t105] 25 (0, 0)) (by (with_reducible repeat (first | refine blk_drewN ?_ _ | refine blk_drew ?_ | refine blk_alloc ?_ _)); exact BK107.out)) : gb107 ≠ gb122)); have n8_ := Aside0.mk ((by rw [hg]; exact Nat.ne_of_gt (blk_lt (g := gb107) (o := .cells #[.int .i64 t103, .int .i64 t104, .bool t105] 25 (0, 0)) (by (with_reducible repeat (first | refine blk_drewN ?_ _ | refine blk_drew ?_ | refine blk_alloc ?_ _)); exact BK107.out)) : gb122 ≠ gb107)); have n9_ := Aside0.mk ((by rw [hg]; exact Nat.ne_of_lt (blk_lt (g := gb112) (o := .cells #[.int .i64 t108, .int .i64 t109, .bool t110] 25 (0, 0)) (by (with_reducible repeat (first | refine blk_drewN ?_ _ | refine blk_drew ?_ | refine blk_alloc ?_ _)); exact BK112.out)) : gb112 ≠ gb122)); have n10_ := Aside0.mk ((by rw [hg]; exact Nat.ne_of_gt (blk_lt (g := gb112) (o := .cells #[.int .i64 t108, .int .i64 t109, .bool t110] 25 (0, 0)) (by (with_reducible repeat (first | refine blk_drewN ?_ _ | refine blk_drew ?_ | refine blk_alloc ?_ _)); exact BK112.out)) : gb122 ≠ gb112)); have n11_ := Aside0.mk ((by rw [hg]; exact Nat.ne_of_lt (blk_lt (g := gb117) (o := .cells #[.int .i64 t113, .int .i64 t114, .bool t115] 25 (0, 0)) (by (with_reducible repeat (first | refine blk_drewN ?_ _ | refine blk_drew ?_ | refine blk_alloc ?_ _)); exact BK117.out)) : gb117 ≠ gb122)); have n12_ := Aside0.mk ((by rw [hg]; exact Nat.ne_of_gt (blk_lt (g := gb117) (o := .cells #[.int .i64 t113, .int .i64 t114, .bool t115] 25 (0, 0)) (by (with_reducible repeat (first | refine blk_drewN ?_ _ | refine blk_drew ?_ | refine blk_alloc ?_ _)); exact BK117.out)) : gb122 ≠ gb117)); clear BK107; clear BK112; clear BK117; clear HB; have BK107 := n0_; have BK112 := n1_; have BK117 := n2_; have HB := n3_; have BK122 := n4_; have GW122 := n5_; have GE122 := n6_; have NB107_122 := n7_; have NB122_107 := n8_; have NB112_122 := n9_; have NB122_112 := n10_; have NB117_122 := n11_; have NB122_117 := n12_; clear n0_ n1_ n2_ n3_ n4_ n5_ n6_ n7_ n8_ n9_ n10_ n11_ n12_; clear hb hbox hg; have hnb35 := NB122_107.out; have hnc35 := NB107_122.out; have hnb36 := NB122_112.out; have hnc36 := NB112_122.out; have hnb37 := NB122_117.out; have hnc37 := NB117_122.out; have hcz38_0 : w34.cell? ⟨gb122, 0, none⟩ = some (.int .i64 0) := (blk_cell BK122.out 0).trans rfl; have hcz38_1 : w34.cell? ⟨gb122, 1, none⟩ = some (.int .i64 0) := (blk_cell BK122.out 1).trans rfl; have hcz38_2 : w34.cell? ⟨gb122, 2, none⟩ = some (.bool false) := (blk_cell BK122.out 2).trans rfl; have hfz38_0 := blk_frozen BK122.out 0; have hfz38_1 := blk_frozen BK122.out 1; have hfz38_2 := blk_frozen BK122.out 2) | ((with_reducible refine gate_callee (f := 6) rfl ?_); refine goesL_ (some 30) rfl rfl Tryd.func6 (by kernel_rfl) rfl #[.int .i64 4, .int .i64 2] rfl (by (try simp only [List.map_toArray, List.map_cons, List.map_nil]); first | done | rfl | (simp only [List.length_drop, List.length_take]; rfl)) ?_; (with_reducible refine (life_After.calls 4 2 t123 t124 t125 t126 _ ?side1 A5.out).mono ?_); (case side1 => exact GB.below HG.out (by repeat (first | (with_reducible first | exact HB.out | apply below_alloc | apply pw_below_drewN | apply below_drew1 | refine below_set ?_ GE107.out | refine below_set ?_ GE112.out | refine below_set ?_ GE117.out | refine below_set ?_ GE122.out) | exact HB.out))); rintro e w39 ⟨rfl, hb⟩; refine ⟨_, rfl, ?_⟩; have n0_ := Aside0.mk (blk_below (g := gb107) (o := .cells #[.int .i64 t103, .int .i64 t104, .bool t105] 25 (0, 0)) (by (with_reducible repeat (first | refine blk_drewN ?_ _ | refine blk_drew ?_ | refine blk_alloc ?_ _)); refine blk_far ?_ NB107_122.out _; (with_reducible repeat (first | refine blk_drewN ?_ _ | refine blk_drew ?_ | refine blk_alloc ?_ _)); refine blk_far ?_ NB107_122.out _; (with_reducible repeat (first | refine blk_drewN ?_ _ | refine blk_drew ?_ | refine blk_alloc ?_ _)); refine blk_far ?_ NB107_122.out _; (with_reducible repeat (first | refine blk_drewN ?_ _ | refine blk_drew ?_ | refine blk_alloc ?_ _)); exact BK107.out) hb); have n1_ := Aside0.mk (blk_below (g := gb112) (o := .cells #[.int .i64 t108, .int .i64 t109, .bool t110] 25 (0, 0)) (by (with_reducible repeat (first | refine blk_drewN ?_ _ | refine blk_drew ?_ | refine blk_alloc ?_ _)); refine blk_far ?_ NB112_122.out _; (with_reducible repeat (first | refine blk_drewN ?_ _ | refine blk_drew ?_ | refine blk_alloc ?_ _)); refine blk_far ?_ NB112_122.out _; (with_reducible repeat (first | refine blk_drewN ?_ _ | refine blk_drew ?_ | refine blk_alloc ?_ _)); refine blk_far ?_ NB112_122.out _; (with_reducible repeat (first | refine blk_drewN ?_ _ | refine blk_drew ?_ | refine blk_alloc ?_ _)); exact BK112.out) hb); have n2_ := Aside0.mk (blk_below (g := gb117) (o := .cells #[.int .i64 t113, .int .i64 t114, .bool t115] 25 (0, 0)) (by (with_reducible repeat (first | refine blk_drewN ?_ _ | refine blk_drew ?_ | refine blk_alloc ?_ _)); refine blk_far ?_ NB117_122.out _; (with_reducible repeat (first | refine blk_drewN ?_ _ | refine blk_drew ?_ | refine blk_alloc ?_ _)); refine blk_far ?_ NB117_122.out _; (with_reducible repeat (first | refine blk_drewN ?_ _ | refine blk_drew ?_ | refine blk_alloc ?_ _)); refine blk_far ?_ NB117_122.out _; (with_reducible repeat (first | refine blk_drewN ?_ _ | refine blk_drew ?_ | refine blk_alloc ?_ _)); exact BK117.out) hb); have n3_ := Aside0.mk (blk_below (g := gb122) (o := .cells #[.int .i64 t118, .int .i64 t119, .bool t120] 25 (0, 0)) (by (with_reducible repeat (first | refine blk_drewN ?_ _ | refine blk_drew ?_ | refine blk_alloc ?_ _)); refine blk_put (cs := #[.int .i64 t118, .int .i64 t119, .bool false]) ?_ 2 _ rfl; (with_reducible repeat (first | refine blk_drewN ?_ _ | refine blk_drew ?_ | refine blk_alloc ?_ _)); refine blk_put (cs := #[.int .i64 t118, .int .i64 0, .bool false]) ?_ 1 _ rfl; (with_reducible repeat (first | refine blk_drewN ?_ _ | refine blk_drew ?_ | refine blk_alloc ?_ _)); refine blk_put (cs := #[.int .i64 0, .int .i64 0, .bool false]) ?_ 0 _ rfl; (with_reducible repeat (first | refine blk_drewN ?_ _ | refine blk_drew ?_ | refine blk_alloc ?_ _)); exact BK122.out) hb); have n4_ := Aside0.mk (below_step (by repeat (first | (with_reducible first | exact HB.out | apply below_alloc | apply pw_below_drewN | apply below_drew1 | refine below_set ?_ GE107.out | refine below_set ?_ GE112.out | refine below_set ?_ GE117.out | refine below_set ?_ GE122.out) | exact HB.out)) hb); clear BK107; clear BK112; clear BK117; clear BK122; clear HB; have BK107 := n0_; have BK112 := n1_; have BK117 := n2_; have BK122 := n3_; have HB := n4_; clear n0_ n1_ n2_ n3_ n4_; (try clear hb); (try clear hb2); (try clear hk); (try clear hi)) | ((with_reducible refine gate_dst (N := 9) rfl ?_); refine box_event ?hg (N := 9) ?hd (cs := #[.int .i64 0, .int .i64 0, .bool false]) (t := 25) ?hr ?_; (case hd => rfl); (case hg => rfl); (case hr => first | (go_simp; done) | (go_simp; rfl)); intro gb127 hg w40 hbox hb; have n0_ := Aside0.mk (blk_below (g := gb107) (o := .cells #[.int .i64 t103, .int .i64 t104, .bool t105] 25 (0, 0)) (by (with_reducible repeat (first | refine blk_drewN ?_ _ | refine blk_drew ?_ | refine blk_alloc ?_ _)); exact BK107.out) hb); have n1_ := Aside0.mk (blk_below (g := gb112) (o := .cells #[.int .i64 t108, .int .i64 t109, .bool t110] 25 (0, 0)) (by (with_reducible repeat (first | refine blk_drewN ?_ _ | refine blk_drew ?_ | refine blk_alloc ?_ _)); exact BK112.out) hb); have n2_ := Aside0.mk (blk_below (g := gb117) (o := .cells #[.int .i64 t113, .int .i64 t114, .bool t115] 25 (0, 0)) (by (with_reducible repeat (first | refine blk_drewN ?_ _ | refine blk_drew ?_ | refine blk_alloc ?_ _)); exact BK117.out) hb); have n3_ := Aside0.mk (blk_below (g := gb122) (o := .cells #[.int .i64 t118, .int .i64 t119, .bool t120] 25 (0, 0)) (by (with_reducible repeat (first | refine blk_drewN ?_ _ | refine blk_drew ?_ | refine blk_alloc ?_ _)); exact BK122.out) hb); have n4_ := Aside0.mk (below_step (by repeat (first | (with_reducible first | exact HB.out | apply below_alloc | apply pw_below_drewN | apply below_drew1 | refine below_set ?_ GE107.out | refine below_set ?_ GE112.out | refine below_set ?_ GE117.out | refine below_set ?_ GE122.out) | exact HB.out)) hb); have n5_ := Aside0.mk (hbox); have n6_ := Aside0.mk ((by rw [hg]; exact (below_size (by repeat (first | (with_reducible first | exact HB.out | apply below_alloc | apply pw_below_drewN | apply below_drew1 | refine below_set ?_ GE107.out | refine below_set ?_ GE112.out | refine below_set ?_ GE117.out | refine below_set ?_ GE122.out) | exact HB.out))) : w.heap.size ≤ gb127)); have n7_ := Aside0.mk ((by rw [hg]; exact (below_size (by repeat (first | (with_reducible first | exact HB.out | apply below_alloc | apply pw_below_drewN | apply below_drew1 | refine below_set ?_ GE107.out | refine below_set ?_ GE112.out | refine below_set ?_ GE117.out | refine below_set ?_ GE122.out) | exact HB.out))) : w.heap.size ≤ gb127)); have n8_ := Aside0.mk ((by rw [hg]; exact Nat.ne_of_lt (blk_lt (g := gb107) (o := .cells #[.int .i64 t103, .int .i64 t104, .bool t105] 25 (0, 0)) (by (with_reducible repeat (first | refine blk_drewN ?_ _ | refine blk_drew ?_ | refine blk_alloc ?_ _)); exact BK107.out)) : gb107 ≠ gb127)); have n9_ := Aside0.mk ((by rw [hg]; exact Nat.ne_of_gt (blk_lt (g := gb107) (o := .cells #[.int .i64 t103, .int .i64 t104, .bool t105] 25 (0, 0)) (by (with_reducible repeat (first | refine blk_drewN ?_ _ | refine blk_drew ?_ | refine blk_alloc ?_ _)); exact BK107.out)) : gb127 ≠ gb107)); have n10_ := Aside0.mk ((by rw [hg]; exact Nat.ne_of_lt (blk_lt (g := gb112) (o := .cells #[.int .i64 t108, .int .i64 t109, .bool t110] 25 (0, 0)) (by (with_reducible repeat (first | refine blk_drewN ?_ _ | refine blk_drew ?_ | refine blk_alloc ?_ _)); exact BK112.out)) : gb112 ≠ gb127)); have n11_ := Aside0.mk ((by rw [hg]; exact Nat.ne_of_gt (blk_lt (g := gb112) (o := .cells #[.int .i64 t108, .int .i64 t109, .bool t110] 25 (0, 0)) (by (with_reducible repeat (first | refine blk_drewN ?_ _ | refine blk_drew ?_ | refine blk_alloc ?_ _)); exact BK112.out)) : gb127 ≠ gb112)); have n12_ := Aside0.mk ((by rw [hg]; exact Nat.ne_of_lt (blk_lt (g := gb117) (o := .cells #[.int .i64 t113, .int .i64 t114, .bool t115] 25 (0, 0)) (by (with_reducible repeat (first | refine blk_drewN ?_ _ | refine blk_drew ?_ | refine blk_alloc ?_ _)); exact BK117.out)) : gb117 ≠ gb127)); have n13_ := Aside0.mk ((by rw [hg]; exact Nat.ne_of_gt (blk_lt (g := gb117) (o := .cells #[.int .i64 t113, .int .i64 t114, .bool t115] 25 (0, 0)) (by (with_reducible repeat (first | refine blk_drewN ?_ _ | refine blk_drew ?_ | refine blk_alloc ?_ _)); exact BK117.out)) : gb127 ≠ gb117)); have n14_ := Aside0.mk ((by rw [hg]; exact Nat.ne_of_lt (blk_lt (g := gb122) (o := .cells #[.int .i64 t118, .int .i64 t119, .bool t120] 25 (0, 0)) (by (with_reducible repeat (first | refine blk_drewN ?_ _ | refine blk_drew ?_ | refine blk_alloc ?_ _)); exact BK122.out)) : gb122 ≠ gb127)); have n15_ := Aside0.mk ((by rw [hg]; exact Nat.ne_of_gt (blk_lt (g := gb122) (o := .cells #[.int .i64 t118, .int .i64 t119, .bool t120] 25 (0, 0)) (by (with_reducible repeat (first | refine blk_drewN ?_ _ | refine blk_drew ?_ | refine blk_alloc ?_ _)); exact BK122.out)) : gb127 ≠ gb122)); clear BK107; clear BK112; clear BK117; clear BK122; clear HB; have BK107 := n0_; have BK112 := n1_; have BK117 := n2_; have BK122 := n3_; have HB := n4_; have BK127 := n5_; have GW127 := n6_; have GE127 := n7_; have NB107_127 := n8_; have NB127_107 := n9_; have NB112_127 := n10_; have NB127_112 := n11_; have NB117_127 := n12_; have NB127_117 := n13_; have NB122_127 := n14_; have NB127_122 := n15_; clear n0_ n1_ n2_ n3_ n4_ n5_ n6_ n7_ n8_ n9_ n10_ n11_ n12_ n13_ n14_ n15_; clear hb hbox hg; have hnb41 := NB127_107.out; have hnc41 := NB107_127.out; have hnb42 := NB127_112.out; have hnc42 := NB112_127.out; have hnb43 := NB127_117.out; have hnc43 := NB117_127.out; have hnb44 := NB127_122.out; have hnc44 := NB122_127.out; have hcz45_0 : w40.cell? ⟨gb127, 0, none⟩ = some (.int .i64 0) := (blk_cell BK127.out 0).trans rfl; have hcz45_1 : w40.cell? ⟨gb127, 1, none⟩ = some (.int .i64 0) := (blk_cell BK127.out 1).trans rfl; have hcz45_2 : w40.cell? ⟨gb127, 2, none⟩ = some (.bool false) := (blk_cell BK127.out 2).trans rfl; have hfz45_0 := blk_frozen BK127.out 0; have hfz45_1 := blk_frozen BK127.out 1; have hfz45_2 := blk_frozen BK127.out 2) | ((with_reducible refine gate_callee (f := 6) rfl ?_); refine goesL_ (some 34) rfl rfl Tryd.func6 (by kernel_rfl) rfl #[.int .i64 5, .int .i64 0] rfl (by (try simp only [List.map_toArray, List.map_cons, List.map_nil]); first | done | rfl | (simp only [List.length_drop, List.length_take]; rfl)) ?_; (with_reducible refine (life_After.calls 5 0 t128 t129 t130 t131 _ ?side1 A6.out).mono ?_); (case side1 => exact GB.below HG.out (by repeat (first | (with_reducible first | exact HB.out | apply below_alloc | apply pw_below_drewN | apply below_drew1 | refine below_set ?_ GE107.out | refine below_set ?_ GE112.out | refine below_set ?_ GE117.out | refine below_set ?_ GE122.out | refine below_set ?_ GE127.out) | exact HB.out))); rintro e w46 ⟨rfl, hb⟩; refine ⟨_, rfl, ?_⟩; have n0_ := Aside0.mk (blk_below (g := gb107) (o := .cells #[.int .i64 t103, .int .i64 t104, .bool t105] 25 (0, 0)) (by (with_reducible repeat (first | refine blk_drewN ?_ _ | refine blk_drew ?_ | refine blk_alloc ?_ _)); refine blk_far ?_ NB107_127.out _; (with_reducible repeat (first | refine blk_drewN ?_ _ | refine blk_drew ?_ | refine blk_alloc ?_ _)); refine blk_far ?_ NB107_127.out _; (with_reducible repeat (first | refine blk_drewN ?_ _ | refine blk_drew ?_ | refine blk_alloc ?_ _)); refine blk_far ?_ NB107_127.out _; (with_reducible repeat (first | refine blk_drewN ?_ _ | refine blk_drew ?_ | refine blk_alloc ?_ _)); exact BK107.out) hb); have n1_ := Aside0.mk (blk_below (g := gb112) (o := .cells #[.int .i64 t108, .int .i64 t109, .bool t110] 25 (0, 0)) (by (with_reducible repeat (first | refine blk_drewN ?_ _ | refine blk_drew ?_ | refine blk_alloc ?_ _)); refine blk_far ?_ NB112_127.out _; (with_reducible repeat (first | refine blk_drewN ?_ _ | refine blk_drew ?_ | refine blk_alloc ?_ _)); refine blk_far ?_ NB112_127.out _; (with_reducible repeat (first | refine blk_drewN ?_ _ | refine blk_drew ?_ | refine blk_alloc ?_ _)); refine blk_far ?_ NB112_127.out _; (with_reducible repeat (first | refine blk_drewN ?_ _ | refine blk_drew ?_ | refine blk_alloc ?_ _)); exact BK112.out) hb); have n2_ := Aside0.mk (blk_below (g := gb117) (o := .cells #[.int .i64 t113, .int .i64 t114, .bool t115] 25 (0, 0)) (by (with_reducible repeat (first | refine blk_drewN ?_ _ | refine blk_drew ?_ | refine blk_alloc ?_ _)); refine blk_far ?_ NB117_127.out _; (with_reducible repeat (first | refine blk_drewN ?_ _ | refine blk_drew ?_ | refine blk_alloc ?_ _)); refine blk_far ?_ NB117_127.out _; (with_reducible repeat (first | refine blk_drewN ?_ _ | refine blk_drew ?_ | refine blk_alloc ?_ _)); refine blk_far ?_ NB117_127.out _; (with_reducible repeat (first | refine blk_drewN ?_ _ | refine blk_drew ?_ | refine blk_alloc ?_ _)); exact BK117.out) hb); have n3_ := Aside0.mk (blk_below (g := gb122) (o := .cells #[.int .i64 t118, .int .i64 t119, .bool t120] 25 (0, 0)) (by (with_reducible repeat (first | refine blk_drewN ?_ _ | refine blk_drew ?_ | refine blk_alloc ?_ _)); refine blk_far ?_ NB122_127.out _; (with_reducible repeat (first | refine blk_drewN ?_ _ | refine blk_drew ?_ | refine blk_alloc ?_ _)); refine blk_far ?_ NB122_127.out _; (with_reducible repeat (first | refine blk_drewN ?_ _ | refine blk_drew ?_ | refine blk_alloc ?_ _)); refine blk_far ?_ NB122_127.out _; (with_reducible repeat (first | refine blk_drewN ?_ _ | refine blk_drew ?_ | refine blk_alloc ?_ _)); exact BK122.out) hb); have n4_ := Aside0.mk (blk_below (g := gb127) (o := .cells #[.int .i64 t123, .int .i64 t124, .bool t125] 25 (0, 0)) (by (with_reducible repeat (first | refine blk_drewN ?_ _ | refine blk_drew ?_ | refine blk_alloc ?_ _)); refine blk_put (cs := #[.int .i64 t123, .int .i64 t124, .bool false]) ?_ 2 _ rfl; (with_reducible repeat (first | refine blk_drewN ?_ _ | refine blk_drew ?_ | refine blk_alloc ?_ _)); refine blk_put (cs := #[.int .i64 t123, .int .i64 0, .bool false]) ?_ 1 _ rfl; (with_reducible repeat (first | refine blk_drewN ?_ _ | refine blk_drew ?_ | refine blk_alloc ?_ _)); refine blk_put (cs := #[.int .i64 0, .int .i64 0, .bool false]) ?_ 0 _ rfl; (with_reducible repeat (first | refine blk_drewN ?_ _ | refine blk_drew ?_ | refine blk_alloc ?_ _)); exact BK127.out) hb); have n5_ := Aside0.mk (below_step (by repeat (first | (with_reducible first | exact HB.out | apply below_alloc | apply pw_below_drewN | apply below_drew1 | refine below_set ?_ GE107.out | refine below_set ?_ GE112.out | refine below_set ?_ GE117.out | refine below_set ?_ GE122.out | refine below_set ?_ GE127.out) | exact HB.out)) hb); clear BK107; clear BK112; clear BK117; clear BK122; clear BK127; clear HB; have BK107 := n0_; have BK112 := n1_; have BK117 := n2_; have BK122 := n3_; have BK127 := n4_; have HB := n5_; clear n0_ n1_ n2_ n3_ n4_ n5_; (try clear hb); (try clear hb2); (try clear hk); (try clear hi)) | ((with_reducible refine gate_dst (N := 11) rfl ?_); refine box_event ?hg (N := 11) ?hd (cs := #[.int .i64 0, .int .i64 0, .bool false]) (t := 25) ?hr ?_; (case hd => rfl); (case hg => rfl); (case hr => first | (go_simp; done) | (go_simp; rfl)); intro gb132 hg w47 hbox hb; have n0_ := Aside0.mk (blk_below (g := gb107) (o := .cells #[.int .i64 t103, .int .i64 t104, .bool t105] 25 (0, 0)) (by (with_reducible repeat (first | refine blk_drewN ?_ _ | refine blk_drew ?_ | refine blk_alloc ?_ _)); exact BK107.out) hb); have n1_ := Aside0.mk (blk_below (g := gb112) (o := .cells #[.int .i64 t108, .int .i64 t109, .bool t110] 25 (0, 0)) (by (with_reducible repeat (first | refine blk_drewN ?_ _ | refine blk_drew ?_ | refine blk_alloc ?_ _)); exact BK112.out) hb); have n2_ := Aside0.mk (blk_below (g := gb117) (o := .cells #[.int .i64 t113, .int .i64 t114, .bool t115] 25 (0, 0)) (by (with_reducible repeat (first | refine blk_drewN ?_ _ | refine blk_drew ?_ | refine blk_alloc ?_ _)); exact BK117.out) hb); have n3_ := Aside0.mk (blk_below (g := gb122) (o := .cells #[.int .i64 t118, .int .i64 t119, .bool t120] 25 (0, 0)) (by (with_reducible repeat (first | refine blk_drewN ?_ _ | refine blk_drew ?_ | refine blk_alloc ?_ _)); exact BK122.out) hb); have n4_ := Aside0.mk (blk_below (g := gb127) (o := .cells #[.int .i64 t123, .int .i64 t124, .bool t125] 25 (0, 0)) (by (with_reducible repeat (first | refine blk_drewN ?_ _ | refine blk_drew ?_ | refine blk_alloc ?_ _)); exact BK127.out) hb); have n5_ := Aside0.mk (below_step (by repeat (first | (with_reducible first | exact HB.out | apply below_alloc | apply pw_below_drewN | apply below_drew1 | refine below_set ?_ GE107.out | refine below_set ?_ GE112.out | refine below_set ?_ GE117.out | refine below_set ?_ GE122.out | refine below_set ?_ GE127.out) | exact HB.out)) hb); have n6_ := Aside0.mk (hbox); have n7_ := Aside0.mk ((by rw [hg]; exact (below_size (by repeat (first | (with_reducible first | exact HB.out | apply below_alloc | apply pw_below_drewN | apply below_drew1 | refine below_set ?_ GE107.out | refine below_set ?_ GE112.out | refine below_set ?_ GE117.out | refine below_set ?_ GE122.out | refine below_set ?_ GE127.out) | exact HB.out))) : w.heap.size ≤ gb132)); have n8_ := Aside0.mk ((by rw [hg]; exact (below_size (by repeat (first | (with_reducible first | exact HB.out | apply below_alloc | apply pw_below_drewN | apply below_drew1 | refine below_set ?_ GE107.out | refine below_set ?_ GE112.out | refine below_set ?_ GE117.out | refine below_set ?_ GE122.out | refine below_set ?_ GE127.out) | exact HB.out))) : w.heap.size ≤ gb132)); have n9_ := Aside0.mk ((by rw [hg]; exact Nat.ne_of_lt (blk_lt (g := gb107) (o := .cells #[.int .i64 t103, .int .i64 t104, .bool t105] 25 (0, 0)) (by (with_reducible repeat (first | refine blk_drewN ?_ _ | refine blk_drew ?_ | refine blk_alloc ?_ _)); exact BK107.out)) : gb107 ≠ gb132)); have n10_ := Aside0.mk ((by rw [hg]; exact Nat.ne_of_gt (blk_lt (g := gb107) (o := .cells #[.int .i64 t103, .int .i64 t104, .bool t105] 25 (0, 0)) (by (with_reducible repeat (first | refine blk_drewN ?_ _ | refine blk_drew ?_ | refine blk_alloc ?_ _)); exact BK107.out)) : gb132 ≠ gb107)); have n11_ := Aside0.mk ((by rw [hg]; exact Nat.ne_of_lt (blk_lt (g := gb112) (o := .cells #[.int .i64 t108, .int .i64 t109, .bool t110] 25 (0, 0)) (by (with_reducible repeat (first | refine blk_drewN ?_ _ | refine blk_drew ?_ | refine blk_alloc ?_ _)); exact BK112.out)) : gb112 ≠ gb132)); have n12_ := Aside0.mk ((by rw [hg]; exact Nat.ne_of_gt (blk_lt (g := gb112) (o := .cells #[.int .i64 t108, .int .i64 t109, .bool t110] 25 (0, 0)) (by (with_reducible repeat (first | refine blk_drewN ?_ _ | refine blk_drew ?_ | refine blk_alloc ?_ _)); exact BK112.out)) : gb132 ≠ gb112)); have n13_ := Aside0.mk ((by rw [hg]; exact Nat.ne_of_lt (blk_lt (g := gb117) (o := .cells #[.int .i64 t113, .int .i64 t114, .bool t115] 25 (0, 0)) (by (with_reducible repeat (first | refine blk_drewN ?_ _ | refine blk_drew ?_ | refine blk_alloc ?_ _)); exact BK117.out)) : gb117 ≠ gb132)); have n14_ := Aside0.mk ((by rw [hg]; exact Nat.ne_of_gt (blk_lt (g := gb117) (o := .cells #[.int .i64 t113, .int .i64 t114, .bool t115] 25 (0, 0)) (by (with_reducible repeat (first | refine blk_drewN ?_ _ | refine blk_drew ?_ | refine blk_alloc ?_ _)); exact BK117.out)) : gb132 ≠ gb117)); have n15_ := Aside0.mk ((by rw [hg]; exact Nat.ne_of_lt (blk_lt (g := gb122) (o := .cells #[.int .i64 t118, .int .i64 t119, .bool t120] 25 (0, 0)) (by (with_reducible repeat (first | refine blk_drewN ?_ _ | refine blk_drew ?_ | refine blk_alloc ?_ _)); exact BK122.out)) : gb122 ≠ gb132)); have n16_ := Aside0.mk ((by rw [hg]; exact Nat.ne_of_gt (blk_lt (g := gb122) (o := .cells #[.int .i64 t118, .int .i64 t119, .bool t120] 25 (0, 0)) (by (with_reducible repeat (first | refine blk_drewN ?_ _ | refine blk_drew ?_ | refine blk_alloc ?_ _)); exact BK122.out)) : gb132 ≠ gb122)); have n17_ := Aside0.mk ((by rw [hg]; exact Nat.ne_of_lt (blk_lt (g := gb127) (o := .cells #[.int .i64 t123, .int .i64 t124, .bool t125] 25 (0, 0)) (by (with_reducible repeat (first | refine blk_drewN ?_ _ | refine blk_drew ?_ | refine blk_alloc ?_ _)); exact BK127.out)) : gb127 ≠ gb132)); have n18_ := Aside0.mk ((by rw [hg]; exact Nat.ne_of_gt (blk_lt (g := gb127) (o := .cells #[.int .i64 t123, .int .i64 t124, .bool t125] 25 (0, 0)) (by (with_reducible repeat (first | refine blk_drewN ?_ _ | refine blk_drew ?_ | refine blk_alloc ?_ _)); exact BK127.out)) : gb132 ≠ gb127)); clear BK107; clear BK112; clear BK117; clear BK122; clear BK127; clear HB; have BK107 := n0_; have BK112 := n1_; have BK117 := n2_; have BK122 := n3_; have BK127 := n4_; have HB := n5_; have BK132 := n6_; have GW132 := n7_; have GE132 := n8_; have NB107_132 := n9_; have NB132_107 := n10_; have NB112_132 := n11_; have NB132_112 := n12_; have NB117_132 := n13_; have NB132_117 := n14_; have NB122_132 := n15_; have NB132_122 := n16_; have NB127_132 := n17_; have NB132_127 := n18_; clear n0_ n1_ n2_ n3_ n4_ n5_ n6_ n7_ n8_ n9_ n10_ n11_ n12_ n13_ n14_ n15_ n16_ n17_ n18_; clear hb hbox hg; have hnb48 := NB132_107.out; have hnc48 := NB107_132.out; have hnb49 := NB132_112.out; have hnc49 := NB112_132.out; have hnb50 := NB132_117.out; have hnc50 := NB117_132.out; have hnb51 := NB132_122.out; have hnc51 := NB122_132.out; have hnb52 := NB132_127.out; have hnc52 := NB127_132.out; have hcz53_0 : w47.cell? ⟨gb132, 0, none⟩ = some (.int .i64 0) := (blk_cell BK132.out 0).trans rfl; have hcz53_1 : w47.cell? ⟨gb132, 1, none⟩ = some (.int .i64 0) := (blk_cell BK132.out 1).trans rfl; have hcz53_2 : w47.cell? ⟨gb132, 2, none⟩ = some (.bool false) := (blk_cell BK132.out 2).trans rfl; have hfz53_0 := blk_frozen BK132.out 0; have hfz53_1 := blk_frozen BK132.out 1; have hfz53_2 := blk_frozen BK132.out 2; have hcz54_0 : w47.cell? ⟨gb107, 0, none⟩ = some (.int .i64 t103) := (blk_cell BK107.out 0).trans rfl; have hcz54_1 : w47.cell? ⟨gb107, 1, none⟩ = some (.int .i64 t104) := (blk_cell BK107.out 1).trans rfl; have hcz54_2 : w47.cell? ⟨gb107, 2, none⟩ = some (.bool t105) := (blk_cell BK107.out 2).trans rfl; have hfz54_0 := blk_frozen BK107.out 0; have hfz54_1 := blk_frozen BK107.out 1; have hfz54_2 := blk_frozen BK107.out 2; have hcz55_0 : w47.cell? ⟨gb112, 0, none⟩ = some (.int .i64 t108) := (blk_cell BK112.out 0).trans rfl; have hcz55_1 : w47.cell? ⟨gb112, 1, none⟩ = some (.int .i64 t109) := (blk_cell BK112.out 1).trans rfl; have hcz55_2 : w47.cell? ⟨gb112, 2, none⟩ = some (.bool t110) := (blk_cell BK112.out 2).trans rfl; have hfz55_0 := blk_frozen BK112.out 0; have hfz55_1 := blk_frozen BK112.out 1; have hfz55_2 := blk_frozen BK112.out 2; have hcz56_0 : w47.cell? ⟨gb117, 0, none⟩ = some (.int .i64 t113) := (blk_cell BK117.out 0).trans rfl; have hcz56_1 : w47.cell? ⟨gb117, 1, none⟩ = some (.int .i64 t114) := (blk_cell BK117.out 1).trans rfl; have hcz56_2 : w47.cell? ⟨gb117, 2, none⟩ = some (.bool t115) := (blk_cell BK117.out 2).trans rfl; have hfz56_0 := blk_frozen BK117.out 0; have hfz56_1 := blk_frozen BK117.out 1; have hfz56_2 := blk_frozen BK117.out 2; have hcz57_0 : w47.cell? ⟨gb127, 0, none⟩ = some (.int .i64 t123) := (blk_cell BK127.out 0).trans rfl; have hcz57_1 : w47.cell? ⟨gb127, 1, none⟩ = some (.int .i64 t124) := (blk_cell BK127.out 1).trans rfl; have hcz57_2 : w47.cell? ⟨gb127, 2, none⟩ = some (.bool t125) := (blk_cell BK127.out 2).trans rfl; have hfz57_0 := blk_frozen BK127.out 0; have hfz57_1 := blk_frozen BK127.out 1; have hfz57_2 := blk_frozen BK127.out 2) | (go_at_call 9; (with_reducible refine (life_Hears.calls 3 true _ A17.out).mono ?_); rintro e w' ⟨rfl, ⟨nd, rfl⟩⟩) | (go_at_call 10; (with_reducible refine (life_Says.calls 3 false _ A19.out).mono ?_); rintro e w' ⟨rfl, ⟨nd, rfl⟩⟩))
                          go_ret
                          exact ⟨by first | rfl | (simp [errW_none, errW_some] <;> rfl) | (simp [*, errW_none, errW_some] <;> rfl), by repeat (first | (with_reducible first | exact HB.out | apply below_alloc | apply pw_below_drewN | apply below_drew1 | refine below_set ?_ GE107.out | refine below_set ?_ GE112.out | refine below_set ?_ GE117.out | refine below_set ?_ GE122.out | refine below_set ?_ GE127.out | refine below_set ?_ GE132.out) | exact HB.out)⟩
                      · replace c18 := Bool.eq_false_iff.mpr c18
                        subst c18
                        have H1 : (none) = some r := by rw [if_neg (show ¬ (false = true) by decide)] at H; exact H
                        clear H
                        have H := H1
                        clear H1
                        exact absurd H (by simp)
                    · rw [if_neg c16] at H
                      exact absurd H (by simp)
                  · rw [if_neg c15] at H
                    exact absurd H (by simp)
                · rw [if_neg c14] at H
                  exact absurd H (by simp)
              · rw [if_neg c13] at H
                exact absurd H (by simp)
            · rw [if_neg c12] at H
              exact absurd H (by simp)
          · rw [if_neg c11] at H
            exact absurd H (by simp)
        · rw [if_neg c10] at H
          exact absurd H (by simp)
      · rw [if_neg c9] at H
        exact absurd H (by simp)
    · rw [if_neg c8] at H
      exact absurd H (by simp)
  · rw [if_neg c7] at H
    exact absurd H (by simp)

end Go.Proofs.YtjkadheknjkkbaaDoor.QL
