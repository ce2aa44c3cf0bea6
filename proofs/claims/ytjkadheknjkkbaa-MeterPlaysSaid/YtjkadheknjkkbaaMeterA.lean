/-
  The meter's methods, and the document's: what each does with a meter in a block.
  Condition: none.
-/
import Derived.Test.YtjkadheknjkkbaaQR1
import Derived.Test.YtjkadheknjkkbaaObj
import Derived.WalkKit
import Derived.Lib.SliceRun
import Derived.DeepKeys
namespace Go.Proofs.Ytjkadheknjkkbaa.QR
open Go Go.RowKit Go.Proofs.YtjkadheknjkkbaaW.PrintWords Go.Proofs.YtjkadheknjkkbaaW.PrintLast Go.Proofs.YtjkadheknjkkbaaW.PrintMore
attribute [local go_sem] max2_int min2_int max_two min_two max_three min_three max_four min_four
set_option linter.unusedVariables false
set_option linter.unusedSimpArgs false
open Go.Proofs.Ytjkadheknjkkbaa.Ob
/-- Six numbers. -/
abbrev Six := Int × Int × Int × Int × Int × Int
def Six.vals (s : Six) : List Value := [.int .i64 s.1, .int .i64 s.2.1, .int .i64 s.2.2.1, .int .i64 s.2.2.2.1, .int .i64 s.2.2.2.2.1, .int .i64 s.2.2.2.2.2]
def Six.at_ (s : Six) (k : Int) : Int := if k = 0 then s.1 else if k = 1 then s.2.1 else if k = 2 then s.2.2.1 else if k = 3 then s.2.2.2.1 else if k = 4 then s.2.2.2.2.1 else s.2.2.2.2.2
def Six.put (s : Six) (k v : Int) : Six :=
  if k = 0 then (v, s.2.1, s.2.2.1, s.2.2.2.1, s.2.2.2.2.1, s.2.2.2.2.2) else if k = 1 then (s.1, v, s.2.2.1, s.2.2.2.1, s.2.2.2.2.1, s.2.2.2.2.2) else if k = 2 then (s.1, s.2.1, v, s.2.2.2.1, s.2.2.2.2.1, s.2.2.2.2.2)
  else if k = 3 then (s.1, s.2.1, s.2.2.1, v, s.2.2.2.2.1, s.2.2.2.2.2) else if k = 4 then (s.1, s.2.1, s.2.2.1, s.2.2.2.1, v, s.2.2.2.2.2) else (s.1, s.2.1, s.2.2.1, s.2.2.2.1, s.2.2.2.2.1, v)
/-- A meter's cells: limits, counts. -/
def mv (l c : Six) : Array Value := #[.int .i64 l.1, .int .i64 l.2.1, .int .i64 l.2.2.1, .int .i64 l.2.2.2.1, .int .i64 l.2.2.2.2.1, .int .i64 l.2.2.2.2.2, .int .i64 c.1, .int .i64 c.2.1, .int .i64 c.2.2.1, .int .i64 c.2.2.2.1, .int .i64 c.2.2.2.2.1, .int .i64 c.2.2.2.2.2]
/-- A meter (type t) in block g. -/
def IsM (t : Nat) (w : World) (g : Nat) (l c : Six) : Prop := w.heap[g]? = some (.cells (mv l c) t (0, 0))
/-- What limits, and counts, may be. -/
def may (l c : Int) : Prop := 0 ≤ l ∧ l ≤ 10000 ∧ 0 ≤ c ∧ c ≤ l + 1
def Mays (l c : Six) : Prop := may l.1 c.1 ∧ may l.2.1 c.2.1 ∧ may l.2.2.1 c.2.2.1 ∧ may l.2.2.2.1 c.2.2.2.1 ∧ may l.2.2.2.2.1 c.2.2.2.2.1 ∧ may l.2.2.2.2.2 c.2.2.2.2.2
def more (l c : Int) : Int := if c ≤ l then c + 1 else c
theorem IsM.cell {t : Nat} {w : World} {g : Nat} {l c : Six} (h : IsM t w g l c) (i : Nat) : w.cell? ⟨g, i, none⟩ = (mv l c)[i]? := blk_cell h i
set_option maxHeartbeats 1000000 in
theorem meter_wrong.calls (p : Option Addr) (k : Int) (r : Bool) (w : World) (h : (p.isNone || decide (k < 0) || decide (6 ≤ k)) = r) :
    Calls Try.prog 79 #[.pointer p, .int .i64 k] w fun e w' => e = .returned (.bool r) ∧ ∃ nd, w' = w.drewN nd := by
  go_enter Try.func79, Try.ntmps79
  cases p with
  | none =>
    obtain rfl : r = true := by rw [← h]; rfl
    go_wp2
    go_ret
    exact ⟨rfl, 0, rfl⟩
  | some a =>
    by_cases c1 : k < 0
    · obtain rfl : r = true := by rw [← h]; simp [c1]
      have b1 : decide (k < 0) = true := decide_eq_true c1
      go_wp2
      go_ret
      exact ⟨rfl, 0, rfl⟩
    · have b1 : decide (k < 0) = false := decide_eq_false c1
      obtain rfl : r = decide (6 ≤ k) := by rw [← h]; simp [c1]
      go_wp2
      go_ret
      exact ⟨rfl, 0, rfl⟩
set_option maxHeartbeats 4000000 in
set_option maxRecDepth 100000 in
theorem meter_Count.bad (p : Option Addr) (k : Int) (w : World) (h : (p.isNone || decide (k < 0) || decide (6 ≤ k)) = true) :
    Calls Try.prog 29 #[.pointer p, .int .i64 k] w fun e w' => e = .returned (.tuple #[.bool false, .int .i64 1]) ∧ ∃ nd, w' = w.drewN nd := by
  go_enter Try.func29, Try.ntmps29
  go_wp2_with (go_at_call 79; refine (meter_wrong.calls p k true _ h).mono ?_; rintro e_ w_ ⟨rfl, nd, rfl⟩)
  go_ret2
  exact ⟨rfl, _, rfl⟩
theorem meter_Tick.nil (w : World) : Calls Try.prog 27 #[.pointer none] w fun e w' => (∃ v, e = .returned v) ∧ ∃ nd, w' = w.drewN nd := by
  go_enter Try.func27, Try.ntmps27
  go_wp2
  go_end0
  exact ⟨⟨_, rfl⟩, 0, rfl⟩
theorem sz30 : (Try.prog.info? 30).map (·.size) = some 6 := by kernel_rfl
theorem IsM.put {t : Nat} {w : World} {g : Nat} {l c : Six} (h : IsM t w g l c) (v : Int) : IsM t (w.setCell ⟨g, 6, none⟩ (.int .i64 v)) g l (c.put 0 v) ∧ IsM t (w.setCell ⟨g, 7, none⟩ (.int .i64 v)) g l (c.put 1 v) ∧ IsM t (w.setCell ⟨g, 8, none⟩ (.int .i64 v)) g l (c.put 2 v) ∧ IsM t (w.setCell ⟨g, 9, none⟩ (.int .i64 v)) g l (c.put 3 v) ∧ IsM t (w.setCell ⟨g, 10, none⟩ (.int .i64 v)) g l (c.put 4 v) :=
  ⟨blk_put h 6 _ rfl, blk_put h 7 _ rfl, blk_put h 8 _ rfl, blk_put h 9 _ rfl, blk_put h 10 _ rfl⟩
set_option maxHeartbeats 4000000 in
set_option maxRecDepth 100000 in
theorem meter_Tick.calls (l c : Six) (g : Nat) (w : World) (hI : IsM 113 w g l c) :
    Calls Try.prog 27 #[.pointer (some ⟨g, 0, none⟩)] w fun e w' => (∃ v, e = .returned v) ∧ IsM 113 w' g l (0, 0, 0, 0, 0, c.2.2.2.2.2) ∧ Keeps w w' (One g) := by
  have hc0 : w.cell? ⟨g, 6, none⟩ = some (.int .i64 c.1) := hI.cell 6
  have hf0 : w.frozen? ⟨g, 6, none⟩ = false := blk_frozen hI 6
  have hc1 : w.cell? ⟨g, 7, none⟩ = some (.int .i64 c.2.1) := hI.cell 7
  have hf1 : w.frozen? ⟨g, 7, none⟩ = false := blk_frozen hI 7
  have hc2 : w.cell? ⟨g, 8, none⟩ = some (.int .i64 c.2.2.1) := hI.cell 8
  have hf2 : w.frozen? ⟨g, 8, none⟩ = false := blk_frozen hI 8
  have hc3 : w.cell? ⟨g, 9, none⟩ = some (.int .i64 c.2.2.2.1) := hI.cell 9
  have hf3 : w.frozen? ⟨g, 9, none⟩ = false := blk_frozen hI 9
  have hc4 : w.cell? ⟨g, 10, none⟩ = some (.int .i64 c.2.2.2.2.1) := hI.cell 10
  have hf4 : w.frozen? ⟨g, 10, none⟩ = false := blk_frozen hI 10
  have hc5 : w.cell? ⟨g, 11, none⟩ = some (.int .i64 c.2.2.2.2.2) := hI.cell 11
  have hf5 : w.frozen? ⟨g, 11, none⟩ = false := blk_frozen hI 11
  have hcl : ∀ ty, (Builtin.clear_ #[22] ty #[.slice (some ⟨g, 6, none⟩) 5 6]).run Try.prog w = .ok (.tuple #[]) (w.setCells g 6 (List.replicate 5 (.int .i64 0))) := fun ty =>
    Lib.run_clear_slice w 22 3 ty (.int .i64 0) Try.underlying22 Try.zeroValue3 rfl rfl g 6 5 6 (by omega)
      (fun j hj => by have : j = 0 ∨ j = 1 ∨ j = 2 ∨ j = 3 ∨ j = 4 := by omega
                      rcases this with rfl | rfl | rfl | rfl | rfl <;> simp [hc0, hc1, hc2, hc3, hc4]) (fun j _ => blk_frozen hI (6 + j))
  simp only [List.replicate, World.setCells, Nat.reduceAdd] at hcl
  go_enter Try.func27, Try.ntmps27
  go_wp2
  go_end0
  refine ⟨⟨_, rfl⟩, ?_, ?_⟩
  · exact (((((((hI.put 0).1.put 0).2.1).put 0).2.2.1).put 0).2.2.2.1.put 0).2.2.2.2
  · exact ((((((Keeps.refl w (One g)).set (g := g) (Or.inl (rfl : g = g)) 6 (.int .i64 0)).set (g := g) (Or.inl (rfl : g = g)) 7 (.int .i64 0)).set (g := g) (Or.inl (rfl : g = g)) 8 (.int .i64 0)).set (g := g) (Or.inl (rfl : g = g)) 9 (.int .i64 0)).set (g := g) (Or.inl (rfl : g = g)) 10 (.int .i64 0))
set_option maxHeartbeats 4000000 in
set_option maxRecDepth 100000 in
theorem meter_Counts.nil (w : World) : Calls Try.prog 31 #[.pointer none] w fun e w' => e = .returned (.agg #[.int .i64 0, .int .i64 0, .int .i64 0, .int .i64 0, .int .i64 0, .int .i64 0]) ∧ Below w.heap.size w w' := by
  go_enter Try.func31, Try.ntmps31
  go_wp2
  refine bodyPost_ret (v := .agg #[.int .i64 0, .int .i64 0, .int .i64 0, .int .i64 0, .int .i64 0, .int .i64 0]) ?r0 rfl ?_
  case r0 => exact results_cell_row Try.results31 _ _ w.heap.size 30 _ (0, 0) _ rfl (blk_new _ _) Try.underlying30 rfl sz30
  exact ⟨rfl, below_alloc (Below.refl _ _) _⟩
set_option maxHeartbeats 4000000 in
set_option maxRecDepth 100000 in
theorem meter_Counts.calls (l c : Six) (g : Nat) (w : World) (hI : IsM 113 w g l c) :
    Calls Try.prog 31 #[.pointer (some ⟨g, 0, none⟩)] w fun e w' => e = .returned (.agg c.vals.toArray) ∧ Below w.heap.size w w' := by
  have hA : IsM 113 (w.alloc (.cells #[.int .i64 0, .int .i64 0, .int .i64 0, .int .i64 0, .int .i64 0, .int .i64 0] 30)) g l c := blk_alloc hI _
  have hc0 : (w.alloc (.cells #[.int .i64 0, .int .i64 0, .int .i64 0, .int .i64 0, .int .i64 0, .int .i64 0] 30)).cell? ⟨g, 6, none⟩ = some (.int .i64 c.1) := hA.cell 6
  have hf0 : (w.alloc (.cells #[.int .i64 0, .int .i64 0, .int .i64 0, .int .i64 0, .int .i64 0, .int .i64 0] 30)).frozen? ⟨g, 6, none⟩ = false := blk_frozen hA 6
  have hc1 : (w.alloc (.cells #[.int .i64 0, .int .i64 0, .int .i64 0, .int .i64 0, .int .i64 0, .int .i64 0] 30)).cell? ⟨g, 7, none⟩ = some (.int .i64 c.2.1) := hA.cell 7
  have hf1 : (w.alloc (.cells #[.int .i64 0, .int .i64 0, .int .i64 0, .int .i64 0, .int .i64 0, .int .i64 0] 30)).frozen? ⟨g, 7, none⟩ = false := blk_frozen hA 7
  have hc2 : (w.alloc (.cells #[.int .i64 0, .int .i64 0, .int .i64 0, .int .i64 0, .int .i64 0, .int .i64 0] 30)).cell? ⟨g, 8, none⟩ = some (.int .i64 c.2.2.1) := hA.cell 8
  have hf2 : (w.alloc (.cells #[.int .i64 0, .int .i64 0, .int .i64 0, .int .i64 0, .int .i64 0, .int .i64 0] 30)).frozen? ⟨g, 8, none⟩ = false := blk_frozen hA 8
  have hc3 : (w.alloc (.cells #[.int .i64 0, .int .i64 0, .int .i64 0, .int .i64 0, .int .i64 0, .int .i64 0] 30)).cell? ⟨g, 9, none⟩ = some (.int .i64 c.2.2.2.1) := hA.cell 9
  have hf3 : (w.alloc (.cells #[.int .i64 0, .int .i64 0, .int .i64 0, .int .i64 0, .int .i64 0, .int .i64 0] 30)).frozen? ⟨g, 9, none⟩ = false := blk_frozen hA 9
  have hc4 : (w.alloc (.cells #[.int .i64 0, .int .i64 0, .int .i64 0, .int .i64 0, .int .i64 0, .int .i64 0] 30)).cell? ⟨g, 10, none⟩ = some (.int .i64 c.2.2.2.2.1) := hA.cell 10
  have hf4 : (w.alloc (.cells #[.int .i64 0, .int .i64 0, .int .i64 0, .int .i64 0, .int .i64 0, .int .i64 0] 30)).frozen? ⟨g, 10, none⟩ = false := blk_frozen hA 10
  have hc5 : (w.alloc (.cells #[.int .i64 0, .int .i64 0, .int .i64 0, .int .i64 0, .int .i64 0, .int .i64 0] 30)).cell? ⟨g, 11, none⟩ = some (.int .i64 c.2.2.2.2.2) := hA.cell 11
  have hf5 : (w.alloc (.cells #[.int .i64 0, .int .i64 0, .int .i64 0, .int .i64 0, .int .i64 0, .int .i64 0] 30)).frozen? ⟨g, 11, none⟩ = false := blk_frozen hA 11
  go_enter Try.func31, Try.ntmps31
  go_wp2
  refine bodyPost_ret (v := .agg c.vals.toArray) ?r0 rfl ?_
  case r0 => exact results_cell_row Try.results31 _ _ w.heap.size 30 _ (0, 0) _ rfl (blk_new _ _) Try.underlying30 rfl sz30
  exact ⟨rfl, below_alloc (Below.refl _ _) _⟩
set_option maxHeartbeats 4000000 in
set_option maxRecDepth 100000 in
theorem meter_Clear.calls (l c : Six) (k : Int) (g : Nat) (w : World) (hI : IsM 113 w g l c) (h0 : 0 ≤ k) (h1 : k < 6) :
    Calls Try.prog 25 #[.pointer (some ⟨g, 0, none⟩), .int .i64 k] w fun e w' => e = .returned (.int .i64 0) ∧ IsM 113 w' g l (c.put k 0) ∧ Keeps w w' (One g) := by
  have : k = 0 ∨ k = 1 ∨ k = 2 ∨ k = 3 ∨ k = 4 ∨ k = 5 := by omega
  rcases this with rfl | rfl | rfl | rfl | rfl | rfl
  · skip
    have hc0 : w.cell? ⟨g, 6, none⟩ = some (.int .i64 c.1) := hI.cell 6
    have hl0 : w.cell? ⟨g, 0, none⟩ = some (.int .i64 l.1) := hI.cell 0
    have hf0 : w.frozen? ⟨g, 6, none⟩ = false := blk_frozen hI 6
    go_enter Try.func25, Try.ntmps25
    go_wp2_with (first | (go_at_call 79; refine (meter_wrong.calls (some ⟨g, 0, none⟩) 0 false _ rfl).mono ?_; rintro e_ w_ ⟨rfl, nd, rfl⟩))
    go_ret
    exact ⟨rfl, blk_put (w := w.drewN nd) hI 6 _ rfl, Keeps.one _ _ _ _ _⟩
  · skip
    have hc0 : w.cell? ⟨g, 7, none⟩ = some (.int .i64 c.2.1) := hI.cell 7
    have hl0 : w.cell? ⟨g, 1, none⟩ = some (.int .i64 l.2.1) := hI.cell 1
    have hf0 : w.frozen? ⟨g, 7, none⟩ = false := blk_frozen hI 7
    go_enter Try.func25, Try.ntmps25
    go_wp2_with (first | (go_at_call 79; refine (meter_wrong.calls (some ⟨g, 0, none⟩) 1 false _ rfl).mono ?_; rintro e_ w_ ⟨rfl, nd, rfl⟩))
    go_ret
    exact ⟨rfl, blk_put (w := w.drewN nd) hI 7 _ rfl, Keeps.one _ _ _ _ _⟩
  · skip
    have hc0 : w.cell? ⟨g, 8, none⟩ = some (.int .i64 c.2.2.1) := hI.cell 8
    have hl0 : w.cell? ⟨g, 2, none⟩ = some (.int .i64 l.2.2.1) := hI.cell 2
    have hf0 : w.frozen? ⟨g, 8, none⟩ = false := blk_frozen hI 8
    go_enter Try.func25, Try.ntmps25
    go_wp2_with (first | (go_at_call 79; refine (meter_wrong.calls (some ⟨g, 0, none⟩) 2 false _ rfl).mono ?_; rintro e_ w_ ⟨rfl, nd, rfl⟩))
    go_ret
    exact ⟨rfl, blk_put (w := w.drewN nd) hI 8 _ rfl, Keeps.one _ _ _ _ _⟩
  · skip
    have hc0 : w.cell? ⟨g, 9, none⟩ = some (.int .i64 c.2.2.2.1) := hI.cell 9
    have hl0 : w.cell? ⟨g, 3, none⟩ = some (.int .i64 l.2.2.2.1) := hI.cell 3
    have hf0 : w.frozen? ⟨g, 9, none⟩ = false := blk_frozen hI 9
    go_enter Try.func25, Try.ntmps25
    go_wp2_with (first | (go_at_call 79; refine (meter_wrong.calls (some ⟨g, 0, none⟩) 3 false _ rfl).mono ?_; rintro e_ w_ ⟨rfl, nd, rfl⟩))
    go_ret
    exact ⟨rfl, blk_put (w := w.drewN nd) hI 9 _ rfl, Keeps.one _ _ _ _ _⟩
  · skip
    have hc0 : w.cell? ⟨g, 10, none⟩ = some (.int .i64 c.2.2.2.2.1) := hI.cell 10
    have hl0 : w.cell? ⟨g, 4, none⟩ = some (.int .i64 l.2.2.2.2.1) := hI.cell 4
    have hf0 : w.frozen? ⟨g, 10, none⟩ = false := blk_frozen hI 10
    go_enter Try.func25, Try.ntmps25
    go_wp2_with (first | (go_at_call 79; refine (meter_wrong.calls (some ⟨g, 0, none⟩) 4 false _ rfl).mono ?_; rintro e_ w_ ⟨rfl, nd, rfl⟩))
    go_ret
    exact ⟨rfl, blk_put (w := w.drewN nd) hI 10 _ rfl, Keeps.one _ _ _ _ _⟩
  · skip
    have hc0 : w.cell? ⟨g, 11, none⟩ = some (.int .i64 c.2.2.2.2.2) := hI.cell 11
    have hl0 : w.cell? ⟨g, 5, none⟩ = some (.int .i64 l.2.2.2.2.2) := hI.cell 5
    have hf0 : w.frozen? ⟨g, 11, none⟩ = false := blk_frozen hI 11
    go_enter Try.func25, Try.ntmps25
    go_wp2_with (first | (go_at_call 79; refine (meter_wrong.calls (some ⟨g, 0, none⟩) 5 false _ rfl).mono ?_; rintro e_ w_ ⟨rfl, nd, rfl⟩))
    go_ret
    exact ⟨rfl, blk_put (w := w.drewN nd) hI 11 _ rfl, Keeps.one _ _ _ _ _⟩
set_option maxHeartbeats 4000000 in
set_option maxRecDepth 100000 in
theorem meter_Clear.bad (p : Option Addr) (k : Int) (w : World) (h : (p.isNone || decide (k < 0) || decide (6 ≤ k)) = true) :
    Calls Try.prog 25 #[.pointer p, .int .i64 k] w fun e w' => e = .returned (.int .i64 1) ∧ ∃ nd, w' = w.drewN nd := by
  go_enter Try.func25, Try.ntmps25
  go_wp2_with (go_at_call 79; refine (meter_wrong.calls p k true _ h).mono ?_; rintro e_ w_ ⟨rfl, nd, rfl⟩)
  go_ret
  exact ⟨rfl, _, rfl⟩
set_option maxHeartbeats 4000000 in
set_option maxRecDepth 100000 in
theorem meter_Count.calls (l c : Six) (k : Int) (g : Nat) (w : World) (hI : IsM 113 w g l c) (hm : Mays l c) (h0 : 0 ≤ k) (h1 : k < 6) :
    Calls Try.prog 29 #[.pointer (some ⟨g, 0, none⟩), .int .i64 k] w fun e w' => e = .returned (.tuple #[.bool (decide (l.at_ k < more (l.at_ k) (c.at_ k))), .int .i64 0]) ∧ IsM 113 w' g l (c.put k (more (l.at_ k) (c.at_ k))) ∧ Keeps w w' (One g) := by
  obtain ⟨m0, m1, m2, m3, m4, m5⟩ := hm
  have : k = 0 ∨ k = 1 ∨ k = 2 ∨ k = 3 ∨ k = 4 ∨ k = 5 := by omega
  rcases this with rfl | rfl | rfl | rfl | rfl | rfl
  · have ea : l.at_ 0 = l.1 := rfl
    have eb : c.at_ 0 = c.1 := rfl
    rw [ea, eb]
    clear ea eb
    unfold may at m0 m1 m2 m3 m4 m5
    by_cases cc : c.1 ≤ l.1
    · have e1 : more l.1 c.1 = c.1 + 1 := if_pos cc
      have e2 : wrap64 (c.1 + 1) = c.1 + 1 := by unfold wrap64; omega
      rw [e1]
      clear e1
      have hc0 : w.cell? ⟨g, 6, none⟩ = some (.int .i64 c.1) := hI.cell 6
      have hl0 : w.cell? ⟨g, 0, none⟩ = some (.int .i64 l.1) := hI.cell 0
      have hf0 : w.frozen? ⟨g, 6, none⟩ = false := blk_frozen hI 6
      go_enter Try.func29, Try.ntmps29
      go_wp2_with (first | (go_at_call 79; refine (meter_wrong.calls (some ⟨g, 0, none⟩) 0 false _ rfl).mono ?_; rintro e_ w_ ⟨rfl, nd, rfl⟩))
      go_region
      go_wp2
      go_region
      go_wp2
      go_ret2
      exact ⟨rfl, blk_put (w := w.drewN _) hI 6 _ rfl, (Keeps.one w _ g _ _).drew⟩
    · have e3 : c.1 = l.1 + 1 := by omega
      have e1 : more l.1 c.1 = l.1 + 1 := (if_neg cc).trans e3
      have e2 : wrap64 (l.1 + 1) = l.1 + 1 := by unfold wrap64; omega
      rw [e1]
      clear e1
      have hc0 : w.cell? ⟨g, 6, none⟩ = some (.int .i64 c.1) := hI.cell 6
      have hl0 : w.cell? ⟨g, 0, none⟩ = some (.int .i64 l.1) := hI.cell 0
      have hf0 : w.frozen? ⟨g, 6, none⟩ = false := blk_frozen hI 6
      go_enter Try.func29, Try.ntmps29
      go_wp2_with (first | (go_at_call 79; refine (meter_wrong.calls (some ⟨g, 0, none⟩) 0 false _ rfl).mono ?_; rintro e_ w_ ⟨rfl, nd, rfl⟩))
      go_region
      go_wp2
      go_region
      go_wp2
      go_ret2
      exact ⟨rfl, blk_put (w := w.drewN _) hI 6 _ rfl, (Keeps.one w _ g _ _).drew⟩
  · have ea : l.at_ 1 = l.2.1 := rfl
    have eb : c.at_ 1 = c.2.1 := rfl
    rw [ea, eb]
    clear ea eb
    unfold may at m0 m1 m2 m3 m4 m5
    by_cases cc : c.2.1 ≤ l.2.1
    · have e1 : more l.2.1 c.2.1 = c.2.1 + 1 := if_pos cc
      have e2 : wrap64 (c.2.1 + 1) = c.2.1 + 1 := by unfold wrap64; omega
      rw [e1]
      clear e1
      have hc0 : w.cell? ⟨g, 7, none⟩ = some (.int .i64 c.2.1) := hI.cell 7
      have hl0 : w.cell? ⟨g, 1, none⟩ = some (.int .i64 l.2.1) := hI.cell 1
      have hf0 : w.frozen? ⟨g, 7, none⟩ = false := blk_frozen hI 7
      go_enter Try.func29, Try.ntmps29
      go_wp2_with (first | (go_at_call 79; refine (meter_wrong.calls (some ⟨g, 0, none⟩) 1 false _ rfl).mono ?_; rintro e_ w_ ⟨rfl, nd, rfl⟩))
      go_region
      go_wp2
      go_region
      go_wp2
      go_ret2
      exact ⟨rfl, blk_put (w := w.drewN _) hI 7 _ rfl, (Keeps.one w _ g _ _).drew⟩
    · have e3 : c.2.1 = l.2.1 + 1 := by omega
      have e1 : more l.2.1 c.2.1 = l.2.1 + 1 := (if_neg cc).trans e3
      have e2 : wrap64 (l.2.1 + 1) = l.2.1 + 1 := by unfold wrap64; omega
      rw [e1]
      clear e1
      have hc0 : w.cell? ⟨g, 7, none⟩ = some (.int .i64 c.2.1) := hI.cell 7
      have hl0 : w.cell? ⟨g, 1, none⟩ = some (.int .i64 l.2.1) := hI.cell 1
      have hf0 : w.frozen? ⟨g, 7, none⟩ = false := blk_frozen hI 7
      go_enter Try.func29, Try.ntmps29
      go_wp2_with (first | (go_at_call 79; refine (meter_wrong.calls (some ⟨g, 0, none⟩) 1 false _ rfl).mono ?_; rintro e_ w_ ⟨rfl, nd, rfl⟩))
      go_region
      go_wp2
      go_region
      go_wp2
      go_ret2
      exact ⟨rfl, blk_put (w := w.drewN _) hI 7 _ rfl, (Keeps.one w _ g _ _).drew⟩
  · have ea : l.at_ 2 = l.2.2.1 := rfl
    have eb : c.at_ 2 = c.2.2.1 := rfl
    rw [ea, eb]
    clear ea eb
    unfold may at m0 m1 m2 m3 m4 m5
    by_cases cc : c.2.2.1 ≤ l.2.2.1
    · have e1 : more l.2.2.1 c.2.2.1 = c.2.2.1 + 1 := if_pos cc
      have e2 : wrap64 (c.2.2.1 + 1) = c.2.2.1 + 1 := by unfold wrap64; omega
      rw [e1]
      clear e1
      have hc0 : w.cell? ⟨g, 8, none⟩ = some (.int .i64 c.2.2.1) := hI.cell 8
      have hl0 : w.cell? ⟨g, 2, none⟩ = some (.int .i64 l.2.2.1) := hI.cell 2
      have hf0 : w.frozen? ⟨g, 8, none⟩ = false := blk_frozen hI 8
      go_enter Try.func29, Try.ntmps29
      go_wp2_with (first | (go_at_call 79; refine (meter_wrong.calls (some ⟨g, 0, none⟩) 2 false _ rfl).mono ?_; rintro e_ w_ ⟨rfl, nd, rfl⟩))
      go_region
      go_wp2
      go_region
      go_wp2
      go_ret2
      exact ⟨rfl, blk_put (w := w.drewN _) hI 8 _ rfl, (Keeps.one w _ g _ _).drew⟩
    · have e3 : c.2.2.1 = l.2.2.1 + 1 := by omega
      have e1 : more l.2.2.1 c.2.2.1 = l.2.2.1 + 1 := (if_neg cc).trans e3
      have e2 : wrap64 (l.2.2.1 + 1) = l.2.2.1 + 1 := by unfold wrap64; omega
      rw [e1]
      clear e1
      have hc0 : w.cell? ⟨g, 8, none⟩ = some (.int .i64 c.2.2.1) := hI.cell 8
      have hl0 : w.cell? ⟨g, 2, none⟩ = some (.int .i64 l.2.2.1) := hI.cell 2
      have hf0 : w.frozen? ⟨g, 8, none⟩ = false := blk_frozen hI 8
      go_enter Try.func29, Try.ntmps29
      go_wp2_with (first | (go_at_call 79; refine (meter_wrong.calls (some ⟨g, 0, none⟩) 2 false _ rfl).mono ?_; rintro e_ w_ ⟨rfl, nd, rfl⟩))
      go_region
      go_wp2
      go_region
      go_wp2
      go_ret2
      exact ⟨rfl, blk_put (w := w.drewN _) hI 8 _ rfl, (Keeps.one w _ g _ _).drew⟩
  · have ea : l.at_ 3 = l.2.2.2.1 := rfl
    have eb : c.at_ 3 = c.2.2.2.1 := rfl
    rw [ea, eb]
    clear ea eb
    unfold may at m0 m1 m2 m3 m4 m5
    by_cases cc : c.2.2.2.1 ≤ l.2.2.2.1
    · have e1 : more l.2.2.2.1 c.2.2.2.1 = c.2.2.2.1 + 1 := if_pos cc
      have e2 : wrap64 (c.2.2.2.1 + 1) = c.2.2.2.1 + 1 := by unfold wrap64; omega
      rw [e1]
      clear e1
      have hc0 : w.cell? ⟨g, 9, none⟩ = some (.int .i64 c.2.2.2.1) := hI.cell 9
      have hl0 : w.cell? ⟨g, 3, none⟩ = some (.int .i64 l.2.2.2.1) := hI.cell 3
      have hf0 : w.frozen? ⟨g, 9, none⟩ = false := blk_frozen hI 9
      go_enter Try.func29, Try.ntmps29
      go_wp2_with (first | (go_at_call 79; refine (meter_wrong.calls (some ⟨g, 0, none⟩) 3 false _ rfl).mono ?_; rintro e_ w_ ⟨rfl, nd, rfl⟩))
      go_region
      go_wp2
      go_region
      go_wp2
      go_ret2
      exact ⟨rfl, blk_put (w := w.drewN _) hI 9 _ rfl, (Keeps.one w _ g _ _).drew⟩
    · have e3 : c.2.2.2.1 = l.2.2.2.1 + 1 := by omega
      have e1 : more l.2.2.2.1 c.2.2.2.1 = l.2.2.2.1 + 1 := (if_neg cc).trans e3
      have e2 : wrap64 (l.2.2.2.1 + 1) = l.2.2.2.1 + 1 := by unfold wrap64; omega
      rw [e1]
      clear e1
      have hc0 : w.cell? ⟨g, 9, none⟩ = some (.int .i64 c.2.2.2.1) := hI.cell 9
      have hl0 : w.cell? ⟨g, 3, none⟩ = some (.int .i64 l.2.2.2.1) := hI.cell 3
      have hf0 : w.frozen? ⟨g, 9, none⟩ = false := blk_frozen hI 9
      go_enter Try.func29, Try.ntmps29
      go_wp2_with (first | (go_at_call 79; refine (meter_wrong.calls (some ⟨g, 0, none⟩) 3 false _ rfl).mono ?_; rintro e_ w_ ⟨rfl, nd, rfl⟩))
      go_region
      go_wp2
      go_region
      go_wp2
      go_ret2
      exact ⟨rfl, blk_put (w := w.drewN _) hI 9 _ rfl, (Keeps.one w _ g _ _).drew⟩
  · have ea : l.at_ 4 = l.2.2.2.2.1 := rfl
    have eb : c.at_ 4 = c.2.2.2.2.1 := rfl
    rw [ea, eb]
    clear ea eb
    unfold may at m0 m1 m2 m3 m4 m5
    by_cases cc : c.2.2.2.2.1 ≤ l.2.2.2.2.1
    · have e1 : more l.2.2.2.2.1 c.2.2.2.2.1 = c.2.2.2.2.1 + 1 := if_pos cc
      have e2 : wrap64 (c.2.2.2.2.1 + 1) = c.2.2.2.2.1 + 1 := by unfold wrap64; omega
      rw [e1]
      clear e1
      have hc0 : w.cell? ⟨g, 10, none⟩ = some (.int .i64 c.2.2.2.2.1) := hI.cell 10
      have hl0 : w.cell? ⟨g, 4, none⟩ = some (.int .i64 l.2.2.2.2.1) := hI.cell 4
      have hf0 : w.frozen? ⟨g, 10, none⟩ = false := blk_frozen hI 10
      go_enter Try.func29, Try.ntmps29
      go_wp2_with (first | (go_at_call 79; refine (meter_wrong.calls (some ⟨g, 0, none⟩) 4 false _ rfl).mono ?_; rintro e_ w_ ⟨rfl, nd, rfl⟩))
      go_region
      go_wp2
      go_region
      go_wp2
      go_ret2
      exact ⟨rfl, blk_put (w := w.drewN _) hI 10 _ rfl, (Keeps.one w _ g _ _).drew⟩
    · have e3 : c.2.2.2.2.1 = l.2.2.2.2.1 + 1 := by omega
      have e1 : more l.2.2.2.2.1 c.2.2.2.2.1 = l.2.2.2.2.1 + 1 := (if_neg cc).trans e3
      have e2 : wrap64 (l.2.2.2.2.1 + 1) = l.2.2.2.2.1 + 1 := by unfold wrap64; omega
      rw [e1]
      clear e1
      have hc0 : w.cell? ⟨g, 10, none⟩ = some (.int .i64 c.2.2.2.2.1) := hI.cell 10
      have hl0 : w.cell? ⟨g, 4, none⟩ = some (.int .i64 l.2.2.2.2.1) := hI.cell 4
      have hf0 : w.frozen? ⟨g, 10, none⟩ = false := blk_frozen hI 10
      go_enter Try.func29, Try.ntmps29
      go_wp2_with (first | (go_at_call 79; refine (meter_wrong.calls (some ⟨g, 0, none⟩) 4 false _ rfl).mono ?_; rintro e_ w_ ⟨rfl, nd, rfl⟩))
      go_region
      go_wp2
      go_region
      go_wp2
      go_ret2
      exact ⟨rfl, blk_put (w := w.drewN _) hI 10 _ rfl, (Keeps.one w _ g _ _).drew⟩
  · have ea : l.at_ 5 = l.2.2.2.2.2 := rfl
    have eb : c.at_ 5 = c.2.2.2.2.2 := rfl
    rw [ea, eb]
    clear ea eb
    unfold may at m0 m1 m2 m3 m4 m5
    by_cases cc : c.2.2.2.2.2 ≤ l.2.2.2.2.2
    · have e1 : more l.2.2.2.2.2 c.2.2.2.2.2 = c.2.2.2.2.2 + 1 := if_pos cc
      have e2 : wrap64 (c.2.2.2.2.2 + 1) = c.2.2.2.2.2 + 1 := by unfold wrap64; omega
      rw [e1]
      clear e1
      have hc0 : w.cell? ⟨g, 11, none⟩ = some (.int .i64 c.2.2.2.2.2) := hI.cell 11
      have hl0 : w.cell? ⟨g, 5, none⟩ = some (.int .i64 l.2.2.2.2.2) := hI.cell 5
      have hf0 : w.frozen? ⟨g, 11, none⟩ = false := blk_frozen hI 11
      go_enter Try.func29, Try.ntmps29
      go_wp2_with (first | (go_at_call 79; refine (meter_wrong.calls (some ⟨g, 0, none⟩) 5 false _ rfl).mono ?_; rintro e_ w_ ⟨rfl, nd, rfl⟩))
      go_region
      go_wp2
      go_region
      go_wp2
      go_ret2
      exact ⟨rfl, blk_put (w := w.drewN _) hI 11 _ rfl, (Keeps.one w _ g _ _).drew⟩
    · have e3 : c.2.2.2.2.2 = l.2.2.2.2.2 + 1 := by omega
      have e1 : more l.2.2.2.2.2 c.2.2.2.2.2 = l.2.2.2.2.2 + 1 := (if_neg cc).trans e3
      have e2 : wrap64 (l.2.2.2.2.2 + 1) = l.2.2.2.2.2 + 1 := by unfold wrap64; omega
      rw [e1]
      clear e1
      have hc0 : w.cell? ⟨g, 11, none⟩ = some (.int .i64 c.2.2.2.2.2) := hI.cell 11
      have hl0 : w.cell? ⟨g, 5, none⟩ = some (.int .i64 l.2.2.2.2.2) := hI.cell 5
      have hf0 : w.frozen? ⟨g, 11, none⟩ = false := blk_frozen hI 11
      go_enter Try.func29, Try.ntmps29
      go_wp2_with (first | (go_at_call 79; refine (meter_wrong.calls (some ⟨g, 0, none⟩) 5 false _ rfl).mono ?_; rintro e_ w_ ⟨rfl, nd, rfl⟩))
      go_region
      go_wp2
      go_region
      go_wp2
      go_ret2
      exact ⟨rfl, blk_put (w := w.drewN _) hI 11 _ rfl, (Keeps.one w _ g _ _).drew⟩
set_option maxHeartbeats 4000000 in
set_option maxRecDepth 100000 in
theorem r18_Clear.calls (l c : Six) (k : Int) (g : Nat) (w : World) (hI : IsM 46 w g l c) (h0 : 0 ≤ k) (h1 : k < 6) :
    Calls Try.prog 26 #[.pointer (some ⟨g, 0, none⟩), .int .i64 k] w fun e w' => e = .returned (.int .i64 0) ∧ IsM 46 w' g l (c.put k 0) ∧ Keeps w w' (One g) := by
  have : k = 0 ∨ k = 1 ∨ k = 2 ∨ k = 3 ∨ k = 4 ∨ k = 5 := by omega
  rcases this with rfl | rfl | rfl | rfl | rfl | rfl
  · skip
    have hc0 : w.cell? ⟨g, 6, none⟩ = some (.int .i64 c.1) := hI.cell 6
    have hl0 : w.cell? ⟨g, 0, none⟩ = some (.int .i64 l.1) := hI.cell 0
    have hf0 : w.frozen? ⟨g, 6, none⟩ = false := blk_frozen hI 6
    go_enter Try.func26, Try.ntmps26
    go_wp2
    go_ret
    exact ⟨rfl, blk_put hI 6 _ rfl, Keeps.set (g := g) (Keeps.refl w (One g)) (Or.inl (rfl : g = g)) _ _⟩
  · skip
    have hc0 : w.cell? ⟨g, 7, none⟩ = some (.int .i64 c.2.1) := hI.cell 7
    have hl0 : w.cell? ⟨g, 1, none⟩ = some (.int .i64 l.2.1) := hI.cell 1
    have hf0 : w.frozen? ⟨g, 7, none⟩ = false := blk_frozen hI 7
    go_enter Try.func26, Try.ntmps26
    go_wp2
    go_ret
    exact ⟨rfl, blk_put hI 7 _ rfl, Keeps.set (g := g) (Keeps.refl w (One g)) (Or.inl (rfl : g = g)) _ _⟩
  · skip
    have hc0 : w.cell? ⟨g, 8, none⟩ = some (.int .i64 c.2.2.1) := hI.cell 8
    have hl0 : w.cell? ⟨g, 2, none⟩ = some (.int .i64 l.2.2.1) := hI.cell 2
    have hf0 : w.frozen? ⟨g, 8, none⟩ = false := blk_frozen hI 8
    go_enter Try.func26, Try.ntmps26
    go_wp2
    go_ret
    exact ⟨rfl, blk_put hI 8 _ rfl, Keeps.set (g := g) (Keeps.refl w (One g)) (Or.inl (rfl : g = g)) _ _⟩
  · skip
    have hc0 : w.cell? ⟨g, 9, none⟩ = some (.int .i64 c.2.2.2.1) := hI.cell 9
    have hl0 : w.cell? ⟨g, 3, none⟩ = some (.int .i64 l.2.2.2.1) := hI.cell 3
    have hf0 : w.frozen? ⟨g, 9, none⟩ = false := blk_frozen hI 9
    go_enter Try.func26, Try.ntmps26
    go_wp2
    go_ret
    exact ⟨rfl, blk_put hI 9 _ rfl, Keeps.set (g := g) (Keeps.refl w (One g)) (Or.inl (rfl : g = g)) _ _⟩
  · skip
    have hc0 : w.cell? ⟨g, 10, none⟩ = some (.int .i64 c.2.2.2.2.1) := hI.cell 10
    have hl0 : w.cell? ⟨g, 4, none⟩ = some (.int .i64 l.2.2.2.2.1) := hI.cell 4
    have hf0 : w.frozen? ⟨g, 10, none⟩ = false := blk_frozen hI 10
    go_enter Try.func26, Try.ntmps26
    go_wp2
    go_ret
    exact ⟨rfl, blk_put hI 10 _ rfl, Keeps.set (g := g) (Keeps.refl w (One g)) (Or.inl (rfl : g = g)) _ _⟩
  · skip
    have hc0 : w.cell? ⟨g, 11, none⟩ = some (.int .i64 c.2.2.2.2.2) := hI.cell 11
    have hl0 : w.cell? ⟨g, 5, none⟩ = some (.int .i64 l.2.2.2.2.2) := hI.cell 5
    have hf0 : w.frozen? ⟨g, 11, none⟩ = false := blk_frozen hI 11
    go_enter Try.func26, Try.ntmps26
    go_wp2
    go_ret
    exact ⟨rfl, blk_put hI 11 _ rfl, Keeps.set (g := g) (Keeps.refl w (One g)) (Or.inl (rfl : g = g)) _ _⟩
set_option maxHeartbeats 4000000 in
set_option maxRecDepth 100000 in
theorem r18_Clear.bad (p : Option Addr) (k : Int) (w : World) (h : k < 0 ∨ 5 < k) :
    Calls Try.prog 26 #[.pointer p, .int .i64 k] w fun e w' => e = .returned (.int .i64 1) ∧ w' = w := by
  by_cases c1 : k < 0
  · have b1 : decide (k < 0) = true := decide_eq_true c1
    go_enter Try.func26, Try.ntmps26
    go_wp2
    go_ret
    exact ⟨rfl, rfl⟩
  · have b1 : decide (k < 0) = false := decide_eq_false c1
    have b2 : decide (5 < k) = true := decide_eq_true (by omega)
    go_enter Try.func26, Try.ntmps26
    go_wp2
    go_ret
    exact ⟨rfl, rfl⟩
set_option maxHeartbeats 4000000 in
set_option maxRecDepth 100000 in
theorem r18_Count.calls (l c : Six) (k : Int) (g : Nat) (w : World) (hI : IsM 46 w g l c) (hm : Mays l c) (h0 : 0 ≤ k) (h1 : k < 6) :
    Calls Try.prog 30 #[.pointer (some ⟨g, 0, none⟩), .int .i64 k] w fun e w' => e = .returned (.tuple #[.bool (decide (l.at_ k < more (l.at_ k) (c.at_ k))), .int .i64 0]) ∧ IsM 46 w' g l (c.put k (more (l.at_ k) (c.at_ k))) ∧ Keeps w w' (One g) := by
  obtain ⟨m0, m1, m2, m3, m4, m5⟩ := hm
  have : k = 0 ∨ k = 1 ∨ k = 2 ∨ k = 3 ∨ k = 4 ∨ k = 5 := by omega
  rcases this with rfl | rfl | rfl | rfl | rfl | rfl
  · have ea : l.at_ 0 = l.1 := rfl
    have eb : c.at_ 0 = c.1 := rfl
    rw [ea, eb]
    clear ea eb
    unfold may at m0 m1 m2 m3 m4 m5
    have hc0 : w.cell? ⟨g, 6, none⟩ = some (.int .i64 c.1) := hI.cell 6
    have hl0 : w.cell? ⟨g, 0, none⟩ = some (.int .i64 l.1) := hI.cell 0
    have hf0 : w.frozen? ⟨g, 6, none⟩ = false := blk_frozen hI 6
    by_cases cc : c.1 ≤ l.1
    · have e1 : more l.1 c.1 = c.1 + 1 := if_pos cc
      have e2 : wrap64 (c.1 + 1) = c.1 + 1 := by unfold wrap64; omega
      have b1 : decide (c.1 ≤ l.1) = true := decide_eq_true cc
      rw [e1]
      clear e1
      go_enter Try.func30, Try.ntmps30
      go_wp2
      go_region
      go_wp2
      go_region
      go_wp2
      go_region
      go_wp2
      go_ret2
      exact ⟨rfl, blk_put (w := w.drewN 2) hI 6 _ rfl, (Keeps.one w 2 g _ _).drew⟩
    · have e1 : more l.1 c.1 = c.1 := if_neg cc
      have b1 : decide (c.1 ≤ l.1) = false := decide_eq_false cc
      rw [e1]
      clear e1
      go_enter Try.func30, Try.ntmps30
      go_wp2
      go_region
      go_wp2
      go_region
      go_wp2
      go_ret2
      exact ⟨by rw [decide_eq_true (by omega)]; rfl, hI, (Keeps.refl w (One g)).drew.drew⟩
  · have ea : l.at_ 1 = l.2.1 := rfl
    have eb : c.at_ 1 = c.2.1 := rfl
    rw [ea, eb]
    clear ea eb
    unfold may at m0 m1 m2 m3 m4 m5
    have hc0 : w.cell? ⟨g, 7, none⟩ = some (.int .i64 c.2.1) := hI.cell 7
    have hl0 : w.cell? ⟨g, 1, none⟩ = some (.int .i64 l.2.1) := hI.cell 1
    have hf0 : w.frozen? ⟨g, 7, none⟩ = false := blk_frozen hI 7
    by_cases cc : c.2.1 ≤ l.2.1
    · have e1 : more l.2.1 c.2.1 = c.2.1 + 1 := if_pos cc
      have e2 : wrap64 (c.2.1 + 1) = c.2.1 + 1 := by unfold wrap64; omega
      have b1 : decide (c.2.1 ≤ l.2.1) = true := decide_eq_true cc
      rw [e1]
      clear e1
      go_enter Try.func30, Try.ntmps30
      go_wp2
      go_region
      go_wp2
      go_region
      go_wp2
      go_region
      go_wp2
      go_ret2
      exact ⟨rfl, blk_put (w := w.drewN 2) hI 7 _ rfl, (Keeps.one w 2 g _ _).drew⟩
    · have e1 : more l.2.1 c.2.1 = c.2.1 := if_neg cc
      have b1 : decide (c.2.1 ≤ l.2.1) = false := decide_eq_false cc
      rw [e1]
      clear e1
      go_enter Try.func30, Try.ntmps30
      go_wp2
      go_region
      go_wp2
      go_region
      go_wp2
      go_ret2
      exact ⟨by rw [decide_eq_true (by omega)]; rfl, hI, (Keeps.refl w (One g)).drew.drew⟩
  · have ea : l.at_ 2 = l.2.2.1 := rfl
    have eb : c.at_ 2 = c.2.2.1 := rfl
    rw [ea, eb]
    clear ea eb
    unfold may at m0 m1 m2 m3 m4 m5
    have hc0 : w.cell? ⟨g, 8, none⟩ = some (.int .i64 c.2.2.1) := hI.cell 8
    have hl0 : w.cell? ⟨g, 2, none⟩ = some (.int .i64 l.2.2.1) := hI.cell 2
    have hf0 : w.frozen? ⟨g, 8, none⟩ = false := blk_frozen hI 8
    by_cases cc : c.2.2.1 ≤ l.2.2.1
    · have e1 : more l.2.2.1 c.2.2.1 = c.2.2.1 + 1 := if_pos cc
      have e2 : wrap64 (c.2.2.1 + 1) = c.2.2.1 + 1 := by unfold wrap64; omega
      have b1 : decide (c.2.2.1 ≤ l.2.2.1) = true := decide_eq_true cc
      rw [e1]
      clear e1
      go_enter Try.func30, Try.ntmps30
      go_wp2
      go_region
      go_wp2
      go_region
      go_wp2
      go_region
      go_wp2
      go_ret2
      exact ⟨rfl, blk_put (w := w.drewN 2) hI 8 _ rfl, (Keeps.one w 2 g _ _).drew⟩
    · have e1 : more l.2.2.1 c.2.2.1 = c.2.2.1 := if_neg cc
      have b1 : decide (c.2.2.1 ≤ l.2.2.1) = false := decide_eq_false cc
      rw [e1]
      clear e1
      go_enter Try.func30, Try.ntmps30
      go_wp2
      go_region
      go_wp2
      go_region
      go_wp2
      go_ret2
      exact ⟨by rw [decide_eq_true (by omega)]; rfl, hI, (Keeps.refl w (One g)).drew.drew⟩
  · have ea : l.at_ 3 = l.2.2.2.1 := rfl
    have eb : c.at_ 3 = c.2.2.2.1 := rfl
    rw [ea, eb]
    clear ea eb
    unfold may at m0 m1 m2 m3 m4 m5
    have hc0 : w.cell? ⟨g, 9, none⟩ = some (.int .i64 c.2.2.2.1) := hI.cell 9
    have hl0 : w.cell? ⟨g, 3, none⟩ = some (.int .i64 l.2.2.2.1) := hI.cell 3
    have hf0 : w.frozen? ⟨g, 9, none⟩ = false := blk_frozen hI 9
    by_cases cc : c.2.2.2.1 ≤ l.2.2.2.1
    · have e1 : more l.2.2.2.1 c.2.2.2.1 = c.2.2.2.1 + 1 := if_pos cc
      have e2 : wrap64 (c.2.2.2.1 + 1) = c.2.2.2.1 + 1 := by unfold wrap64; omega
      have b1 : decide (c.2.2.2.1 ≤ l.2.2.2.1) = true := decide_eq_true cc
      rw [e1]
      clear e1
      go_enter Try.func30, Try.ntmps30
      go_wp2
      go_region
      go_wp2
      go_region
      go_wp2
      go_region
      go_wp2
      go_ret2
      exact ⟨rfl, blk_put (w := w.drewN 2) hI 9 _ rfl, (Keeps.one w 2 g _ _).drew⟩
    · have e1 : more l.2.2.2.1 c.2.2.2.1 = c.2.2.2.1 := if_neg cc
      have b1 : decide (c.2.2.2.1 ≤ l.2.2.2.1) = false := decide_eq_false cc
      rw [e1]
      clear e1
      go_enter Try.func30, Try.ntmps30
      go_wp2
      go_region
      go_wp2
      go_region
      go_wp2
      go_ret2
      exact ⟨by rw [decide_eq_true (by omega)]; rfl, hI, (Keeps.refl w (One g)).drew.drew⟩
  · have ea : l.at_ 4 = l.2.2.2.2.1 := rfl
    have eb : c.at_ 4 = c.2.2.2.2.1 := rfl
    rw [ea, eb]
    clear ea eb
    unfold may at m0 m1 m2 m3 m4 m5
    have hc0 : w.cell? ⟨g, 10, none⟩ = some (.int .i64 c.2.2.2.2.1) := hI.cell 10
    have hl0 : w.cell? ⟨g, 4, none⟩ = some (.int .i64 l.2.2.2.2.1) := hI.cell 4
    have hf0 : w.frozen? ⟨g, 10, none⟩ = false := blk_frozen hI 10
    by_cases cc : c.2.2.2.2.1 ≤ l.2.2.2.2.1
    · have e1 : more l.2.2.2.2.1 c.2.2.2.2.1 = c.2.2.2.2.1 + 1 := if_pos cc
      have e2 : wrap64 (c.2.2.2.2.1 + 1) = c.2.2.2.2.1 + 1 := by unfold wrap64; omega
      have b1 : decide (c.2.2.2.2.1 ≤ l.2.2.2.2.1) = true := decide_eq_true cc
      rw [e1]
      clear e1
      go_enter Try.func30, Try.ntmps30
      go_wp2
      go_region
      go_wp2
      go_region
      go_wp2
      go_region
      go_wp2
      go_ret2
      exact ⟨rfl, blk_put (w := w.drewN 2) hI 10 _ rfl, (Keeps.one w 2 g _ _).drew⟩
    · have e1 : more l.2.2.2.2.1 c.2.2.2.2.1 = c.2.2.2.2.1 := if_neg cc
      have b1 : decide (c.2.2.2.2.1 ≤ l.2.2.2.2.1) = false := decide_eq_false cc
      rw [e1]
      clear e1
      go_enter Try.func30, Try.ntmps30
      go_wp2
      go_region
      go_wp2
      go_region
      go_wp2
      go_ret2
      exact ⟨by rw [decide_eq_true (by omega)]; rfl, hI, (Keeps.refl w (One g)).drew.drew⟩
  · have ea : l.at_ 5 = l.2.2.2.2.2 := rfl
    have eb : c.at_ 5 = c.2.2.2.2.2 := rfl
    rw [ea, eb]
    clear ea eb
    unfold may at m0 m1 m2 m3 m4 m5
    have hc0 : w.cell? ⟨g, 11, none⟩ = some (.int .i64 c.2.2.2.2.2) := hI.cell 11
    have hl0 : w.cell? ⟨g, 5, none⟩ = some (.int .i64 l.2.2.2.2.2) := hI.cell 5
    have hf0 : w.frozen? ⟨g, 11, none⟩ = false := blk_frozen hI 11
    by_cases cc : c.2.2.2.2.2 ≤ l.2.2.2.2.2
    · have e1 : more l.2.2.2.2.2 c.2.2.2.2.2 = c.2.2.2.2.2 + 1 := if_pos cc
      have e2 : wrap64 (c.2.2.2.2.2 + 1) = c.2.2.2.2.2 + 1 := by unfold wrap64; omega
      have b1 : decide (c.2.2.2.2.2 ≤ l.2.2.2.2.2) = true := decide_eq_true cc
      rw [e1]
      clear e1
      go_enter Try.func30, Try.ntmps30
      go_wp2
      go_region
      go_wp2
      go_region
      go_wp2
      go_region
      go_wp2
      go_ret2
      exact ⟨rfl, blk_put (w := w.drewN 2) hI 11 _ rfl, (Keeps.one w 2 g _ _).drew⟩
    · have e1 : more l.2.2.2.2.2 c.2.2.2.2.2 = c.2.2.2.2.2 := if_neg cc
      have b1 : decide (c.2.2.2.2.2 ≤ l.2.2.2.2.2) = false := decide_eq_false cc
      rw [e1]
      clear e1
      go_enter Try.func30, Try.ntmps30
      go_wp2
      go_region
      go_wp2
      go_region
      go_wp2
      go_ret2
      exact ⟨by rw [decide_eq_true (by omega)]; rfl, hI, (Keeps.refl w (One g)).drew.drew⟩
set_option maxHeartbeats 4000000 in
set_option maxRecDepth 100000 in
theorem r18_Count.bad (p : Option Addr) (k : Int) (w : World) (h : k < 0 ∨ 5 < k) :
    Calls Try.prog 30 #[.pointer p, .int .i64 k] w fun e w' => e = .returned (.tuple #[.bool false, .int .i64 1]) ∧ w' = w := by
  by_cases c1 : k < 0
  · have b1 : decide (k < 0) = true := decide_eq_true c1
    go_enter Try.func30, Try.ntmps30
    go_wp2
    go_ret2
    exact ⟨rfl, rfl⟩
  · have b1 : decide (k < 0) = false := decide_eq_false c1
    have b2 : decide (5 < k) = true := decide_eq_true (by omega)
    go_enter Try.func30, Try.ntmps30
    go_wp2
    go_ret2
    exact ⟨rfl, rfl⟩
/-- The first i counts cleared. -/
def zer : Nat → Six → Six
  | 0, c => c
  | i + 1, c => (zer i c).put i 0
set_option maxHeartbeats 4000000 in
set_option maxRecDepth 100000 in
theorem r18_Tick.calls (l c : Six) (g : Nat) (w : World) (hI : IsM 46 w g l c) :
    Calls Try.prog 28 #[.pointer (some ⟨g, 0, none⟩)] w fun e w' => (∃ v, e = .returned v) ∧ IsM 46 w' g l (0, 0, 0, 0, 0, c.2.2.2.2.2) ∧ Keeps w w' (One g) := by
  go_enter Try.func28, Try.ntmps28
  go_wp2
  go_loopg [2] 6 (fun kq v2 w' => ∃ i : Nat, v2 = .int .i64 i ∧ Aside0 (i ≤ 5 ∧ i + kq = 6) ∧ Aside0 (IsM 46 w' g l (zer i c)) ∧ Aside0 (Keeps w w' (One g)))
  case atStart => exact ⟨0, rfl, ⟨by omega⟩, ⟨hI⟩, ⟨Keeps.refl _ _⟩⟩
  case round =>
    obtain ⟨i, rfl, HK, HM, HW⟩ := hrel
    by_cases hi : i < 5
    · obtain ⟨k1, hk1⟩ : ∃ j, gk = j + 1 := ⟨gk - 1, by have := HK.out; omega⟩
      subst hk1
      generalize hz : zer i c = d at HM
      have : i = 0 ∨ i = 1 ∨ i = 2 ∨ i = 3 ∨ i = 4 := by omega
      rcases this with rfl | rfl | rfl | rfl | rfl
      · have hc0 : wr.cell? ⟨g, 6, none⟩ = some (.int .i64 d.1) := HM.out.cell 6
        have hf0 : wr.frozen? ⟨g, 6, none⟩ = false := blk_frozen HM.out 6
        go_wp2
        go_roundg k1
        case measure => omega
        case rel => exact ⟨1, rfl, ⟨by have := HK.out; omega⟩, ⟨by rw [show zer 1 c = d.put 0 0 by rw [← hz]; rfl]; exact blk_put HM.out 6 _ rfl⟩, ⟨Keeps.set (g := g) HW.out (Or.inl (rfl : g = g)) _ _⟩⟩
      · have hc0 : wr.cell? ⟨g, 7, none⟩ = some (.int .i64 d.2.1) := HM.out.cell 7
        have hf0 : wr.frozen? ⟨g, 7, none⟩ = false := blk_frozen HM.out 7
        go_wp2
        go_roundg k1
        case measure => omega
        case rel => exact ⟨2, rfl, ⟨by have := HK.out; omega⟩, ⟨by rw [show zer 2 c = d.put 1 0 by rw [← hz]; rfl]; exact blk_put HM.out 7 _ rfl⟩, ⟨Keeps.set (g := g) HW.out (Or.inl (rfl : g = g)) _ _⟩⟩
      · have hc0 : wr.cell? ⟨g, 8, none⟩ = some (.int .i64 d.2.2.1) := HM.out.cell 8
        have hf0 : wr.frozen? ⟨g, 8, none⟩ = false := blk_frozen HM.out 8
        go_wp2
        go_roundg k1
        case measure => omega
        case rel => exact ⟨3, rfl, ⟨by have := HK.out; omega⟩, ⟨by rw [show zer 3 c = d.put 2 0 by rw [← hz]; rfl]; exact blk_put HM.out 8 _ rfl⟩, ⟨Keeps.set (g := g) HW.out (Or.inl (rfl : g = g)) _ _⟩⟩
      · have hc0 : wr.cell? ⟨g, 9, none⟩ = some (.int .i64 d.2.2.2.1) := HM.out.cell 9
        have hf0 : wr.frozen? ⟨g, 9, none⟩ = false := blk_frozen HM.out 9
        go_wp2
        go_roundg k1
        case measure => omega
        case rel => exact ⟨4, rfl, ⟨by have := HK.out; omega⟩, ⟨by rw [show zer 4 c = d.put 3 0 by rw [← hz]; rfl]; exact blk_put HM.out 9 _ rfl⟩, ⟨Keeps.set (g := g) HW.out (Or.inl (rfl : g = g)) _ _⟩⟩
      · have hc0 : wr.cell? ⟨g, 10, none⟩ = some (.int .i64 d.2.2.2.2.1) := HM.out.cell 10
        have hf0 : wr.frozen? ⟨g, 10, none⟩ = false := blk_frozen HM.out 10
        go_wp2
        go_roundg k1
        case measure => omega
        case rel => exact ⟨5, rfl, ⟨by have := HK.out; omega⟩, ⟨by rw [show zer 5 c = d.put 4 0 by rw [← hz]; rfl]; exact blk_put HM.out 10 _ rfl⟩, ⟨Keeps.set (g := g) HW.out (Or.inl (rfl : g = g)) _ _⟩⟩
    · have h_ := HK.out
      obtain rfl : i = 5 := by omega
      clear h_
      go_wp2
      go_end0
      exact ⟨⟨_, rfl⟩, HM.out, HW.out⟩
theorem r18_Begin.calls (l : Six) (w : World) :
    Calls Try.prog 24 #[.agg l.vals.toArray] w fun e w' => ∃ g, e = .returned (.pointer (some ⟨g, 0, none⟩)) ∧ IsM 46 w' g l (0, 0, 0, 0, 0, 0) ∧ w.heap.size ≤ g ∧ Below w.heap.size w w' := by
  unfold Six.vals
  go_enter Try.func24, Try.ntmps24
  go_wp2
  go_ret
  have hb := blk_new (w.alloc (.cells #[.int .i64 l.1, .int .i64 l.2.1, .int .i64 l.2.2.1, .int .i64 l.2.2.2.1, .int .i64 l.2.2.2.2.1, .int .i64 l.2.2.2.2.2] 30)) (.cells (mv l (0, 0, 0, 0, 0, 0)) 46)
  rw [World.size_alloc] at hb
  exact ⟨_, rfl, hb, by omega, below_alloc (below_alloc (Below.refl _ _) _) _⟩
/-- Whether limits may be, from the i-th on. -/
def okB (x : Int) : Bool := decide (0 ≤ x) && decide (x ≤ 10000)
def restB (i : Nat) (l : Six) : Bool := ([okB l.1, okB l.2.1, okB l.2.2.1, okB l.2.2.2.1, okB l.2.2.2.2.1, okB l.2.2.2.2.2].drop i).all id
set_option maxHeartbeats 4000000 in
set_option maxRecDepth 100000 in
theorem r18_Right.calls (l : Six) (w : World) :
    Calls Try.prog 23 #[.agg l.vals.toArray] w fun e w' => e = .returned (.bool (restB 0 l)) ∧ Below w.heap.size w w' := by
  unfold Six.vals
  go_enter Try.func23, Try.ntmps23
  go_wp2
  go_loopg [3] 7 (fun kq v3 w' => ∃ i : Nat, v3 = .int .i64 i ∧ Aside0 (i ≤ 6 ∧ i + kq = 7) ∧ Aside0 (restB 0 l = restB i l) ∧ Aside0 (w'.heap[w.heap.size]? = some (.cells #[.int .i64 l.1, .int .i64 l.2.1, .int .i64 l.2.2.1, .int .i64 l.2.2.2.1, .int .i64 l.2.2.2.2.1, .int .i64 l.2.2.2.2.2] 30 (0, 0))) ∧ Aside0 (Below w.heap.size w w'))
  case atStart => exact ⟨0, rfl, ⟨by omega⟩, ⟨rfl⟩, ⟨blk_new _ _⟩, ⟨below_alloc (Below.refl _ _) _⟩⟩
  case round =>
    obtain ⟨i, rfl, HK, HR, HM, HB⟩ := hrel
    have h_ := HK.out
    by_cases hi : i < 6
    · obtain ⟨k1, hk1⟩ : ∃ j, gk = j + 1 := ⟨gk - 1, by omega⟩
      subst hk1
      clear h_
      have : i = 0 ∨ i = 1 ∨ i = 2 ∨ i = 3 ∨ i = 4 ∨ i = 5 := by omega
      rcases this with rfl | rfl | rfl | rfl | rfl | rfl
      · have hc0 : wr.cell? ⟨w.heap.size, 0, none⟩ = some (.int .i64 l.1) := (blk_cell HM.out 0).trans rfl
        by_cases c1 : l.1 < 0
        · have b1 : decide (l.1 < 0) = true := decide_eq_true c1
          have hr : restB 0 l = false := by rw [HR.out]; show (okB l.1 && restB 1 l) = false; rw [show okB l.1 = false by unfold okB; rw [decide_eq_false (by omega)]; rfl]; rfl
          go_wp2
          go_ret
          exact ⟨by first | rfl | (rw [hr]; rfl) | rw [hr], HB.out⟩
        · have b1 : decide (l.1 < 0) = false := decide_eq_false c1
          by_cases c2 : 10000 < l.1
          · have b2 : decide (10000 < l.1) = true := decide_eq_true c2
            have hr : restB 0 l = false := by rw [HR.out]; show (okB l.1 && restB 1 l) = false; rw [show okB l.1 = false by unfold okB; rw [decide_eq_false (p := l.1 ≤ 10000) (by omega), Bool.and_false]]; rfl
            go_wp2
            go_ret
            exact ⟨by first | rfl | (rw [hr]; rfl) | rw [hr], HB.out⟩
          · have b2 : decide (10000 < l.1) = false := decide_eq_false c2
            have hr : restB 0 l = restB 1 l := by rw [HR.out]; show (okB l.1 && restB 1 l) = _; rw [show okB l.1 = true by unfold okB; rw [decide_eq_true (by omega), decide_eq_true (by omega)]; rfl]; rfl
            go_wp2
            go_roundg k1
            case measure => omega
            case rel => exact ⟨1, rfl, ⟨by have := HK.out; omega⟩, ⟨hr⟩, HM, HB⟩
      · have hc0 : wr.cell? ⟨w.heap.size, 1, none⟩ = some (.int .i64 l.2.1) := (blk_cell HM.out 1).trans rfl
        by_cases c1 : l.2.1 < 0
        · have b1 : decide (l.2.1 < 0) = true := decide_eq_true c1
          have hr : restB 0 l = false := by rw [HR.out]; show (okB l.2.1 && restB 2 l) = false; rw [show okB l.2.1 = false by unfold okB; rw [decide_eq_false (by omega)]; rfl]; rfl
          go_wp2
          go_ret
          exact ⟨by first | rfl | (rw [hr]; rfl) | rw [hr], HB.out⟩
        · have b1 : decide (l.2.1 < 0) = false := decide_eq_false c1
          by_cases c2 : 10000 < l.2.1
          · have b2 : decide (10000 < l.2.1) = true := decide_eq_true c2
            have hr : restB 0 l = false := by rw [HR.out]; show (okB l.2.1 && restB 2 l) = false; rw [show okB l.2.1 = false by unfold okB; rw [decide_eq_false (p := l.2.1 ≤ 10000) (by omega), Bool.and_false]]; rfl
            go_wp2
            go_ret
            exact ⟨by first | rfl | (rw [hr]; rfl) | rw [hr], HB.out⟩
          · have b2 : decide (10000 < l.2.1) = false := decide_eq_false c2
            have hr : restB 0 l = restB 2 l := by rw [HR.out]; show (okB l.2.1 && restB 2 l) = _; rw [show okB l.2.1 = true by unfold okB; rw [decide_eq_true (by omega), decide_eq_true (by omega)]; rfl]; rfl
            go_wp2
            go_roundg k1
            case measure => omega
            case rel => exact ⟨2, rfl, ⟨by have := HK.out; omega⟩, ⟨hr⟩, HM, HB⟩
      · have hc0 : wr.cell? ⟨w.heap.size, 2, none⟩ = some (.int .i64 l.2.2.1) := (blk_cell HM.out 2).trans rfl
        by_cases c1 : l.2.2.1 < 0
        · have b1 : decide (l.2.2.1 < 0) = true := decide_eq_true c1
          have hr : restB 0 l = false := by rw [HR.out]; show (okB l.2.2.1 && restB 3 l) = false; rw [show okB l.2.2.1 = false by unfold okB; rw [decide_eq_false (by omega)]; rfl]; rfl
          go_wp2
          go_ret
          exact ⟨by first | rfl | (rw [hr]; rfl) | rw [hr], HB.out⟩
        · have b1 : decide (l.2.2.1 < 0) = false := decide_eq_false c1
          by_cases c2 : 10000 < l.2.2.1
          · have b2 : decide (10000 < l.2.2.1) = true := decide_eq_true c2
            have hr : restB 0 l = false := by rw [HR.out]; show (okB l.2.2.1 && restB 3 l) = false; rw [show okB l.2.2.1 = false by unfold okB; rw [decide_eq_false (p := l.2.2.1 ≤ 10000) (by omega), Bool.and_false]]; rfl
            go_wp2
            go_ret
            exact ⟨by first | rfl | (rw [hr]; rfl) | rw [hr], HB.out⟩
          · have b2 : decide (10000 < l.2.2.1) = false := decide_eq_false c2
            have hr : restB 0 l = restB 3 l := by rw [HR.out]; show (okB l.2.2.1 && restB 3 l) = _; rw [show okB l.2.2.1 = true by unfold okB; rw [decide_eq_true (by omega), decide_eq_true (by omega)]; rfl]; rfl
            go_wp2
            go_roundg k1
            case measure => omega
            case rel => exact ⟨3, rfl, ⟨by have := HK.out; omega⟩, ⟨hr⟩, HM, HB⟩
      · have hc0 : wr.cell? ⟨w.heap.size, 3, none⟩ = some (.int .i64 l.2.2.2.1) := (blk_cell HM.out 3).trans rfl
        by_cases c1 : l.2.2.2.1 < 0
        · have b1 : decide (l.2.2.2.1 < 0) = true := decide_eq_true c1
          have hr : restB 0 l = false := by rw [HR.out]; show (okB l.2.2.2.1 && restB 4 l) = false; rw [show okB l.2.2.2.1 = false by unfold okB; rw [decide_eq_false (by omega)]; rfl]; rfl
          go_wp2
          go_ret
          exact ⟨by first | rfl | (rw [hr]; rfl) | rw [hr], HB.out⟩
        · have b1 : decide (l.2.2.2.1 < 0) = false := decide_eq_false c1
          by_cases c2 : 10000 < l.2.2.2.1
          · have b2 : decide (10000 < l.2.2.2.1) = true := decide_eq_true c2
            have hr : restB 0 l = false := by rw [HR.out]; show (okB l.2.2.2.1 && restB 4 l) = false; rw [show okB l.2.2.2.1 = false by unfold okB; rw [decide_eq_false (p := l.2.2.2.1 ≤ 10000) (by omega), Bool.and_false]]; rfl
            go_wp2
            go_ret
            exact ⟨by first | rfl | (rw [hr]; rfl) | rw [hr], HB.out⟩
          · have b2 : decide (10000 < l.2.2.2.1) = false := decide_eq_false c2
            have hr : restB 0 l = restB 4 l := by rw [HR.out]; show (okB l.2.2.2.1 && restB 4 l) = _; rw [show okB l.2.2.2.1 = true by unfold okB; rw [decide_eq_true (by omega), decide_eq_true (by omega)]; rfl]; rfl
            go_wp2
            go_roundg k1
            case measure => omega
            case rel => exact ⟨4, rfl, ⟨by have := HK.out; omega⟩, ⟨hr⟩, HM, HB⟩
      · have hc0 : wr.cell? ⟨w.heap.size, 4, none⟩ = some (.int .i64 l.2.2.2.2.1) := (blk_cell HM.out 4).trans rfl
        by_cases c1 : l.2.2.2.2.1 < 0
        · have b1 : decide (l.2.2.2.2.1 < 0) = true := decide_eq_true c1
          have hr : restB 0 l = false := by rw [HR.out]; show (okB l.2.2.2.2.1 && restB 5 l) = false; rw [show okB l.2.2.2.2.1 = false by unfold okB; rw [decide_eq_false (by omega)]; rfl]; rfl
          go_wp2
          go_ret
          exact ⟨by first | rfl | (rw [hr]; rfl) | rw [hr], HB.out⟩
        · have b1 : decide (l.2.2.2.2.1 < 0) = false := decide_eq_false c1
          by_cases c2 : 10000 < l.2.2.2.2.1
          · have b2 : decide (10000 < l.2.2.2.2.1) = true := decide_eq_true c2
            have hr : restB 0 l = false := by rw [HR.out]; show (okB l.2.2.2.2.1 && restB 5 l) = false; rw [show okB l.2.2.2.2.1 = false by unfold okB; rw [decide_eq_false (p := l.2.2.2.2.1 ≤ 10000) (by omega), Bool.and_false]]; rfl
            go_wp2
            go_ret
            exact ⟨by first | rfl | (rw [hr]; rfl) | rw [hr], HB.out⟩
          · have b2 : decide (10000 < l.2.2.2.2.1) = false := decide_eq_false c2
            have hr : restB 0 l = restB 5 l := by rw [HR.out]; show (okB l.2.2.2.2.1 && restB 5 l) = _; rw [show okB l.2.2.2.2.1 = true by unfold okB; rw [decide_eq_true (by omega), decide_eq_true (by omega)]; rfl]; rfl
            go_wp2
            go_roundg k1
            case measure => omega
            case rel => exact ⟨5, rfl, ⟨by have := HK.out; omega⟩, ⟨hr⟩, HM, HB⟩
      · have hc0 : wr.cell? ⟨w.heap.size, 5, none⟩ = some (.int .i64 l.2.2.2.2.2) := (blk_cell HM.out 5).trans rfl
        by_cases c1 : l.2.2.2.2.2 < 0
        · have b1 : decide (l.2.2.2.2.2 < 0) = true := decide_eq_true c1
          have hr : restB 0 l = false := by rw [HR.out]; show (okB l.2.2.2.2.2 && restB 6 l) = false; rw [show okB l.2.2.2.2.2 = false by unfold okB; rw [decide_eq_false (by omega)]; rfl]; rfl
          go_wp2
          go_ret
          exact ⟨by first | rfl | (rw [hr]; rfl) | rw [hr], HB.out⟩
        · have b1 : decide (l.2.2.2.2.2 < 0) = false := decide_eq_false c1
          by_cases c2 : 10000 < l.2.2.2.2.2
          · have b2 : decide (10000 < l.2.2.2.2.2) = true := decide_eq_true c2
            have hr : restB 0 l = false := by rw [HR.out]; show (okB l.2.2.2.2.2 && restB 6 l) = false; rw [show okB l.2.2.2.2.2 = false by unfold okB; rw [decide_eq_false (p := l.2.2.2.2.2 ≤ 10000) (by omega), Bool.and_false]]; rfl
            go_wp2
            go_ret
            exact ⟨by first | rfl | (rw [hr]; rfl) | rw [hr], HB.out⟩
          · have b2 : decide (10000 < l.2.2.2.2.2) = false := decide_eq_false c2
            have hr : restB 0 l = restB 6 l := by rw [HR.out]; show (okB l.2.2.2.2.2 && restB 6 l) = _; rw [show okB l.2.2.2.2.2 = true by unfold okB; rw [decide_eq_true (by omega), decide_eq_true (by omega)]; rfl]; rfl
            go_wp2
            go_roundg k1
            case measure => omega
            case rel => exact ⟨6, rfl, ⟨by have := HK.out; omega⟩, ⟨hr⟩, HM, HB⟩
    · obtain rfl : i = 6 := by omega
      have hr : restB 0 l = true := HR.out
      clear h_
      go_wp2
      go_ret
      exact ⟨by first | rfl | (rw [hr]; rfl) | rw [hr], HB.out⟩
theorem idx30_0 (l : Six) (W : World) : (Instr.index 30 (.agg #[.int .i64 l.1, .int .i64 l.2.1, .int .i64 l.2.2.1, .int .i64 l.2.2.2.1, .int .i64 l.2.2.2.2.1, .int .i64 l.2.2.2.2.2]) (.int .i64 0)).run Try.prog W = .ok (.int .i64 l.1) W := by kernel_rfl
theorem idx30_1 (l : Six) (W : World) : (Instr.index 30 (.agg #[.int .i64 l.1, .int .i64 l.2.1, .int .i64 l.2.2.1, .int .i64 l.2.2.2.1, .int .i64 l.2.2.2.2.1, .int .i64 l.2.2.2.2.2]) (.int .i64 1)).run Try.prog W = .ok (.int .i64 l.2.1) W := by kernel_rfl
theorem idx30_2 (l : Six) (W : World) : (Instr.index 30 (.agg #[.int .i64 l.1, .int .i64 l.2.1, .int .i64 l.2.2.1, .int .i64 l.2.2.2.1, .int .i64 l.2.2.2.2.1, .int .i64 l.2.2.2.2.2]) (.int .i64 2)).run Try.prog W = .ok (.int .i64 l.2.2.1) W := by kernel_rfl
theorem idx30_3 (l : Six) (W : World) : (Instr.index 30 (.agg #[.int .i64 l.1, .int .i64 l.2.1, .int .i64 l.2.2.1, .int .i64 l.2.2.2.1, .int .i64 l.2.2.2.2.1, .int .i64 l.2.2.2.2.2]) (.int .i64 3)).run Try.prog W = .ok (.int .i64 l.2.2.2.1) W := by kernel_rfl
theorem idx30_4 (l : Six) (W : World) : (Instr.index 30 (.agg #[.int .i64 l.1, .int .i64 l.2.1, .int .i64 l.2.2.1, .int .i64 l.2.2.2.1, .int .i64 l.2.2.2.2.1, .int .i64 l.2.2.2.2.2]) (.int .i64 4)).run Try.prog W = .ok (.int .i64 l.2.2.2.2.1) W := by kernel_rfl
theorem idx30_5 (l : Six) (W : World) : (Instr.index 30 (.agg #[.int .i64 l.1, .int .i64 l.2.1, .int .i64 l.2.2.1, .int .i64 l.2.2.2.1, .int .i64 l.2.2.2.2.1, .int .i64 l.2.2.2.2.2]) (.int .i64 5)).run Try.prog W = .ok (.int .i64 l.2.2.2.2.2) W := by kernel_rfl
/-- What New hands back: a meter without counts, or none. -/
def NewM (l : Six) (w : World) (e : Ending) (w' : World) : Prop :=
  if restB 0 l = true then ∃ g, e = .returned (.tuple #[.pointer (some ⟨g, 0, none⟩), .int .i64 0]) ∧ IsM 113 w' g l (0, 0, 0, 0, 0, 0) ∧ w.heap.size ≤ g else e = .returned (.tuple #[.pointer none, .int .i64 1])
theorem NewM.no {l : Six} {w w' : World} {e : Ending} (h : restB 0 l = false) (he : e = .returned (.tuple #[.pointer none, .int .i64 1])) : NewM l w e w' := by
  unfold NewM
  rw [if_neg (by rw [h]; decide)]
  exact he
theorem NewM.yes {l : Six} {w w' : World} {e : Ending} (h : restB 0 l = true) (he : ∃ g, e = .returned (.tuple #[.pointer (some ⟨g, 0, none⟩), .int .i64 0]) ∧ IsM 113 w' g l (0, 0, 0, 0, 0, 0) ∧ w.heap.size ≤ g) : NewM l w e w' := by
  unfold NewM
  rw [if_pos h]
  exact he
set_option maxHeartbeats 4000000 in
set_option maxRecDepth 100000 in
theorem meter_New.calls (l : Six) (w : World) :
    Calls Try.prog 22 #[.agg l.vals.toArray] w fun e w' => Below w.heap.size w w' ∧ NewM l w e w' := by
  unfold Six.vals
  go_enter Try.func22, Try.ntmps22
  go_wp2
  go_loopg [7] 7 (fun kq v7 w' => ∃ i : Int, v7 = .int .i64 i ∧ Aside0 (0 ≤ i ∧ i ≤ 6 ∧ i + kq = 7) ∧ Aside0 (restB 0 l = restB i.toNat l) ∧ Aside0 (w'.heap[w.heap.size]? = some (.cells #[.int .i64 l.1, .int .i64 l.2.1, .int .i64 l.2.2.1, .int .i64 l.2.2.2.1, .int .i64 l.2.2.2.2.1, .int .i64 l.2.2.2.2.2] 30 (0, 0))) ∧ Aside0 (Below w.heap.size w w'))
  case atStart => exact ⟨0, rfl, ⟨by omega⟩, ⟨rfl⟩, ⟨blk_new _ _⟩, ⟨below_alloc (Below.refl _ _) _⟩⟩
  case round =>
    obtain ⟨i, rfl, HK, HR, HM, HB⟩ := hrel
    have h_ := HK.out
    obtain ⟨h0_, h1_, h2_⟩ := h_
    by_cases hi : i < 6
    · obtain ⟨k1, hk1⟩ : ∃ j, gk = j + 1 := ⟨gk - 1, by omega⟩
      subst hk1
      have : i = 0 ∨ i = 1 ∨ i = 2 ∨ i = 3 ∨ i = 4 ∨ i = 5 := by omega
      rcases this with rfl | rfl | rfl | rfl | rfl | rfl
      · have hix := idx30_0 l
        by_cases c1 : l.1 < 0
        · have b1 : decide (l.1 < 0) = true := decide_eq_true c1
          have hr : restB 0 l = false := by rw [HR.out]; show (okB l.1 && restB 1 l) = false; rw [show okB l.1 = false by unfold okB; rw [decide_eq_false (by omega)]; rfl]; rfl
          go_wp2
          go_ret2
          exact ⟨HB.out, NewM.no hr rfl⟩
        · have b1 : decide (l.1 < 0) = false := decide_eq_false c1
          by_cases c2 : 10000 < l.1
          · have b2 : decide (10000 < l.1) = true := decide_eq_true c2
            have hr : restB 0 l = false := by rw [HR.out]; show (okB l.1 && restB 1 l) = false; rw [show okB l.1 = false by unfold okB; rw [decide_eq_false (p := l.1 ≤ 10000) (by omega), Bool.and_false]]; rfl
            go_wp2
            go_ret2
            exact ⟨HB.out, NewM.no hr rfl⟩
          · have b2 : decide (10000 < l.1) = false := decide_eq_false c2
            have hr : restB 0 l = restB 1 l := by rw [HR.out]; show (okB l.1 && restB 1 l) = _; rw [show okB l.1 = true by unfold okB; rw [decide_eq_true (by omega), decide_eq_true (by omega)]; rfl]; rfl
            go_wp2
            go_roundg k1
            case measure => omega
            case rel => exact ⟨1, rfl, ⟨by have := HK.out; omega⟩, ⟨hr⟩, HM, HB⟩
      · have hix := idx30_1 l
        by_cases c1 : l.2.1 < 0
        · have b1 : decide (l.2.1 < 0) = true := decide_eq_true c1
          have hr : restB 0 l = false := by rw [HR.out]; show (okB l.2.1 && restB 2 l) = false; rw [show okB l.2.1 = false by unfold okB; rw [decide_eq_false (by omega)]; rfl]; rfl
          go_wp2
          go_ret2
          exact ⟨HB.out, NewM.no hr rfl⟩
        · have b1 : decide (l.2.1 < 0) = false := decide_eq_false c1
          by_cases c2 : 10000 < l.2.1
          · have b2 : decide (10000 < l.2.1) = true := decide_eq_true c2
            have hr : restB 0 l = false := by rw [HR.out]; show (okB l.2.1 && restB 2 l) = false; rw [show okB l.2.1 = false by unfold okB; rw [decide_eq_false (p := l.2.1 ≤ 10000) (by omega), Bool.and_false]]; rfl
            go_wp2
            go_ret2
            exact ⟨HB.out, NewM.no hr rfl⟩
          · have b2 : decide (10000 < l.2.1) = false := decide_eq_false c2
            have hr : restB 0 l = restB 2 l := by rw [HR.out]; show (okB l.2.1 && restB 2 l) = _; rw [show okB l.2.1 = true by unfold okB; rw [decide_eq_true (by omega), decide_eq_true (by omega)]; rfl]; rfl
            go_wp2
            go_roundg k1
            case measure => omega
            case rel => exact ⟨2, rfl, ⟨by have := HK.out; omega⟩, ⟨hr⟩, HM, HB⟩
      · have hix := idx30_2 l
        by_cases c1 : l.2.2.1 < 0
        · have b1 : decide (l.2.2.1 < 0) = true := decide_eq_true c1
          have hr : restB 0 l = false := by rw [HR.out]; show (okB l.2.2.1 && restB 3 l) = false; rw [show okB l.2.2.1 = false by unfold okB; rw [decide_eq_false (by omega)]; rfl]; rfl
          go_wp2
          go_ret2
          exact ⟨HB.out, NewM.no hr rfl⟩
        · have b1 : decide (l.2.2.1 < 0) = false := decide_eq_false c1
          by_cases c2 : 10000 < l.2.2.1
          · have b2 : decide (10000 < l.2.2.1) = true := decide_eq_true c2
            have hr : restB 0 l = false := by rw [HR.out]; show (okB l.2.2.1 && restB 3 l) = false; rw [show okB l.2.2.1 = false by unfold okB; rw [decide_eq_false (p := l.2.2.1 ≤ 10000) (by omega), Bool.and_false]]; rfl
            go_wp2
            go_ret2
            exact ⟨HB.out, NewM.no hr rfl⟩
          · have b2 : decide (10000 < l.2.2.1) = false := decide_eq_false c2
            have hr : restB 0 l = restB 3 l := by rw [HR.out]; show (okB l.2.2.1 && restB 3 l) = _; rw [show okB l.2.2.1 = true by unfold okB; rw [decide_eq_true (by omega), decide_eq_true (by omega)]; rfl]; rfl
            go_wp2
            go_roundg k1
            case measure => omega
            case rel => exact ⟨3, rfl, ⟨by have := HK.out; omega⟩, ⟨hr⟩, HM, HB⟩
      · have hix := idx30_3 l
        by_cases c1 : l.2.2.2.1 < 0
        · have b1 : decide (l.2.2.2.1 < 0) = true := decide_eq_true c1
          have hr : restB 0 l = false := by rw [HR.out]; show (okB l.2.2.2.1 && restB 4 l) = false; rw [show okB l.2.2.2.1 = false by unfold okB; rw [decide_eq_false (by omega)]; rfl]; rfl
          go_wp2
          go_ret2
          exact ⟨HB.out, NewM.no hr rfl⟩
        · have b1 : decide (l.2.2.2.1 < 0) = false := decide_eq_false c1
          by_cases c2 : 10000 < l.2.2.2.1
          · have b2 : decide (10000 < l.2.2.2.1) = true := decide_eq_true c2
            have hr : restB 0 l = false := by rw [HR.out]; show (okB l.2.2.2.1 && restB 4 l) = false; rw [show okB l.2.2.2.1 = false by unfold okB; rw [decide_eq_false (p := l.2.2.2.1 ≤ 10000) (by omega), Bool.and_false]]; rfl
            go_wp2
            go_ret2
            exact ⟨HB.out, NewM.no hr rfl⟩
          · have b2 : decide (10000 < l.2.2.2.1) = false := decide_eq_false c2
            have hr : restB 0 l = restB 4 l := by rw [HR.out]; show (okB l.2.2.2.1 && restB 4 l) = _; rw [show okB l.2.2.2.1 = true by unfold okB; rw [decide_eq_true (by omega), decide_eq_true (by omega)]; rfl]; rfl
            go_wp2
            go_roundg k1
            case measure => omega
            case rel => exact ⟨4, rfl, ⟨by have := HK.out; omega⟩, ⟨hr⟩, HM, HB⟩
      · have hix := idx30_4 l
        by_cases c1 : l.2.2.2.2.1 < 0
        · have b1 : decide (l.2.2.2.2.1 < 0) = true := decide_eq_true c1
          have hr : restB 0 l = false := by rw [HR.out]; show (okB l.2.2.2.2.1 && restB 5 l) = false; rw [show okB l.2.2.2.2.1 = false by unfold okB; rw [decide_eq_false (by omega)]; rfl]; rfl
          go_wp2
          go_ret2
          exact ⟨HB.out, NewM.no hr rfl⟩
        · have b1 : decide (l.2.2.2.2.1 < 0) = false := decide_eq_false c1
          by_cases c2 : 10000 < l.2.2.2.2.1
          · have b2 : decide (10000 < l.2.2.2.2.1) = true := decide_eq_true c2
            have hr : restB 0 l = false := by rw [HR.out]; show (okB l.2.2.2.2.1 && restB 5 l) = false; rw [show okB l.2.2.2.2.1 = false by unfold okB; rw [decide_eq_false (p := l.2.2.2.2.1 ≤ 10000) (by omega), Bool.and_false]]; rfl
            go_wp2
            go_ret2
            exact ⟨HB.out, NewM.no hr rfl⟩
          · have b2 : decide (10000 < l.2.2.2.2.1) = false := decide_eq_false c2
            have hr : restB 0 l = restB 5 l := by rw [HR.out]; show (okB l.2.2.2.2.1 && restB 5 l) = _; rw [show okB l.2.2.2.2.1 = true by unfold okB; rw [decide_eq_true (by omega), decide_eq_true (by omega)]; rfl]; rfl
            go_wp2
            go_roundg k1
            case measure => omega
            case rel => exact ⟨5, rfl, ⟨by have := HK.out; omega⟩, ⟨hr⟩, HM, HB⟩
      · have hix := idx30_5 l
        by_cases c1 : l.2.2.2.2.2 < 0
        · have b1 : decide (l.2.2.2.2.2 < 0) = true := decide_eq_true c1
          have hr : restB 0 l = false := by rw [HR.out]; show (okB l.2.2.2.2.2 && restB 6 l) = false; rw [show okB l.2.2.2.2.2 = false by unfold okB; rw [decide_eq_false (by omega)]; rfl]; rfl
          go_wp2
          go_ret2
          exact ⟨HB.out, NewM.no hr rfl⟩
        · have b1 : decide (l.2.2.2.2.2 < 0) = false := decide_eq_false c1
          by_cases c2 : 10000 < l.2.2.2.2.2
          · have b2 : decide (10000 < l.2.2.2.2.2) = true := decide_eq_true c2
            have hr : restB 0 l = false := by rw [HR.out]; show (okB l.2.2.2.2.2 && restB 6 l) = false; rw [show okB l.2.2.2.2.2 = false by unfold okB; rw [decide_eq_false (p := l.2.2.2.2.2 ≤ 10000) (by omega), Bool.and_false]]; rfl
            go_wp2
            go_ret2
            exact ⟨HB.out, NewM.no hr rfl⟩
          · have b2 : decide (10000 < l.2.2.2.2.2) = false := decide_eq_false c2
            have hr : restB 0 l = restB 6 l := by rw [HR.out]; show (okB l.2.2.2.2.2 && restB 6 l) = _; rw [show okB l.2.2.2.2.2 = true by unfold okB; rw [decide_eq_true (by omega), decide_eq_true (by omega)]; rfl]; rfl
            go_wp2
            go_roundg k1
            case measure => omega
            case rel => exact ⟨6, rfl, ⟨by have := HK.out; omega⟩, ⟨hr⟩, HM, HB⟩
    · obtain rfl : i = 6 := by omega
      have hr : restB 0 l = true := HR.out
      have hc0 : wr.cell? ⟨w.heap.size, 0, none⟩ = some (.int .i64 l.1) := (blk_cell HM.out 0).trans rfl
      have hc1 : wr.cell? ⟨w.heap.size, 1, none⟩ = some (.int .i64 l.2.1) := (blk_cell HM.out 1).trans rfl
      have hc2 : wr.cell? ⟨w.heap.size, 2, none⟩ = some (.int .i64 l.2.2.1) := (blk_cell HM.out 2).trans rfl
      have hc3 : wr.cell? ⟨w.heap.size, 3, none⟩ = some (.int .i64 l.2.2.2.1) := (blk_cell HM.out 3).trans rfl
      have hc4 : wr.cell? ⟨w.heap.size, 4, none⟩ = some (.int .i64 l.2.2.2.2.1) := (blk_cell HM.out 4).trans rfl
      have hc5 : wr.cell? ⟨w.heap.size, 5, none⟩ = some (.int .i64 l.2.2.2.2.2) := (blk_cell HM.out 5).trans rfl
      have hsz := HB.out.size
      go_wp2
      go_ret2
      exact ⟨below_alloc HB.out _, NewM.yes hr ⟨_, rfl, blk_new _ _, hsz⟩⟩
end Go.Proofs.Ytjkadheknjkkbaa.QR
