/-
  INTAKE: Feed.
  Conditions: none of its own; lemmas that the claim's row rests on.
-/
import Derived.Test.YtbmnplojpeabmaaIt0
import Derived.Test.YtbmnplojpeabmaaQI1
import Derived.WalkKit
namespace Go.Proofs.Ytbmnplojpeabmaa.It
open Go.RowKit Go.Proofs.YtbmnplojpeabmaaW.PrintWords Go.Proofs.YtbmnplojpeabmaaW.PrintLast Go.Proofs.YtbmnplojpeabmaaW.PrintMore
attribute [local go_sem] max2_int min2_int max_two min_two max_three min_three max_four min_four
set_option linter.unusedVariables false
set_option linter.unusedSimpArgs false
open Go.Proofs.Ytbmnplojpeabmaa.Ob Go.Proofs.Ytbmnplojpeabmaa.QI
section
variable {w : World} {g : Nat} {most ov : Int} {v : Value} {l l3 : List Int} {bg : Bool} {A3 : Option Addr} {c3 : Nat}
theorem intake_Feed.over (u : Value) (h : IsT w g most v l bg ov) (ho : ov ≠ 0) : Calls Try.prog 68 #[.pointer (some ⟨g, 0, none⟩), u] w fun e w' => ∃ v0, e = .returned v0 ∧ w' = w := by
  have hc : w.cell? ⟨g, 3, none⟩ = some (.int .i64 ov) := (blk_cell h.1 3).trans rfl
  have b1 : (ov == 0) = false := beq_eq_false_iff_ne.2 ho
  go_enter Try.func68, Try.ntmps68
  go_wp2
  go_returns
  exact ⟨_, rfl, rfl⟩
theorem intake_Feed.none_ (u : Value) : Calls Try.prog 68 #[.pointer none, u] w fun e w' => ∃ v0, e = .returned v0 ∧ w' = w := by
  go_enter Try.func68, Try.ntmps68
  go_wp2
  go_returns
  exact ⟨_, rfl, rfl⟩
set_option maxHeartbeats 4000000 in
set_option maxRecDepth 100000 in
theorem intake_Feed.begun (h : IsT w g most v l true 0) (hr3 : Kd.C (Kd.int .u8) w A3 l3.length l3) (hc3 : l3.length ≤ c3) (hl : l.length + l3.length ≤ 140737488355328) : Calls Try.prog 68 #[.pointer (some ⟨g, 0, none⟩), .slice A3 l3.length c3] w fun e w' => ∃ v0, e = .returned v0 ∧ ∃ v', IsT w' g most v' (l ++ l3) true 0 ∧ Keeps w w' (FootT g v) ∧ (v'.ownBlock = v.ownBlock ∨ ∃ b, v'.ownBlock = some b ∧ w.heap.size ≤ b) := by
  have hcell : w.cell? ⟨g, 1, none⟩ = some v := (blk_cell h.1 1).trans rfl
  have hov : w.cell? ⟨g, 3, none⟩ = some (.int .i64 0) := (blk_cell h.1 3).trans rfl
  have HI := Aside0.mk h
  have HC := Aside0.mk hr3
  clear h hr3
  go_enter Try.func68, Try.ntmps68
  go_wp2_with (first | (at_builtin; go_loud (refine Gr.append (Value.int .u8) 0 (h1 := u8one) rfl (.tmp 18) (.tmp 19) 22 5 (.int .u8 0) 1 rfl Try.underlying22 info5 rfl (by decide) v l l3 _ _ _ rfl rfl HI.out.2.1 HC.out (by omega) ?_; intro v1 w2 hG hgr hat; have HT := Aside0.mk (HI.out.turn hG hgr hat); have hb2 := blk_grown HI.out.1 hgr (fun e => HI.out.2.2 e.symm); have hcell2 : w2.cell? ⟨g, 1, none⟩ = some v := (blk_cell hb2 1).trans rfl; have hfr2 := blk_frozen hb2 1; have hbg : (w2.setCell ⟨g, 1, none⟩ v1).cell? ⟨g, 2, none⟩ = some (.bool true) := (blk_cell HT.out.1.1 2).trans rfl; obtain ⟨A1, n1, c1, ev1⟩ : ∃ A1 n1 c1, v1 = .slice A1 n1 c1 := (by obtain ⟨A1, c1, ev1, _⟩ := hG.reads 0; exact ⟨_, _, _, ev1⟩); subst ev1; clear hcell hov hgr hb2 hG)))
  go_returns
  exact ⟨_, rfl, _, HT.out.1, HT.out.2, hat⟩
end
end Go.Proofs.Ytbmnplojpeabmaa.It
