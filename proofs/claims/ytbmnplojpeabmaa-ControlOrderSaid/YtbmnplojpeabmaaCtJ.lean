/-
  CONTROL: the law's text.
  Conditions: none of its own; lemmas that the claim's row rests on.
-/
import Derived.Test.YtbmnplojpeabmaaCtI
import Derived.WalkKit
namespace Go.Proofs.Ytbmnplojpeabmaa.QK
open Go.RowKit Go.Proofs.YtbmnplojpeabmaaW.PrintWords Go.Proofs.YtbmnplojpeabmaaW.PrintLast Go.Proofs.YtbmnplojpeabmaaW.PrintMore
attribute [local go_sem] max2_int min2_int max_two min_two max_three min_three max_four min_four
set_option linter.unusedVariables false
set_option linter.unusedSimpArgs false
open Go.Proofs.Ytbmnplojpeabmaa.Ob
def gantletlaw19_ControlPlays.f (room : Int) (l : List S82) : Option Bool := if l.all (fun x => decide (0 ≤ x.f0 ∧ x.f0 < 256)) = true then some true else none
theorem rd82_mem (l : List S82) (i : Int) (h0 : 0 ≤ i) (h1 : i < l.length) : rd_T82 l i ∈ l := by
  have hi : i.toNat < l.length := by omega
  have e : rd_T82 l i = l[i.toNat] := by simp [rd_T82, hi]
  rw [e]
  exact List.getElem_mem hi
theorem gantletlaw19_ControlPlays.calls (room : Int) (A0 : Option Addr) (c0 : Nat) (l0 : List S82) (r : Bool) (w : World) (hr0 : Kd.C k82 w A0 l0.length l0) (hc0 : l0.length ≤ c0) (h : gantletlaw19_ControlPlays.f room l0 = some r) :
    Calls Try.prog 8 #[.int .i64 room, .slice A0 l0.length c0] w fun e w' => e = .returned (.bool r) ∧ Below w.heap.size w w' := by
  unfold gantletlaw19_ControlPlays.f at h
  by_cases hall : l0.all (fun x => decide (0 ≤ x.f0 ∧ x.f0 < 256)) = true
  · rw [if_pos hall] at h
    obtain rfl := Option.some.inj h
    refine gantletlaw19_ControlPlays.main room A0 c0 l0 w hr0 hc0 (fun i h0 h1 => ?_)
    exact of_decide_eq_true (List.all_eq_true.1 hall _ (rd82_mem l0 i h0 h1))
  · rw [if_neg hall] at h; cases h
end Go.Proofs.Ytbmnplojpeabmaa.QK
