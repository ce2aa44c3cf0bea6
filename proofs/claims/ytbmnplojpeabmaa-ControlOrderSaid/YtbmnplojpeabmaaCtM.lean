/-
  CONTROL: the law ControlOrder's text.
  Conditions: none of its own; lemmas that the claim's row rests on.
-/
import Derived.Test.YtbmnplojpeabmaaCtJ
import Derived.Test.YtbmnplojpeabmaaCtL
import Derived.WalkKit
namespace Go.Proofs.Ytbmnplojpeabmaa.QK
open Go.RowKit Go.Proofs.YtbmnplojpeabmaaW.PrintWords Go.Proofs.YtbmnplojpeabmaaW.PrintLast Go.Proofs.YtbmnplojpeabmaaW.PrintMore
attribute [local go_sem] max2_int min2_int max_two min_two max_three min_three max_four min_four
set_option linter.unusedVariables false
set_option linter.unusedSimpArgs false
open Go.Proofs.Ytbmnplojpeabmaa.Ob
def gantletlaw19_ControlOrder.f (room : Int) (l : List S82) : Option Bool := if (decide (0 ≤ room ∧ room < 256) && l.all (fun x => decide (0 ≤ x.f0 ∧ x.f0 < 256))) = true then some true else none
theorem gantletlaw19_ControlOrder.calls (room : Int) (A0 : Option Addr) (c0 : Nat) (l0 : List S82) (r : Bool) (w : World) (hr0 : Kd.C k82 w A0 l0.length l0) (hc0 : l0.length ≤ c0) (h : gantletlaw19_ControlOrder.f room l0 = some r) :
    Calls Try.prog 9 #[.int .u8 room, .slice A0 l0.length c0] w fun e w' => e = .returned (.bool r) ∧ Below w.heap.size w w' := by
  unfold gantletlaw19_ControlOrder.f at h
  by_cases hall : (decide (0 ≤ room ∧ room < 256) && l0.all (fun x => decide (0 ≤ x.f0 ∧ x.f0 < 256))) = true
  · rw [if_pos hall] at h
    obtain rfl := Option.some.inj h
    rw [Bool.and_eq_true] at hall
    have h1 := of_decide_eq_true hall.1
    refine gantletlaw19_ControlOrder.main room A0 c0 l0 w hr0 hc0 (fun i h0 h1 => ?_) h1.1 h1.2
    exact of_decide_eq_true (List.all_eq_true.1 hall.2 _ (rd82_mem l0 i h0 h1))
  · rw [if_neg hall] at h; cases h
end Go.Proofs.Ytbmnplojpeabmaa.QK
