/- A region that draws its order, in a round of a loop over a function: what holds of it anywhere holds of it there. -/
import Derived.RangeFuncNested
import Derived.OrdersHeld
namespace Go.Proofs.YtjkadheknjkkbaaR
open Go Go.RowKit
set_option linter.unusedVariables false
section
variable {P : Program} {ops : Array Oper} {Q : Exit → Act → World → Prop} {l n : Nat}
theorem upon_round {o : Oper} {a : Act} {K K' : Act → World → Prop} (hQ : ¬ LetsOut Q) (hK : ∀ a w, K a w → K' a w) (r : Result Next) (h : o.upon P a K Q r) : o.uponIn (Fence.wide.inRound l) n P a K' Q r := by
  have hd : ∀ {p : Prop}, ((Fence.wide.inRound l).depth.isSome = true → p) := fun h => by simp [Fence.wide] at h
  cases r with
  | ok x w =>
    cases x with
    | value v => exact hK _ _ h
    | skip => exact hK _ _ h
    | defer d => exact hK _ _ h
    | enter f args =>
      refine ⟨hd, ?_⟩
      refine CallsIn.inRound l (callsIn_wide.2 (Calls.mono h fun e w' he => ?_))
      cases e with
      | returned v => exact hK _ _ he
      | panicked c => exact he
      | outgrown => exact he
    | row row args =>
      refine ⟨hd, fun c cs _ => ?_⟩
      obtain ⟨v, w', hr, hs⟩ := h c cs
      exact ⟨v, w', hK _ _ hr, stepsIn_wide.2 hs⟩
    | _ => exact h.elim
  | halt x w =>
    cases x <;> first | exact h | exact h.elim
theorem wpOps_round (hdef : ∀ o ∈ ops.toList, ∀ c, o.op ≠ .defer c) (hQ : ¬ LetsOut Q) : ∀ (L : List Nat) (a : Act) (w : World), wpOps P ops Q L a w → wpOpsIn (Fence.wide.inRound l) n P ops Q L a w
  | [], _, _, h => h
  | i :: rest, a, w, h => by
    simp only [wpOps] at h
    simp only [wpOpsIn]
    cases ho : ops[i]? with
    | none => rw [ho] at h; exact wpOps_round hdef hQ rest a w h
    | some o =>
      rw [ho] at h
      simp only [] at h ⊢
      by_cases hw : Region.wanted o (yielded ops a.tmps) = true
      · rw [if_pos hw] at h ⊢
        rcases h with h | ⟨_, h⟩
        · refine ⟨fun _ _ => trivial, ?_⟩
          rw [Oper.semAt_eq _ _ _ (hdef o (by have := Array.mem_of_getElem? ho; simpa using this))]
          exact upon_round hQ (wpOps_round hdef hQ rest) _ h
        · exact absurd h hQ
      · rw [if_neg hw] at h ⊢
        exact ⟨fun _ _ => trivial, wpOps_round hdef hQ rest _ _ h⟩
def Oper.plain (o : Oper) : Bool := match o.op with | .defer _ => false | _ => true
/-- The region, in whatever order, from the world behind the draw. -/
theorem region_round {id : Nat} {a : Act} {w : World} (hm : P.follows .mixedOrders = true) (hdef : ops.all Oper.plain = true) (hQ : ¬ LetsOut Q)
    (h : wpAny P .any ops Q ops.size (Array.replicate ops.size false) a w.drew) : (Code.region id ops true).wpIn (Fence.wide.inRound l) n P Q a w :=
  wpIn_region_draw fun t => by
    simp only [Region.schedule, hm, Bool.true_or, if_true]
    refine wpOps_round (fun o ho c hc => ?_) hQ _ _ _ (wpAny_sound ops.size t _ a _ h)
    have h1 := Array.all_eq_true_iff_forall_mem.1 hdef o (by simpa using ho)
    unfold Oper.plain at h1
    rw [hc] at h1
    cases h1
end
end Go.Proofs.YtjkadheknjkkbaaR
