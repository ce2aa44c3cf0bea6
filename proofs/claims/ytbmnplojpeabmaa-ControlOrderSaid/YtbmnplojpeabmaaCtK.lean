/-
  CONTROL: what came, what went.
  Conditions: none of its own; lemmas that the claim's row rests on.
-/
import Derived.Test.YtbmnplojpeabmaaCtI
import Derived.WalkKit
namespace Go.Proofs.Ytbmnplojpeabmaa.QK
open Go.RowKit Go.Proofs.YtbmnplojpeabmaaW.PrintWords Go.Proofs.YtbmnplojpeabmaaW.PrintLast Go.Proofs.YtbmnplojpeabmaaW.PrintMore
attribute [local go_sem] max2_int min2_int max_two min_two max_three min_three max_four min_four
set_option linter.unusedVariables false
set_option linter.unusedSimpArgs false
open Go.Proofs.Ytbmnplojpeabmaa.Ob
/-- A queue, the frames that came into it (a row whose payloads came in), the frames that went out of it (a row whose payloads are the queue's own, never written again). -/
structure StO (w0 W : World) (g : Nat) (room : Int) (l : List S67) (ended : Bool) (v : Value) (ok : Nat → Prop) (vc : Value) (came : List S67) (vw : Value) (okw : Nat → Prop) (went : List S67) : Prop where
  io : IsC W g room v l ended ok
  be : Below w0.heap.size w0 W
  ge : w0.heap.size ≤ g
  own : ∀ k, v.ownBlock = some k → w0.heap.size ≤ k
  cm : RowF k67 67 w0.heap.size W vc came
  wt : Kd.N k67 67 W w0.heap.size okw vw went
  dc : ∀ k, vc.ownBlock = some k → k ≠ g ∧ v.ownBlock ≠ some k ∧ ¬ ok k ∧ ¬ okw k
  dw : ∀ k, okw k → k ≠ g ∧ v.ownBlock ≠ some k ∧ k < W.heap.size
  di : ∀ k, vw.ownBlock = some k → ¬ ok k
section
variable {w0 W W1 : World} {g : Nat} {room : Int} {l l' : List S67} {e e' : Bool} {v v' vc vw : Value} {ok ok' okw : Nat → Prop} {came went : List S67}
theorem StO.moveC (h : StO w0 W g room l e v ok vc came vw okw went) (hI : IsC W1 g room v' l' e' ok') (hm : MvC W g v ok W1 v' ok') : StO w0 W1 g room l' e' v' ok' vc came vw okw went := by
  have hv : ∀ k, Fw g v k → w0.heap.size ≤ k := fun k hk => by rcases hk with rfl | hk; exact h.ge; exact h.own k hk
  refine ⟨hI, hm.1.under h.be hv, h.ge, fun k hk => ?_, h.cm.keeps hm.1 (fun k hk hF => ?_) hv, Kd.N_kept h.wt hm.1.kept (fun k hk hF => ?_), fun k hk => ?_, fun k hk => ?_, fun k hk hk' => ?_⟩
  · rcases hm.2.1 k hk with h1 | h1
    · exact h.own k h1
    · exact Nat.le_trans h.be.size h1
  · rcases hF with h1 | h1
    · exact (h.dc k hk).1 h1
    · exact (h.dc k hk).2.1 h1
  · rcases hF with h1 | h1
    · exact (h.dw k hk).1 h1
    · exact (h.dw k hk).2.1 h1
  · obtain ⟨h1, h2, h3, h4⟩ := h.dc k hk
    have hlt := h.cm.lt k hk
    exact ⟨h1, fun e => (hm.2.1 k e).elim h2 (fun h5 => by omega), fun e => (hm.2.2 k e).elim h3 (fun h5 => by omega), h4⟩
  · obtain ⟨h1, h2, h3⟩ := h.dw k hk
    exact ⟨h1, fun e => (hm.2.1 k e).elim h2 (fun h5 => by omega), Nat.lt_of_lt_of_le h3 hm.1.size⟩
  · have hlt := Kd.N_lt h.wt k hk
    exact (hm.2.2 k hk').elim (h.di k hk) (fun h5 => by omega)
theorem StO.below (h : StO w0 W g room l e v ok vc came vw okw went) (hb : Below W.heap.size W W1) : StO w0 W1 g room l e v ok vc came vw okw went := h.moveC (h.io.below hb) (MvC.of_below hb)
/-- Behind an append to what came. -/
theorem StO.cameApp {vc1 : Value} {came1 : List S67} (h : StO w0 W g room l e v ok vc came vw okw went) (hR : RowF k67 67 w0.heap.size W1 vc1 came1) (hg : W.grownBy W1 vc.ownBlock) (hat : vc1.ownBlock = vc.ownBlock ∨ ∃ b, vc1.ownBlock = some b ∧ W.heap.size ≤ b) : StO w0 W1 g room l e v ok vc1 came1 vw okw went := by
  have hk : Keeps W W1 (fun k => vc.ownBlock = some k) := (Keeps.refl W _).grown hg (fun k e => .inl e)
  refine ⟨h.io.keeps hk (fun k hF hc => ?_), hk.under h.be (fun k hc => h.cm.base k hc), h.ge, h.own, hR, Kd.N_kept h.wt hk.kept (fun k hk hc => (h.dc k hc).2.2.2 hk), fun k hk1 => ?_, fun k hk1 => ?_, h.di⟩
  · rcases hF with rfl | hF
    · exact (h.dc _ hc).1 rfl
    · exact (h.dc _ hc).2.2.1 hF
  · rcases hat with e1 | ⟨b, e1, hb⟩
    · rw [e1] at hk1
      exact h.dc k hk1
    · rw [e1] at hk1
      cases hk1
      have h1 := blk_lt h.io.blk
      exact ⟨by omega, fun e => by have := Kd.N_lt h.io.row _ e; omega, fun e => by have := h.io.lt _ e; omega, fun e => by have := (h.dw _ e).2.2; omega⟩
  · obtain ⟨h1, h2, h3⟩ := h.dw k hk1
    exact ⟨h1, h2, Nat.lt_of_lt_of_le h3 hk.size⟩
/-- Behind an append to what went. -/
theorem StO.wentApp {vw1 : Value} {went1 : List S67} {okp : Nat → Prop} (h : StO w0 W g room l e v ok vc came vw okw went) (hR : Kd.N k67 67 W1 w0.heap.size (fun k => okw k ∨ okp k ∨ W.heap.size ≤ k) vw1 went1) (hg : W.grownBy W1 vw.ownBlock) (hat : vw1.ownBlock = vw.ownBlock ∨ ∃ b, vw1.ownBlock = some b ∧ W.heap.size ≤ b)
    (hp : ∀ k, okp k → k ≠ g ∧ v.ownBlock ≠ some k ∧ k < W.heap.size ∧ vc.ownBlock ≠ some k) : StO w0 W1 g room l e v ok vc came vw1 (fun k => (okw k ∨ okp k ∨ W.heap.size ≤ k) ∧ k < W1.heap.size) went1 := by
  have hk : Keeps W W1 (fun k => vw.ownBlock = some k) := (Keeps.refl W _).grown hg (fun k e => .inl e)
  have hw0 : ∀ k, vw.ownBlock = some k → w0.heap.size ≤ k := fun k hc => Kd.N_base h.wt k hc
  refine ⟨h.io.keeps hk (fun k hF hc => ?_), hk.under h.be hw0, h.ge, h.own, h.cm.keeps hk (fun k hc hw => (h.dc k hc).2.2.2 (h.wt.1 k hw)) hw0, Kd.N_bound hR, fun k hk1 => ?_, fun k hk1 => ?_, fun k hk1 hk2 => ?_⟩
  · rcases hF with rfl | hF
    · exact (h.dw _ (h.wt.1 _ hc)).1 rfl
    · exact h.di k hc hF
  · obtain ⟨h1, h2, h3, h4⟩ := h.dc k hk1
    refine ⟨h1, h2, h3, fun h5 => ?_⟩
    rcases h5.1 with h6 | h6 | h6
    · exact h4 h6
    · exact (hp k h6).2.2.2 hk1
    · have := h.cm.lt k hk1; omega
  · rcases hk1.1 with h6 | h6 | h6
    · obtain ⟨h1, h2, h3⟩ := h.dw k h6
      exact ⟨h1, h2, hk1.2⟩
    · obtain ⟨h1, h2, h3, h4⟩ := hp k h6
      exact ⟨h1, h2, hk1.2⟩
    · have h1 := blk_lt h.io.blk
      exact ⟨by omega, fun e => by have := Kd.N_lt h.io.row _ e; omega, hk1.2⟩
  · rcases hat with e1 | ⟨b, e1, hb⟩
    · rw [e1] at hk1
      exact h.di k hk1 hk2
    · rw [e1] at hk1
      cases hk1
      have := h.io.lt _ hk2; omega
theorem StO.push (last : Bool) (h : StO w0 W g room l e v ok vc came vw okw went) (x0 x1 x2 : Int) (A3 : Option Addr) (c3 : Nat) (x3 : List Int) (hC : Kd.C (Kd.int .u8) w0 A3 x3.length x3) (hc3 : x3.length ≤ c3) (hl3 : x3.length ≤ 1000000) (hl : l.length ≤ 100000) :
    Calls Try.prog (if last then 52 else 54) #[.pointer (some ⟨g, 0, none⟩), .agg #[.int .i64 x0, .int .i64 x1, .int .i64 x2, .slice A3 x3.length c3]] W fun e1 w' => e1 = .returned (.int .i64 (pushR last room l e ⟨x0, x1, x2, x3⟩).1) ∧ ∃ v' ok', StO w0 w' g room (pushR last room l e ⟨x0, x1, x2, x3⟩).2.1 (pushR last room l e ⟨x0, x1, x2, x3⟩).2.2 v' ok' vc came vw okw went := by
  cases last
  · cases e
    · by_cases hr : room ≤ (l.length : Int)
      · simp only [pushR, hr, and_self, if_true, Bool.false_eq_true, if_false]
        refine (control_Push.full _ _ _ _ _ _ _ _ _ _ _ _ h.io hr).mono ?_
        rintro e w' ⟨rfl, hb⟩
        exact ⟨rfl, _, _, h.below hb⟩
      · simp only [pushR, hr, and_false, if_false, Bool.false_eq_true]
        refine (control_Push.ok _ _ _ _ _ _ _ _ _ _ _ _ h.io (Kd.C_below hC h.be) hc3 hl3 hl (by omega)).mono ?_
        rintro e w' ⟨rfl, v', ok', hI, hm⟩
        exact ⟨rfl, _, _, h.moveC hI hm⟩
    · simp only [pushR, if_true, Bool.false_eq_true, if_false]
      refine (control_Push.over _ _ _ _ _ _ _ _ _ _ _ _ h.io).mono ?_
      rintro e w' ⟨rfl, hb⟩
      exact ⟨rfl, _, _, h.below hb⟩
  · cases e
    · simp only [pushR, Bool.true_eq_false, Bool.false_eq_true, false_and, if_false, if_true]
      refine (control_Last.ok _ _ _ _ _ _ _ _ _ _ _ _ h.io (Kd.C_below hC h.be) hc3 hl3 hl).mono ?_
      rintro e w' ⟨rfl, v', ok', hI, hm⟩
      exact ⟨rfl, _, _, h.moveC hI hm⟩
    · simp only [pushR, if_true]
      refine (control_Last.over _ _ _ _ _ _ _ _ _ _ _ _ h.io).mono ?_
      rintro e w' ⟨rfl, hb⟩
      exact ⟨rfl, _, _, h.below hb⟩
end
/-- The law's state between two rounds. -/
def Ord (w0 W : World) (g : Nat) (room : Int) (l : List S67) (ended : Bool) (vc : Value) (came : List S67) (vw : Value) (went : List S67) : Prop := ∃ v ok okw, StO w0 W g room l ended v ok vc came vw okw went
theorem pushR_cases (last : Bool) (room : Int) (l : List S67) (e : Bool) (x : S67) : (pushR last room l e x = (7, l, e) ∧ e = true) ∨ (pushR last room l e x = (4, l, e) ∧ last = false ∧ e = false) ∨ (pushR last room l e x = (0, l ++ [x], last) ∧ e = false ∧ (last = true ∨ (l.length : Int) < room)) := by
  unfold pushR
  cases e
  · rw [if_neg (by simp)]
    by_cases h : last = false ∧ room ≤ (l.length : Int)
    · rw [if_pos h]; exact .inr (.inl ⟨rfl, h.1, rfl⟩)
    · rw [if_neg h]
      refine .inr (.inr ⟨rfl, rfl, ?_⟩)
      cases last
      · right; simp at h; omega
      · left; rfl
  · exact .inl ⟨rfl, rfl⟩
theorem FK67_pop {W : World} {x : S67} {A3 : Option Addr} {c3 : Nat} {ok : Nat → Prop} (hc : x.f3.length ≤ c3) (hF : Kd.F (Kd.int .u8) W ok A3 x.f3.length x.f3) : Kd.FK k67 W ok x [.int .i64 x.f0, .int .i64 x.f1, .int .i64 x.f2, .slice A3 x.f3.length c3] := fun W' hW => k67_mk W' x hc (hF W' hW)
theorem same02_selfR {k : Nat} (x : S67) (hl : x.f3.length ≤ 1000000) (hk : x.f3.length < k) : gantletref02_Same.f k x.f0 x.f1 x.f2 x.f3 x.f0 x.f1 x.f2 x.f3 = some true := same02_self x.f0 x.f1 x.f2 x.f3 hl hk
end Go.Proofs.Ytbmnplojpeabmaa.QK
