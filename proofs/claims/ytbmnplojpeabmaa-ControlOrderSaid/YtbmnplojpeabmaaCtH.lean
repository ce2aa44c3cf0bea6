/-
  CONTROL: both queues.
  Conditions: none of its own; lemmas that the claim's row rests on.
-/
import Derived.Test.YtbmnplojpeabmaaCtG
import Derived.WalkKit
namespace Go.Proofs.Ytbmnplojpeabmaa.QK
open Go.RowKit Go.Proofs.YtbmnplojpeabmaaW.PrintWords Go.Proofs.YtbmnplojpeabmaaW.PrintLast Go.Proofs.YtbmnplojpeabmaaW.PrintMore
attribute [local go_sem] max2_int min2_int max_two min_two max_three min_three max_four min_four
set_option linter.unusedVariables false
set_option linter.unusedSimpArgs false
open Go.Proofs.Ytbmnplojpeabmaa.Ob
/-- Both queues, behind the world w0. -/
structure StD (w0 W : World) (g1 g2 : Nat) (room : Int) (l1 : List S67) (e1 : Bool) (v1 : Value) (ok1 : Nat → Prop) (l2 : List S67) (e2 : Bool) (v2 : Value) (ok2 : Nat → Prop) (Kp : Nat → Obj → Prop) : Prop where
  c : StC w0 W g1 room l1 e1 v1 ok1 Kp
  d : IsD W g2 room v2 l2 e2 ok2
  ge2 : w0.heap.size ≤ g2
  ne : g1 ≠ g2
  d1 : ∀ k, ok2 k → k ≠ g1 ∧ v1.ownBlock ≠ some k
  d2 : v1.ownBlock ≠ some g2
  d3 : ¬ ok1 g2
  kp : ∀ b o, Kp b o → b ≠ g2
/-- What Push (or Last) answers, and the queue behind it. -/
def pushR (last : Bool) (room : Int) (l : List S67) (ended : Bool) (x : S67) : Int × List S67 × Bool :=
  if ended = true then (7, l, ended) else if last = false ∧ room ≤ (l.length : Int) then (4, l, ended) else (0, l ++ [x], last)
theorem pushR_len (last : Bool) (room : Int) (l : List S67) (ended : Bool) (x : S67) : (pushR last room l ended x).2.1.length ≤ l.length + 1 ∧ sumF (pushR last room l ended x).2.1 ≤ sumF l + x.f3.length := by
  unfold pushR
  repeat' split
  · exact ⟨by simp, by simp⟩
  · exact ⟨by simp, by simp⟩
  · exact ⟨by simp, by simp [sumF_append, sumF]⟩
section
variable {w0 W W1 : World} {g1 g2 : Nat} {room : Int} {l1 l2 l' : List S67} {e1 e2 e' : Bool} {v1 v2 v' : Value} {ok1 ok2 ok' okp : Nat → Prop} {Kp : Nat → Obj → Prop}
theorem StD.moveC (h : StD w0 W g1 g2 room l1 e1 v1 ok1 l2 e2 v2 ok2 Kp) (hI : IsC W1 g1 room v' l' e' ok') (hm : MvC W g1 v1 ok1 W1 v' ok') : StD w0 W1 g1 g2 room l' e' v' ok' l2 e2 v2 ok2 Kp := by
  have hg2 := blk_lt h.d.blk
  refine ⟨h.c.move hI hm, h.d.keeps hm.1 (fun k hk hF => ?_), h.ge2, h.ne, fun k hk => ⟨(h.d1 k hk).1, fun e => ?_⟩, fun e => ?_, fun e => ?_, h.kp⟩
  · rcases hk with rfl | hk <;> rcases hF with rfl | hF
    · exact h.ne rfl
    · exact h.d2 hF
    · exact (h.d1 _ hk).1 rfl
    · exact (h.d1 _ hk).2 hF
  · rcases hm.2.1 k e with h1 | h1
    · exact (h.d1 k hk).2 h1
    · have := h.d.lt k hk; omega
  · rcases hm.2.1 _ e with h1 | h1
    · exact h.d2 h1
    · omega
  · rcases hm.2.2 _ e with h1 | h1
    · exact h.d3 h1
    · omega
theorem StD.moveD (h : StD w0 W g1 g2 room l1 e1 v1 ok1 l2 e2 v2 ok2 Kp) (hI : IsD W1 g2 room v' l' e' ok') (hm : MvD W g2 ok2 okp W1 ok') (hp : ∀ k, okp k → k < w0.heap.size) : StD w0 W1 g1 g2 room l1 e1 v1 ok1 l' e' v' ok' Kp := by
  have hg1 := blk_lt h.c.io.blk
  have hge := h.c.ge
  have hbe := h.c.be.size
  refine ⟨⟨h.c.io.keeps hm.1 (fun k hk hF => ?_), hm.1.under h.c.be (fun k hk => by rcases hk with rfl; exact h.ge2), h.c.ge, h.c.own, fun b o hb => ?_⟩, hI, h.ge2, h.ne, fun k hk => ?_, h.d2, h.d3, h.kp⟩
  · rcases hF with rfl
    rcases hk with rfl | hk
    · exact h.ne rfl
    · exact h.d3 hk
  · obtain ⟨h1, h2, h3⟩ := h.c.kp b o hb
    exact ⟨(hm.1.block b (blk_lt h1) (fun hF => h.kp b o hb hF)).trans h1, h2, h3⟩
  · rcases hm.2 k hk with h1 | h1 | h1
    · exact h.d1 k h1
    · have := hp k h1; exact ⟨by omega, fun e => by have := h.c.own k e; omega⟩
    · exact ⟨by omega, fun e => by have := Kd.N_lt h.c.io.row k e; omega⟩
theorem StD.below (h : StD w0 W g1 g2 room l1 e1 v1 ok1 l2 e2 v2 ok2 Kp) (hb : Below W.heap.size W W1) : StD w0 W1 g1 g2 room l1 e1 v1 ok1 l2 e2 v2 ok2 Kp := h.moveC (h.c.io.below hb) (MvC.of_below hb)
theorem StD.alloc (h : StD w0 W g1 g2 room l1 e1 v1 ok1 l2 e2 v2 ok2 Kp) (o : Obj) : StD w0 (W.alloc o) g1 g2 room l1 e1 v1 ok1 l2 e2 v2 ok2 (fun b o' => Kp b o' ∨ (b = W.heap.size ∧ o' = o)) := by
  have h1 := h.below (below_alloc (Below.refl W.heap.size W) o)
  exact ⟨h.c.alloc o, h1.d, h1.ge2, h1.ne, h1.d1, h1.d2, h1.d3, fun b o' hb => by
    rcases hb with hb | ⟨rfl, rfl⟩
    · exact h.kp b o' hb
    · have := blk_lt h.d.blk; omega⟩
theorem StD.forget (h : StD w0 W g1 g2 room l1 e1 v1 ok1 l2 e2 v2 ok2 Kp) : StD w0 W g1 g2 room l1 e1 v1 ok1 l2 e2 v2 ok2 (fun _ _ => False) :=
  ⟨⟨h.c.io, h.c.be, h.c.ge, h.c.own, fun _ _ h => h.elim⟩, h.d, h.ge2, h.ne, h.d1, h.d2, h.d3, fun _ _ h => h.elim⟩
theorem StD.pushC (h : StD w0 W g1 g2 room l1 e1 v1 ok1 l2 e2 v2 ok2 Kp) (x0 x1 x2 : Int) (A3 : Option Addr) (c3 : Nat) (x3 : List Int) (hC : Kd.C (Kd.int .u8) w0 A3 x3.length x3) (hc3 : x3.length ≤ c3) (hl3 : x3.length ≤ 1000000) (hl : l1.length ≤ 100000) :
    Calls Try.prog 54 #[.pointer (some ⟨g1, 0, none⟩), .agg #[.int .i64 x0, .int .i64 x1, .int .i64 x2, .slice A3 x3.length c3]] W fun e w' => e = .returned (.int .i64 (pushR false room l1 e1 ⟨x0, x1, x2, x3⟩).1) ∧ ∃ v' ok', StD w0 w' g1 g2 room (pushR false room l1 e1 ⟨x0, x1, x2, x3⟩).2.1 (pushR false room l1 e1 ⟨x0, x1, x2, x3⟩).2.2 v' ok' l2 e2 v2 ok2 Kp := by
  cases e1
  · by_cases hr : room ≤ (l1.length : Int)
    · simp only [pushR, hr, and_self, if_true, Bool.false_eq_true, if_false]
      refine (control_Push.full _ _ _ _ _ _ _ _ _ _ _ _ h.c.io hr).mono ?_
      rintro e w' ⟨rfl, hb⟩
      exact ⟨rfl, _, _, h.below hb⟩
    · simp only [pushR, hr, and_false, if_false, Bool.false_eq_true]
      refine (control_Push.ok _ _ _ _ _ _ _ _ _ _ _ _ h.c.io (Kd.C_below hC h.c.be) hc3 hl3 hl (by omega)).mono ?_
      rintro e w' ⟨rfl, v', ok', hI, hm⟩
      exact ⟨rfl, _, _, h.moveC hI hm⟩
  · simp only [pushR, if_true]
    refine (control_Push.over _ _ _ _ _ _ _ _ _ _ _ _ h.c.io).mono ?_
    rintro e w' ⟨rfl, hb⟩
    exact ⟨rfl, _, _, h.below hb⟩
theorem StD.lastC (h : StD w0 W g1 g2 room l1 e1 v1 ok1 l2 e2 v2 ok2 Kp) (x0 x1 x2 : Int) (A3 : Option Addr) (c3 : Nat) (x3 : List Int) (hC : Kd.C (Kd.int .u8) w0 A3 x3.length x3) (hc3 : x3.length ≤ c3) (hl3 : x3.length ≤ 1000000) (hl : l1.length ≤ 100000) :
    Calls Try.prog 52 #[.pointer (some ⟨g1, 0, none⟩), .agg #[.int .i64 x0, .int .i64 x1, .int .i64 x2, .slice A3 x3.length c3]] W fun e w' => e = .returned (.int .i64 (pushR true room l1 e1 ⟨x0, x1, x2, x3⟩).1) ∧ ∃ v' ok', StD w0 w' g1 g2 room (pushR true room l1 e1 ⟨x0, x1, x2, x3⟩).2.1 (pushR true room l1 e1 ⟨x0, x1, x2, x3⟩).2.2 v' ok' l2 e2 v2 ok2 Kp := by
  cases e1
  · simp only [pushR, Bool.true_eq_false, Bool.false_eq_true, false_and, if_false]
    refine (control_Last.ok _ _ _ _ _ _ _ _ _ _ _ _ h.c.io (Kd.C_below hC h.c.be) hc3 hl3 hl).mono ?_
    rintro e w' ⟨rfl, v', ok', hI, hm⟩
    exact ⟨rfl, _, _, h.moveC hI hm⟩
  · simp only [pushR, if_true]
    refine (control_Last.over _ _ _ _ _ _ _ _ _ _ _ _ h.c.io).mono ?_
    rintro e w' ⟨rfl, hb⟩
    exact ⟨rfl, _, _, h.below hb⟩
theorem StD.pushD (h : StD w0 W g1 g2 room l1 e1 v1 ok1 l2 e2 v2 ok2 Kp) (x0 x1 x2 : Int) (A3 : Option Addr) (c3 : Nat) (x3 : List Int) (hX : Kd.FK k67 W okp (⟨x0, x1, x2, x3⟩ : S67) [.int .i64 x0, .int .i64 x1, .int .i64 x2, .slice A3 x3.length c3]) (hp : ∀ k, okp k → k < w0.heap.size) (hl : l2.length ≤ 100000) :
    Calls Try.prog 55 #[.pointer (some ⟨g2, 0, none⟩), .agg #[.int .i64 x0, .int .i64 x1, .int .i64 x2, .slice A3 x3.length c3]] W fun e w' => e = .returned (.int .i64 (pushR false room l2 e2 ⟨x0, x1, x2, x3⟩).1) ∧ ∃ v' ok', StD w0 w' g1 g2 room l1 e1 v1 ok1 (pushR false room l2 e2 ⟨x0, x1, x2, x3⟩).2.1 (pushR false room l2 e2 ⟨x0, x1, x2, x3⟩).2.2 v' ok' Kp := by
  have hpg : ¬ okp g2 := fun h1 => by have := hp _ h1; have := h.ge2; omega
  cases e2
  · by_cases hr : room ≤ (l2.length : Int)
    · simp only [pushR, hr, and_self, if_true, Bool.false_eq_true, if_false]
      refine (r19_Push.full _ _ _ _ _ _ _ _ _ _ _ _ h.d hr).mono ?_
      rintro e w' ⟨rfl, hb⟩
      exact ⟨rfl, _, _, h.below hb⟩
    · simp only [pushR, hr, and_false, if_false, Bool.false_eq_true]
      refine (r19_Push.ok _ _ _ _ _ _ _ _ _ _ _ _ okp h.d hX hpg hl (by omega)).mono ?_
      rintro e w' ⟨rfl, v', ok', hI, hm⟩
      exact ⟨rfl, _, _, h.moveD hI hm hp⟩
  · simp only [pushR, if_true]
    refine (r19_Push.over _ _ _ _ _ _ _ _ _ _ _ _ h.d).mono ?_
    rintro e w' ⟨rfl, hb⟩
    exact ⟨rfl, _, _, h.below hb⟩
theorem StD.lastD (h : StD w0 W g1 g2 room l1 e1 v1 ok1 l2 e2 v2 ok2 Kp) (x0 x1 x2 : Int) (A3 : Option Addr) (c3 : Nat) (x3 : List Int) (hX : Kd.FK k67 W okp (⟨x0, x1, x2, x3⟩ : S67) [.int .i64 x0, .int .i64 x1, .int .i64 x2, .slice A3 x3.length c3]) (hp : ∀ k, okp k → k < w0.heap.size) (hl : l2.length ≤ 100000) :
    Calls Try.prog 53 #[.pointer (some ⟨g2, 0, none⟩), .agg #[.int .i64 x0, .int .i64 x1, .int .i64 x2, .slice A3 x3.length c3]] W fun e w' => e = .returned (.int .i64 (pushR true room l2 e2 ⟨x0, x1, x2, x3⟩).1) ∧ ∃ v' ok', StD w0 w' g1 g2 room l1 e1 v1 ok1 (pushR true room l2 e2 ⟨x0, x1, x2, x3⟩).2.1 (pushR true room l2 e2 ⟨x0, x1, x2, x3⟩).2.2 v' ok' Kp := by
  have hpg : ¬ okp g2 := fun h1 => by have := hp _ h1; have := h.ge2; omega
  cases e2
  · simp only [pushR, Bool.true_eq_false, Bool.false_eq_true, false_and, if_false]
    refine (r19_Last.ok _ _ _ _ _ _ _ _ _ _ _ _ okp h.d hX hpg hl).mono ?_
    rintro e w' ⟨rfl, v', ok', hI, hm⟩
    exact ⟨rfl, _, _, h.moveD hI hm hp⟩
  · simp only [pushR, if_true]
    refine (r19_Last.over _ _ _ _ _ _ _ _ _ _ _ _ h.d).mono ?_
    rintro e w' ⟨rfl, hb⟩
    exact ⟨rfl, _, _, h.below hb⟩
end
end Go.Proofs.Ytbmnplojpeabmaa.QK
