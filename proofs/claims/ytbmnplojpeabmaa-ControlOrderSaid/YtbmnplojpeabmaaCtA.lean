/-
  CONTROL: what a queue is in memory.
  Conditions: none of its own; lemmas that the claim's row rests on.
-/
import Derived.Test.YtbmnplojpeabmaaQK
import Derived.Test.YtbmnplojpeabmaaObj
import Derived.Test.YtbmnplojpeabmaaGrow
import Derived.Test.YtbmnplojpeabmaaRowF
import Derived.WalkKit
namespace Go.Proofs.Ytbmnplojpeabmaa.QK
open Go.RowKit Go.Proofs.YtbmnplojpeabmaaW.PrintWords Go.Proofs.YtbmnplojpeabmaaW.PrintLast Go.Proofs.YtbmnplojpeabmaaW.PrintMore
attribute [local go_sem] max2_int min2_int max_two min_two max_three min_three max_four min_four
set_option linter.unusedVariables false
set_option linter.unusedSimpArgs false
open Go.Proofs.Ytbmnplojpeabmaa.Ob
theorem info67c : (Try.prog.info? 67).map (fun i => (i.zero, i.size, i.bytes)) = some (some (.agg #[(.int .i64 0), (.int .i64 0), (.int .i64 0), (.slice none 0 0)]), 4, 48) := by kernel_rfl
theorem u8one : ∀ x : Int, (Value.int .u8 x).oneCell' = true := fun _ => rfl
theorem C_nil8 (w : World) (A : Option Addr) : Kd.C (Kd.int .u8) w A 0 [] := ⟨rfl, by decide, fun h => absurd h (Nat.lt_irrefl 0)⟩
/-- A store as one step of a region that draws. -/
theorem store_step {P : Program} {ops : Array Oper} {o : Oper} {a : Act} {Q : Exit → Act → World → Prop} {Kc : Act → World → Prop} {W w1 : World} (hw : Region.wanted o (yielded ops a.tmps) = true) (hN : o.dst = none) (hrun : (execOp a.eval o).run P W = .ok .skip w1) (h : Kc a w1) :
    if Region.wanted o (yielded ops a.tmps) = true then Oper.wp P o a W Kc Q else Kc (a.put none undef) W := by
  rw [if_pos hw]
  unfold Oper.wp
  rw [hrun]
  show Kc (a.put o.dst undef) w1
  rw [hN]
  exact h
/-- A queue in block g: its room, its frames, whether the last one has come; all that it leads to, but for its block, lies in ok. -/
structure IsC (w : World) (g : Nat) (room : Int) (v : Value) (l : List S67) (ended : Bool) (ok : Nat → Prop) : Prop where
  blk : w.heap[g]? = some (.cells #[.int .i64 room, v, .bool ended] 141 (0, 0))
  row : Kd.N k67 67 w 0 ok v l
  ng : ¬ ok g
  lt : ∀ k, ok k → k < w.heap.size
/-- The document's. -/
structure IsD (w : World) (g : Nat) (room : Int) (v : Value) (l : List S67) (ended : Bool) (ok : Nat → Prop) : Prop where
  blk : w.heap[g]? = some (.cells #[.int .i64 room, v, .bool ended] 87 (0, 0))
  row : Kd.V k67 67 w 0 ok v l
  ng : ¬ ok g
  lt : ∀ k, ok k → k < w.heap.size
/-- What a queue's methods may write. -/
def Ft (g : Nat) (ok : Nat → Prop) : Nat → Prop := fun k => k = g ∨ ok k
section
variable {w w1 w2 W : World} {g : Nat} {room : Int} {v v1 : Value} {l : List S67} {ended : Bool} {ok ok1 ok2 S : Nat → Prop}
theorem IsC.keeps (h : IsC w g room v l ended ok) (hk : Keeps w w1 S) (hn : ∀ k, Ft g ok k → ¬ S k) : IsC w1 g room v l ended ok :=
  ⟨blk_keeps h.blk hk (hn g (.inl rfl)), Kd.N_kept h.row hk.kept (fun k ho => hn k (.inr ho)), h.ng, fun k ho => Nat.lt_of_lt_of_le (h.lt k ho) hk.size⟩
theorem IsC.below (h : IsC w g room v l ended ok) (hb : Below w.heap.size w w1) : IsC w1 g room v l ended ok := h.keeps (Keeps.of_below hb (fun _ => False)) (fun _ _ h => h)
theorem IsD.keeps (h : IsD w g room v l ended ok) (hk : Keeps w w1 S) (hn : ∀ k, Ft g ok k → ¬ S k) : IsD w1 g room v l ended ok :=
  ⟨blk_keeps h.blk hk (hn g (.inl rfl)), Kd.V_step h.row (fun k ho hlt => hk.block k hlt (hn k (.inr ho))), h.ng, fun k ho => Nat.lt_of_lt_of_le (h.lt k ho) hk.size⟩
theorem IsD.below (h : IsD w g room v l ended ok) (hb : Below w.heap.size w w1) : IsD w1 g room v l ended ok := h.keeps (Keeps.of_below hb (fun _ => False)) (fun _ _ h => h)
/-- What a queue's methods write: its block, its row. -/
def Fw (g : Nat) (v : Value) : Nat → Prop := fun k => k = g ∨ v.ownBlock = some k
/-- A queue moved on: it wrote its own alone; its row is the one it was, or new; it leads to its own, and to new. -/
def MvC (w : World) (g : Nat) (v : Value) (ok : Nat → Prop) (w1 : World) (v1 : Value) (ok1 : Nat → Prop) : Prop := Keeps w w1 (Fw g v) ∧ (∀ k, v1.ownBlock = some k → v.ownBlock = some k ∨ w.heap.size ≤ k) ∧ ∀ k, ok1 k → ok k ∨ w.heap.size ≤ k
theorem MvC.refl (w : World) (g : Nat) (v : Value) (ok : Nat → Prop) : MvC w g v ok w v ok := ⟨Keeps.refl _ _, fun _ h => .inl h, fun _ h => .inl h⟩
theorem MvC.trans {v2 : Value} (h : MvC w g v ok w1 v1 ok1) (k : MvC w1 g v1 ok1 w2 v2 ok2) : MvC w g v ok w2 v2 ok2 := by
  refine ⟨h.1.then_ k.1 (fun i hi => ?_), fun i hi => ?_, fun i hi => ?_⟩
  · rcases hi with rfl | hi
    · exact .inl (.inl rfl)
    · exact (h.2.1 i hi).imp (fun h => .inr h) id
  · rcases k.2.1 i hi with h1 | h1
    · exact h.2.1 i h1
    · exact .inr (Nat.le_trans h.1.size h1)
  · rcases k.2.2 i hi with h1 | h1
    · exact h.2.2 i h1
    · exact .inr (Nat.le_trans h.1.size h1)
theorem MvC.below (h : MvC w g v ok w1 v1 ok1) (hb : Below w1.heap.size w1 w2) : MvC w g v ok w2 v1 ok1 := ⟨h.1.below hb, h.2⟩
theorem MvC.of_below (hb : Below w.heap.size w w1) : MvC w g v ok w1 v ok := (MvC.refl w g v ok).below hb
/-- The document's moved on: it wrote its block alone; it leads to its own, to what was handed in, and to new. -/
def MvD (w : World) (g : Nat) (ok okp : Nat → Prop) (w1 : World) (ok1 : Nat → Prop) : Prop := Keeps w w1 (One g) ∧ ∀ k, ok1 k → ok k ∨ okp k ∨ w.heap.size ≤ k
theorem IsC.form (h : IsC w g room v l ended ok) : ∃ A c, v = .slice A l.length c := Kd.N_slice h.row
theorem IsD.form (h : IsD w g room v l ended ok) : ∃ A c, v = .slice A l.length c := Kd.V_slice h.row
/-- The queue behind a store of a row that has come of its own: N at the world W1 that has its block as it was. -/
theorem IsC.put {W W1 : World} {okf : Nat → Prop} {v1 : Value} {l1 : List S67} (h : IsC W g room v l ended ok) (hN : Kd.N k67 67 W1 0 okf v1 l1) (hb : W1.heap[g]? = some (.cells #[.int .i64 room, v, .bool ended] 141 (0, 0)))
    (hk : Keeps W W1 (Fw g v)) (hat : ∀ k, v1.ownBlock = some k → v.ownBlock = some k ∨ W.heap.size ≤ k) (hg : ∀ k, okf k → ok k ∨ W.heap.size ≤ k) : IsC (W1.setCell ⟨g, 1, none⟩ v1) g room v1 l1 ended (fun k => okf k ∧ k < W1.heap.size) ∧ MvC W g v ok (W1.setCell ⟨g, 1, none⟩ v1) v1 (fun k => okf k ∧ k < W1.heap.size) := by
  have hgW := blk_lt h.blk
  have hgn : ∀ k, okf k → k ≠ g := fun k ho => by
    rintro rfl
    rcases hg k ho with h1 | h1
    · exact h.ng h1
    · omega
  refine ⟨⟨(blk_put hb 1 v1 rfl).trans (by rfl), Kd.N_bound (Kd.N_far hN (p := ⟨g, 1, none⟩) hgn v1) |> fun h => Kd.N_mono h (fun k hk => ⟨hk.1, by simpa [World.setCell] using hk.2⟩), fun h1 => hgn g h1.1 rfl, fun k h1 => by simpa [World.setCell] using h1.2⟩, hk.set (.inl (.inl rfl)) 1 v1, hat, fun k h1 => hg k h1.1⟩
end
theorem at_own {W : World} {v v1 : Value} (hat : v1.ownBlock = v.ownBlock ∨ ∃ b, v1.ownBlock = some b ∧ W.heap.size ≤ b) {N0 : Nat} (hN : N0 ≤ W.heap.size) : ∀ k, v1.ownBlock = some k → v.ownBlock = some k ∨ N0 ≤ k := fun k hk => by
  rcases hat with e | ⟨b, e, hb⟩
  · exact .inl (by rw [← e]; exact hk)
  · rw [e] at hk; cases hk; exact .inr (Nat.le_trans hN hb)
section
variable {w w1 w2 W : World} {g : Nat} {room : Int} {v v1 : Value} {l : List S67} {ended b : Bool} {ok ok1 ok2 S : Nat → Prop}
/-- The last one has come. -/
theorem IsC.end_ (h : IsC w g room v l ended ok) : IsC (w.setCell ⟨g, 2, none⟩ (.bool true)) g room v l true ok :=
  ⟨(blk_put h.blk 2 _ rfl).trans rfl, Kd.N_far h.row (p := ⟨g, 2, none⟩) (fun k ho => by rintro rfl; exact h.ng ho) _, h.ng, fun k ho => by simpa [World.setCell] using h.lt k ho⟩
theorem MvC.end_ (h : MvC w g v ok w1 v1 ok1) : MvC w g v ok (w1.setCell ⟨g, 2, none⟩ (.bool true)) v1 ok1 := ⟨h.1.set (.inl (.inl rfl)) 2 _, h.2⟩
theorem IsD.end_ (h : IsD w g room v l ended ok) : IsD (w.setCell ⟨g, 2, none⟩ (.bool true)) g room v l true ok :=
  ⟨(blk_put h.blk 2 _ rfl).trans rfl, Kd.V_far h.row (p := ⟨g, 2, none⟩) (fun k ho => by rintro rfl; exact h.ng ho) _, h.ng, fun k ho => by simpa [World.setCell] using h.lt k ho⟩
/-- The document's queue behind a store of a row. -/
theorem IsD.put {W W1 : World} {okf okp : Nat → Prop} {v1 : Value} {l1 : List S67} (h : IsD W g room v l ended ok) (hN : Kd.V k67 67 W1 0 okf v1 l1) (hb : Below W.heap.size W W1) (hg : ∀ k, okf k → ok k ∨ okp k ∨ W.heap.size ≤ k) (hp : ¬ okp g) :
    IsD (W1.setCell ⟨g, 1, none⟩ v1) g room v1 l1 ended (fun k => okf k ∧ k < W1.heap.size) ∧ MvD W g ok okp (W1.setCell ⟨g, 1, none⟩ v1) (fun k => okf k ∧ k < W1.heap.size) := by
  have hgW := blk_lt h.blk
  have hgn : ∀ k, okf k → k ≠ g := fun k ho => by
    rintro rfl
    rcases hg k ho with h1 | h1 | h1
    · exact h.ng h1
    · exact hp h1
    · omega
  refine ⟨⟨(blk_put (blk_below h.blk hb) 1 v1 rfl).trans (by rfl), Kd.V_mono (Kd.V_bound (Kd.V_far hN (p := ⟨g, 1, none⟩) hgn v1)) (fun k hk => ⟨hk.1, by simpa [World.setCell] using hk.2⟩), fun h1 => hgn g h1.1 rfl, fun k h1 => by simpa [World.setCell] using h1.2⟩, (Keeps.of_below hb (One g)).set (.inl rfl) 1 v1, fun k h1 => hg k h1.1⟩
end
/-- A store as the last step of a region that draws. -/
theorem last_store {P : Program} {ops : Array Oper} {Q : Exit → Act → World → Prop} {md : Region.Mode} {S : World → Prop} {ds : List Nat} {i : Nat} {oi : Oper} {fuel : Nat} {l : Array Bool} {a : Act} {w w1 : World} (l' : Array Bool) (hi : ops[i]? = some oi) (hN : oi.dst = none) (hc : readyB md ops l l' i = true) (hd : i ∈ ds)
    (hw : Region.wanted oi (yielded ops a.tmps) = true) (hrun : (execOp a.eval oi).run P w = .ok .skip w1) (h : wpAnyLast P md ops Q S ds fuel l' a w1) : wpAnyLast P md ops Q S ds (fuel + 1) l a w :=
  last_ (N := none) l' hi hN hc hd (fun K hK => store_step hw hN hrun (hK.out _ _ h))
end Go.Proofs.Ytbmnplojpeabmaa.QK
