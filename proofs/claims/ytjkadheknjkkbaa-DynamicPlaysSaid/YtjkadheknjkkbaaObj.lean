/-
  What a method keeps: all blocks but those of a set, and what is no memory.
  Conditions: none; plain lemmas over any world.
-/
import Derived.Test.YtjkadheknjkkbaaWWords
import Derived.Test.YtjkadheknjkkbaaWLast
import Derived.Test.YtjkadheknjkkbaaWKept
import Derived.Test.YtjkadheknjkkbaaWMore
namespace Go.Proofs.Ytjkadheknjkkbaa.Ob
open Go Go.RowKit Go.Proofs.YtjkadheknjkkbaaW.PrintWords
/-- All blocks that were there lie as they lay, but those of S. -/
structure Keeps (w w' : World) (S : Nat → Prop) : Prop where
  os : w'.os = w.os
  tape : w'.tape = w.tape
  output : w'.output = w.output
  size : w.heap.size ≤ w'.heap.size
  block : ∀ k, k < w.heap.size → ¬ S k → w'.heap[k]? = w.heap[k]?
section
variable {w w1 w2 : World} {S S1 S2 : Nat → Prop}
theorem Keeps.refl (w : World) (S : Nat → Prop) : Keeps w w S := ⟨rfl, rfl, rfl, Nat.le_refl _, fun _ _ _ => rfl⟩
theorem Keeps.of_below (h : Below w.heap.size w w1) (S : Nat → Prop) : Keeps w w1 S := ⟨h.os, h.tape, h.output, h.size, fun k hk _ => h.block k hk⟩
theorem Keeps.mono (h : Keeps w w1 S) (hs : ∀ k, S k → S1 k) : Keeps w w1 S1 := ⟨h.os, h.tape, h.output, h.size, fun k hk hn => h.block k hk (fun he => hn (hs k he))⟩
theorem Keeps.then_ (h : Keeps w w1 S) (k : Keeps w1 w2 S2) (hs : ∀ i, S2 i → S i ∨ w.heap.size ≤ i) : Keeps w w2 S :=
  ⟨k.os.trans h.os, k.tape.trans h.tape, k.output.trans h.output, Nat.le_trans h.size k.size, fun i hi hn => (k.block i (Nat.lt_of_lt_of_le hi h.size) (fun h2 => (hs i h2).elim hn (fun h3 => by omega))).trans (h.block i hi hn)⟩
theorem Keeps.below (h : Keeps w w1 S) (hb : Below w1.heap.size w1 w2) : Keeps w w2 S := h.then_ (Keeps.of_below hb (fun _ => False)) (fun _ hk => hk.elim)
theorem Keeps.alloc (h : Keeps w w1 S) (o : Obj) : Keeps w (w1.alloc o) S := h.below (below_alloc (Below.refl _ _) o)
theorem Keeps.drew (h : Keeps w w1 S) : Keeps w w1.drew S := ⟨h.os, h.tape, h.output, h.size, h.block⟩
theorem Keeps.drewN (h : Keeps w w1 S) (n : Nat) : Keeps w (w1.drewN n) S := h.below (pw_below_drewN (Below.refl _ _) n)
theorem Keeps.set (h : Keeps w w1 S) {g : Nat} (hp : S g ∨ w.heap.size ≤ g) (i : Nat) (u : Value) : Keeps w (w1.setCell ⟨g, i, none⟩ u) S :=
  ⟨h.os, h.tape, h.output, by simpa [World.setCell] using h.size, fun k hk hn => (Below.heap_setCell w1 ⟨g, i, none⟩ u k (by rintro rfl; exact hp.elim hn (fun h3 => by omega))).trans (h.block k hk hn)⟩
theorem Keeps.grown {row : Option Nat} (h : Keeps w w1 S) (hg : w1.grownBy w2 row) (hr : ∀ k, row = some k → S k ∨ w.heap.size ≤ k) : Keeps w w2 S :=
  ⟨hg.os.trans h.os, hg.tape.trans h.tape, hg.output.trans h.output, Nat.le_trans h.size hg.size, fun i hi hn => (hg.block i (Nat.lt_of_lt_of_le hi h.size) (fun he => (hr i he.symm).elim hn (fun h3 => by omega))).trans (h.block i hi hn)⟩
theorem Keeps.to_below (h : Keeps w w1 S) {B : Nat} (hB : B ≤ w.heap.size) (hs : ∀ k, S k → B ≤ k) : Below B w w1 :=
  ⟨h.os, h.tape, h.output, h.size, fun k hk => h.block k (by omega) (fun h2 => by have := hs k h2; omega)⟩
theorem Keeps.under (h : Keeps w w1 S) {w0 : World} (hb : Below w0.heap.size w0 w) (hs : ∀ k, S k → w0.heap.size ≤ k) : Below w0.heap.size w0 w1 :=
  hb.trans (h.to_below hb.size hs)
/-- Block g alone. -/
def One (g : Nat) : Nat → Prop := fun j => j = g
theorem Keeps.one (w : World) (nd g i : Nat) (u : Value) : Keeps w ((w.drewN nd).setCell ⟨g, i, none⟩ u) (One g) := ((Keeps.refl w (One g)).drewN nd).set (.inl rfl) i u
theorem Keeps.kept (h : Keeps w w1 S) : Kept w w1 S := ⟨h.size, h.block⟩
theorem blk_keeps {g : Nat} {o : Obj} (hb : w.heap[g]? = some o) (h : Keeps w w1 S) (hne : ¬ S g) : w1.heap[g]? = some o := (h.block g (blk_lt hb) hne).trans hb
end
end Go.Proofs.Ytjkadheknjkkbaa.Ob
