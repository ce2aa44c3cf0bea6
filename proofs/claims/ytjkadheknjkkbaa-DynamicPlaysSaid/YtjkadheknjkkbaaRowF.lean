/-
  A row of the call's own whose elements lead to what came in: it is read, it grows by an element.
  Conditions: plain lemmas over any world.
-/
import Derived.Test.YtjkadheknjkkbaaObj
import Derived.Test.YtjkadheknjkkbaaWShare
namespace Go.Proofs.Ytjkadheknjkkbaa.Ob
open Go Go.RowKit Go.Proofs.YtjkadheknjkkbaaW.PrintWords
set_option linter.unusedVariables false
set_option linter.unusedSimpArgs false
section
variable {α : Type} {d : Kd α} {e N0 : Nat} {w w1 W : World} {S : Nat → Prop} {v : Value} {xs : List α}
/-- A row of one's own; what its elements lead to lies below N0. -/
def RowF (d : Kd α) (e N0 : Nat) (w : World) (v : Value) (xs : List α) : Prop := OwnRow (Kd.FK d w (fun k => k < N0)) e d.sz w N0 v xs
theorem RowF.nil (d : Kd α) (e N0 : Nat) (w : World) : RowF d e N0 w (.slice none 0 0) [] := OwnRow.none_ _ _ _ _ _
theorem RowF.base (h : RowF d e N0 w v xs) : ∀ k, v.ownBlock = some k → N0 ≤ k := by
  obtain ⟨inner, ho, _⟩ := h
  exact own_base ho
theorem RowF.lt (h : RowF d e N0 w v xs) : ∀ k, v.ownBlock = some k → k < w.heap.size := by
  obtain ⟨inner, ho, _⟩ := h
  exact own_lt ho
theorem RowF.keeps (h : RowF d e N0 w v xs) (hk : Keeps w w1 S) (hn : ∀ k, v.ownBlock = some k → ¬ S k) (hS : ∀ k, S k → N0 ≤ k) : RowF d e N0 w1 v xs := by
  obtain ⟨inner, ho, hr⟩ := h
  refine ⟨inner, own_move ho (fun k hk1 => hk.block k (own_lt ho k hk1) (hn k hk1)), hr.imp_ (fun p c hp => Kd.FK_step hp (fun k hk1 hlt => hk.block k hlt (fun hs => ?_)))⟩
  have := hS k hs
  omega
theorem RowF.below (h : RowF d e N0 w v xs) (hb : Below w.heap.size w w1) : RowF d e N0 w1 v xs := h.keeps (Keeps.of_below hb (fun _ => False)) (fun _ _ h => h) (fun _ h => h.elim)
theorem RowF.reads (h : RowF d e N0 w v xs) : ∃ A c, v = .slice A xs.length c ∧ xs.length ≤ c ∧ d.C w A xs.length xs := by
  obtain ⟨A, c, he, hl, hr⟩ := OwnRow.reads h
  exact ⟨A, c, he, hl, hr.imp_ (Below.refl _ _) (fun _ _ hp => Kd.FK_now hp)⟩
end
section
variable {P : Program} {ops : Array Oper} {rest : List Oper} {o : Oper} {a : Act} {Q : Exit → Act → World → Prop} {α : Type}
theorem RowF.append (d : Kd α) {W : World} (N0 : Nat) (hgd : o.guard = none) (s x : Operand) (t e : TypeId) (z : Value) (bytes : Nat)
    (ho : o.op = .call { callee := .builtin .append, args := #[s, x], argTypes := #[t, t] })
    (ht : P.underlying t = some (.slice e)) (hinfo : (P.info? e).map (fun i => (i.zero, i.size, i.bytes)) = some (some z, d.sz, bytes)) (hz : z.cells.size = d.sz) (hs0 : 0 < d.sz) (hb0 : 0 < bytes)
    (v : Value) (xs : List α) (p : α) (cs : List Value) (hs : a.eval s = v) (hx : a.eval x = .slice (some ⟨W.heap.size, 0, none⟩) 1 1) (hp : Kd.FK d W (fun k => k < N0) p cs)
    (HO : RowF d e N0 W v xs) (hbase : N0 ≤ W.heap.size) (hl : (xs.length + 1) * bytes ≤ 140737488355328)
    (h : ∀ v1 w1, RowF d e N0 w1 v1 (xs ++ [p]) → W.grownBy w1 v.ownBlock → (v1.ownBlock = v.ownBlock ∨ ∃ b, v1.ownBlock = some b ∧ W.heap.size ≤ b) → wpList P ops Q rest (a.put o.dst v1) w1) :
    wpList P ops Q (o :: rest) a (W.alloc (.cells cs.toArray e)) := by
  have hv := HO.base
  refine OwnRow.append (w0 := W) N0 hgd s x t e z d.sz bytes ho ht hinfo hz hs0 hb0 v xs p cs hs hx hp (d.K_len (Kd.FK_now hp)) (d.K_one (Kd.FK_now hp)) HO (Below.refl _ _) hbase hl ?_
  intro v1 w1 hown hb hg hat
  refine h v1 w1 (OwnRow.imp_ hown (fun q c hq => Kd.FK_step hq (fun k hk hlt => hg.block k hlt (fun he => ?_)))) hg hat
  have := hv k he.symm
  omega
end
/-- What a block holds from its head on is read there. -/
theorem C_blk {α : Type} {d : Kd α} {w : World} {g t : Nat} {cs : Array Value} {xs : List α} (hb : w.heap[g]? = some (.cells cs t (0, 0))) (hR : Reps (d.K w) d.sz xs cs.toList) (hx : xs.length ≤ 9223372036854775807) : d.C w (some ⟨g, 0, none⟩) xs.length xs := by
  refine ⟨rfl, hx, fun _ => ⟨_, rfl, fun j p hj => ?_⟩⟩
  have hp := hR.2 j p hj
  refine ⟨_, d.K_len hp, hp, fun i u hu => ?_⟩
  have hi : i < d.sz := by
    rcases Nat.lt_or_ge i ((cs.toList.drop (j * d.sz)).take d.sz).length with h | h
    · rwa [d.K_len hp] at h
    · rw [List.getElem?_eq_none h] at hu; cases hu
  rw [List.getElem?_take_of_lt hi, List.getElem?_drop] at hu
  rw [Addr.add_lit, Nat.zero_add, blk_cell hb, ← Array.getElem?_toList]
  exact hu
theorem C_one_int {k : IntKind} {w : World} {g t : Nat} {x : Int} (hb : w.heap[g]? = some (.cells #[.int k x] t (0, 0))) : Kd.C (Kd.int k) w (some ⟨g, 0, none⟩) 1 [x] :=
  C_blk (d := Kd.int k) (xs := [x]) hb (Reps.snoc (c := [.int k x]) (Reps.none _ _) rfl rfl) (by simp)
end Go.Proofs.Ytjkadheknjkkbaa.Ob
