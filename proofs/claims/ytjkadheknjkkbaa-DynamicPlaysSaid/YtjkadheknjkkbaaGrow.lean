/-
  A row that is its holder's to append to: read, with no room behind it (cap = len), or the holder's own.
  Conditions: one cell an element; plain lemmas over any world.
-/
import Derived.Test.YtjkadheknjkkbaaObj
import Derived.ArgAppend
namespace Go.Proofs.Ytjkadheknjkkbaa.Ob
open Go Go.RowKit Go.Proofs.YtjkadheknjkkbaaW.PrintWords
set_option linter.unusedVariables false
set_option linter.unusedSimpArgs false
theorem add_blk (a : Addr) (n : Nat) : (a.add n).block = a.block := by
  unfold Addr.add
  split <;> rfl
theorem cell_same {w w1 : World} {p : Addr} (h : w1.heap[p.block]? = w.heap[p.block]?) : w1.cell? p = w.cell? p := by
  unfold World.cell?
  rw [h]
section
variable {α : Type} {enc : α → Value} {h1 : ∀ x, (enc x).oneCell' = true} {w w1 W : World} {S : Nat → Prop} {A : Option Addr} {n : Nat} {xs ys : List α} {e : Nat} {v : Value}
/-- What is read stays where the blocks of it stay. -/
theorem C_same (h : (Kd.scalar enc h1).C w A n xs) (hs : ∀ ad, A = some ad → 0 < n → w1.heap[ad.block]? = w.heap[ad.block]?) : (Kd.scalar enc h1).C w1 A n xs := by
  obtain ⟨h2, h3, h4⟩ := h
  refine ⟨h2, h3, fun hn => ?_⟩
  obtain ⟨ad, e1, hc⟩ := h4 hn
  refine ⟨ad, e1, fun j p hj => ?_⟩
  obtain ⟨c, c1, c2, c3⟩ := hc j p hj
  exact ⟨c, c1, c2, fun i u hu => (cell_same (by rw [add_blk]; exact hs ad e1 hn)).trans (c3 i u hu)⟩
theorem C_lt (h : (Kd.scalar enc h1).C w A n xs) (hn : 0 < n) : ∀ ad, A = some ad → ad.block < w.heap.size := by
  obtain ⟨h2, h3, h4⟩ := h
  intro ad e1
  obtain ⟨ad', e2, hc⟩ := h4 hn
  rw [e1] at e2
  cases e2
  have hl : 0 < xs.length := by omega
  obtain ⟨c, c1, c2, c3⟩ := hc 0 xs[0] (List.getElem?_eq_getElem hl)
  have h5 := c3 0 (c[0]'(by rw [c1]; exact Nat.one_pos)) (List.getElem?_eq_getElem _)
  have h6 := World.block_lt_of_cell? w _ h5
  rwa [add_blk] at h6
theorem reads_cells {d : α} {ad : Addr} (h : ReadsOf enc d w (some ad) n xs) : ∀ j u, (encs enc xs)[j]? = some u → w.cell? (ad.add j) = some u := by
  intro j u hu
  have hj : j < xs.length := by
    rcases Nat.lt_or_ge j xs.length with h | h
    · exact h
    · simp [encs, List.getElem?_eq_none h] at hu
  obtain ⟨ad', e, hc⟩ := h.2.2 (by have := h.1; omega)
  cases e
  rw [encs_get (d := d) xs j hj] at hu
  cases hu
  exact hc j (by have := h.1; omega)
/-- A row that is its holder's to append to. -/
def Gr (enc : α → Value) (h1 : ∀ x, (enc x).oneCell' = true) (e : Nat) (w : World) (v : Value) (xs : List α) : Prop :=
  (∃ A, v = .slice A xs.length xs.length ∧ (A = none → xs.length = 0) ∧ (Kd.scalar enc h1).C w A xs.length xs ∧ ∀ k, v.ownBlock = some k → k < w.heap.size) ∨ w.ownsRow 0 e 1 v xs.length (encs enc xs)
theorem Gr.reads (d : α) (h : Gr enc h1 e w v xs) : ∃ A c, v = .slice A xs.length c ∧ xs.length ≤ c ∧ (Kd.scalar enc h1).C w A xs.length xs := by
  rcases h with ⟨A, rfl, _, hc, _⟩ | h
  · exact ⟨A, _, rfl, Nat.le_refl _, hc⟩
  · exact Kd.R_reads (Kd.R_of_own (h1 := h1) (ok := fun _ => True) h (fun _ _ => trivial))
theorem Gr.lt (h : Gr enc h1 e w v xs) : ∀ k, v.ownBlock = some k → k < w.heap.size := by
  rcases h with ⟨A, rfl, _, hc, hb⟩ | h
  · exact hb
  · exact fun k hk => own_lt h k hk
theorem ownBlock_some {ad : Addr} {n c : Nat} : (Value.slice (some ad) n c).ownBlock = some ad.block := by simp [Value.ownBlock]
theorem Gr.keeps (h : Gr enc h1 e w v xs) (hk : Keeps w w1 S) (hn : ∀ k, v.ownBlock = some k → ¬ S k) : Gr enc h1 e w1 v xs := by
  rcases h with ⟨A, rfl, h0, hc, hb⟩ | h
  · refine .inl ⟨A, rfl, h0, C_same hc (fun ad e1 h0 => ?_), fun k hk1 => Nat.lt_of_lt_of_le (hb k hk1) hk.size⟩
    subst e1
    exact hk.block _ (hb _ ownBlock_some) (hn _ ownBlock_some)
  · exact .inr (own_move h (fun k ho => hk.block k (own_lt h k ho) (hn k ho)))
theorem Gr.below (h : Gr enc h1 e w v xs) (hk : Below w.heap.size w w1) : Gr enc h1 e w1 v xs := h.keeps (Keeps.of_below hk (fun _ => False)) (fun _ _ h => h)
theorem Gr.nil (enc : α → Value) (h1 : ∀ x, (enc x).oneCell' = true) (e : Nat) (w : World) : Gr enc h1 e w (.slice none 0 0) [] := .inr (own_nil _ _ _ _)
theorem Gr.of_R {base : Nat} {ok : Nat → Prop} (h : (Kd.scalar enc h1).R e w base ok v xs) : Gr enc h1 e w v xs := .inr (own_weaken (Kd.own_of_R h) (Nat.zero_le _))
theorem grownBy_weak {row : Option Nat} (h : w.grownBy w1 none) : w.grownBy w1 row := ⟨h.os, h.tape, h.output, h.size, fun k hk _ => h.block k hk (by simp)⟩
end
section
variable {P : Program} {ops : Array Oper} {rest : List Oper} {o : Oper} {a : Act} {Q : Exit → Act → World → Prop}
theorem run_append_zero (w : World) (t ty e : TypeId) (i : TypeInfo) (ht : P.underlying t = some (.slice e)) (hi : P.info? e = some i) (ao A : Option Addr) (n c : Nat) (hnone : ao = none → n = 0) :
    (Builtin.append_ #[t, t] ty #[.slice ao n n, .slice A 0 c]).run P w = .ok (.slice ao n n) w := by
  have hf : ∀ ad, (Builtin.firstCells i.size 0 (.slice (some ad) 0 c)).run P w = .ok #[] w := fun ad => run_firstCells_some (P := P) w i.size 0 ad 0 c [] (by simp) (by simp)
  cases ao with
  | none =>
    obtain rfl := hnone rfl
    cases A with
    | none => simp [Builtin.append_, run_underlying ht, sizeOf, typeInfo, hi, Builtin.lenOf, Builtin.firstCells, storeCells]
    | some ad => simp [Builtin.append_, run_underlying ht, sizeOf, typeInfo, hi, Builtin.lenOf, hf, storeCells]
  | some b =>
    cases A with
    | none => simp [Builtin.append_, run_underlying ht, sizeOf, typeInfo, hi, Builtin.lenOf, Builtin.firstCells, storeCells]
    | some ad => simp [Builtin.append_, run_underlying ht, sizeOf, typeInfo, hi, Builtin.lenOf, hf, storeCells]
theorem wpList_append_zero {w : World} (hg : o.guard = none) (s x : Operand) (t e : TypeId) (i : TypeInfo) (hop : o.op = .call { callee := .builtin .append, args := #[s, x], argTypes := #[t, t] })
    (ht : P.underlying t = some (.slice e)) (hi : P.info? e = some i) (ao A : Option Addr) (n c : Nat) (hnone : ao = none → n = 0) (hs : a.eval s = .slice ao n n) (hx : a.eval x = .slice A 0 c)
    (hK : wpList P ops Q rest (a.put o.dst (.slice ao n n)) w) : wpList P ops Q (o :: rest) a w := by
  refine wpList_plain hg fun K hK' => ?_
  have hrun := run_append_zero (P := P) w t o.type e i ht hi ao A n c hnone
  unfold Oper.wp
  simp [execOp, hop, resolve, invoke, builtin, hs, hx, hrun, Result.andThen]
  exact hK' _ _ hK
/-- append to a row that is its holder's to append to. -/
theorem Gr.append {α : Type} (enc : α → Value) (d : α) {h1 : ∀ x : α, (enc x).oneCell' = true} {W : World} (hgd : o.guard = none) (s x : Operand) (t e : TypeId) (z : Value) (bytes : Nat)
    (ho : o.op = .call { callee := .builtin .append, args := #[s, x], argTypes := #[t, t] })
    (ht : P.underlying t = some (.slice e)) (hinfo : (P.info? e).map (fun i => (i.zero, i.size, i.bytes)) = some (some z, 1, bytes)) (hz : z.cells.size = 1) (hb0 : 0 < bytes)
    (v : Value) (xs ys : List α) (A : Option Addr) (m c : Nat) (hs : a.eval s = v) (hx : a.eval x = .slice A m c)
    (HO : Gr enc h1 e W v xs) (HR : (Kd.scalar enc h1).C W A m ys) (hl : (xs.length + m) * bytes ≤ 140737488355328)
    (h : ∀ v1 w1, Gr enc h1 e w1 v1 (xs ++ ys) → W.grownBy w1 v.ownBlock → (v1.ownBlock = v.ownBlock ∨ ∃ b, v1.ownBlock = some b ∧ W.heap.size ≤ b) → wpList P ops Q rest (a.put o.dst v1) w1) :
    wpList P ops Q (o :: rest) a W := by
  rcases HO with ⟨A1, rfl, h0, hc, hb⟩ | HO
  · obtain ⟨i0, hi, hzz⟩ := Option.map_eq_some_iff.1 hinfo
    simp only [Prod.mk.injEq] at hzz
    obtain ⟨hz0, hz1, hz2⟩ := hzz
    have hm : ys.length = m := HR.1
    have hlen : xs.length + m ≤ 140737488355328 := Nat.le_trans (Nat.le_mul_of_pos_right _ hb0) hl
    rcases Nat.eq_zero_or_pos m with hm0 | hm0
    · subst hm0
      obtain rfl : ys = [] := List.eq_nil_of_length_eq_zero hm
      exact wpList_append_zero hgd s x t e i0 ho ht hi A1 A xs.length c h0 hs hx (h _ _ (by simpa using .inl ⟨A1, rfl, h0, hc, hb⟩) (World.grownBy.refl W _) (.inl rfl))
    · obtain ⟨ad, ea, hcy⟩ := HR.2.2 hm0
      subst ea
      have RX := Kd.reads_of_C (d := d) hc
      have RY := Kd.reads_of_C (d := d) HR
      refine wpList_append_grows W hgd s x t ho e i0 z 1 bytes ht hi hz0 hz1 hz2 hz Nat.one_pos A1 xs.length xs.length (encs enc xs) hs (fun e => ⟨h0 e, h0 e⟩) (by simp [encs]) ?_ ad m c (encs enc ys) hx (by simp [encs, hm]) ?_ ?_ (by omega) (by simp only [maxLen]; omega) (by rw [Nat.add_comm] at hl; rw [Nat.add_comm]; exact hl) ?_
      · intro b eb j u hu
        subst eb
        exact reads_cells RX j u hu
      · exact reads_cells RY
      · intro u hu
        simp only [encs, List.mem_map] at hu
        obtain ⟨p, _, rfl⟩ := hu
        exact h1 p
      · intro v' w' hown hg
        refine h v' w' (.inr ?_) (grownBy_weak hg) ?_
        · rw [show encs enc (xs ++ ys) = encs enc xs ++ encs enc ys by simp [encs], show (xs ++ ys).length = xs.length + m by simp [hm]]
          exact own_weaken hown (Nat.zero_le _)
        · rcases own_base' hown with h5 | ⟨k, h5, h6⟩
          · refine .inl ?_
            rcases hown.2 with ⟨_, h7⟩ | ⟨g, cap, cur, rfl, _⟩
            · omega
            · simp [Value.ownBlock] at h5
          · exact .inr ⟨k, h5, h6⟩
  · refine print_append_row_of (w0 := W) enc d 0 hgd s x t e z bytes ho ht hinfo hz hb0 h1 v xs ys A m c hs hx HO (Kd.reads_of_C (d := d) HR) (Below.refl _ _) (Nat.zero_le _) hl ?_
    intro v1 w1 hown _ hg hat
    exact h v1 w1 (.inr hown) hg hat
end
end Go.Proofs.Ytjkadheknjkkbaa.Ob
