/-
  INTAKE: the preface; what is written.
  Conditions: none of its own; lemmas that the claim's row rests on.
-/
import Derived.Test.YtbmnplojpeabmaaIt1
import Derived.Test.YtbmnplojpeabmaaRowF
import Derived.Test.YtbmnplojpeabmaaPureIntake
import Derived.WalkKit
import Derived.Lib.SlBytesConst
namespace Go.Proofs.Ytbmnplojpeabmaa.It
open Go.RowKit Go.Proofs.YtbmnplojpeabmaaW.PrintWords Go.Proofs.YtbmnplojpeabmaaW.PrintLast Go.Proofs.YtbmnplojpeabmaaW.PrintMore
attribute [local go_sem] max2_int min2_int max_two min_two max_three min_three max_four min_four
set_option linter.unusedVariables false
set_option linter.unusedSimpArgs false
open Go.Proofs.Ytbmnplojpeabmaa.Ob Go.Proofs.Ytbmnplojpeabmaa.QI Go.Proofs.Ytbmnplojpeabmaa.FramePure Go.Proofs.Ytbmnplojpeabmaa.WirePure Go.Proofs.Ytbmnplojpeabmaa.IntakePure
theorem store_step {P : Program} {ops : Array Oper} {o : Oper} {a : Act} {Q : Exit → Act → World → Prop} {Kc : Act → World → Prop} {W w1 : World} (hw : Region.wanted o (yielded ops a.tmps) = true) (hN : o.dst = none) (hrun : (execOp a.eval o).run P W = .ok .skip w1) (h : Kc a w1) :
    if Region.wanted o (yielded ops a.tmps) = true then Oper.wp P o a W Kc Q else Kc (a.put none undef) W := by
  rw [if_pos hw]
  unfold Oper.wp
  rw [hrun]
  show Kc (a.put o.dst undef) w1
  rw [hN]
  exact h
theorem last_store {P : Program} {ops : Array Oper} {Q : Exit → Act → World → Prop} {md : Region.Mode} {S : World → Prop} {ds : List Nat} {i : Nat} {oi : Oper} {fuel : Nat} {l : Array Bool} {a : Act} {w w1 : World} (l' : Array Bool) (hi : ops[i]? = some oi) (hN : oi.dst = none) (hc : readyB md ops l l' i = true) (hd : i ∈ ds)
    (hw : Region.wanted oi (yielded ops a.tmps) = true) (hrun : (execOp a.eval oi).run P w = .ok .skip w1) (h : wpAnyLast P md ops Q S ds fuel l' a w1) : wpAnyLast P md ops Q S ds (fuel + 1) l a w :=
  last_ (N := none) l' hi hN hc hd (fun K hK => store_step hw hN hrun (hK.out _ _ h))
theorem C_mark (w : World) (t : TypeId) (fz : Nat × Nat) (xs : List Int) (hs : xs.length ≤ 9223372036854775807) : Kd.C (Kd.int .u8) (w.alloc (.cells (xs.map (Value.int .u8)).toArray t fz)) (some ⟨w.heap.size, 0, none⟩) xs.length xs := by
  refine Kd.C_of_reads (enc := Value.int .u8) (d := (0 : Int)) ⟨rfl, hs, fun _ => ⟨_, rfl, fun j hj => ?_⟩⟩
  rw [Addr.add_lit, Nat.zero_add, World.cell?_alloc_mark]
  simp [hj]
theorem intake_Preface.is (w : World) : Calls Try.prog 77 #[] w fun e w' => ∃ gp, e = .returned (.slice (some ⟨gp, 0, none⟩) 24 24) ∧ Kd.C (Kd.int .u8) w' (some ⟨gp, 0, none⟩) 24 PRE ∧ Below w.heap.size w w' := by
  have kc := fun (w : World) (C : Array Value) (n c : Nat) => Lib.run_convert_bytes_const (P := Try.prog) w 22 5 C n c Try.underlying22 Try.underlying5
  go_enter Try.func77, Try.ntmps77
  go_wp2
  go_ret
  exact ⟨_, rfl, C_mark w 5 (24, 25) PRE (by decide), (Below.refl _ w).alloc (Nat.le_refl _) _⟩
theorem r13_preface.is (w : World) : Calls Try.prog 102 #[] w fun e w' => ∃ gp, e = .returned (.slice (some ⟨gp, 0, none⟩) 24 24) ∧ Kd.C (Kd.int .u8) w' (some ⟨gp, 0, none⟩) 24 PRE ∧ Below w.heap.size w w' := by
  have kc := fun (w : World) (C : Array Value) (n c : Nat) => Lib.run_convert_bytes_const (P := Try.prog) w 22 5 C n c Try.underlying22 Try.underlying5
  go_enter Try.func102, Try.ntmps102
  go_wp2
  go_ret
  exact ⟨_, rfl, C_mark w 5 (24, 25) PRE (by decide), (Below.refl _ w).alloc (Nat.le_refl _) _⟩
/-! ### an intake's block, written -/
theorem cut_own (A : Option Addr) (n c kk : Nat) : (Value.slice (if n = kk then A else Option.map (fun x => x.add kk) A) (n - kk) (n - kk)).ownBlock = (Value.slice A n c).ownBlock := by
  cases A with
  | none => split <;> simp [Value.ownBlock]
  | some a => split <;> simp [Value.ownBlock, add_blk]
/-- The row's first kk are gone. -/
theorem Gr_cut {w : World} {A A' : Option Addr} {c : Nat} {l : List Int} (h : Gr (Value.int .u8) u8one 5 w (.slice A l.length c) l) (kk : Nat) (hk : kk ≤ l.length) (hA : (if l.length = kk then A else Option.map (fun x => x.add kk) A) = A') :
    Gr (Value.int .u8) u8one 5 w (.slice A' (l.length - kk) (l.length - kk)) (l.drop kk) ∧ (Value.slice A' (l.length - kk) (l.length - kk)).ownBlock = (Value.slice A l.length c).ownBlock := by
  have ho := cut_own A l.length c kk
  obtain ⟨A2, c2, e2, h2, hr⟩ := h.reads 0
  obtain ⟨rfl, rfl⟩ : A = A2 ∧ c = c2 := by injection e2 with h1 _ h3; exact ⟨h1, h3⟩
  clear e2
  have hl : (l.drop kk).length = l.length - kk := List.length_drop
  have hd := Kd.C_drop hr hk (Nat.le_refl _)
  rw [hl] at hd
  simp only [show (Kd.scalar (Value.int .u8) u8one).sz = 1 from rfl, Nat.mul_one] at hd
  have h0 : A = none → l.length = 0 := fun e => by
    rcases Nat.eq_zero_or_pos l.length with h0 | h0
    · exact h0
    · obtain ⟨ad, e1, _⟩ := hr.2.2 h0
      rw [e] at e1; cases e1
  rw [hA] at ho hd
  refine ⟨.inl ⟨A', by rw [hl], ?_, by rw [hl]; exact hd, ?_⟩, ho⟩
  · intro e
    rw [hl]
    have : A = none := by
      subst hA
      split at e
      · exact e
      · cases A with
        | none => rfl
        | some a => simp at e
    have := h0 this
    omega
  · intro k hk3
    rw [ho] at hk3
    exact h.lt k hk3
section
variable {w : World} {g : Nat} {most ov : Int} {v v' : Value} {l l' : List Int} {bg : Bool}
theorem IsT.set1 (h : IsT w g most v l bg ov) (hG : Gr (Value.int .u8) u8one 5 w v' l') (hne : v'.ownBlock ≠ some g) : IsT (w.setCell ⟨g, 1, none⟩ v') g most v' l' bg ov :=
  ⟨(blk_put h.1 1 _ rfl).trans rfl, hG.keeps (Keeps.set (S := One g) (Keeps.refl w _) (.inl rfl) 1 v') (fun k e hk => hne (by rw [e, show k = g from hk])), hne⟩
theorem IsT.set2 (h : IsT w g most v l bg ov) (b : Bool) : IsT (w.setCell ⟨g, 2, none⟩ (.bool b)) g most v l b ov :=
  ⟨(blk_put h.1 2 _ rfl).trans rfl, h.2.1.keeps (Keeps.set (S := One g) (Keeps.refl w _) (.inl rfl) 2 _) (fun k e hk => h.2.2 (by rw [e, show k = g from hk])), h.2.2⟩
theorem IsT.set3 (h : IsT w g most v l bg ov) (o : Int) : IsT (w.setCell ⟨g, 3, none⟩ (.int .i64 o)) g most v l bg o :=
  ⟨(blk_put h.1 3 _ rfl).trans rfl, h.2.1.keeps (Keeps.set (S := One g) (Keeps.refl w _) (.inl rfl) 3 _) (fun k e hk => h.2.2 (by rw [e, show k = g from hk])), h.2.2⟩
theorem IsT.wipe (h : IsT w g most v l bg ov) : IsT (w.setCell ⟨g, 1, none⟩ (.slice none 0 0)) g most (.slice none 0 0) [] bg ov := h.set1 (Gr.nil _ _ _ _) (by simp [Value.ownBlock])
theorem IsT.cut {A A' : Option Addr} {c : Nat} (h : IsT w g most (.slice A l.length c) l bg ov) (kk : Nat) (hk : kk ≤ l.length) (hA : (if l.length = kk then A else Option.map (fun x => x.add kk) A) = A') :
    IsT (w.setCell ⟨g, 1, none⟩ (.slice A' (l.length - kk) (l.length - kk))) g most (.slice A' (l.length - kk) (l.length - kk)) (l.drop kk) bg ov ∧ (Value.slice A' (l.length - kk) (l.length - kk)).ownBlock = (Value.slice A l.length c).ownBlock := by
  obtain ⟨h1, h2⟩ := Gr_cut h.2.1 kk hk hA
  exact ⟨h.set1 h1 (by rw [h2]; exact h.2.2), h2⟩
/-- An intake moved on. -/
def Mt (w : World) (g : Nat) (v : Value) (w' : World) (v' : Value) : Prop := Keeps w w' (FootT g v) ∧ ((∀ k, v'.ownBlock = some k → v.ownBlock = some k ∨ w.heap.size ≤ k))
end
/-! ### the document's intake -/
def IsR (w : World) (g : Nat) (most : Int) (v : Value) (B : List Int) (T O : Int) : Prop := w.heap[g]? = some (.cells #[.int .i64 most, v, .int .i64 T, .int .i64 O] 154 (0, 0)) ∧ Gr (Value.int .u8) u8one 5 w v B ∧ v.ownBlock ≠ some g
section
variable {w w1 : World} {g : Nat} {most T O : Int} {v v' : Value} {B B' : List Int} {S : Nat → Prop}
theorem IsR.keeps (h : IsR w g most v B T O) (hk : Keeps w w1 S) (hn : ∀ k, FootT g v k → ¬ S k) : IsR w1 g most v B T O :=
  ⟨blk_keeps h.1 hk (hn g (.inl rfl)), h.2.1.keeps hk (fun k e => hn k (.inr e)), h.2.2⟩
theorem IsR.below (h : IsR w g most v B T O) (hb : Below w.heap.size w w1) : IsR w1 g most v B T O := h.keeps (Keeps.of_below hb (fun _ => False)) (fun _ _ h => h)
theorem IsR.reads (h : IsR w g most v B T O) : ∃ A c, v = .slice A B.length c ∧ B.length ≤ c ∧ Kd.C (Kd.int .u8) w A B.length B := h.2.1.reads 0
theorem IsR.set1 (h : IsR w g most v B T O) (hG : Gr (Value.int .u8) u8one 5 w v' B') (hne : v'.ownBlock ≠ some g) : IsR (w.setCell ⟨g, 1, none⟩ v') g most v' B' T O :=
  ⟨(blk_put h.1 1 _ rfl).trans rfl, hG.keeps (Keeps.set (S := One g) (Keeps.refl w _) (.inl rfl) 1 v') (fun k e hk => hne (by rw [e, show k = g from hk])), hne⟩
theorem IsR.set2 (h : IsR w g most v B T O) (t : Int) : IsR (w.setCell ⟨g, 2, none⟩ (.int .i64 t)) g most v B t O :=
  ⟨(blk_put h.1 2 _ rfl).trans rfl, h.2.1.keeps (Keeps.set (S := One g) (Keeps.refl w _) (.inl rfl) 2 _) (fun k e hk => h.2.2 (by rw [e, show k = g from hk])), h.2.2⟩
theorem IsR.set3 (h : IsR w g most v B T O) (o : Int) : IsR (w.setCell ⟨g, 3, none⟩ (.int .i64 o)) g most v B T o :=
  ⟨(blk_put h.1 3 _ rfl).trans rfl, h.2.1.keeps (Keeps.set (S := One g) (Keeps.refl w _) (.inl rfl) 3 _) (fun k e hk => h.2.2 (by rw [e, show k = g from hk])), h.2.2⟩
end
end Go.Proofs.Ytbmnplojpeabmaa.It
