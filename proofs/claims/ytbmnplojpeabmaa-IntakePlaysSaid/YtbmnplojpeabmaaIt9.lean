/-
  INTAKE: the document's Feed.
  Conditions: none of its own; lemmas that the claim's row rests on.
-/
import Derived.Test.YtbmnplojpeabmaaIt8
import Derived.WalkKit
namespace Go.Proofs.Ytbmnplojpeabmaa.It
open Go.RowKit Go.Proofs.YtbmnplojpeabmaaW.PrintWords Go.Proofs.YtbmnplojpeabmaaW.PrintLast Go.Proofs.YtbmnplojpeabmaaW.PrintMore
attribute [local go_sem] max2_int min2_int max_two min_two max_three min_three max_four min_four
set_option linter.unusedVariables false
set_option linter.unusedSimpArgs false
open Go.Proofs.Ytbmnplojpeabmaa.Ob Go.Proofs.Ytbmnplojpeabmaa.QI Go.Proofs.Ytbmnplojpeabmaa.FramePure Go.Proofs.Ytbmnplojpeabmaa.WirePure Go.Proofs.Ytbmnplojpeabmaa.IntakePure
theorem C_nil8 (w : World) (A : Option Addr) : Kd.C (Kd.int .u8) w A 0 [] := ⟨rfl, by decide, fun h => absurd h (Nat.lt_irrefl 0)⟩
section
variable {w : World} {g : Nat} {most T : Int} {v : Value} {B l3 : List Int} {A3 : Option Addr} {c3 : Nat}
theorem r13_Feed.over {O : Int} (u : Value) (h : IsR w g most v B T O) (ho : O ≠ 0) : Calls Try.prog 69 #[.pointer (some ⟨g, 0, none⟩), u] w fun e w' => ∃ v0, e = .returned v0 ∧ w' = w := by
  have hc : w.cell? ⟨g, 3, none⟩ = some (.int .i64 O) := (blk_cell h.1 3).trans rfl
  have b0 : (O == 0) = false := beq_eq_false_iff_ne.mpr ho
  have b1 : (O != 0) = true := bne_iff_ne.mpr ho
  go_enter Try.func69, Try.ntmps69
  go_wp2
  go_returns
  exact ⟨_, rfl, rfl⟩
set_option maxHeartbeats 8000000 in
set_option maxRecDepth 100000 in
theorem r13_Feed.on (q : Bool) (B' : List Int) (h : IsR w g most v B T 0) (hr3 : Kd.C (Kd.int .u8) w A3 l3.length l3) (hc3 : l3.length ≤ c3) (hl : B.length + l3.length ≤ 140737488350000) (hB : B ++ l3 = B') (hq : wr B' = q) : Calls Try.prog 69 #[.pointer (some ⟨g, 0, none⟩), .slice A3 l3.length c3] w fun e w' => ∃ v0, e = .returned v0 ∧ ∃ v', IsR w' g most v' B' T (if q = true then 3 else 0) ∧ Keeps w w' (FootT g v) ∧ (∀ k, v'.ownBlock = some k → w.heap.size ≤ k) := by
  obtain ⟨A, c, rfl, hc, hC⟩ := h.reads
  have HI := Aside0.mk h
  have HC := Aside0.mk hC
  have HR3 := Aside0.mk hr3
  have HQ := Aside0.mk hq
  have HL := Aside0.mk hl
  have hL' : B'.length ≤ 140737488350000 := by rw [← hB, List.length_append]; exact hl
  have hcO : w.cell? ⟨g, 3, none⟩ = some (.int .i64 0) := (blk_cell h.1 3).trans rfl
  have hcB : (w.alloc (.cells #[] 5)).cell? ⟨g, 1, none⟩ = some (.slice A B.length c) := (blk_cell (h.below (below_alloc (Below.refl _ _) _)).1 1).trans rfl
  clear h hC hr3 hq hl
  go_enter Try.func69, Try.ntmps69
  go_wp2_with (first | (at_builtin; refine Gr.append (Value.int .u8) 0 (h1 := u8one) rfl (.tmp 11) (.tmp 15) 22 5 (.int .u8 0) 1 rfl Try.underlying22 info5 rfl (by decide) (.slice (some ⟨w.heap.size, 0, none⟩) 0 0) [] B _ _ _ rfl rfl ?gO ?gR (by have := HL.out; simp; omega) ?_; (case gO => exact .inl ⟨some ⟨w.heap.size, 0, none⟩, rfl, by simp, C_nil8 _ _, fun k hk => by have h_ : some w.heap.size = some k := hk; cases h_; simp⟩); (case gR => exact Kd.C_below HC.out (below_alloc (Below.refl _ _) _)); intro v2 w2 hG2 hg2 hat2; have hb2 : Below w.heap.size w w2 := Below.grown (below_alloc (Below.refl _ _) _) hg2 (by simp) (fun k_ e_ => by simp [Value.ownBlock] at e_; omega); have HO2 : Aside0 (∀ k, v2.ownBlock = some k → w.heap.size ≤ k) := ⟨by intro k hk; rcases hat2 with e | ⟨b, e, hb⟩; (rw [e] at hk; simp [Value.ownBlock] at hk; omega); (rw [e] at hk; cases hk; simp at hb; omega)⟩; have HG2 : Aside0 (Gr (Value.int .u8) u8one 5 w2 v2 B) := ⟨hG2⟩; have HR2 := Aside0.mk (Kd.C_below HR3.out hb2); have HB2 := Aside0.mk hb2; clear hG2 hg2 hat2 hcO hcB hb2) | (at_builtin; refine Gr.append (Value.int .u8) 0 (h1 := u8one) rfl (.tmp 16) (.tmp 17) 22 5 (.int .u8 0) 1 rfl Try.underlying22 info5 rfl (by decide) v2 B l3 _ _ _ rfl rfl HG2.out HR2.out (by have := HL.out; omega) ?_; intro v3 w3 hG3 hg3 hat3; have hb3 : Below w.heap.size w w3 := Below.grown HB2.out hg3 HB2.out.size (fun k_ e_ => HO2.out k_ e_); have HO3 : Aside0 (∀ k, v3.ownBlock = some k → w.heap.size ≤ k) := ⟨by intro k hk; rcases hat3 with e | ⟨b, e, hb⟩; exact HO2.out k (by rw [← e]; exact hk); (rw [e] at hk; cases hk; exact Nat.le_trans HB2.out.size hb)⟩; rw [hB] at hG3; have HI4 := Aside0.mk ((HI.out.below hb3).set1 hG3 (fun e => by have h1 := HO3.out _ e; have h2 := blk_lt HI.out.1; omega)); have hcell3 : w3.cell? ⟨g, 1, none⟩ = some (.slice A B.length c) := (blk_cell (HI.out.below hb3).1 1).trans rfl; have hfr3 := blk_frozen (HI.out.below hb3).1 1; have HB3 := Aside0.mk hb3; obtain ⟨A5, c5, e5, _, _⟩ := hG3.reads 0; subst e5; clear hG3 hg3 hat3 hb3 HG2 HR2) | (go_at_call 96; refine (r13_wrong.is HI4.out hL').mono ?_; rintro e_ w5 ⟨rfl, hb5⟩; rw [HQ.out]; have HI5 := Aside0.mk (HI4.out.below hb5); have hc5 : w5.cell? ⟨g, 3, none⟩ = some (.int .i64 0) := (blk_cell HI5.out.1 3).trans rfl; have hf5 := blk_frozen HI5.out.1 3; have HK5 := Aside0.mk ((((Keeps.of_below HB3.out (FootT g (.slice A B.length c))).set (.inl (.inl rfl)) 1 (.slice A5 B'.length c5)).below hb5)); clear hb5 hcell3 hfr3))
  · go_returns
    exact ⟨⟨_, rfl⟩, _, HI5.out.set3 3, HK5.out.set (.inl (.inl rfl)) 3 _, HO3.out⟩
  · exact absurd ‹q = true› (by rw [‹q = false›]; decide)
  · go_returns
    exact ⟨⟨_, rfl⟩, _, HI5.out, HK5.out, HO3.out⟩
theorem r13_Feed.is {O : Int} (h : IsR w g most v B T O) (hr3 : Kd.C (Kd.int .u8) w A3 l3.length l3) (hc3 : l3.length ≤ c3) (hl : B.length + l3.length ≤ 140737488350000) : Calls Try.prog 69 #[.pointer (some ⟨g, 0, none⟩), .slice A3 l3.length c3] w fun e w' => ∃ v0, e = .returned v0 ∧ ∃ v', IsR w' g most v' (feedR B O l3).1 T (feedR B O l3).2 ∧ Mt w g v w' v' := by
  unfold feedR
  by_cases ho : O ≠ 0
  · rw [if_pos ho]
    refine (r13_Feed.over _ h ho).mono ?_
    rintro e w' ⟨v0, rfl, rfl⟩
    exact ⟨v0, rfl, v, h, Keeps.refl _ _, fun k hk => .inl hk⟩
  · rw [if_neg ho]
    have ho : O = 0 := by omega
    subst ho
    refine (r13_Feed.on _ _ h hr3 hc3 hl rfl rfl).mono ?_
    rintro e w' ⟨v0, rfl, v', hI, hk, hn⟩
    exact ⟨v0, rfl, v', hI, hk, fun k hk => .inr (hn k hk)⟩
end
end Go.Proofs.Ytbmnplojpeabmaa.It
