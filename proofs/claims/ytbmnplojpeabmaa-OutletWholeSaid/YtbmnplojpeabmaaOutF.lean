/-
  The law OutletWhole's state.
  Conditions: none of its own; lemmas that the claim's row rests on.
-/
import Derived.Test.YtbmnplojpeabmaaOutD
import Derived.Test.YtbmnplojpeabmaaRowF
import Derived.Test.YtbmnplojpeabmaaPureFrames
import Derived.WalkKit
namespace Go.Proofs.Ytbmnplojpeabmaa.QO
open Go.RowKit Go.Proofs.YtbmnplojpeabmaaW.PrintWords Go.Proofs.YtbmnplojpeabmaaW.PrintLast Go.Proofs.YtbmnplojpeabmaaW.PrintMore
attribute [local go_sem] max2_int min2_int max_two min_two max_three min_three max_four min_four
set_option linter.unusedVariables false
set_option linter.unusedSimpArgs false
open Go.Proofs.Ytbmnplojpeabmaa.Ob Go.Proofs.Ytbmnplojpeabmaa.FramePure
theorem FK67_of {w W : World} {x0 x1 x2 : Int} {x3 : List Int} {A3 : Option Addr} {c3 : Nat} (hC : Kd.C (Kd.int .u8) w A3 x3.length x3) (hc3 : x3.length ≤ c3) (hB : Below w.heap.size w W) :
    Kd.FK k67 W (fun k => k < w.heap.size) ⟨x0, x1, x2, x3⟩ [.int .i64 x0, .int .i64 x1, .int .i64 x2, .slice A3 x3.length c3] := fun W' hW =>
  k67_mk W' ⟨x0, x1, x2, x3⟩ hc3 (Kd.Heap.C (Kd.heap_int .u8) (fun k hlt => (hW k hlt (Nat.lt_of_lt_of_le hlt hB.size)).trans (hB.block k hlt)) hC)
/-- Where the law stands: the outlet's bytes, what was drained, what was wanted. -/
structure Stw (w W : World) (g : Nat) (v vo vw : Value) (b o : List Int) (fs : List S67) : Prop where
  io : IsO W g v b
  out : Gr (Value.int .u8) u8one 5 W vo o
  row : RowF k67 67 w.heap.size W vw fs
  be : Below w.heap.size w W
  ge : w.heap.size ≤ g
  own : ∀ k, v.ownBlock = some k → w.heap.size ≤ k
  owo : ∀ k, vo.ownBlock = some k → w.heap.size ≤ k
  a1 : ∀ k, vo.ownBlock = some k → k ≠ g ∧ v.ownBlock ≠ some k
  a2 : ∀ k, vw.ownBlock = some k → k ≠ g ∧ v.ownBlock ≠ some k ∧ vo.ownBlock ≠ some k
section
variable {w W W1 : World} {g : Nat} {v vo vw : Value} {b o : List Int} {fs : List S67}
theorem Stw.below (h : Stw w W g v vo vw b o fs) (hb : Below W.heap.size W W1) : Stw w W1 g v vo vw b o fs :=
  ⟨h.io.below hb, h.out.below hb, h.row.below hb, below_step h.be hb, h.ge, h.own, h.owo, h.a1, h.a2⟩
theorem Stw.move {v1 : Value} {b1 : List Int} (h : Stw w W g v vo vw b o fs) (hi : IsO W1 g v1 b1) (hm : Mv W g v W1 v1) : Stw w W1 g v1 vo vw b1 o fs := by
  have hv1 : ∀ k, v1.ownBlock = some k → v.ownBlock = some k ∨ W.heap.size ≤ k := fun k hk => by
    rcases hm.2 with e | ⟨b, e, hb⟩
    · exact .inl (by rw [← e]; exact hk)
    · rw [e] at hk; cases hk; exact .inr hb
  have hf : ∀ k, Foot g v k → w.heap.size ≤ k := fun k hk => by rcases hk with rfl | hk; exact h.ge; exact h.own k hk
  refine ⟨hi, h.out.keeps hm.1 (fun k hk hF => ?_), h.row.keeps hm.1 (fun k hk hF => ?_) hf, hm.under h.be h.ge h.own, h.ge, hm.ge h.be h.own, h.owo, fun k hk => ⟨(h.a1 k hk).1, fun e => ?_⟩, fun k hk => ⟨(h.a2 k hk).1, fun e => ?_, (h.a2 k hk).2.2⟩⟩
  · rcases hF with e | e
    · exact (h.a1 k hk).1 e
    · exact (h.a1 k hk).2 e
  · rcases hF with e | e
    · exact (h.a2 k hk).1 e
    · exact (h.a2 k hk).2.1 e
  · rcases hv1 k e with e2 | e2
    · exact (h.a1 k hk).2 e2
    · have := h.out.lt k hk; omega
  · rcases hv1 k e with e2 | e2
    · exact (h.a2 k hk).2.1 e2
    · have := h.row.lt k hk; omega
theorem Stw.rowGrow {vw1 : Value} {fs1 : List S67} (h : Stw w W g v vo vw b o fs) (hr : RowF k67 67 w.heap.size W1 vw1 fs1) (hg : W.grownBy W1 vw.ownBlock) (hat : vw1.ownBlock = vw.ownBlock ∨ ∃ b, vw1.ownBlock = some b ∧ W.heap.size ≤ b) : Stw w W1 g v vo vw1 b o fs1 := by
  have hk : Keeps W W1 (fun k => vw.ownBlock = some k) := Keeps.grown (Keeps.refl W _) hg (fun k e => .inl e)
  have hn : ∀ k, vw1.ownBlock = some k → vw.ownBlock = some k ∨ W.heap.size ≤ k := fun k hk => by
    rcases hat with e | ⟨b, e, hb⟩
    · exact .inl (by rw [← e]; exact hk)
    · rw [e] at hk; cases hk; exact .inr hb
  refine ⟨h.io.keeps hk (fun k hF e => ?_), h.out.keeps hk (fun k hk1 e => (h.a2 k e).2.2 hk1), hr, hk.under h.be (fun k e => h.row.base k e), h.ge, h.own, h.owo, h.a1, fun k hk1 => ?_⟩
  · rcases hF with e2 | e2
    · exact (h.a2 k e).1 e2
    · exact (h.a2 k e).2.1 e2
  · rcases hn k hk1 with e | e
    · exact h.a2 k e
    · have h1 := h.io.foot
      refine ⟨fun e2 => ?_, fun e2 => ?_, fun e2 => ?_⟩
      · have := h1 g (.inl rfl); omega
      · have := h1 k (.inr e2); omega
      · have := h.out.lt k e2; omega
theorem Stw.outGrow {vo1 : Value} {o1 : List Int} (h : Stw w W g v vo vw b o fs) (hr : Gr (Value.int .u8) u8one 5 W1 vo1 o1) (hg : W.grownBy W1 vo.ownBlock) (hat : vo1.ownBlock = vo.ownBlock ∨ ∃ b, vo1.ownBlock = some b ∧ W.heap.size ≤ b) : Stw w W1 g v vo1 vw b o1 fs := by
  have hk : Keeps W W1 (fun k => vo.ownBlock = some k) := Keeps.grown (Keeps.refl W _) hg (fun k e => .inl e)
  have hn : ∀ k, vo1.ownBlock = some k → vo.ownBlock = some k ∨ W.heap.size ≤ k := fun k hk => by
    rcases hat with e | ⟨b, e, hb⟩
    · exact .inl (by rw [← e]; exact hk)
    · rw [e] at hk; cases hk; exact .inr hb
  have h1 := h.io.foot
  refine ⟨h.io.keeps hk (fun k hF e => ?_), hr, h.row.keeps hk (fun k hk1 e => (h.a2 k hk1).2.2 e) (fun k e => h.owo k e), hk.under h.be (fun k e => h.owo k e), h.ge, h.own, fun k hk1 => ?_, fun k hk1 => ?_, fun k hk1 => ⟨(h.a2 k hk1).1, (h.a2 k hk1).2.1, fun e => ?_⟩⟩
  · rcases hF with e2 | e2
    · exact (h.a1 k e).1 e2
    · exact (h.a1 k e).2 e2
  · rcases hn k hk1 with e | e
    · exact h.owo k e
    · have := h.be.size; omega
  · rcases hn k hk1 with e | e
    · exact h.a1 k e
    · refine ⟨fun e2 => ?_, fun e2 => ?_⟩
      · have := h1 g (.inl rfl); omega
      · have := h1 k (.inr e2); omega
  · rcases hn k e with e2 | e2
    · exact (h.a2 k hk1).2.2 e2
    · have := h.row.lt k hk1; omega
theorem Stw.push (h : Stw w W g v vo vw b o fs) (x0 x1 x2 : Int) (A3 : Option Addr) (c3 : Nat) (x3 : List Int) (hC : Kd.C (Kd.int .u8) W A3 x3.length x3) (hc3 : x3.length ≤ c3) (hl : x3.length ≤ 500) (hb : b.length ≤ 100000000) :
    Calls Try.prog 40 #[.pointer (some ⟨g, 0, none⟩), .agg #[.int .i64 x0, .int .i64 x1, .int .i64 x2, .slice A3 x3.length c3]] W fun e w' => e = .returned (.int .i64 (Ef ⟨x0, x1, x2, x3⟩).2) ∧ ∃ v', Stw w w' g v' vo vw (b ++ (Ef ⟨x0, x1, x2, x3⟩).1) o fs := by
  have hlen := Ef_len ⟨x0, x1, x2, x3⟩ hl
  rcases hE : Ef ⟨x0, x1, x2, x3⟩ with ⟨r1, r2⟩
  rw [hE] at hlen
  have hf := (Ef_prog ⟨x0, x1, x2, x3⟩).trans (congrArg some hE)
  have h2 := Ef_two ⟨x0, x1, x2, x3⟩
  rw [hE] at h2
  rcases h2 with rfl | ⟨rfl, rfl⟩
  · refine (outlet_Push.ok 20 W g v b x0 x1 x2 A3 c3 x3 r1 h.io hC hc3 hf (by simp only [] at hlen; omega)).mono ?_
    rintro e w' ⟨rfl, v', hI, hk, ho⟩
    exact ⟨rfl, v', h.move hI ⟨hk, ho⟩⟩
  · refine (outlet_Push.bad 20 W (some ⟨g, 0, none⟩) x0 x1 x2 A3 c3 x3 [] 1 hC hc3 hf (.inr (by decide))).mono ?_
    rintro e w' ⟨rfl, hB⟩
    refine ⟨rfl, v, ?_⟩
    rw [List.append_nil]
    exact h.below hB
theorem Stw.drain (h : Stw w W g v vo vw b o fs) (n : Int) (hl : b.length < 140737488355328) :
    Calls Try.prog 36 #[.pointer (some ⟨g, 0, none⟩), .int .i64 n] W fun e w' => ∃ v' A c, e = .returned (.slice A (b.take n.toNat).length c) ∧ (b.take n.toNat).length ≤ c ∧ Kd.C (Kd.int .u8) w' A (b.take n.toNat).length (b.take n.toNat) ∧ Stw w w' g v' vo vw (b.drop n.toNat) o fs := by
  refine (outlet_Drain.is W g v b n h.io hl).mono ?_
  rintro e w' ⟨v0, v', rfl, hO, hI, hk, ho⟩
  obtain ⟨A, c, rfl, hc, hC⟩ := Kd.R_reads hO
  exact ⟨v', A, c, rfl, hc, hC, h.move hI ⟨hk, .inl ho⟩⟩
theorem Stw.start {w W : World} {g : Nat} (h : IsO W g (.slice none 0 0) []) (hB : Below w.heap.size w W) (hg : w.heap.size ≤ g) : Stw w W g (.slice none 0 0) (.slice none 0 0) (.slice none 0 0) [] [] [] :=
  ⟨h, Gr.nil _ _ _ _, RowF.nil _ _ _ _, hB, hg, (fun k hk => by cases hk), (fun k hk => by cases hk), (fun k hk => by cases hk), (fun k hk => by cases hk)⟩
end
end Go.Proofs.Ytbmnplojpeabmaa.QO
