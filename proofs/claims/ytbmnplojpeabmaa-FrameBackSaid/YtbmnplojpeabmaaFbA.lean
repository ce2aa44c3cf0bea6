/-
  The law FrameBack's state.
  Conditions: none of its own; lemmas that the claim's row rests on.
-/
import Derived.Test.YtbmnplojpeabmaaQB
import Derived.Test.YtbmnplojpeabmaaGrow
import Derived.Test.YtbmnplojpeabmaaObj
import Derived.Test.YtbmnplojpeabmaaRowF
import Derived.Test.YtbmnplojpeabmaaPureFramesB
import Derived.WalkKit
namespace Go.Proofs.Ytbmnplojpeabmaa.QB
open Go.RowKit Go.Proofs.YtbmnplojpeabmaaW.PrintWords Go.Proofs.YtbmnplojpeabmaaW.PrintLast Go.Proofs.YtbmnplojpeabmaaW.PrintMore
attribute [local go_sem] max2_int min2_int max_two min_two max_three min_three max_four min_four
set_option linter.unusedVariables false
set_option linter.unusedSimpArgs false
open Go.Proofs.Ytbmnplojpeabmaa.Ob Go.Proofs.Ytbmnplojpeabmaa.FramePure
theorem i64one : ∀ x : Int, (Value.int .i64 x).oneCell' = true := fun _ => rfl
theorem u8one : ∀ x : Int, (Value.int .u8 x).oneCell' = true := fun _ => rfl
theorem info3i : (Try.prog.info? 3).map (fun i => (i.zero, i.size, i.bytes)) = some (some (.int .i64 0), 1, 8) := by kernel_rfl
theorem FK67_of {w W : World} {x0 x1 x2 : Int} {x3 : List Int} {A3 : Option Addr} {c3 : Nat} (hC : Kd.C (Kd.int .u8) w A3 x3.length x3) (hc3 : x3.length ≤ c3) (hB : Below w.heap.size w W) :
    Kd.FK k67 W (fun k => k < w.heap.size) ⟨x0, x1, x2, x3⟩ [.int .i64 x0, .int .i64 x1, .int .i64 x2, .slice A3 x3.length c3] := fun W' hW =>
  k67_mk W' ⟨x0, x1, x2, x3⟩ hc3 (Kd.Heap.C (Kd.heap_int .u8) (fun k hlt => (hW k hlt (Nat.lt_of_lt_of_le hlt hB.size)).trans (hB.block k hlt)) hC)
/-- Where the law stands: the bytes, the frames kept, where each ends. -/
structure Stb (w W : World) (vb vk ve : Value) (b : List Int) (ks : List S67) (es : List Int) : Prop where
  rb : W.ownsRow w.heap.size 5 1 vb b.length (encs (Value.int .u8) b)
  rk : RowF k67 67 w.heap.size W vk ks
  re : W.ownsRow w.heap.size 3 1 ve es.length (encs (Value.int .i64) es)
  be : Below w.heap.size w W
section
variable {w W W1 : World} {vb vk ve : Value} {b : List Int} {ks : List S67} {es : List Int}
theorem Stb.below (h : Stb w W vb vk ve b ks es) (hb : Below W.heap.size W W1) : Stb w W1 vb vk ve b ks es :=
  ⟨pw_own_below h.rb hb, h.rk.below hb, pw_own_below h.re hb, below_step h.be hb⟩
theorem Stb.start (hB : Below w.heap.size w W) : Stb w W (.slice none 0 0) (.slice none 0 0) (.slice none 0 0) [] [] [] :=
  ⟨own_nil _ _ _ _, RowF.nil _ _ _ _, own_nil _ _ _ _, hB⟩
theorem ne_of_types {e e' s s' n n' : Nat} {v v' : Value} {xs xs' : List Value} {B B' : Nat} (h : W.ownsRow B e s v n xs) (h' : W.ownsRow B' e' s' v' n' xs') (hne : e ≠ e') : ∀ k, v.ownBlock = some k → v'.ownBlock ≠ some k := by
  intro k hk e2
  rcases own_type_ne h h' hne with e3 | e3
  · rw [e3] at hk; cases hk
  · exact e3 (hk.trans e2.symm)
theorem Stb.growB {vb1 : Value} {b1 : List Int} (h : Stb w W vb vk ve b ks es) (hr : W1.ownsRow w.heap.size 5 1 vb1 b1.length (encs (Value.int .u8) b1)) (hg : W.grownBy W1 vb.ownBlock) : Stb w W1 vb1 vk ve b1 ks es := by
  have hk : Keeps W W1 (fun k => vb.ownBlock = some k) := Keeps.grown (Keeps.refl W _) hg (fun k e => .inl e)
  obtain ⟨inner, hrk, _⟩ := h.rk
  refine ⟨hr, h.rk.keeps hk (fun k hk1 e => ne_of_types hrk h.rb (by decide) k hk1 e) (fun k e => own_base h.rb k e), own_move h.re (fun k hk1 => hk.block k (own_lt h.re k hk1) (ne_of_types h.re h.rb (by decide) k hk1)), hk.under h.be (fun k e => own_base h.rb k e)⟩
theorem Stb.growK {vk1 : Value} {ks1 : List S67} (h : Stb w W vb vk ve b ks es) (hr : RowF k67 67 w.heap.size W1 vk1 ks1) (hg : W.grownBy W1 vk.ownBlock) : Stb w W1 vb vk1 ve b ks1 es := by
  have hk : Keeps W W1 (fun k => vk.ownBlock = some k) := Keeps.grown (Keeps.refl W _) hg (fun k e => .inl e)
  obtain ⟨inner, hrk, _⟩ := h.rk
  exact ⟨own_move h.rb (fun k hk1 => hk.block k (own_lt h.rb k hk1) (ne_of_types h.rb hrk (by decide) k hk1)), hr, own_move h.re (fun k hk1 => hk.block k (own_lt h.re k hk1) (ne_of_types h.re hrk (by decide) k hk1)), hk.under h.be (fun k e => h.rk.base k e)⟩
theorem Stb.growE {ve1 : Value} {es1 : List Int} (h : Stb w W vb vk ve b ks es) (hr : W1.ownsRow w.heap.size 3 1 ve1 es1.length (encs (Value.int .i64) es1)) (hg : W.grownBy W1 ve.ownBlock) : Stb w W1 vb vk ve1 b ks es1 := by
  have hk : Keeps W W1 (fun k => ve.ownBlock = some k) := Keeps.grown (Keeps.refl W _) hg (fun k e => .inl e)
  obtain ⟨inner, hrk, _⟩ := h.rk
  exact ⟨own_move h.rb (fun k hk1 => hk.block k (own_lt h.rb k hk1) (ne_of_types h.rb h.re (by decide) k hk1)), h.rk.keeps hk (fun k hk1 e => ne_of_types hrk h.re (by decide) k hk1 e) (fun k e => own_base h.re k e), hr, hk.under h.be (fun k e => own_base h.re k e)⟩
theorem Stb.readB (h : Stb w W vb vk ve b ks es) : ∃ A c, vb = .slice A b.length c ∧ b.length ≤ c ∧ Kd.C (Kd.int .u8) W A b.length b :=
  Kd.R_reads (Kd.R_of_own (h1 := u8one) (ok := fun _ => True) h.rb (fun _ _ => trivial))
theorem Stb.readE (h : Stb w W vb vk ve b ks es) : ∃ A c, ve = .slice A es.length c ∧ es.length ≤ c ∧ Kd.C (Kd.int .i64) W A es.length es :=
  Kd.R_reads (Kd.R_of_own (h1 := i64one) (ok := fun _ => True) h.re (fun _ _ => trivial))
theorem C_nil (w : World) (A : Option Addr) : Kd.C (Kd.int .u8) w A 0 [] := ⟨rfl, by decide, fun h => absurd h (Nat.lt_irrefl 0)⟩
end
end Go.Proofs.Ytbmnplojpeabmaa.QB
