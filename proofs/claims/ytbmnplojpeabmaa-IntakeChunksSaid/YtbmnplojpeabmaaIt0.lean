/-
  INTAKE: an intake, New, Begun, Len.
  Conditions: none of its own; lemmas that the claim's row rests on.
-/
import Derived.Test.YtbmnplojpeabmaaQI0
import Derived.Test.YtbmnplojpeabmaaObj
import Derived.Test.YtbmnplojpeabmaaGrow
import Derived.Test.YtbmnplojpeabmaaRowF
import Derived.WalkKit
namespace Go.Proofs.Ytbmnplojpeabmaa.It
open Go.RowKit Go.Proofs.YtbmnplojpeabmaaW.PrintWords Go.Proofs.YtbmnplojpeabmaaW.PrintLast Go.Proofs.YtbmnplojpeabmaaW.PrintMore
attribute [local go_sem] max2_int min2_int max_two min_two max_three min_three max_four min_four
set_option linter.unusedVariables false
set_option linter.unusedSimpArgs false
open Go.Proofs.Ytbmnplojpeabmaa.Ob
theorem u8one : ∀ x : Int, (Value.int .u8 x).oneCell' = true := fun _ => rfl
/-- An intake in block g. -/
def IsT (w : World) (g : Nat) (most : Int) (v : Value) (l : List Int) (bg : Bool) (ov : Int) : Prop := w.heap[g]? = some (.cells #[.int .i64 most, v, .bool bg, .int .i64 ov] 152 (0, 0)) ∧ Gr (Value.int .u8) u8one 5 w v l ∧ v.ownBlock ≠ some g
/-- What its methods may write: its block, its row. -/
def FootT (g : Nat) (v : Value) : Nat → Prop := fun k => k = g ∨ v.ownBlock = some k
section
variable {w w1 : World} {g : Nat} {most ov : Int} {v v1 : Value} {l l1 : List Int} {bg : Bool} {S : Nat → Prop}
theorem IsT.keeps (h : IsT w g most v l bg ov) (hk : Keeps w w1 S) (hn : ∀ k, FootT g v k → ¬ S k) : IsT w1 g most v l bg ov :=
  ⟨blk_keeps h.1 hk (hn g (.inl rfl)), h.2.1.keeps hk (fun k e => hn k (.inr e)), h.2.2⟩
theorem IsT.below (h : IsT w g most v l bg ov) (hb : Below w.heap.size w w1) : IsT w1 g most v l bg ov := h.keeps (Keeps.of_below hb (fun _ => False)) (fun _ _ h => h)
theorem IsT.reads (h : IsT w g most v l bg ov) : ∃ A c, v = .slice A l.length c ∧ l.length ≤ c ∧ Kd.C (Kd.int .u8) w A l.length l := h.2.1.reads 0
/-- The row may turn: what holds behind it. -/
theorem IsT.turn (h : IsT w g most v l bg ov) (hG : Gr (Value.int .u8) u8one 5 w1 v1 l1) (hg : w.grownBy w1 v.ownBlock) (hat : v1.ownBlock = v.ownBlock ∨ ∃ b, v1.ownBlock = some b ∧ w.heap.size ≤ b) : IsT (w1.setCell ⟨g, 1, none⟩ v1) g most v1 l1 bg ov ∧ Keeps w (w1.setCell ⟨g, 1, none⟩ v1) (FootT g v) := by
  have h1 := blk_grown h.1 hg (fun e => h.2.2 e.symm)
  have hne : v1.ownBlock ≠ some g := by
    rcases hat with e | ⟨b, e, hb⟩
    · rw [e]; exact h.2.2
    · rw [e]; rintro ⟨⟩; exact absurd (blk_lt h.1) (by omega)
  refine ⟨⟨(blk_put h1 1 _ rfl).trans rfl, ?_, hne⟩, (Keeps.grown (row := v.ownBlock) (Keeps.refl w _) hg (fun k e => .inl (.inr e))).set (.inl (.inl rfl)) 1 v1⟩
  exact hG.keeps (Keeps.set (S := One g) (Keeps.refl w1 _) (.inl rfl) 1 v1) (fun k e hk => hne (by rw [e, show k = g from hk]))
end
theorem intake_New.ok (n : Int) (w : World) (h1 : 16384 ≤ n) (h2 : n ≤ 16777215) : Calls Try.prog 66 #[.int .i64 n] w fun e w' => ∃ g, e = .returned (.tuple #[.pointer (some ⟨g, 0, none⟩), .int .i64 0]) ∧ IsT w' g n (.slice none 0 0) [] false 0 ∧ w.heap.size ≤ g ∧ Below w.heap.size w w' := by
  have b1 : decide (n < 16384) = false := decide_eq_false (by omega)
  have b2 : decide (16777215 < n) = false := decide_eq_false (by omega)
  go_enter Try.func66, Try.ntmps66
  go_wp2
  go_ret2
  exact ⟨_, rfl, ⟨blk_new _ _, Gr.nil _ _ _ _, by simp [Value.ownBlock]⟩, Nat.le_refl _, below_alloc (Below.refl _ _) _⟩
theorem intake_New.bad (n : Int) (w : World) (h : n < 16384 ∨ 16777215 < n) : Calls Try.prog 66 #[.int .i64 n] w fun e w' => e = .returned (.tuple #[.pointer none, .int .i64 1]) ∧ w' = w := by
  by_cases h1 : n < 16384
  · have b1 : decide (n < 16384) = true := decide_eq_true h1
    go_enter Try.func66, Try.ntmps66
    go_wp2
    go_ret2
    exact ⟨rfl, rfl⟩
  · have b1 : decide (n < 16384) = false := decide_eq_false h1
    have b2 : decide (16777215 < n) = true := decide_eq_true (by omega)
    go_enter Try.func66, Try.ntmps66
    go_wp2
    go_ret2
    exact ⟨rfl, rfl⟩
section
variable {w : World} {g : Nat} {most ov : Int} {v : Value} {l : List Int} {bg : Bool}
theorem intake_Begun.is (h : IsT w g most v l bg ov) : Calls Try.prog 72 #[.pointer (some ⟨g, 0, none⟩)] w fun e w' => e = .returned (.bool bg) ∧ w' = w := by
  have hc : w.cell? ⟨g, 2, none⟩ = some (.bool bg) := (blk_cell h.1 2).trans rfl
  go_enter Try.func72, Try.ntmps72
  go_wp2
  go_ret
  exact ⟨rfl, rfl⟩
theorem intake_Begun.none_ (w : World) : Calls Try.prog 72 #[.pointer none] w fun e w' => e = .returned (.bool false) ∧ w' = w := by
  go_enter Try.func72, Try.ntmps72
  go_wp2
  go_ret
  exact ⟨rfl, rfl⟩
theorem intake_Len.is (h : IsT w g most v l bg ov) : Calls Try.prog 74 #[.pointer (some ⟨g, 0, none⟩)] w fun e w' => e = .returned (.int .i64 l.length) ∧ w' = w := by
  obtain ⟨A, c, rfl, _, _⟩ := h.reads
  have hc : w.cell? ⟨g, 1, none⟩ = some (.slice A l.length c) := (blk_cell h.1 1).trans rfl
  go_enter Try.func74, Try.ntmps74
  go_wp2
  go_ret
  exact ⟨rfl, rfl⟩
theorem intake_Len.none_ (w : World) : Calls Try.prog 74 #[.pointer none] w fun e w' => e = .returned (.int .i64 0) ∧ w' = w := by
  go_enter Try.func74, Try.ntmps74
  go_wp2
  go_ret
  exact ⟨rfl, rfl⟩
end
end Go.Proofs.Ytbmnplojpeabmaa.It
