/-
  INTAKE: Feed, at any.
  Conditions: none of its own; lemmas that the claim's row rests on.
-/
import Derived.Test.YtbmnplojpeabmaaIt3
import Derived.WalkKit
namespace Go.Proofs.Ytbmnplojpeabmaa.It
open Go.RowKit Go.Proofs.YtbmnplojpeabmaaW.PrintWords Go.Proofs.YtbmnplojpeabmaaW.PrintLast Go.Proofs.YtbmnplojpeabmaaW.PrintMore
attribute [local go_sem] max2_int min2_int max_two min_two max_three min_three max_four min_four
set_option linter.unusedVariables false
set_option linter.unusedSimpArgs false
open Go.Proofs.Ytbmnplojpeabmaa.Ob Go.Proofs.Ytbmnplojpeabmaa.QI Go.Proofs.Ytbmnplojpeabmaa.FramePure Go.Proofs.Ytbmnplojpeabmaa.WirePure Go.Proofs.Ytbmnplojpeabmaa.IntakePure
theorem sz67c : (Try.prog.info? 67).map (·.size) = some 4 := by kernel_rfl
theorem info67c : (Try.prog.info? 67).map (fun i => (i.zero, i.size, i.bytes)) = some (some (.agg #[(.int .i64 0), (.int .i64 0), (.int .i64 0), (.slice none 0 0)]), 4, 48) := by kernel_rfl
theorem four_sets {W : World} {b t : Nat} {z0 z1 z2 z3 y0 y1 y2 y3 : Value} (hz : W.heap[b]? = some (.cells #[z0, z1, z2, z3] t (0, 0))) :
    ((((W.setCell ⟨b, 0, none⟩ y0).setCell ⟨b, 1, none⟩ y1).setCell ⟨b, 2, none⟩ y2).setCell ⟨b, 3, none⟩ y3).heap[b]? = some (.cells #[y0, y1, y2, y3] t (0, 0)) ∧ Keeps W ((((W.setCell ⟨b, 0, none⟩ y0).setCell ⟨b, 1, none⟩ y1).setCell ⟨b, 2, none⟩ y2).setCell ⟨b, 3, none⟩ y3) (One b) :=
  ⟨(blk_put (blk_put (blk_put (blk_put hz 0 y0 rfl) 1 y1 rfl) 2 y2 rfl) 3 y3 rfl).trans rfl, ((((Keeps.refl W (One b)).set (.inl rfl) 0 y0).set (.inl rfl) 1 y1).set (.inl rfl) 2 y2).set (.inl rfl) 3 y3⟩
theorem eq_dec {x y : List Int} (hx : Bytes x) (hy : Bytes y) : bytes_Equal.f x y = some (decide (x = y)) := by
  unfold bytes_Equal.f
  rw [nums_same hx hy]
theorem pre_bytes : Bytes PRE := fun x hx => by
  have h : ∀ y ∈ PRE, 0 ≤ y ∧ y < 256 := by decide
  exact h x hx
section
variable {w : World} {g : Nat} {most ov : Int} {v : Value} {l l3 : List Int} {bg : Bool} {A3 : Option Addr} {c3 : Nat}
/-- Bytes come. -/
theorem intake_Feed.is (h : IsT w g most v l bg ov) (hr3 : Kd.C (Kd.int .u8) w A3 l3.length l3) (hc3 : l3.length ≤ c3) (hl : l.length + l3.length ≤ 140737488355328) (hb : Bytes l) (hb3 : Bytes l3) :
    Calls Try.prog 68 #[.pointer (some ⟨g, 0, none⟩), .slice A3 l3.length c3] w fun e w' => ∃ v0, e = .returned v0 ∧ ∃ v', IsT w' g most v' (feedI l bg ov l3).1 (feedI l bg ov l3).2.1 (feedI l bg ov l3).2.2 ∧ Mt w g v w' v' := by
  by_cases ho : ov = 0
  · subst ho
    unfold feedI
    rw [if_neg (by decide)]
    cases bg with
    | true =>
      rw [if_pos rfl]
      refine (intake_Feed.begun h hr3 hc3 hl).mono ?_
      rintro e w' ⟨v0, rfl, v', hI, hk, ho⟩
      exact ⟨v0, rfl, v', hI, hk, fun k hk => by
        rcases ho with e | ⟨b, e, hb⟩
        · exact .inl (by rw [← e]; exact hk)
        · rw [e] at hk; cases hk; exact .inr hb⟩
    | false =>
      rw [if_neg (by decide)]
      have hB := bytes_app hb hb3
      rcases Nat.lt_trichotomy 24 (l ++ l3).length with h24 | h24 | h24
      · have hw : wr (l ++ l3) = !decide ((l ++ l3).take 24 = PRE.take 24) := by
          unfold wr
          rw [List.take_of_length_le (l := PRE) (show 24 ≤ _ by omega), List.take_of_length_le (l := PRE) (show 24 ≤ 24 by omega)]
          congr 1
          exact decide_eq_decide.2 ⟨Eq.symm, Eq.symm⟩
        refine (intake_Feed.fresh24 _ _ h hr3 hc3 hl rfl h24 (eq_dec (hB.take 24) (pre_bytes.take 24))).mono ?_
        rintro e w' ⟨v0, rfl, v', hI, hm⟩
        refine ⟨v0, rfl, v', ?_, hm⟩
        rw [hw]
        cases hd : decide ((l ++ l3).take 24 = PRE.take 24)
        · rw [hd] at hI
          simpa using hI
        · rw [hd] at hI
          rw [if_neg (by decide), if_pos (by omega)]
          simpa using hI
      · have hw : wr (l ++ l3) = !decide ((l ++ l3).take (l ++ l3).length = PRE.take (l ++ l3).length) := by
          unfold wr
          rw [← h24]
          congr 1
          exact decide_eq_decide.2 ⟨Eq.symm, Eq.symm⟩
        refine (intake_Feed.freshE _ _ h hr3 hc3 hl rfl h24.symm (eq_dec (hB.take _) (pre_bytes.take _))).mono ?_
        rintro e w' ⟨v0, rfl, v', hI, hm⟩
        refine ⟨v0, rfl, v', ?_, hm⟩
        rw [hw]
        cases hd : decide ((l ++ l3).take (l ++ l3).length = PRE.take (l ++ l3).length)
        · rw [hd] at hI
          simpa using hI
        · rw [hd] at hI
          rw [if_neg (by decide), if_pos (by omega), List.drop_of_length_le (by omega)]
          simpa using hI
      · have hw : wr (l ++ l3) = !decide ((l ++ l3).take (l ++ l3).length = PRE.take (l ++ l3).length) := by
          unfold wr
          rw [List.take_of_length_le (l := l ++ l3) (show (l ++ l3).length ≤ 24 by omega), List.take_of_length_le (l := l ++ l3) (Nat.le_refl _)]
          congr 1
          exact decide_eq_decide.2 ⟨Eq.symm, Eq.symm⟩
        refine (intake_Feed.freshL _ _ h hr3 hc3 hl rfl h24 (eq_dec (hB.take _) (pre_bytes.take _))).mono ?_
        rintro e w' ⟨v0, rfl, v', hI, hm⟩
        refine ⟨v0, rfl, v', ?_, hm⟩
        rw [hw]
        cases hd : decide ((l ++ l3).take (l ++ l3).length = PRE.take (l ++ l3).length)
        · rw [hd] at hI
          simpa using hI
        · rw [hd] at hI
          rw [if_neg (by decide), if_neg (by omega)]
          simpa using hI
  · unfold feedI
    rw [if_pos ho]
    refine (intake_Feed.over _ h ho).mono ?_
    rintro e w' ⟨v0, rfl, rfl⟩
    exact ⟨v0, rfl, v, h, Keeps.refl _ _, fun k hk => .inl hk⟩
end
end Go.Proofs.Ytbmnplojpeabmaa.It
