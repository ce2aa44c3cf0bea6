/-
  THE LAW LifeTells: for any state and event, life.After, Hears and Says answer as the reference does.
  Conditions: none.
-/
import Derived.Test.YtjkadheknjkkbaaDoorQL3
namespace Go.Proofs.YtjkadheknjkkbaaDoor.Pure
open Go Go.RowKit Go.Proofs.YtjkadheknjkkbaaDoor.QL Go.Proofs.YtjkadheknjkkbaaDoorW.PrintWords Go.Proofs.YtjkadheknjkkbaaDoorW.PrintLast
set_option linter.unusedVariables false
theorem lt00 : gantletlaw16_LifeTells.f 0 0 = some true := by kernel_rfl
theorem lt01 : gantletlaw16_LifeTells.f 0 1 = some true := by kernel_rfl
theorem lt02 : gantletlaw16_LifeTells.f 0 2 = some true := by kernel_rfl
theorem lt03 : gantletlaw16_LifeTells.f 0 3 = some true := by kernel_rfl
theorem lt04 : gantletlaw16_LifeTells.f 0 4 = some true := by kernel_rfl
theorem lt05 : gantletlaw16_LifeTells.f 0 5 = some true := by kernel_rfl
theorem lt06 : gantletlaw16_LifeTells.f 0 6 = some true := by kernel_rfl
theorem lt07 : gantletlaw16_LifeTells.f 0 7 = some true := by kernel_rfl
theorem lt08 : gantletlaw16_LifeTells.f 0 8 = some true := by kernel_rfl
theorem lt10 : gantletlaw16_LifeTells.f 1 0 = some true := by kernel_rfl
theorem lt11 : gantletlaw16_LifeTells.f 1 1 = some true := by kernel_rfl
theorem lt12 : gantletlaw16_LifeTells.f 1 2 = some true := by kernel_rfl
theorem lt13 : gantletlaw16_LifeTells.f 1 3 = some true := by kernel_rfl
theorem lt14 : gantletlaw16_LifeTells.f 1 4 = some true := by kernel_rfl
theorem lt15 : gantletlaw16_LifeTells.f 1 5 = some true := by kernel_rfl
theorem lt16 : gantletlaw16_LifeTells.f 1 6 = some true := by kernel_rfl
theorem lt17 : gantletlaw16_LifeTells.f 1 7 = some true := by kernel_rfl
theorem lt18 : gantletlaw16_LifeTells.f 1 8 = some true := by kernel_rfl
theorem lt20 : gantletlaw16_LifeTells.f 2 0 = some true := by kernel_rfl
theorem lt21 : gantletlaw16_LifeTells.f 2 1 = some true := by kernel_rfl
theorem lt22 : gantletlaw16_LifeTells.f 2 2 = some true := by kernel_rfl
theorem lt23 : gantletlaw16_LifeTells.f 2 3 = some true := by kernel_rfl
theorem lt24 : gantletlaw16_LifeTells.f 2 4 = some true := by kernel_rfl
theorem lt25 : gantletlaw16_LifeTells.f 2 5 = some true := by kernel_rfl
theorem lt26 : gantletlaw16_LifeTells.f 2 6 = some true := by kernel_rfl
theorem lt27 : gantletlaw16_LifeTells.f 2 7 = some true := by kernel_rfl
theorem lt28 : gantletlaw16_LifeTells.f 2 8 = some true := by kernel_rfl
theorem lt30 : gantletlaw16_LifeTells.f 3 0 = some true := by kernel_rfl
theorem lt31 : gantletlaw16_LifeTells.f 3 1 = some true := by kernel_rfl
theorem lt32 : gantletlaw16_LifeTells.f 3 2 = some true := by kernel_rfl
theorem lt33 : gantletlaw16_LifeTells.f 3 3 = some true := by kernel_rfl
theorem lt34 : gantletlaw16_LifeTells.f 3 4 = some true := by kernel_rfl
theorem lt35 : gantletlaw16_LifeTells.f 3 5 = some true := by kernel_rfl
theorem lt36 : gantletlaw16_LifeTells.f 3 6 = some true := by kernel_rfl
theorem lt37 : gantletlaw16_LifeTells.f 3 7 = some true := by kernel_rfl
theorem lt38 : gantletlaw16_LifeTells.f 3 8 = some true := by kernel_rfl
theorem lt40 : gantletlaw16_LifeTells.f 4 0 = some true := by kernel_rfl
theorem lt41 : gantletlaw16_LifeTells.f 4 1 = some true := by kernel_rfl
theorem lt42 : gantletlaw16_LifeTells.f 4 2 = some true := by kernel_rfl
theorem lt43 : gantletlaw16_LifeTells.f 4 3 = some true := by kernel_rfl
theorem lt44 : gantletlaw16_LifeTells.f 4 4 = some true := by kernel_rfl
theorem lt45 : gantletlaw16_LifeTells.f 4 5 = some true := by kernel_rfl
theorem lt46 : gantletlaw16_LifeTells.f 4 6 = some true := by kernel_rfl
theorem lt47 : gantletlaw16_LifeTells.f 4 7 = some true := by kernel_rfl
theorem lt48 : gantletlaw16_LifeTells.f 4 8 = some true := by kernel_rfl
theorem alive16 : gantletlaw16_alive.f = some true := by kernel_rfl
theorem ref_out {s e : Int} (h : s < 0 ∨ s ≥ 5 ∨ e < 0 ∨ e ≥ 9) : gantletref16_After.f s e = some (0, 0, false, 1) := by
  unfold gantletref16_After.f
  rw [if_pos (by omega)]
theorem LifeTells (s e : Int) (hs : (Lit.int .i64 s).wf = true) (he : (Lit.int .i64 e).wf = true) : gantletlaw16_LifeTells.f s e = some true := by
  by_cases h : s < 0 ∨ s ≥ 5 ∨ e < 0 ∨ e ≥ 9
  · unfold gantletlaw16_LifeTells.f
    rw [show life_After.f s e = some (0, 0, false, 1) from by unfold life_After.f; rw [if_pos h], ref_out h, alive16]
    simp only [Option.bind_some]
    unfold life_Hears.f life_Says.f
    by_cases h1 : s = 1
    · simp [h1]
    · simp [h1]
  · have hs : s = 0 ∨ s = 1 ∨ s = 2 ∨ s = 3 ∨ s = 4 := by omega
    have he : e = 0 ∨ e = 1 ∨ e = 2 ∨ e = 3 ∨ e = 4 ∨ e = 5 ∨ e = 6 ∨ e = 7 ∨ e = 8 := by omega
    clear h
    rcases hs with rfl | rfl | rfl | rfl | rfl
    · rcases he with rfl | rfl | rfl | rfl | rfl | rfl | rfl | rfl | rfl
      · exact lt00
      · exact lt01
      · exact lt02
      · exact lt03
      · exact lt04
      · exact lt05
      · exact lt06
      · exact lt07
      · exact lt08
    · rcases he with rfl | rfl | rfl | rfl | rfl | rfl | rfl | rfl | rfl
      · exact lt10
      · exact lt11
      · exact lt12
      · exact lt13
      · exact lt14
      · exact lt15
      · exact lt16
      · exact lt17
      · exact lt18
    · rcases he with rfl | rfl | rfl | rfl | rfl | rfl | rfl | rfl | rfl
      · exact lt20
      · exact lt21
      · exact lt22
      · exact lt23
      · exact lt24
      · exact lt25
      · exact lt26
      · exact lt27
      · exact lt28
    · rcases he with rfl | rfl | rfl | rfl | rfl | rfl | rfl | rfl | rfl
      · exact lt30
      · exact lt31
      · exact lt32
      · exact lt33
      · exact lt34
      · exact lt35
      · exact lt36
      · exact lt37
      · exact lt38
    · rcases he with rfl | rfl | rfl | rfl | rfl | rfl | rfl | rfl | rfl
      · exact lt40
      · exact lt41
      · exact lt42
      · exact lt43
      · exact lt44
      · exact lt45
      · exact lt46
      · exact lt47
      · exact lt48
end Go.Proofs.YtjkadheknjkkbaaDoor.Pure
