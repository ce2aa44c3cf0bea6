/-
  DYNAMIC: the live question.
  Conditions: none of its own; lemmas that the claim's row rests on.
-/
import Derived.Test.YtjkadheknjkkbaaDe6
import Derived.WalkKit
namespace Go.Proofs.Ytjkadheknjkkbaa.De
open Go.RowKit Go.Proofs.YtjkadheknjkkbaaW.PrintWords Go.Proofs.YtjkadheknjkkbaaW.PrintLast Go.Proofs.YtjkadheknjkkbaaW.PrintMore
attribute [local go_sem] max2_int min2_int max_two min_two max_three min_three max_four min_four
set_option linter.unusedVariables false
set_option linter.unusedSimpArgs false
open Go.Proofs.Ytjkadheknjkkbaa.Ob Go.Proofs.Ytjkadheknjkkbaa.QD
open Go.Proofs.YtjkadheknjkkbaaR
def fA : S78 := ⟨⟨#[97]⟩, ⟨#[49]⟩⟩
def fB : S78 := ⟨⟨#[98]⟩, ⟨#[50, 50]⟩⟩
def fC : S78 := ⟨⟨#[99]⟩, ⟨#[]⟩⟩
theorem al1 : yA 100 fA [] = [fA] := by kernel_rfl
theorem al2 : yA 100 fB [fA] = [fA, fB] := by kernel_rfl
theorem al3 : yA 100 fC [fA, fB] = [fB, fC] := by kernel_rfl
theorem al4 : yE 34 0 [fB, fC] = [fC] := by kernel_rfl
theorem al5 : (sumY [fB, fC] : Int) = 68 := by kernel_rfl
theorem al6 : getY [fB, fC] 1 = fC := by kernel_rfl
theorem al7 : getY [fB, fC] 2 = fB := by kernel_rfl
theorem al8 : getE 2 1 = 0 := by kernel_rfl
theorem al9 : getE 2 2 = 0 := by kernel_rfl
theorem al10 : getE 2 3 = 5 := by kernel_rfl
theorem al11 : (szF fB : Int) = 35 := by kernel_rfl
theorem al12 : szF fA = 34 := by kernel_rfl
theorem al13 : szF fB = 35 := by kernel_rfl
theorem al14 : szF fC = 33 := by kernel_rfl
set_option maxHeartbeats 4000000 in
set_option maxRecDepth 100000 in
theorem alive.is (w : World) : Calls Try.prog 47 #[] w fun e w' => e = .returned (.bool true) ∧ Below w.heap.size w w' := by
  have hu78 := Try.underlying78
  go_enter Try.func47, Try.ntmps47
  go_wp2_with fail
  refine (dynamic_New.ok 100 w (by omega) (by omega)).mono ?_
  rintro e_ w1 ⟨g, rfl, hI1, hg1, hb1⟩
  have HI1 := Aside0.mk hI1
  have HB1 := Aside0.mk hb1
  have HG := Aside0.mk hg1
  clear hI1 hb1 hg1
  go_wp2_with fail
  refine (dynamic_Add.is w1 g 100 100 _ [] fA HI1.out (by simp) (by simp) (by decide) (by decide)).mono ?_
  rintro e_ w2 ⟨rfl, v2, hI2, hk2, hn2⟩
  rw [al1] at hI2
  have HI2 := Aside0.mk hI2
  have HB2 := Aside0.mk (hk2.under HB1.out (fun k e => by rw [show k = g from e]; exact HG.out))
  clear hI2 hk2 hn2 HI1 HB1
  go_wp2_with fail
  refine (dynamic_Add.is w2 g 100 100 _ [fA] fB HI2.out (by simp) (by intro y hy; rw [List.mem_singleton.1 hy, al12]; decide) (by decide) (by decide)).mono ?_
  rintro e_ w3 ⟨rfl, v3, hI3, hk3, hn3⟩
  rw [al2] at hI3
  have HI3 := Aside0.mk hI3
  have HB3 := Aside0.mk (hk3.under HB2.out (fun k e => by rw [show k = g from e]; exact HG.out))
  clear hI3 hk3 hn3 HI2 HB2
  go_wp2_with fail
  refine (dynamic_Add.is w3 g 100 100 _ [fA, fB] fC HI3.out (by simp) (by intro y hy; simp only [List.mem_cons, List.not_mem_nil, or_false] at hy; rcases hy with rfl | rfl <;> simp only [al12, al13] <;> decide) (by decide) (by decide)).mono ?_
  rintro e_ w4 ⟨rfl, v4, hI4, hk4, hn4⟩
  rw [al3] at hI4
  have HI4 := Aside0.mk hI4
  have HB4 := Aside0.mk (hk4.under HB3.out (fun k e => by rw [show k = g from e]; exact HG.out))
  clear hI4 hk4 hn4 HI3 HB3
  go_wp2_with fail
  refine (dynamic_Get.is w4 g 100 100 _ v4 [fB, fC] HI4.out (by simp) 1).mono ?_
  rintro e_ w5 ⟨rfl, hb5⟩
  rw [al6, show ([fB, fC] : List S78).length = 2 from rfl, al8]
  have HI5 := Aside0.mk (HI4.out.below hb5)
  have HB5 := Aside0.mk (below_step HB4.out hb5)
  clear hb5 HI4 HB4
  go_wp2_with fail
  have hb6 := below_alloc (Below.refl w5.heap.size w5) (.cells #[.string fC.f0, .string fC.f1] 78)
  have HI6 := Aside0.mk (HI5.out.below hb6)
  have HB6 := Aside0.mk (below_step HB5.out hb6)
  have HX6 := Aside0.mk (blk_new w5 (.cells #[.string fC.f0, .string fC.f1] 78))
  clear hb6 HI5 HB5
  generalize (w5.alloc (.cells #[.string fC.f0, .string fC.f1] 78)) = w6 at *
  obtain ⟨p5, hp5⟩ : ∃ p5, w5.heap.size = p5 := ⟨_, rfl⟩
  rw [hp5] at HX6 ⊢
  clear hp5
  refine (dynamic_Get.is w6 g 100 100 _ v4 [fB, fC] HI6.out (by simp) 2).mono ?_
  rintro e_ w7 ⟨rfl, hb7⟩
  rw [al7, show ([fB, fC] : List S78).length = 2 from rfl, al9]
  have HI7 := Aside0.mk (HI6.out.below hb7)
  have HB7 := Aside0.mk (below_step HB6.out hb7)
  have HX7 := Aside0.mk (blk_below HX6.out hb7)
  clear hb7 HI6 HB6 HX6
  go_wp2_with fail
  have hb8 := below_alloc (Below.refl w7.heap.size w7) (.cells #[.string fB.f0, .string fB.f1] 78)
  have HI8 := Aside0.mk (HI7.out.below hb8)
  have HB8 := Aside0.mk (below_step HB7.out hb8)
  have HX8 := Aside0.mk (blk_below HX7.out hb8)
  have HY8 := Aside0.mk (blk_new w7 (.cells #[.string fB.f0, .string fB.f1] 78))
  clear hb8 HI7 HB7 HX7
  generalize (w7.alloc (.cells #[.string fB.f0, .string fB.f1] 78)) = w8 at *
  obtain ⟨p7, hp7⟩ : ∃ p7, w7.heap.size = p7 := ⟨_, rfl⟩
  rw [hp7] at HY8 ⊢
  clear hp7
  refine (dynamic_Get.is w8 g 100 100 _ v4 [fB, fC] HI8.out (by simp) 3).mono ?_
  rintro e_ w9 ⟨rfl, hb9⟩
  rw [show ([fB, fC] : List S78).length = 2 from rfl, al10]
  obtain ⟨Z, hZ⟩ : ∃ Z, getY [fB, fC] 3 = Z := ⟨_, rfl⟩
  rw [hZ]
  clear hZ
  have HI9 := Aside0.mk (HI8.out.below hb9)
  have HB9 := Aside0.mk (below_step HB8.out hb9)
  have HX9 := Aside0.mk (blk_below HX8.out hb9)
  have HY9 := Aside0.mk (blk_below HY8.out hb9)
  clear hb9 HI8 HB8 HX8 HY8
  go_wp2_with fail
  have hb10 := below_alloc (Below.refl w9.heap.size w9) (.cells #[.string Z.f0, .string Z.f1] 78)
  have HI10 := Aside0.mk (HI9.out.below hb10)
  have HB10 := Aside0.mk (below_step HB9.out hb10)
  have HX10 := Aside0.mk (blk_below HX9.out hb10)
  have HY10 := Aside0.mk (blk_below HY9.out hb10)
  clear hb10 HI9 HB9 HX9 HY9
  generalize (w9.alloc (.cells #[.string Z.f0, .string Z.f1] 78)) = w10 at *
  refine (dynamic_TSize.is HI10.out).mono ?_
  rintro e_ w_ ⟨rfl, hw_⟩
  rw [hw_, al5]
  clear hw_ w_
  go_wp2_with fail
  refine (dynamic_SetMost.is w10 g 100 100 v4 [fB, fC] 34 HI10.out (by simp) (by intro y hy; simp only [List.mem_cons, List.not_mem_nil, or_false] at hy; rcases hy with rfl | rfl <;> simp only [al13, al14] <;> decide) (by omega) (by omega)).mono ?_
  rintro e_ w11 ⟨rfl, v11, hI11, hk11, hn11⟩
  rw [al4] at hI11
  have hpg : p5 ≠ g ∧ p7 ≠ g := ⟨(fun e => by have h1 := HX10.out; rw [e, HI10.out.1] at h1; cases h1), (fun e => by have h1 := HY10.out; rw [e, HI10.out.1] at h1; cases h1)⟩
  have HI11 := Aside0.mk hI11
  have HX11 := Aside0.mk (blk_keeps HX10.out hk11 (fun e => hpg.1 e))
  have HY11 := Aside0.mk (blk_keeps HY10.out hk11 (fun e => hpg.2 e))
  have HB11 := Aside0.mk (hk11.under HB10.out (fun k e => by rw [show k = g from e]; exact HG.out))
  clear hI11 hk11 hn11 HI10 HX10 HY10 HB10 hpg
  go_wp2_with fail
  refine (dynamic_SetMost.bad w11 g 100 34 _ v11 [fC] 101 HI11.out (by omega)).mono ?_
  rintro e_ w_ ⟨rfl, hw_⟩
  rw [hw_]
  clear hw_ w_
  have x0_ : w11.cell? ⟨p5, 0, none⟩ = some (.string ⟨#[99]⟩) := (blk_cell HX11.out 0).trans rfl
  have y0_ : w11.cell? ⟨p7, 0, none⟩ = some (.string ⟨#[98]⟩) := (blk_cell HY11.out 0).trans rfl
  have y1_ : w11.cell? ⟨p7, 1, none⟩ = some (.string ⟨#[50, 50]⟩) := (blk_cell HY11.out 1).trans rfl
  go_wp2_with fail
  refine (dynamic_Len.is HI11.out).mono ?_
  rintro e_ w_ ⟨rfl, hw_⟩
  rw [hw_, show (([fC] : List S78).length : Int) = 1 from rfl]
  clear hw_ w_
  go_wp2_with fail
  refine (dynamic_Most.is HI11.out).mono ?_
  rintro e_ w_ ⟨rfl, hw_⟩
  rw [hw_]
  clear hw_ w_
  go_wp2_with fail
  refine (dynamic_Size.is fB w11 (by decide) (by decide)).mono ?_
  rintro e_ w12 ⟨rfl, hb12⟩
  rw [al11]
  go_wp2
  go_ret
  exact ⟨rfl, below_step HB11.out hb12⟩
end Go.Proofs.Ytjkadheknjkkbaa.De
