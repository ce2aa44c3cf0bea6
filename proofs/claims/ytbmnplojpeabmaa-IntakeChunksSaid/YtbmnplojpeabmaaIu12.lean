/-
  INTAKE: alive.
  Conditions: none of its own; lemmas that the claim's row rests on.
-/
import Derived.Test.YtbmnplojpeabmaaIu11
import Derived.WalkKit
import Derived.Lib.SlBytesConst
namespace Go.Proofs.Ytbmnplojpeabmaa.It
open Go.RowKit Go.Proofs.YtbmnplojpeabmaaW.PrintWords Go.Proofs.YtbmnplojpeabmaaW.PrintLast Go.Proofs.YtbmnplojpeabmaaW.PrintMore
attribute [local go_sem] max2_int min2_int max_two min_two max_three min_three max_four min_four
set_option linter.unusedVariables false
set_option linter.unusedSimpArgs false
open Go.Proofs.Ytbmnplojpeabmaa.Ob Go.Proofs.Ytbmnplojpeabmaa.QI Go.Proofs.Ytbmnplojpeabmaa.FramePure Go.Proofs.Ytbmnplojpeabmaa.WirePure Go.Proofs.Ytbmnplojpeabmaa.IntakePure
theorem blk_new' (w : World) (o : Obj) : (w.alloc o).heap[w.heap.size]? = some o := by
  show (w.heap.push o)[w.heap.size]? = _
  simp
set_option maxHeartbeats 16000000 in
set_option maxRecDepth 100000 in
theorem gantletlaw13_alive.is (w : World) : Calls Try.prog 65 #[] w fun e w' => e = .returned (.bool true) ∧ Below w.heap.size w w' := by
  have hu67 := Try.underlying67
  have kc := fun (w : World) (C : Array Value) (n c : Nat) => Lib.run_convert_bytes_const (P := Try.prog) w 22 5 C n c Try.underlying22 Try.underlying5
  go_enter Try.func65, Try.ntmps65
  go_wp2_with fail
  refine (intake_New.ok 16384 _ (by decide) (by decide)).mono ?_
  rintro e_ w1 ⟨gt, rfl, hT1, hgt1, hb1⟩
  have HT1 := Aside0.mk hT1
  have HB1 := Aside0.mk hb1
  have HG1 := Aside0.mk hgt1
  clear hT1 hb1 hgt1
  go_wp2_with fail
  refine (intake_New.ok 16384 _ (by decide) (by decide)).mono ?_
  rintro e_ w2 ⟨gu, rfl, hU2, hgu2, hb2⟩
  have HA2 : Aside0 (Al w w2 gt (.slice none 0 0) [] false 0 gu (.slice none 0 0) [] false 0 (fun _ _ => False)) := ⟨⟨HT1.out.below hb2, hU2, ⟨fun k hk h2 => by rcases hk with rfl | hk; (rcases h2 with rfl | h2; (have := blk_lt HT1.out.1; omega); (simp [Value.ownBlock] at h2)); (simp [Value.ownBlock] at hk), (HT1.out.below hb2).foot, hU2.foot, below_step HB1.out hb2, fun k hk => by rcases hk with rfl | hk; exact HG1.out; (simp [Value.ownBlock] at hk), fun k hk => by rcases hk with rfl | hk; exact Nat.le_trans HB1.out.size hgu2; (simp [Value.ownBlock] at hk)⟩, fun _ _ h => h.elim⟩⟩
  clear hU2 hgu2 hb2 HT1 HB1 HG1
  go_wp2_with fail
  refine (intake_Preface.blk _).mono ?_
  rintro e_ w3_ ⟨rfl, hw3_⟩
  have HA3_ := HA2.out.add OP (blk_new w2 _)
  rw [← hw3_] at HA3_
  obtain ⟨gp, hgp_⟩ : ∃ q_, w2.heap.size = q_ := ⟨_, rfl⟩
  rw [hgp_] at HA3_ ⊢
  have HA3 := Aside0.mk HA3_
  clear HA3_ HA2 hw3_ hgp_
  generalize hFx : (fun (k : Nat) (o' : Obj) => (False ∨ (k = gp ∧ o' = OP) : Prop)) = Fx at HA3
  have HFX : Aside0 (Fx gp OP) := ⟨by rw [← hFx]; exact .inr ⟨rfl, rfl⟩⟩
  clear hFx
  go_wp2_with fail
  have hc_ := HA3.out.feed (some ⟨gp, 0, none⟩) 24 (PRE.take 20) (Kd.C_take (C_blk8 (HA3.out.fx gp OP HFX.out).1 (by decide)) (by decide)) (by decide) (by decide) (bytes_dec (by decide)) (bytes_dec (by decide))
  rw [show feedI [] false 0 (PRE.take 20) = ([80, 82, 73, 32, 42, 32, 72, 84, 84, 80, 47, 50, 46, 48, 13, 10, 13, 10, 83, 77], false, 0) by kernel_rfl] at hc_
  refine hc_.mono ?_
  clear hc_
  rintro e_ w4 ⟨v0_, rfl, v4, hA_, _⟩
  dsimp only at hA_
  have HA4 := Aside0.mk hA_
  clear hA_ HA3
  go_wp2_with fail
  have hc_ := HA4.out.next (bytes_dec (by decide)) (by decide)
  rw [show ansI 16384 [80, 82, 73, 32, 42, 32, 72, 84, 84, 80, 47, 50, 46, 48, 13, 10, 13, 10, 83, 77] false 0 = (zF, 2) by kernel_rfl, show nextI 16384 [80, 82, 73, 32, 42, 32, 72, 84, 84, 80, 47, 50, 46, 48, 13, 10, 13, 10, 83, 77] false 0 = ([80, 82, 73, 32, 42, 32, 72, 84, 84, 80, 47, 50, 46, 48, 13, 10, 13, 10, 83, 77], 0) by kernel_rfl] at hc_
  refine hc_.mono ?_
  clear hc_
  rintro e_ w5 ⟨hH_, v5, hA_, _⟩
  dsimp only at hA_
  obtain ⟨A5, c5, rfl⟩ := hH_.z
  clear hH_
  have hA2_ := hA_.alloc (.cells #[.int .i64 0, .int .i64 0, .int .i64 0, .slice A5 0 c5] 67)
  clear hA_ HA4
  go_wp2_with fail
  obtain ⟨w6, hw_⟩ : ∃ W_ : World, W_ = w5.alloc (.cells #[.int .i64 0, .int .i64 0, .int .i64 0, .slice A5 0 c5] 67) := ⟨_, rfl⟩
  rw [← hw_] at hA2_ ⊢
  have hsz_ : w6.heap.size = w5.heap.size + 1 := by rw [hw_, World.size_alloc]
  try rw [← hsz_]
  clear hw_ hsz_
  try go_wp2_with fail
  have HA6 := Aside0.mk hA2_
  clear hA2_
  refine (intake_Len.is HA6.out.t).mono ?_
  rintro e_ w_ ⟨rfl, hw_⟩
  rw [hw_]
  clear hw_
  try simp only [List.length_cons, List.length_nil]
  have HPD : Aside0 (Kd.C (Kd.int .u8) w6 (some ⟨gp, 20, none⟩) 4 (PRE.drop 20)) := ⟨by
    have h_ := Kd.C_drop (C_blk8 (HA6.out.fx gp OP HFX.out).1 (by decide)) (show 20 ≤ PRE.length by decide) (show PRE.length ≤ 24 by decide)
    exact h_⟩
  go_wp2_with (first | (at_builtin; (refine Gr.append (Value.int .u8) 0 (h1 := u8one) rfl (.tmp 52) (.tmp 54) 22 5 (.int .u8 0) 1 rfl Try.underlying22 info5 rfl (by decide) (.slice (some ⟨w6.heap.size, 0, none⟩) 0 0) [] (PRE.drop 20) _ _ _ rfl rfl ?gO ?gR (by decide) ?_; (case gO => exact .inl ⟨some ⟨w6.heap.size, 0, none⟩, rfl, by simp, C_nil8 _ _, fun k hk => by have h_ : some w6.heap.size = some k := hk; cases h_; simp⟩); (case gR => exact Kd.C_below HPD.out (below_alloc (Below.refl _ _) _)); intro x2 y2 hG2 hg2 hat2; have hb2 : Below w6.heap.size w6 y2 := Below.grown (below_alloc (Below.refl _ _) _) hg2 (by simp) (fun k_ e_ => by simp [Value.ownBlock] at e_; omega); have HO2 : Aside0 (∀ k, x2.ownBlock = some k → w6.heap.size ≤ k) := ⟨by intro k hk; rcases hat2 with e | ⟨b, e, hb⟩; (rw [e] at hk; simp [Value.ownBlock] at hk; omega); (rw [e] at hk; cases hk; simp at hb; omega)⟩; have HG2 : Aside0 (Gr (Value.int .u8) u8one 5 y2 x2 (PRE.drop 20)) := ⟨hG2⟩; have HB2 := Aside0.mk hb2; clear hG2 hg2 hat2 hb2)) | (at_builtin; (refine Gr.append (Value.int .u8) 0 (h1 := u8one) rfl (.tmp 55) (.tmp 56) 22 5 (.int .u8 0) 1 rfl Try.underlying22 info5 rfl (by decide) x2 (PRE.drop 20) [0, 0, 1, 6, 0, 0, 0, 0, 3, 9, 0, 64] _ 12 12 rfl rfl (HG2.out.below (below_alloc (Below.refl _ _) _)) (C_blk8 (xs := [0, 0, 1, 6, 0, 0, 0, 0, 3, 9, 0, 64]) (blk_new y2 _) (by decide)) (by decide) ?_; intro x3 y3 hG3 hg3 hat3; have HB3 : Aside0 (Below w6.heap.size w6 y3) := ⟨Below.grown (below_step HB2.out (below_alloc (Below.refl _ _) _)) hg3 (by rw [World.size_alloc]; have := HB2.out.size; omega) (fun k_ e_ => HO2.out k_ e_)⟩; obtain ⟨A9, c9, e9, hc9, hC9⟩ := hG3.reads 0; subst e9; have HC9 := Aside0.mk hC9; have HLE9 := Aside0.mk hc9; clear hG3 hg3 hat3 hC9 hc9)))
  have HQ := Aside0.mk (HA6.out.below HB3.out)

  have hc_ := HQ.out.feed (A9) c9 (PRE.drop 20 ++ [0, 0, 1, 6, 0, 0, 0, 0, 3, 9, 0, 64]) (HC9.out) HLE9.out (by decide) (bytes_dec (by decide)) (bytes_dec (by decide))
  rw [show feedI [80, 82, 73, 32, 42, 32, 72, 84, 84, 80, 47, 50, 46, 48, 13, 10, 13, 10, 83, 77] false 0 (PRE.drop 20 ++ [0, 0, 1, 6, 0, 0, 0, 0, 3, 9, 0, 64]) = ([0, 0, 1, 6, 0, 0, 0, 0, 3, 9, 0, 64], true, 0) by kernel_rfl] at hc_
  refine hc_.mono ?_
  clear hc_
  rintro e_ w7 ⟨v0_, rfl, v7, hA_, _⟩
  dsimp only at hA_
  have HA7 := Aside0.mk hA_
  clear hA_ HQ
  go_wp2_with fail
  have hc_ := HA7.out.next (bytes_dec (by decide)) (by decide)
  rw [show ansI 16384 [0, 0, 1, 6, 0, 0, 0, 0, 3, 9, 0, 64] true 0 = (⟨6, 0, 3, [9]⟩, 0) by kernel_rfl, show nextI 16384 [0, 0, 1, 6, 0, 0, 0, 0, 3, 9, 0, 64] true 0 = ([0, 64], 0) by kernel_rfl] at hc_
  refine hc_.mono ?_
  clear hc_
  rintro e_ w8 ⟨hH_, v8, hA_, _⟩
  dsimp only at hA_
  obtain ⟨A8, c8, rfl⟩ : ∃ A3 c3, e_ = .returned (.tuple #[.agg #[.int .i64 6, .int .i64 0, .int .i64 3, .slice A3 1 c3], .int .i64 0]) := (by obtain ⟨A3, c3, rfl, _, _⟩ := hH_; exact ⟨A3, c3, rfl⟩)
  clear hH_
  have hA2_ := hA_.add (.cells #[.int .i64 6, .int .i64 0, .int .i64 3, .slice A8 1 c8] 67) (blk_new w8 _)
  have HAX : Aside0 (w8.heap.size = w8.heap.size) := ⟨rfl⟩
  clear hA_ HA7
  go_wp2_with fail
  obtain ⟨w9, hw_⟩ : ∃ W_ : World, W_ = w8.alloc (.cells #[.int .i64 6, .int .i64 0, .int .i64 3, .slice A8 1 c8] 67) := ⟨_, rfl⟩
  rw [← hw_] at hA2_ ⊢
  have hsz_ : w9.heap.size = w8.heap.size + 1 := by rw [hw_, World.size_alloc]
  try rw [← hsz_]
  clear hw_ hsz_
  try go_wp2_with fail
  obtain ⟨gx, hgx_⟩ : ∃ q_, w8.heap.size = q_ := ⟨_, rfl⟩
  rw [hgx_] at hA2_ ⊢
  clear hgx_ HAX
  obtain ⟨Gx, hGx_⟩ : ∃ G_ : Nat → Obj → Prop, G_ = (fun (k : Nat) (o' : Obj) => Fx k o' ∨ (k = gx ∧ o' = (.cells #[.int .i64 6, .int .i64 0, .int .i64 3, .slice A8 1 c8] 67))) := ⟨_, rfl⟩
  rw [← hGx_] at hA2_
  have HXF : Aside0 (Gx gx (.cells #[.int .i64 6, .int .i64 0, .int .i64 3, .slice A8 1 c8] 67)) := ⟨by rw [hGx_]; exact .inr ⟨rfl, rfl⟩⟩
  have HFX2 : Aside0 (Gx gp OP) := ⟨by rw [hGx_]; exact .inl HFX.out⟩
  clear hGx_ HFX
  have HFX := HFX2
  have HA9 := Aside0.mk hA2_
  clear hA2_
  refine (intake_Len.is HA9.out.t).mono ?_
  rintro e_ w_ ⟨rfl, hw_⟩
  rw [hw_]
  clear hw_ w_
  try simp only [List.length_cons, List.length_nil]
  go_wp2_with fail
  have hc_ := HA9.out.next (bytes_dec (by decide)) (by decide)
  rw [show ansI 16384 [0, 64] true 0 = (zF, 2) by kernel_rfl, show nextI 16384 [0, 64] true 0 = ([0, 64], 0) by kernel_rfl] at hc_
  refine hc_.mono ?_
  clear hc_
  rintro e_ w10 ⟨hH_, v10, hA_, _⟩
  dsimp only at hA_
  obtain ⟨A10, c10, rfl⟩ := hH_.z
  clear hH_
  have hA2_ := hA_.alloc (.cells #[.int .i64 0, .int .i64 0, .int .i64 0, .slice A10 0 c10] 67)
  clear hA_ HA9
  go_wp2_with fail
  obtain ⟨w11, hw_⟩ : ∃ W_ : World, W_ = w10.alloc (.cells #[.int .i64 0, .int .i64 0, .int .i64 0, .slice A10 0 c10] 67) := ⟨_, rfl⟩
  rw [← hw_] at hA2_ ⊢
  have hsz_ : w11.heap.size = w10.heap.size + 1 := by rw [hw_, World.size_alloc]
  try rw [← hsz_]
  clear hw_ hsz_
  try go_wp2_with fail
  have HA11 := Aside0.mk hA2_
  clear hA2_
  have HL12 := Aside0.mk (HA11.out.alloc (.cells #[.int .u8 1, .int .u8 0, .int .u8 0, .int .u8 0, .int .u8 0, .int .u8 0, .int .u8 0, .int .u8 0] 5))
  have HLC : Aside0 (Kd.C (Kd.int .u8) (w11.alloc (.cells #[.int .u8 1, .int .u8 0, .int .u8 0, .int .u8 0, .int .u8 0, .int .u8 0, .int .u8 0, .int .u8 0] 5)) (some ⟨w11.heap.size, 0, none⟩) 8 [1, 0, 0, 0, 0, 0, 0, 0]) := ⟨C_blk8 (xs := [1, 0, 0, 0, 0, 0, 0, 0]) (blk_new' w11 _) (by decide)⟩
  have hc_ := HL12.out.feed (some ⟨w11.heap.size, 0, none⟩) 8 [1, 0, 0, 0, 0, 0, 0, 0] (HLC.out) (by decide) (by decide) (bytes_dec (by decide)) (bytes_dec (by decide))
  rw [show feedI [0, 64] true 0 [1, 0, 0, 0, 0, 0, 0, 0] = ([0, 64, 1, 0, 0, 0, 0, 0, 0, 0], true, 0) by kernel_rfl] at hc_
  refine hc_.mono ?_
  clear hc_
  rintro e_ w13 ⟨v0_, rfl, v13, hA_, _⟩
  dsimp only at hA_
  have HA13 := Aside0.mk hA_
  clear hA_ HL12
  go_wp2_with fail
  have hc_ := HA13.out.next (bytes_dec (by decide)) (by decide)
  rw [show ansI 16384 [0, 64, 1, 0, 0, 0, 0, 0, 0, 0] true 0 = (zF, 4) by kernel_rfl, show nextI 16384 [0, 64, 1, 0, 0, 0, 0, 0, 0, 0] true 0 = ([], 4) by kernel_rfl] at hc_
  refine hc_.mono ?_
  clear hc_
  rintro e_ w14 ⟨hH_, v14, hA_, _⟩
  dsimp only at hA_
  obtain ⟨A14, c14, rfl⟩ := hH_.z
  clear hH_
  have hA2_ := hA_.alloc (.cells #[.int .i64 0, .int .i64 0, .int .i64 0, .slice A14 0 c14] 67)
  clear hA_ HA13
  go_wp2_with fail
  obtain ⟨w15, hw_⟩ : ∃ W_ : World, W_ = w14.alloc (.cells #[.int .i64 0, .int .i64 0, .int .i64 0, .slice A14 0 c14] 67) := ⟨_, rfl⟩
  rw [← hw_] at hA2_ ⊢
  have hsz_ : w15.heap.size = w14.heap.size + 1 := by rw [hw_, World.size_alloc]
  try rw [← hsz_]
  clear hw_ hsz_
  try go_wp2_with fail
  have HA15 := Aside0.mk hA2_
  clear hA2_
  have hc_ := HA15.out.next (bytes_dec (by decide)) (by decide)
  rw [show ansI 16384 [] true 4 = (zF, 4) by kernel_rfl, show nextI 16384 [] true 4 = ([], 4) by kernel_rfl] at hc_
  refine hc_.mono ?_
  clear hc_
  rintro e_ w16 ⟨hH_, v16, hA_, _⟩
  dsimp only at hA_
  obtain ⟨A16, c16, rfl⟩ := hH_.z
  clear hH_
  have hA2_ := hA_.alloc (.cells #[.int .i64 0, .int .i64 0, .int .i64 0, .slice A16 0 c16] 67)
  clear hA_ HA15
  go_wp2_with fail
  obtain ⟨w17, hw_⟩ : ∃ W_ : World, W_ = w16.alloc (.cells #[.int .i64 0, .int .i64 0, .int .i64 0, .slice A16 0 c16] 67) := ⟨_, rfl⟩
  rw [← hw_] at hA2_ ⊢
  have hsz_ : w17.heap.size = w16.heap.size + 1 := by rw [hw_, World.size_alloc]
  try rw [← hsz_]
  clear hw_ hsz_
  try go_wp2_with fail
  have HA17 := Aside0.mk hA2_
  clear hA2_
  rw [kc]
  go_simp
  first | go_wp2_with fail | (rename_i hK_; refine hK_ _ _ ?_; go_wp2_with fail)
  have HL18 := Aside0.mk (HA17.out.swap.alloc (.cells #[.int .u8 80, .int .u8 82, .int .u8 120] 5 (3, 4)))
  have HLC : Aside0 (Kd.C (Kd.int .u8) (w17.alloc (.cells #[.int .u8 80, .int .u8 82, .int .u8 120] 5 (3, 4))) (some ⟨w17.heap.size, 0, none⟩) 3 [80, 82, 120]) := ⟨C_blk8 (xs := [80, 82, 120]) (blk_new' w17 _) (by decide)⟩
  have hc_ := HL18.out.feed (some ⟨w17.heap.size, 0, none⟩) 3 [80, 82, 120] (HLC.out) (by decide) (by decide) (bytes_dec (by decide)) (bytes_dec (by decide))
  rw [show feedI [] false 0 [80, 82, 120] = ([], false, 3) by kernel_rfl] at hc_
  refine hc_.mono ?_
  clear hc_
  rintro e_ w19 ⟨v0_, rfl, v19, hA_, _⟩
  dsimp only at hA_
  have HA19 := Aside0.mk hA_
  clear hA_ HL18
  go_wp2_with fail
  have hc_ := HA19.out.next (bytes_dec (by decide)) (by decide)
  rw [show ansI 16384 [] false 3 = (zF, 3) by kernel_rfl, show nextI 16384 [] false 3 = ([], 3) by kernel_rfl] at hc_
  refine hc_.mono ?_
  clear hc_
  rintro e_ w20 ⟨hH_, v20, hA_, _⟩
  dsimp only at hA_
  obtain ⟨A20, c20, rfl⟩ := hH_.z
  clear hH_
  have hA2_ := hA_.alloc (.cells #[.int .i64 0, .int .i64 0, .int .i64 0, .slice A20 0 c20] 67)
  clear hA_ HA19
  go_wp2_with fail
  obtain ⟨w21, hw_⟩ : ∃ W_ : World, W_ = w20.alloc (.cells #[.int .i64 0, .int .i64 0, .int .i64 0, .slice A20 0 c20] 67) := ⟨_, rfl⟩
  rw [← hw_] at hA2_ ⊢
  have hsz_ : w21.heap.size = w20.heap.size + 1 := by rw [hw_, World.size_alloc]
  try rw [← hsz_]
  clear hw_ hsz_
  try go_wp2_with fail
  have HA21 := Aside0.mk hA2_
  clear hA2_
  refine (intake_New.bad 16383 _ (by decide)).mono ?_
  rintro e_ w_ ⟨rfl, hw_⟩
  rw [hw_]
  clear hw_ w_
  have hx_ := (HA21.out.fx gx _ HXF.out).1
  have X0_ : w21.cell? ⟨gx, 0, none⟩ = some (.int .i64 6) := (blk_cell hx_ 0).trans rfl
  have X1_ : w21.cell? ⟨gx, 1, none⟩ = some (.int .i64 0) := (blk_cell hx_ 1).trans rfl
  have X2_ : w21.cell? ⟨gx, 2, none⟩ = some (.int .i64 3) := (blk_cell hx_ 2).trans rfl
  have X3_ : w21.cell? ⟨gx, 3, none⟩ = some (.slice _ 1 _) := (blk_cell hx_ 3).trans rfl
  have hp_ := (HA21.out.fx gp OP HFX.out).1
  have P0_ : w21.cell? ⟨gp, 0, none⟩ = some (.int .u8 80) := by unfold World.cell?; rw [hp_]; rfl
  have P1_ : w21.cell? ⟨gp, 23, none⟩ = some (.int .u8 10) := by unfold World.cell?; rw [hp_]; rfl
  clear hx_ hp_
  go_wp2_with fail
  refine (intake_Len.is HA21.out.u).mono ?_
  rintro e_ w_ ⟨rfl, hw_⟩
  rw [hw_]
  clear hw_ w_
  try simp only [List.length_cons, List.length_nil]
  go_wp2_with fail
  refine (intake_Begun.is HA21.out.u).mono ?_
  rintro e_ w_ ⟨rfl, hw_⟩
  rw [hw_]
  clear hw_ w_
  try simp only [List.length_cons, List.length_nil]
  go_wp2_with fail
  refine (intake_Begun.is HA21.out.t).mono ?_
  rintro e_ w_ ⟨rfl, hw_⟩
  rw [hw_]
  clear hw_ w_
  try simp only [List.length_cons, List.length_nil]
  go_wp2_with fail
  go_ret
  exact ⟨rfl, HA21.out.p.be⟩
end Go.Proofs.Ytbmnplojpeabmaa.It
