/-
  ITEM: a live question.
  Conditions: none of its own; lemmas that the claim's row rests on.
-/
import Derived.Test.YtlbjhbanfpnogaaDoorJq
import Derived.WalkKit
namespace Go.Proofs.YtlbjhbanfpnogaaDoor.QJ
open Go.RowKit Go.Proofs.YtlbjhbanfpnogaaDoorW.PrintWords Go.Proofs.YtlbjhbanfpnogaaDoorW.PrintLast Go.Proofs.YtlbjhbanfpnogaaDoorW.PrintMore
attribute [local go_sem] max2_int min2_int max_two min_two max_three min_three max_four min_four
set_option linter.unusedVariables false
set_option linter.unusedSimpArgs false
open Go.Proofs.YtlbjhbanfpnogaaDoor.QH Go.Proofs.YtlbjhbanfpnogaaDoor.QI
theorem al_a : item_Encode.f 60 1 4 ⟨#[]⟩ ⟨#[47, 120]⟩ = some ([68, 2, 47, 120], 0) := by decide +kernel
theorem al_b : item_Encode.f 60 0 62 ⟨#[]⟩ ⟨#[]⟩ = some ([190], 0) := by decide +kernel
theorem al_c : item_Encode.f 60 2 1 ⟨#[97]⟩ ⟨#[]⟩ = some ([], 1) := by decide +kernel
theorem al_d : item_Decode.f 60 [16, 1, 97, 1, 98, 9] 9 = some (3, 0, ⟨#[97]⟩, ⟨#[98]⟩, 5, 0) := by decide +kernel
theorem al_e : item_Decode.f 60 [63, 225, 31] 9 = some (4, 4096, ⟨#[]⟩, ⟨#[]⟩, 3, 0) := by decide +kernel
theorem al_f : item_Decode.f 60 [128] 9 = some (0, 0, ⟨#[]⟩, ⟨#[]⟩, 0, 3) := by decide +kernel
theorem al_g : item_Decode.f 60 [0, 1, 97, 2, 98] 9 = some (0, 0, ⟨#[]⟩, ⟨#[]⟩, 0, 2) := by decide +kernel
theorem al_h : gantletref01_Same.f 60 [190] [190] = some true := by decide +kernel
def gantletlaw08_alive.f (k : Nat) : Option Bool := some true
theorem eq44 (w : World) (x0 x1 : Int) (s2 s3 : ByteArray) : (binOp .eql 44 (.agg #[.int .i64 x0, .int .i64 x1, .string s2, .string s3]) (.agg #[.int .i64 x0, .int .i64 x1, .string s2, .string s3])).run Tryd.prog w = .ok (.bool true) w := by
  have h := eqA44 9998 w x0 x0 x1 x1 s2 s2 s3 s3
  simp only [binOp]
  simp [Op.equal, Op.maxDepth, h]
theorem ne44 (w : World) (x0 x1 : Int) (s2 s3 : ByteArray) : (binOp .neq 44 (.agg #[.int .i64 x0, .int .i64 x1, .string s2, .string s3]) (.agg #[.int .i64 x0, .int .i64 x1, .string s2, .string s3])).run Tryd.prog w = .ok (.bool false) w := by
  have h := eqA44 9998 w x0 x0 x1 x1 s2 s2 s3 s3
  simp only [binOp]
  simp [Op.equal, Op.maxDepth, h]
set_option maxHeartbeats 8000000 in
set_option maxRecDepth 100000 in
theorem gantletlaw08_alive.calls (k : Nat) (r : Bool) (w : World) (hG : GB w) (h : gantletlaw08_alive.f k = some r) :
    Calls Tryd.prog 29 #[] w fun e w' => e = .returned (.bool r) ∧ Below w.heap.size w w' := by
  obtain rfl := Option.some.inj h
  have HG := Aside0.mk hG
  have hu44 := Tryd.underlying44
  clear hG h
  go_enter Tryd.func29, Tryd.ntmps29
  go_wp2_with fail
  refine (item_Encode.calls 60 1 4 ⟨#[]⟩ ⟨#[47, 120]⟩ [68, 2, 47, 120] 0 _ HG.out al_a).mono ?_
  rintro e_ w1 ⟨v1, rfl, hR1, hb1⟩
  obtain ⟨A1, c1, rfl⟩ := Kd.R_slice hR1
  have HC1 := Aside0.mk (Kd.R_reads' hR1).2.2
  have HB1 := Aside0.mk hb1
  clear hR1 hb1
  go_wp2_with fail
  refine (item_Encode.calls 60 0 62 ⟨#[]⟩ ⟨#[]⟩ [190] 0 _ (HG.out.below HB1.out) al_b).mono ?_
  rintro e_ w2 ⟨v2, rfl, hR2, hb2⟩
  obtain ⟨A2, c2, rfl⟩ := Kd.R_slice hR2
  have HC2 := Aside0.mk (Kd.R_reads' hR2)
  have HC1 := Aside0.mk (Kd.C_below HC1.out hb2)
  have HB2 := Aside0.mk (below_step HB1.out hb2)
  clear hR2 hb2 HB1
  go_wp2_with fail
  refine (item_Encode.calls 60 2 1 ⟨#[97]⟩ ⟨#[]⟩ [] 1 _ (HG.out.below HB2.out) al_c).mono ?_
  rintro e_ w3 ⟨v3, rfl, hR3, hb3⟩
  have hbx := below_step hb3 (below_alloc (Below.refl w3.heap.size w3) (.cells #[.int .u8 16, .int .u8 1, .int .u8 97, .int .u8 1, .int .u8 98, .int .u8 9] 5))
  have HB3 := Aside0.mk (below_step HB2.out hbx)
  have HK3 : Aside0 (Below w2.heap.size w2 (w3.alloc (.cells #[.int .u8 16, .int .u8 1, .int .u8 97, .int .u8 1, .int .u8 98, .int .u8 9] 5))) := ⟨hbx⟩
  clear hR3 hb3 hbx
  go_wp2_with fail
  refine (item_Decode.calls 60 (some ⟨w3.heap.size, 0, none⟩) 6 [16, 1, 97, 1, 98, 9] 9 3 0 ⟨#[97]⟩ ⟨#[98]⟩ 5 0 _ (HG.out.below HB3.out) (C_intsF [16, 1, 97, 1, 98, 9] (blk_new w3 _) rfl (by decide)) (by decide) al_d).mono ?_
  rintro e_ w4 ⟨rfl, hb4⟩
  have hn4 := blk_new w4 (.cells #[.int .i64 3, .int .i64 0, .string ⟨#[97]⟩, .string ⟨#[98]⟩] 44)
  have hb4a := below_step hb4 (below_alloc (Below.refl w4.heap.size w4) (.cells #[.int .i64 3, .int .i64 0, .string ⟨#[97]⟩, .string ⟨#[98]⟩] 44))
  have hs4 : (w4.alloc (.cells #[.int .i64 3, .int .i64 0, .string ⟨#[97]⟩, .string ⟨#[98]⟩] 44)).heap.size = w4.heap.size + 1 := World.size_alloc _ _
  have hb4b := below_alloc (Below.refl (w4.alloc (.cells #[.int .i64 3, .int .i64 0, .string ⟨#[97]⟩, .string ⟨#[98]⟩] 44)).heap.size (w4.alloc (.cells #[.int .i64 3, .int .i64 0, .string ⟨#[97]⟩, .string ⟨#[98]⟩] 44))) (.cells #[.int .u8 63, .int .u8 225, .int .u8 31] 5)
  have hnz := blk_new (w4.alloc (.cells #[.int .i64 3, .int .i64 0, .string ⟨#[97]⟩, .string ⟨#[98]⟩] 44)) (.cells #[.int .u8 63, .int .u8 225, .int .u8 31] 5)
  rw [hs4] at hnz
  have HN := Aside0.mk hnz
  have HX := Aside0.mk (blk_below hn4 hb4b)
  have HK := Aside0.mk (below_step (below_step HK3.out hb4a) hb4b)
  have HB := Aside0.mk (below_step (below_step HB3.out hb4a) hb4b)
  clear hb4 hn4 hb4a hb4b hs4 hnz HB3 HK3
  obtain ⟨gx, hgx⟩ : ∃ q_, w4.heap.size = q_ := ⟨_, rfl⟩
  rw [hgx] at HN HX
  go_wp2_with fail
  clear hgx
  refine (item_Decode.calls 60 (some ⟨gx + 1, 0, none⟩) 3 [63, 225, 31] 9 4 4096 ⟨#[]⟩ ⟨#[]⟩ 3 0 _ (HG.out.below HB.out) (C_intsF [63, 225, 31] HN.out rfl (by decide)) (by decide) al_e).mono ?_
  rintro e_ w5 ⟨rfl, hb5⟩
  have hn5 := blk_new w5 (.cells #[.int .i64 4, .int .i64 4096, .string ⟨#[]⟩, .string ⟨#[]⟩] 44)
  have hba := below_step hb5 (below_alloc (Below.refl w5.heap.size w5) (.cells #[.int .i64 4, .int .i64 4096, .string ⟨#[]⟩, .string ⟨#[]⟩] 44))
  have hs_ : (w5.alloc (.cells #[.int .i64 4, .int .i64 4096, .string ⟨#[]⟩, .string ⟨#[]⟩] 44)).heap.size = w5.heap.size + 1 := World.size_alloc _ _
  have hbb := below_alloc (Below.refl (w5.alloc (.cells #[.int .i64 4, .int .i64 4096, .string ⟨#[]⟩, .string ⟨#[]⟩] 44)).heap.size (w5.alloc (.cells #[.int .i64 4, .int .i64 4096, .string ⟨#[]⟩, .string ⟨#[]⟩] 44))) (.cells #[.int .u8 128] 5)
  have hnz := blk_new (w5.alloc (.cells #[.int .i64 4, .int .i64 4096, .string ⟨#[]⟩, .string ⟨#[]⟩] 44)) (.cells #[.int .u8 128] 5)
  rw [hs_] at hnz
  have HN_ := Aside0.mk hnz
  have HX_ := Aside0.mk (blk_below HX.out (below_step hba hbb))
  have HY := Aside0.mk (blk_below hn5 hbb)
  have HK_ := Aside0.mk (below_step HK.out (below_step hba hbb))
  have HB_ := Aside0.mk (below_step HB.out (below_step hba hbb))
  clear hb5 hn5 hba hbb hs_ hnz HN HX HK HB
  have HN := HN_; have HX := HX_; have HK := HK_; have HB := HB_
  clear HN_ HX_ HK_ HB_
  obtain ⟨gy, hgy⟩ : ∃ q_, w5.heap.size = q_ := ⟨_, rfl⟩
  rw [hgy] at HN HY
  go_wp2_with fail
  clear hgy
  refine (item_Decode.calls 60 (some ⟨gy + 1, 0, none⟩) 1 [128] 9 0 0 ⟨#[]⟩ ⟨#[]⟩ 0 3 _ (HG.out.below HB.out) (C_intsF [128] HN.out rfl (by decide)) (by decide) al_f).mono ?_
  rintro e_ w6 ⟨rfl, hb6⟩
  have hn6 := blk_new w6 (.cells #[.int .i64 0, .int .i64 0, .string ⟨#[]⟩, .string ⟨#[]⟩] 44)
  have hba := below_step hb6 (below_alloc (Below.refl w6.heap.size w6) (.cells #[.int .i64 0, .int .i64 0, .string ⟨#[]⟩, .string ⟨#[]⟩] 44))
  have hs_ : (w6.alloc (.cells #[.int .i64 0, .int .i64 0, .string ⟨#[]⟩, .string ⟨#[]⟩] 44)).heap.size = w6.heap.size + 1 := World.size_alloc _ _
  have hbb := below_alloc (Below.refl (w6.alloc (.cells #[.int .i64 0, .int .i64 0, .string ⟨#[]⟩, .string ⟨#[]⟩] 44)).heap.size (w6.alloc (.cells #[.int .i64 0, .int .i64 0, .string ⟨#[]⟩, .string ⟨#[]⟩] 44))) (.cells #[.int .u8 0, .int .u8 1, .int .u8 97, .int .u8 2, .int .u8 98] 5)
  have hnz := blk_new (w6.alloc (.cells #[.int .i64 0, .int .i64 0, .string ⟨#[]⟩, .string ⟨#[]⟩] 44)) (.cells #[.int .u8 0, .int .u8 1, .int .u8 97, .int .u8 2, .int .u8 98] 5)
  rw [hs_] at hnz
  have HN_ := Aside0.mk hnz
  have HX_ := Aside0.mk (blk_below HX.out (below_step hba hbb))
  have HY_ := Aside0.mk (blk_below HY.out (below_step hba hbb))
  have HK_ := Aside0.mk (below_step HK.out (below_step hba hbb))
  have HB_ := Aside0.mk (below_step HB.out (below_step hba hbb))
  clear hb6 hn6 hba hbb hs_ hnz HN HX HK HB HY
  have HN := HN_; have HX := HX_; have HK := HK_; have HB := HB_; have HY := HY_
  clear HN_ HX_ HK_ HB_ HY_
  obtain ⟨gz, hgz⟩ : ∃ q_, w6.heap.size = q_ := ⟨_, rfl⟩
  rw [hgz] at HN
  go_wp2_with fail
  clear hgz
  refine (item_Decode.calls 60 (some ⟨gz + 1, 0, none⟩) 5 [0, 1, 97, 2, 98] 9 0 0 ⟨#[]⟩ ⟨#[]⟩ 0 2 _ (HG.out.below HB.out) (C_intsF [0, 1, 97, 2, 98] HN.out rfl (by decide)) (by decide) al_g).mono ?_
  rintro e_ w7 ⟨rfl, hb7⟩
  have hn7 := blk_new w7 (.cells #[.int .i64 0, .int .i64 0, .string ⟨#[]⟩, .string ⟨#[]⟩] 44)
  have hba := below_step hb7 (below_alloc (Below.refl w7.heap.size w7) (.cells #[.int .i64 0, .int .i64 0, .string ⟨#[]⟩, .string ⟨#[]⟩] 44))
  have hs_ : (w7.alloc (.cells #[.int .i64 0, .int .i64 0, .string ⟨#[]⟩, .string ⟨#[]⟩] 44)).heap.size = w7.heap.size + 1 := World.size_alloc _ _
  have hbb := below_alloc (Below.refl (w7.alloc (.cells #[.int .i64 0, .int .i64 0, .string ⟨#[]⟩, .string ⟨#[]⟩] 44)).heap.size (w7.alloc (.cells #[.int .i64 0, .int .i64 0, .string ⟨#[]⟩, .string ⟨#[]⟩] 44))) (.cells #[.int .u8 190] 5)
  have hnz := blk_new (w7.alloc (.cells #[.int .i64 0, .int .i64 0, .string ⟨#[]⟩, .string ⟨#[]⟩] 44)) (.cells #[.int .u8 190] 5)
  rw [hs_] at hnz
  have HN_ := Aside0.mk hnz
  have HX_ := Aside0.mk (blk_below HX.out (below_step hba hbb))
  have HY_ := Aside0.mk (blk_below HY.out (below_step hba hbb))
  have HK_ := Aside0.mk (below_step HK.out (below_step hba hbb))
  have HB_ := Aside0.mk (below_step HB.out (below_step hba hbb))
  have HK7 := Aside0.mk (below_step HK.out hba)
  clear hb7 hn7 hba hbb hs_ hnz HN HX HK HB HY
  have HN := HN_; have HX := HX_; have HK := HK_; have HB := HB_; have HY := HY_
  clear HN_ HX_ HK_ HB_ HY_
  obtain ⟨gw, hgw⟩ : ∃ q_, w7.heap.size = q_ := ⟨_, rfl⟩
  rw [hgw] at HN
  have HC2w := Aside0.mk (Kd.C_below HC2.out.2.2 HK.out)
  obtain ⟨ad, e0, ha0⟩ := Kd.at_int HC1.out (0 : Int) (by decide) (by decide)
  subst e0
  rw [show ((0 : Int)).toNat = 0 from rfl, Addr.add_zero', show rd [68, 2, 47, 120] 0 = 68 from rfl] at ha0
  have ha1 := (HK7.out.cell (World.block_lt_of_cell? w2 _ ha0)).trans ha0
  clear ha0
  go_wp2_with fail
  clear hgw ha1
  refine (gantletref01_Same.calls 60 A2 c2 [190] (some ⟨gw + 1, 0, none⟩) 1 [190] true _ HC2w.out HC2.out.2.1 (C_intsF [190] HN.out rfl (by decide)) (by decide) al_h).mono ?_
  rintro e_ w8 ⟨rfl, ⟨nd, rfl⟩⟩
  have HXd := Aside0.mk (blk_below HX.out (pw_below_drewN (Below.refl _ _) nd))
  have HYd := Aside0.mk (blk_below HY.out (pw_below_drewN (Below.refl _ _) nd))
  have x0_ := (blk_cell HXd.out 0).trans (show _ = some (Value.int .i64 3) from rfl)
  have x1_ := (blk_cell HXd.out 1).trans (show _ = some (Value.int .i64 0) from rfl)
  have x2_ := (blk_cell HXd.out 2).trans (show _ = some (Value.string ⟨#[97]⟩) from rfl)
  have x3_ := (blk_cell HXd.out 3).trans (show _ = some (Value.string ⟨#[98]⟩) from rfl)
  have y0_ := (blk_cell HYd.out 0).trans (show _ = some (Value.int .i64 4) from rfl)
  have y1_ := (blk_cell HYd.out 1).trans (show _ = some (Value.int .i64 4096) from rfl)
  have y2_ := (blk_cell HYd.out 2).trans (show _ = some (Value.string ⟨#[]⟩) from rfl)
  have y3_ := (blk_cell HYd.out 3).trans (show _ = some (Value.string ⟨#[]⟩) from rfl)
  have heq1 := fun W_ => eq44 W_ 3 0 ⟨#[97]⟩ ⟨#[98]⟩
  have heq2 := fun W_ => eq44 W_ 4 4096 ⟨#[]⟩ ⟨#[]⟩
  go_wp2_with fail
  go_ret
  exact ⟨rfl, pw_below_drewN HB.out nd⟩
end Go.Proofs.YtlbjhbanfpnogaaDoor.QJ
