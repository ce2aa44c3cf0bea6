/-
  ITEM: there and back, the walk.
  Conditions: none of its own; lemmas that the claim's row rests on.
-/
import Derived.Test.YtlbjhbanfpnogaaDoorIa
import Derived.WalkKit
namespace Go.Proofs.YtlbjhbanfpnogaaDoor.QJ
open Go.RowKit Go.Proofs.YtlbjhbanfpnogaaDoorW.PrintWords Go.Proofs.YtlbjhbanfpnogaaDoorW.PrintLast Go.Proofs.YtlbjhbanfpnogaaDoorW.PrintMore
attribute [local go_sem] max2_int min2_int max_two min_two max_three min_three max_four min_four
set_option linter.unusedVariables false
set_option linter.unusedSimpArgs false
open Go.Proofs.YtlbjhbanfpnogaaDoor.QH Go.Proofs.YtlbjhbanfpnogaaDoor.QI
/-- What the law's calls answer. -/
structure BackOk (k : Nat) (x0 x1 : Int) (s2 s3 : ByteArray) (l1 : List Int) (cut : Int) : Prop where
  al : gantletlaw08_alive.f k = some true
  ok : s2.size ≤ 300 → s3.size ≤ 300 → l1.length ≤ 300 → ∃ (y0 y1 : Int) (t2 t3 : ByteArray) (yq ye : Int) (c : List Int) (ce : Int), item_Decode.f k l1 300 = some (y0, y1, t2, t3, yq, ye) ∧
    (ye = 0 → ∃ own : List Int, item_Encode.f k y0 y1 t2 t3 = some (own, 0) ∧ item_Decode.f k own 300 = some (y0, y1, t2, t3, (own.length : Int), 0) ∧ item_Right.f k y0 y1 t2 t3 = some true) ∧
    item_Encode.f k x0 x1 s2 s3 = some (c, ce) ∧ item_Right.f k x0 x1 s2 s3 = some (ce == 0) ∧
    (ce = 0 → 0 < c.length ∧ c.length ≤ 100000 ∧ item_Decode.f k (c ++ l1) 300 = some (x0, x1, s2, s3, (c.length : Int), 0) ∧ ∃ (h0 h1 : Int) (h2 h3 : ByteArray) (h4 : Int), item_Decode.f k (c.take (cut % (c.length : Int)).toNat) 300 = some (h0, h1, h2, h3, h4, 2))
def Ret1 (w : World) (e : Ending) (w' : World) : Prop := e = .returned (.bool true) ∧ Below w.heap.size w w'
set_option maxHeartbeats 4000000 in
set_option maxRecDepth 100000 in
theorem back08_alive (k : Nat) (x0 x1 : Int) (s2 s3 : ByteArray) (A1 : Option Addr) (c1 : Nat) (l1 : List Int) (cut : Int) (w : World) (hG : GB w) (hal : gantletlaw08_alive.f k = some true) (h : 300 < s2.size ∨ 300 < s3.size ∨ 300 < l1.length) :
    Calls Tryd.prog 9 #[.agg #[.int .i64 x0, .int .i64 x1, .string s2, .string s3], .slice A1 l1.length c1, .int .u16 cut] w (Ret1 w) := by
  have HB := Aside0.mk (below_alloc (Below.refl w.heap.size w) (.cells #[.int .i64 x0, .int .i64 x1, .string s2, .string s3] 44))
  have HG := Aside0.mk (hG.alloc (.cells #[.int .i64 x0, .int .i64 x1, .string s2, .string s3] 44))
  have HA := Aside0.mk hal
  have hu44 := Tryd.underlying44
  clear hG hal
  by_cases h2 : 300 < s2.size
  · have b2 : decide (300 < s2.size) = true := decide_eq_true h2
    have b2i : decide ((300 : Int) < (s2.size : Int)) = true := decide_eq_true (by omega)
    clear h h2
    go_enter Tryd.func9, Tryd.ntmps9
    go_wp2_with fail
    refine (gantletlaw08_alive.calls k true _ HG.out HA.out).mono ?_
    rintro e_ w1 ⟨rfl, hb⟩
    have HB1 := Aside0.mk (below_step HB.out hb)
    clear hb
    go_wp2_with fail
    go_ret
    exact ⟨rfl, HB1.out⟩
  · have b2 : decide (300 < s2.size) = false := decide_eq_false h2
    have b2i : decide ((300 : Int) < (s2.size : Int)) = false := decide_eq_false (by omega)
    by_cases h3 : 300 < s3.size
    · have b3 : decide (300 < s3.size) = true := decide_eq_true h3
      have b3i : decide ((300 : Int) < (s3.size : Int)) = true := decide_eq_true (by omega)
      clear h h2 h3
      go_enter Tryd.func9, Tryd.ntmps9
      go_wp2_with fail
      refine (gantletlaw08_alive.calls k true _ HG.out HA.out).mono ?_
      rintro e_ w1 ⟨rfl, hb⟩
      have HB1 := Aside0.mk (below_step HB.out hb)
      clear hb
      go_wp2_with fail
      go_ret
      exact ⟨rfl, HB1.out⟩
    · have b3 : decide (300 < s3.size) = false := decide_eq_false h3
      have b3i : decide ((300 : Int) < (s3.size : Int)) = false := decide_eq_false (by omega)
      have b4 : decide (300 < l1.length) = true := decide_eq_true (by omega)
      have b4i : decide ((300 : Int) < (l1.length : Int)) = true := decide_eq_true (by omega)
      clear h h2 h3
      go_enter Tryd.func9, Tryd.ntmps9
      go_wp2_with fail
      refine (gantletlaw08_alive.calls k true _ HG.out HA.out).mono ?_
      rintro e_ w1 ⟨rfl, hb⟩
      have HB1 := Aside0.mk (below_step HB.out hb)
      clear hb
      go_wp2_with fail
      go_ret
      exact ⟨rfl, HB1.out⟩
set_option maxHeartbeats 16000000 in
set_option maxRecDepth 100000 in
theorem back08_ok (k : Nat) (x0 x1 : Int) (s2 s3 : ByteArray) (A1 : Option Addr) (c1 : Nat) (l1 : List Int) (cut : Int) (w : World) (hG : GB w) (hr1 : Kd.C (Kd.int .u8) w A1 l1.length l1) (hc1 : l1.length ≤ c1) (h : BackOk k x0 x1 s2 s3 l1 cut) (h2 : s2.size ≤ 300) (h3 : s3.size ≤ 300) (hl : l1.length ≤ 300) (hcut : 0 ≤ cut ∧ cut ≤ 65535) :
    Calls Tryd.prog 9 #[.agg #[.int .i64 x0, .int .i64 x1, .string s2, .string s3], .slice A1 l1.length c1, .int .u16 cut] w (Ret1 w) := by
  obtain ⟨y0, y1, t2, t3, yq, ye, c, ce, hy, hown, hc, hr, hz⟩ := h.ok h2 h3 hl
  have HAL := Aside0.mk h.al
  have HB := Aside0.mk (below_alloc (Below.refl w.heap.size w) (.cells #[.int .i64 x0, .int .i64 x1, .string s2, .string s3] 44))
  have HX := Aside0.mk (blk_new w (.cells #[.int .i64 x0, .int .i64 x1, .string s2, .string s3] 44))
  have HG := Aside0.mk hG
  have HR := Aside0.mk hr1
  have HC := Aside0.mk hc1
  have HY := Aside0.mk hy
  have HO := Aside0.mk hown
  have HE := Aside0.mk hc
  have HRT := Aside0.mk hr
  have HZ := Aside0.mk hz
  have HL := Aside0.mk hl
  have hcu := hcut
  have b2 : decide (300 < s2.size) = false := decide_eq_false (by omega)
  have b2i : decide ((300 : Int) < (s2.size : Int)) = false := decide_eq_false (by omega)
  have b3 : decide (300 < s3.size) = false := decide_eq_false (by omega)
  have b3i : decide ((300 : Int) < (s3.size : Int)) = false := decide_eq_false (by omega)
  have b4 : decide (300 < l1.length) = false := decide_eq_false (by omega)
  have b4i : decide ((300 : Int) < (l1.length : Int)) = false := decide_eq_false (by omega)
  have hu44 := Tryd.underlying44
  clear h h2 h3 hl hy hown hc hr hz hG hr1 hc1 hcut
  go_enter Tryd.func9, Tryd.ntmps9
  go_wp2_with fail
  clear b2 b2i b3 b3i b4 b4i
  refine (item_Decode.calls k A1 c1 l1 300 y0 y1 t2 t3 yq ye _ (HG.out.below HB.out) (Kd.C_below HR.out HB.out) HC.out HY.out).mono ?_
  rintro e_ w1 ⟨rfl, hb1⟩
  have HB1 := Aside0.mk (below_alloc (below_step HB.out hb1) (.cells #[.int .i64 y0, .int .i64 y1, .string t2, .string t3] 44))
  have HX1 := Aside0.mk (blk_below HX.out (below_step hb1 (below_alloc (Below.refl _ _) (.cells #[.int .i64 y0, .int .i64 y1, .string t2, .string t3] 44))))
  have HY1 := Aside0.mk (blk_new w1 (.cells #[.int .i64 y0, .int .i64 y1, .string t2, .string t3] 44))
  obtain ⟨g, hg⟩ : ∃ g, w.heap.size = g := ⟨_, rfl⟩
  rw [hg] at HX1 ⊢
  clear hb1 hg HX HB
  by_cases hye : ye = 0
  · obtain ⟨own, o1, o2, o3⟩ := HO.out hye
    subst hye
    have HO1 := Aside0.mk o1
    have HO2 := Aside0.mk o2
    have HO3 := Aside0.mk o3
    have q0_ : (w1.alloc (.cells #[.int .i64 y0, .int .i64 y1, .string t2, .string t3] 44)).cell? ⟨w1.heap.size, 0, none⟩ = some (.int .i64 y0) := (blk_cell HY1.out 0).trans rfl
    have q1_ : (w1.alloc (.cells #[.int .i64 y0, .int .i64 y1, .string t2, .string t3] 44)).cell? ⟨w1.heap.size, 1, none⟩ = some (.int .i64 y1) := (blk_cell HY1.out 1).trans rfl
    have q2_ : (w1.alloc (.cells #[.int .i64 y0, .int .i64 y1, .string t2, .string t3] 44)).cell? ⟨w1.heap.size, 2, none⟩ = some (.string t2) := (blk_cell HY1.out 2).trans rfl
    have q3_ : (w1.alloc (.cells #[.int .i64 y0, .int .i64 y1, .string t2, .string t3] 44)).cell? ⟨w1.heap.size, 3, none⟩ = some (.string t3) := (blk_cell HY1.out 3).trans rfl
    clear o1 o2 o3
    go_wp2_with fail
    refine (item_Encode.calls k y0 y1 t2 t3 own 0 _ (HG.out.below HB1.out) HO1.out).mono ?_
    rintro e_ w2 ⟨v2, rfl, hR2, hb2⟩
    obtain ⟨A2, c2, rfl⟩ := Kd.R_slice hR2
    have HB2 := Aside0.mk (below_step HB1.out hb2)
    have HX2 := Aside0.mk (blk_below HX1.out hb2)
    have HY2 := Aside0.mk (blk_below HY1.out hb2)
    have HC2 := Aside0.mk (Kd.R_reads' hR2)
    clear hR2 hb2 q0_ q1_ q2_ q3_ HB1 HX1 HY1
    obtain ⟨gy, hgy⟩ : ∃ q_, w1.heap.size = q_ := ⟨_, rfl⟩
    rw [hgy] at HY2 ⊢
    clear hgy
    go_wp2_with fail
    refine (item_Decode.calls k A2 c2 own 300 y0 y1 t2 t3 (own.length : Int) 0 _ (HG.out.below HB2.out) HC2.out.2.2 HC2.out.2.1 HO2.out).mono ?_
    rintro e_ w3 ⟨rfl, hb3⟩
    have hbz := below_step hb3 (below_alloc (Below.refl w3.heap.size w3) (.cells #[.int .i64 y0, .int .i64 y1, .string t2, .string t3] 44))
    have HB3 := Aside0.mk (below_step HB2.out hbz)
    have HX3 := Aside0.mk (blk_below HX2.out hbz)
    have HY3 := Aside0.mk (blk_below HY2.out hbz)
    have HZ3_ := Aside0.mk (blk_new w3 (.cells #[.int .i64 y0, .int .i64 y1, .string t2, .string t3] 44))
    have q0_ : (w3.alloc (.cells #[.int .i64 y0, .int .i64 y1, .string t2, .string t3] 44)).cell? ⟨gy, 0, none⟩ = some (.int .i64 y0) := (blk_cell HY3.out 0).trans rfl
    have q1_ : (w3.alloc (.cells #[.int .i64 y0, .int .i64 y1, .string t2, .string t3] 44)).cell? ⟨gy, 1, none⟩ = some (.int .i64 y1) := (blk_cell HY3.out 1).trans rfl
    have q2_ : (w3.alloc (.cells #[.int .i64 y0, .int .i64 y1, .string t2, .string t3] 44)).cell? ⟨gy, 2, none⟩ = some (.string t2) := (blk_cell HY3.out 2).trans rfl
    have q3_ : (w3.alloc (.cells #[.int .i64 y0, .int .i64 y1, .string t2, .string t3] 44)).cell? ⟨gy, 3, none⟩ = some (.string t3) := (blk_cell HY3.out 3).trans rfl
    clear hb3 hbz HB2 HX2 HY2 HC2
    go_wp2_with fail
    refine (item_Right.calls k y0 y1 t2 t3 true _ HO3.out).mono ?_
    rintro e_ w4 ⟨rfl, hb4⟩
    have HB4 := Aside0.mk (below_step HB3.out hb4)
    have HX4 := Aside0.mk (blk_below HX3.out hb4)
    have r0_ : w4.cell? ⟨gy, 0, none⟩ = some (.int .i64 y0) := (blk_cell (blk_below HY3.out hb4) 0).trans rfl
    have u0_ : w4.cell? ⟨w3.heap.size, 0, none⟩ = some (.int .i64 y0) := (blk_cell (blk_below HZ3_.out hb4) 0).trans rfl
    have r1_ : w4.cell? ⟨gy, 1, none⟩ = some (.int .i64 y1) := (blk_cell (blk_below HY3.out hb4) 1).trans rfl
    have u1_ : w4.cell? ⟨w3.heap.size, 1, none⟩ = some (.int .i64 y1) := (blk_cell (blk_below HZ3_.out hb4) 1).trans rfl
    have r2_ : w4.cell? ⟨gy, 2, none⟩ = some (.string t2) := (blk_cell (blk_below HY3.out hb4) 2).trans rfl
    have u2_ : w4.cell? ⟨w3.heap.size, 2, none⟩ = some (.string t2) := (blk_cell (blk_below HZ3_.out hb4) 2).trans rfl
    have r3_ : w4.cell? ⟨gy, 3, none⟩ = some (.string t3) := (blk_cell (blk_below HY3.out hb4) 3).trans rfl
    have u3_ : w4.cell? ⟨w3.heap.size, 3, none⟩ = some (.string t3) := (blk_cell (blk_below HZ3_.out hb4) 3).trans rfl
    have hne := fun W_ => ne44 W_ y0 y1 t2 t3
    clear hb4 q0_ q1_ q2_ q3_ HB3 HX3 HY3 HZ3_
    have p0_ : w4.cell? ⟨g, 0, none⟩ = some (.int .i64 x0) := (blk_cell HX4.out 0).trans rfl
    have p1_ : w4.cell? ⟨g, 1, none⟩ = some (.int .i64 x1) := (blk_cell HX4.out 1).trans rfl
    have p2_ : w4.cell? ⟨g, 2, none⟩ = some (.string s2) := (blk_cell HX4.out 2).trans rfl
    have p3_ : w4.cell? ⟨g, 3, none⟩ = some (.string s3) := (blk_cell HX4.out 3).trans rfl
    go_wp2_with fail
    clear r0_ r1_ r2_ r3_ u0_ u1_ u2_ u3_ hne
    refine (item_Encode.calls k x0 x1 s2 s3 c ce _ (HG.out.below HB4.out) HE.out).mono ?_
    rintro e_ w5 ⟨v5, rfl, hR5, hb5⟩
    have HB5 := Aside0.mk (below_step HB4.out hb5)
    have HX5 := Aside0.mk (blk_below HX4.out hb5)
    obtain ⟨A5, c5, rfl⟩ := Kd.R_slice hR5
    have HC5 := Aside0.mk (Kd.R_reads' hR5).2.2
    have HC5c := Aside0.mk (Kd.R_reads' hR5).2.1
    clear hR5 hb5 p0_ p1_ p2_ p3_
    have p0_ : w5.cell? ⟨g, 0, none⟩ = some (.int .i64 x0) := (blk_cell HX5.out 0).trans rfl
    have p1_ : w5.cell? ⟨g, 1, none⟩ = some (.int .i64 x1) := (blk_cell HX5.out 1).trans rfl
    have p2_ : w5.cell? ⟨g, 2, none⟩ = some (.string s2) := (blk_cell HX5.out 2).trans rfl
    have p3_ : w5.cell? ⟨g, 3, none⟩ = some (.string s3) := (blk_cell HX5.out 3).trans rfl
    by_cases hce : ce = 0
    · have bc_ : (ce == 0) = true := beq_iff_eq.mpr hce
      have bd_ : (ce != 0) = false := bne_eq_false_iff_eq.mpr hce
      have hrt := HRT.out
      rw [bc_] at hrt
      have HRR := Aside0.mk hrt
      obtain ⟨z1, z2, z3, h0, h1, h2, h3, h4, z4⟩ := HZ.out hce
      have HZ3 := Aside0.mk z3
      have HZ4 := Aside0.mk z4
      have HZ2 := Aside0.mk z2
      have bl_ : ((c.length : Int) == 0) = false := beq_eq_false_iff_ne.mpr (by omega)
      have bl2 : (c.length == 0) = false := beq_eq_false_iff_ne.mpr (by omega)
      clear hrt z3 z4 hce
      go_wp2_with fail
      refine (item_Right.calls k x0 x1 s2 s3 true _ HRR.out).mono ?_
      rintro e_ w6 ⟨rfl, hb6⟩
      have HB6 := Aside0.mk (below_step HB5.out hb6)
      have HX6 := Aside0.mk (blk_below HX5.out hb6)
      have HC6 := Aside0.mk (Kd.C_below HC5.out hb6)
      clear hb6 p0_ p1_ p2_ p3_ HB5 HX5 HC5
      go_wp2_with (first | ((with_reducible refine gate_dst (N := 103) rfl ?_); refine Kd.R_lit (Kd.int .u8) (w0 := w6) w6.heap.size 5 ?hg (N := 103) ?hd (xs := ([] : List Int)) (inner := []) (ok := fun _ => True) (okp := fun _ => True) ?hr ?hp (fun _ hk => hk) trivial (Below.refl _ _) (Nat.le_refl _) (by simp) ?_; (case hd => rfl); (case hg => rfl); (case hr => first | (go_simp; done) | (go_simp; rfl)); (case hp => exact Reps.none _ _); intro v7 w7 ho7 hb7 hg7 hn7; clear hg7 hn7; have HR7 := Aside0.mk ho7; have HB7 := Aside0.mk hb7; clear ho7 hb7) | (have t_ := HR7; clear t_; (with_reducible refine gate_dst (N := 105) rfl ?_); at_builtin; refine Kd.R_append_row (Value.int .u8) (0 : Int) (w0 := w6) w6.heap.size rfl (.tmp 103) (.tmp 104) 22 5 (.int .u8 0) 1 rfl Tryd.underlying22 info5 rfl (by decide) v7 [] c A5 c.length c5 (fun _ => True) rfl rfl (fun _ _ => trivial) HR7.out (Kd.C_below HC6.out HB7.out) HB7.out (below_size HB7.out) (by have := HZ2.out; simp only [List.length_nil]; omega) ?_; intro v8 w8 hR8 hb8 _ _; have HR8 := Aside0.mk hR8; have HB8 := Aside0.mk hb8; clear hR8 hb8 HR7 HB7) | (have t_ := HR8; clear t_; (with_reducible refine gate_dst (N := 107) rfl ?_); at_builtin; refine Kd.R_append_row (Value.int .u8) (0 : Int) (w0 := w6) w6.heap.size rfl (.tmp 105) (.tmp 106) 22 5 (.int .u8 0) 1 rfl Tryd.underlying22 info5 rfl (by decide) v8 ([] ++ c) l1 A1 l1.length c1 (fun _ => True) rfl rfl (fun _ _ => trivial) HR8.out (Kd.C_below HR.out (below_step HB6.out (Below.mono HB8.out (Nat.le_refl _)))) HB8.out (below_size HB8.out) (by have := HZ2.out; have := HL.out; simp only [List.nil_append]; omega) ?_; intro v9 w9 hR9 hb9 _ _; have HR9 := Aside0.mk hR9; have HB9 := Aside0.mk hb9; clear hR9 hb9 HR8 HB8))
      obtain ⟨cl, hcl⟩ : ∃ cl, [] ++ c ++ l1 = cl := ⟨_, rfl⟩
      rw [hcl] at HR9
      rw [show c ++ l1 = cl from hcl] at HZ3
      clear hcl
      obtain ⟨A9, c9, rfl⟩ := Kd.R_slice HR9.out
      refine (item_Decode.calls k A9 c9 cl 300 x0 x1 s2 s3 (c.length : Int) 0 _ (HG.out.below (below_step HB6.out HB9.out)) (Kd.R_reads' HR9.out).2.2 (Kd.R_reads' HR9.out).2.1 HZ3.out).mono ?_
      rintro e_ w10 ⟨rfl, hb10⟩
      have hb11 := below_step HB9.out hb10
      have HB10 := Aside0.mk (below_alloc (below_step HB6.out hb11) (.cells #[.int .i64 x0, .int .i64 x1, .string s2, .string s3] 44))
      have HX10 := Aside0.mk (blk_below HX6.out (below_alloc hb11 (.cells #[.int .i64 x0, .int .i64 x1, .string s2, .string s3] 44)))
      have HC10 := Aside0.mk (Kd.C_below HC6.out (below_alloc hb11 (.cells #[.int .i64 x0, .int .i64 x1, .string s2, .string s3] 44)))
      have HZB := Aside0.mk (blk_new w10 (.cells #[.int .i64 x0, .int .i64 x1, .string s2, .string s3] 44))
      clear hb10 hb11 HB9 HR9 HB6 HX6 HC6
      have hm0 : 0 ≤ cut % (c.length : Int) := Int.emod_nonneg _ (by omega)
      have hm1 : cut % (c.length : Int) < (c.length : Int) := Int.emod_lt_of_pos _ (by omega)
      obtain ⟨m, hm⟩ : ∃ m, cut % (c.length : Int) = m := ⟨_, rfl⟩
      rw [hm] at HZ4 hm0 hm1
      obtain ⟨i5, hi5, _, hsz5, _⟩ := info_parts info5
      obtain ⟨hcut, htk, htc⟩ := print_take_of (P := Tryd.prog) (Value.int .u8) (0 : Int) 22 5 .i64 Tryd.underlying22 hi5 hsz5 A5 c5 c m hm0 (by omega) HC5c.out
      have HTK := Aside0.mk (Kd.C_of_reads (h1 := fun _ => rfl) (htk _ (Kd.reads_of_C HC10.out)))
      have HTC := Aside0.mk htc
      clear htk htc hi5 hsz5
      go_wp2_with fail
      rw [show min m.toNat c.length = (c.take m.toNat).length from List.length_take.symm]
      refine (item_Decode.calls k A5 c5 (c.take m.toNat) 300 h0 h1 h2 h3 h4 2 _ (HG.out.below HB10.out) HTK.out HTC.out HZ4.out).mono ?_
      rintro e_ w11 ⟨rfl, hb11⟩
      have hbz := below_step hb11 (below_alloc (Below.refl w11.heap.size w11) (.cells #[.int .i64 h0, .int .i64 h1, .string h2, .string h3] 44))
      have HB11 := Aside0.mk (below_step HB10.out hbz)
      have HX11 := Aside0.mk (blk_below HX10.out hbz)
      have HZ11 := Aside0.mk (blk_below HZB.out hbz)
      clear hb11 hbz hcut HB10 HX10 HZB
      go_wp2_with fail
      refine (gantletlaw08_alive.calls k true _ (HG.out.below HB11.out) HAL.out).mono ?_
      rintro e_ w12 ⟨rfl, hb12⟩
      have HB12 := Aside0.mk (below_step HB11.out hb12)
      have p0_ : w12.cell? ⟨g, 0, none⟩ = some (.int .i64 x0) := (blk_cell (blk_below HX11.out hb12) 0).trans rfl
      have z0_ : w12.cell? ⟨w10.heap.size, 0, none⟩ = some (.int .i64 x0) := (blk_cell (blk_below HZ11.out hb12) 0).trans rfl
      have p1_ : w12.cell? ⟨g, 1, none⟩ = some (.int .i64 x1) := (blk_cell (blk_below HX11.out hb12) 1).trans rfl
      have z1_ : w12.cell? ⟨w10.heap.size, 1, none⟩ = some (.int .i64 x1) := (blk_cell (blk_below HZ11.out hb12) 1).trans rfl
      have p2_ : w12.cell? ⟨g, 2, none⟩ = some (.string s2) := (blk_cell (blk_below HX11.out hb12) 2).trans rfl
      have z2_ : w12.cell? ⟨w10.heap.size, 2, none⟩ = some (.string s2) := (blk_cell (blk_below HZ11.out hb12) 2).trans rfl
      have p3_ : w12.cell? ⟨g, 3, none⟩ = some (.string s3) := (blk_cell (blk_below HX11.out hb12) 3).trans rfl
      have z3_ : w12.cell? ⟨w10.heap.size, 3, none⟩ = some (.string s3) := (blk_cell (blk_below HZ11.out hb12) 3).trans rfl
      have heq := fun W_ => eq44 W_ x0 x1 s2 s3
      clear hb12 HB11 HX11 HZ11
      go_wp2_with fail
      go_ret
      exact ⟨rfl, HB12.out⟩
    · have bc_ : (ce == 0) = false := beq_eq_false_iff_ne.mpr hce
      have bd_ : (ce != 0) = true := bne_iff_ne.mpr hce
      have hrt := HRT.out
      rw [bc_] at hrt
      have HRR := Aside0.mk hrt
      clear hrt hce
      go_wp2_with fail
      refine (item_Right.calls k x0 x1 s2 s3 false _ HRR.out).mono ?_
      rintro e_ w6 ⟨rfl, hb6⟩
      have HB6 := Aside0.mk (below_step HB5.out hb6)
      clear hb6 p0_ p1_ p2_ p3_
      go_wp2_with fail
      refine (gantletlaw08_alive.calls k true _ (HG.out.below HB6.out) HAL.out).mono ?_
      rintro e_ w7 ⟨rfl, hb7⟩
      have HB7 := Aside0.mk (below_step HB6.out hb7)
      clear hb7
      go_wp2_with fail
      go_ret
      exact ⟨rfl, HB7.out⟩
  · have be_ : (ye == 0) = false := beq_eq_false_iff_ne.mpr hye
    clear hye
    have p0_ : (w1.alloc (.cells #[.int .i64 y0, .int .i64 y1, .string t2, .string t3] 44)).cell? ⟨g, 0, none⟩ = some (.int .i64 x0) := (blk_cell HX1.out 0).trans rfl
    have p1_ : (w1.alloc (.cells #[.int .i64 y0, .int .i64 y1, .string t2, .string t3] 44)).cell? ⟨g, 1, none⟩ = some (.int .i64 x1) := (blk_cell HX1.out 1).trans rfl
    have p2_ : (w1.alloc (.cells #[.int .i64 y0, .int .i64 y1, .string t2, .string t3] 44)).cell? ⟨g, 2, none⟩ = some (.string s2) := (blk_cell HX1.out 2).trans rfl
    have p3_ : (w1.alloc (.cells #[.int .i64 y0, .int .i64 y1, .string t2, .string t3] 44)).cell? ⟨g, 3, none⟩ = some (.string s3) := (blk_cell HX1.out 3).trans rfl
    go_wp2_with fail
    refine (item_Encode.calls k x0 x1 s2 s3 c ce _ (HG.out.below HB1.out) HE.out).mono ?_
    rintro e_ w5 ⟨v5, rfl, hR5, hb5⟩
    have HB5 := Aside0.mk (below_step HB1.out hb5)
    have HX5 := Aside0.mk (blk_below HX1.out hb5)
    obtain ⟨A5, c5, rfl⟩ := Kd.R_slice hR5
    have HC5 := Aside0.mk (Kd.R_reads' hR5).2.2
    have HC5c := Aside0.mk (Kd.R_reads' hR5).2.1
    clear hR5 hb5 p0_ p1_ p2_ p3_
    have p0_ : w5.cell? ⟨g, 0, none⟩ = some (.int .i64 x0) := (blk_cell HX5.out 0).trans rfl
    have p1_ : w5.cell? ⟨g, 1, none⟩ = some (.int .i64 x1) := (blk_cell HX5.out 1).trans rfl
    have p2_ : w5.cell? ⟨g, 2, none⟩ = some (.string s2) := (blk_cell HX5.out 2).trans rfl
    have p3_ : w5.cell? ⟨g, 3, none⟩ = some (.string s3) := (blk_cell HX5.out 3).trans rfl
    by_cases hce : ce = 0
    · have bc_ : (ce == 0) = true := beq_iff_eq.mpr hce
      have bd_ : (ce != 0) = false := bne_eq_false_iff_eq.mpr hce
      have hrt := HRT.out
      rw [bc_] at hrt
      have HRR := Aside0.mk hrt
      obtain ⟨z1, z2, z3, h0, h1, h2, h3, h4, z4⟩ := HZ.out hce
      have HZ3 := Aside0.mk z3
      have HZ4 := Aside0.mk z4
      have HZ2 := Aside0.mk z2
      have bl_ : ((c.length : Int) == 0) = false := beq_eq_false_iff_ne.mpr (by omega)
      have bl2 : (c.length == 0) = false := beq_eq_false_iff_ne.mpr (by omega)
      clear hrt z3 z4 hce
      go_wp2_with fail
      refine (item_Right.calls k x0 x1 s2 s3 true _ HRR.out).mono ?_
      rintro e_ w6 ⟨rfl, hb6⟩
      have HB6 := Aside0.mk (below_step HB5.out hb6)
      have HX6 := Aside0.mk (blk_below HX5.out hb6)
      have HC6 := Aside0.mk (Kd.C_below HC5.out hb6)
      clear hb6 p0_ p1_ p2_ p3_ HB5 HX5 HC5
      go_wp2_with (first | ((with_reducible refine gate_dst (N := 103) rfl ?_); refine Kd.R_lit (Kd.int .u8) (w0 := w6) w6.heap.size 5 ?hg (N := 103) ?hd (xs := ([] : List Int)) (inner := []) (ok := fun _ => True) (okp := fun _ => True) ?hr ?hp (fun _ hk => hk) trivial (Below.refl _ _) (Nat.le_refl _) (by simp) ?_; (case hd => rfl); (case hg => rfl); (case hr => first | (go_simp; done) | (go_simp; rfl)); (case hp => exact Reps.none _ _); intro v7 w7 ho7 hb7 hg7 hn7; clear hg7 hn7; have HR7 := Aside0.mk ho7; have HB7 := Aside0.mk hb7; clear ho7 hb7) | (have t_ := HR7; clear t_; (with_reducible refine gate_dst (N := 105) rfl ?_); at_builtin; refine Kd.R_append_row (Value.int .u8) (0 : Int) (w0 := w6) w6.heap.size rfl (.tmp 103) (.tmp 104) 22 5 (.int .u8 0) 1 rfl Tryd.underlying22 info5 rfl (by decide) v7 [] c A5 c.length c5 (fun _ => True) rfl rfl (fun _ _ => trivial) HR7.out (Kd.C_below HC6.out HB7.out) HB7.out (below_size HB7.out) (by have := HZ2.out; simp only [List.length_nil]; omega) ?_; intro v8 w8 hR8 hb8 _ _; have HR8 := Aside0.mk hR8; have HB8 := Aside0.mk hb8; clear hR8 hb8 HR7 HB7) | (have t_ := HR8; clear t_; (with_reducible refine gate_dst (N := 107) rfl ?_); at_builtin; refine Kd.R_append_row (Value.int .u8) (0 : Int) (w0 := w6) w6.heap.size rfl (.tmp 105) (.tmp 106) 22 5 (.int .u8 0) 1 rfl Tryd.underlying22 info5 rfl (by decide) v8 ([] ++ c) l1 A1 l1.length c1 (fun _ => True) rfl rfl (fun _ _ => trivial) HR8.out (Kd.C_below HR.out (below_step HB6.out (Below.mono HB8.out (Nat.le_refl _)))) HB8.out (below_size HB8.out) (by have := HZ2.out; have := HL.out; simp only [List.nil_append]; omega) ?_; intro v9 w9 hR9 hb9 _ _; have HR9 := Aside0.mk hR9; have HB9 := Aside0.mk hb9; clear hR9 hb9 HR8 HB8))
      obtain ⟨cl, hcl⟩ : ∃ cl, [] ++ c ++ l1 = cl := ⟨_, rfl⟩
      rw [hcl] at HR9
      rw [show c ++ l1 = cl from hcl] at HZ3
      clear hcl
      obtain ⟨A9, c9, rfl⟩ := Kd.R_slice HR9.out
      refine (item_Decode.calls k A9 c9 cl 300 x0 x1 s2 s3 (c.length : Int) 0 _ (HG.out.below (below_step HB6.out HB9.out)) (Kd.R_reads' HR9.out).2.2 (Kd.R_reads' HR9.out).2.1 HZ3.out).mono ?_
      rintro e_ w10 ⟨rfl, hb10⟩
      have hb11 := below_step HB9.out hb10
      have HB10 := Aside0.mk (below_alloc (below_step HB6.out hb11) (.cells #[.int .i64 x0, .int .i64 x1, .string s2, .string s3] 44))
      have HX10 := Aside0.mk (blk_below HX6.out (below_alloc hb11 (.cells #[.int .i64 x0, .int .i64 x1, .string s2, .string s3] 44)))
      have HC10 := Aside0.mk (Kd.C_below HC6.out (below_alloc hb11 (.cells #[.int .i64 x0, .int .i64 x1, .string s2, .string s3] 44)))
      have HZB := Aside0.mk (blk_new w10 (.cells #[.int .i64 x0, .int .i64 x1, .string s2, .string s3] 44))
      clear hb10 hb11 HB9 HR9 HB6 HX6 HC6
      have hm0 : 0 ≤ cut % (c.length : Int) := Int.emod_nonneg _ (by omega)
      have hm1 : cut % (c.length : Int) < (c.length : Int) := Int.emod_lt_of_pos _ (by omega)
      obtain ⟨m, hm⟩ : ∃ m, cut % (c.length : Int) = m := ⟨_, rfl⟩
      rw [hm] at HZ4 hm0 hm1
      obtain ⟨i5, hi5, _, hsz5, _⟩ := info_parts info5
      obtain ⟨hcut, htk, htc⟩ := print_take_of (P := Tryd.prog) (Value.int .u8) (0 : Int) 22 5 .i64 Tryd.underlying22 hi5 hsz5 A5 c5 c m hm0 (by omega) HC5c.out
      have HTK := Aside0.mk (Kd.C_of_reads (h1 := fun _ => rfl) (htk _ (Kd.reads_of_C HC10.out)))
      have HTC := Aside0.mk htc
      clear htk htc hi5 hsz5
      go_wp2_with fail
      rw [show min m.toNat c.length = (c.take m.toNat).length from List.length_take.symm]
      refine (item_Decode.calls k A5 c5 (c.take m.toNat) 300 h0 h1 h2 h3 h4 2 _ (HG.out.below HB10.out) HTK.out HTC.out HZ4.out).mono ?_
      rintro e_ w11 ⟨rfl, hb11⟩
      have hbz := below_step hb11 (below_alloc (Below.refl w11.heap.size w11) (.cells #[.int .i64 h0, .int .i64 h1, .string h2, .string h3] 44))
      have HB11 := Aside0.mk (below_step HB10.out hbz)
      have HX11 := Aside0.mk (blk_below HX10.out hbz)
      have HZ11 := Aside0.mk (blk_below HZB.out hbz)
      clear hb11 hbz hcut HB10 HX10 HZB
      go_wp2_with fail
      refine (gantletlaw08_alive.calls k true _ (HG.out.below HB11.out) HAL.out).mono ?_
      rintro e_ w12 ⟨rfl, hb12⟩
      have HB12 := Aside0.mk (below_step HB11.out hb12)
      have p0_ : w12.cell? ⟨g, 0, none⟩ = some (.int .i64 x0) := (blk_cell (blk_below HX11.out hb12) 0).trans rfl
      have z0_ : w12.cell? ⟨w10.heap.size, 0, none⟩ = some (.int .i64 x0) := (blk_cell (blk_below HZ11.out hb12) 0).trans rfl
      have p1_ : w12.cell? ⟨g, 1, none⟩ = some (.int .i64 x1) := (blk_cell (blk_below HX11.out hb12) 1).trans rfl
      have z1_ : w12.cell? ⟨w10.heap.size, 1, none⟩ = some (.int .i64 x1) := (blk_cell (blk_below HZ11.out hb12) 1).trans rfl
      have p2_ : w12.cell? ⟨g, 2, none⟩ = some (.string s2) := (blk_cell (blk_below HX11.out hb12) 2).trans rfl
      have z2_ : w12.cell? ⟨w10.heap.size, 2, none⟩ = some (.string s2) := (blk_cell (blk_below HZ11.out hb12) 2).trans rfl
      have p3_ : w12.cell? ⟨g, 3, none⟩ = some (.string s3) := (blk_cell (blk_below HX11.out hb12) 3).trans rfl
      have z3_ : w12.cell? ⟨w10.heap.size, 3, none⟩ = some (.string s3) := (blk_cell (blk_below HZ11.out hb12) 3).trans rfl
      have heq := fun W_ => eq44 W_ x0 x1 s2 s3
      clear hb12 HB11 HX11 HZ11
      go_wp2_with fail
      go_ret
      exact ⟨rfl, HB12.out⟩
    · have bc_ : (ce == 0) = false := beq_eq_false_iff_ne.mpr hce
      have bd_ : (ce != 0) = true := bne_iff_ne.mpr hce
      have hrt := HRT.out
      rw [bc_] at hrt
      have HRR := Aside0.mk hrt
      clear hrt hce
      go_wp2_with fail
      refine (item_Right.calls k x0 x1 s2 s3 false _ HRR.out).mono ?_
      rintro e_ w6 ⟨rfl, hb6⟩
      have HB6 := Aside0.mk (below_step HB5.out hb6)
      clear hb6 p0_ p1_ p2_ p3_
      go_wp2_with fail
      refine (gantletlaw08_alive.calls k true _ (HG.out.below HB6.out) HAL.out).mono ?_
      rintro e_ w7 ⟨rfl, hb7⟩
      have HB7 := Aside0.mk (below_step HB6.out hb7)
      clear hb7
      go_wp2_with fail
      go_ret
      exact ⟨rfl, HB7.out⟩
noncomputable def gantletlaw08_ItemBack.f (k : Nat) (x0 x1 : Int) (s2 s3 : ByteArray) (l1 : List Int) (cut : Int) : Option Bool := @ite _ (BackOk k x0 x1 s2 s3 l1 cut ∧ 0 ≤ cut ∧ cut ≤ 65535) (Classical.propDecidable _) (some true) none
theorem gantletlaw08_ItemBack.calls (k : Nat) (a0_0 a0_1 : Int) (a0_2 a0_3 : ByteArray) (A1 : Option Addr) (c1 : Nat) (l1 : List Int) (a2 : Int) (r : Bool) (w : World) (hG : GB w) (hr1 : Kd.C (Kd.int .u8) w A1 l1.length l1) (hc1 : l1.length ≤ c1) (h : gantletlaw08_ItemBack.f k a0_0 a0_1 a0_2 a0_3 l1 a2 = some r) :
    Calls Tryd.prog 9 #[.agg #[.int .i64 a0_0, .int .i64 a0_1, .string a0_2, .string a0_3], .slice A1 l1.length c1, .int .u16 a2] w fun e w' => e = .returned (.bool r) ∧ Below w.heap.size w w' := by
  unfold gantletlaw08_ItemBack.f at h
  by_cases hb : BackOk k a0_0 a0_1 a0_2 a0_3 l1 a2 ∧ 0 ≤ a2 ∧ a2 ≤ 65535
  · rw [if_pos hb] at h
    obtain rfl := Option.some.inj h
    by_cases hs : a0_2.size ≤ 300 ∧ a0_3.size ≤ 300 ∧ l1.length ≤ 300
    · exact (back08_ok k a0_0 a0_1 a0_2 a0_3 A1 c1 l1 a2 w hG hr1 hc1 hb.1 hs.1 hs.2.1 hs.2.2 hb.2).mono fun _ _ h => h
    · exact (back08_alive k a0_0 a0_1 a0_2 a0_3 A1 c1 l1 a2 w hG hb.1.al (by omega)).mono fun _ _ h => h
  · rw [if_neg hb] at h; cases h
end Go.Proofs.YtlbjhbanfpnogaaDoor.QJ
