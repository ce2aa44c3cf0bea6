/-
  ITEM: the walk of ItemTells.
  Conditions: none of its own; lemmas that the claim's row rests on.
-/
import Derived.Test.YtlbjhbanfpnogaaDoorIa
import Derived.Test.YtlbjhbanfpnogaaDoorQJ2
import Derived.Test.YtlbjhbanfpnogaaDoorQJ5
import Derived.Test.YtlbjhbanfpnogaaDoorQJ6
import Derived.Test.YtlbjhbanfpnogaaDoorQJ7
import Derived.WalkKit
namespace Go.Proofs.YtlbjhbanfpnogaaDoor.QJ
open Go.RowKit Go.Proofs.YtlbjhbanfpnogaaDoorW.PrintWords Go.Proofs.YtlbjhbanfpnogaaDoorW.PrintLast Go.Proofs.YtlbjhbanfpnogaaDoorW.PrintMore
attribute [local go_sem] max2_int min2_int max_two min_two max_three min_three max_four min_four
set_option linter.unusedVariables false
set_option linter.unusedSimpArgs false
open Go.Proofs.YtlbjhbanfpnogaaDoor.QH Go.Proofs.YtlbjhbanfpnogaaDoor.QI
/-- What the law's calls answer. -/
structure TellsOk (k : Nat) (x0 x1 : Int) (s2 s3 : ByteArray) (l1 : List Int) (most : Int) : Prop where
  al : gantletlaw08_alive.f k = some true
  ok : s2.size ≤ 300 → s3.size ≤ 300 → l1.length ≤ 300 → ∃ (y0 y1 : Int) (t2 t3 : ByteArray) (yq ye : Int) (c : List Int) (ce : Int) (b : Bool), item_Decode.f k l1 most = some (y0, y1, t2, t3, yq, ye) ∧ gantletref08_Decode.f k l1 most = some (y0, y1, t2, t3, yq, ye) ∧
    item_Encode.f k x0 x1 s2 s3 = some (c, ce) ∧ gantletref08_Encode.f k x0 x1 s2 s3 = some (c, ce) ∧ gantletref01_Same.f k c c = some true ∧ item_Right.f k x0 x1 s2 s3 = some b ∧ gantletref08_Right.f k x0 x1 s2 s3 = some b
def Ret8 (w : World) (e : Ending) (w' : World) : Prop := e = .returned (.bool true) ∧ Below w.heap.size w w'
theorem eq47 (w : World) (x0 x1 : Int) (s2 s3 : ByteArray) : (binOp .eql 47 (.agg #[.int .i64 x0, .int .i64 x1, .string s2, .string s3]) (.agg #[.int .i64 x0, .int .i64 x1, .string s2, .string s3])).run Tryd.prog w = .ok (.bool true) w := by
  have h := eqA47 9998 w x0 x0 x1 x1 s2 s2 s3 s3
  simp only [binOp]
  simp [Op.equal, Op.maxDepth, h]
set_option maxHeartbeats 4000000 in
set_option maxRecDepth 100000 in
theorem tells08_alive (k : Nat) (x0 x1 : Int) (s2 s3 : ByteArray) (A1 : Option Addr) (c1 : Nat) (l1 : List Int) (most : Int) (w : World) (hG : GB w) (hal : gantletlaw08_alive.f k = some true) (h : 300 < s2.size ∨ 300 < s3.size ∨ 300 < l1.length) :
    Calls Tryd.prog 8 #[.agg #[.int .i64 x0, .int .i64 x1, .string s2, .string s3], .slice A1 l1.length c1, .int .i64 most] w (Ret8 w) := by
  have HB := Aside0.mk (below_alloc (Below.refl w.heap.size w) (.cells #[.int .i64 x0, .int .i64 x1, .string s2, .string s3] 44))
  have HG := Aside0.mk (hG.alloc (.cells #[.int .i64 x0, .int .i64 x1, .string s2, .string s3] 44))
  have HA := Aside0.mk hal
  have hu44 := Tryd.underlying44
  clear hG hal
  by_cases h2 : 300 < s2.size
  · have b2 : decide (300 < s2.size) = true := decide_eq_true h2
    have b2i : decide ((300 : Int) < (s2.size : Int)) = true := decide_eq_true (by omega)
    clear h h2
    go_enter Tryd.func8, Tryd.ntmps8
    go_wp2_with fail
    refine (gantletlaw08_alive.calls k true _ HG.out HA.out).mono ?_
    rintro e_ w1 ⟨rfl, hb⟩
    have HB1 := Aside0.mk (below_step HB.out hb)
    clear hb
    go_wp2_with fail
    go_ret
    exact ⟨rfl, HB1.out⟩
  · have b2 : decide (300 < s2.size) = false := decide_eq_false h2
    have b2i : decide ((300 : Int) < (s2.size : Int)) = false := decide_eq_false (by omega)
    by_cases h3 : 300 < s3.size
    · have b3 : decide (300 < s3.size) = true := decide_eq_true h3
      have b3i : decide ((300 : Int) < (s3.size : Int)) = true := decide_eq_true (by omega)
      clear h h2 h3
      go_enter Tryd.func8, Tryd.ntmps8
      go_wp2_with fail
      refine (gantletlaw08_alive.calls k true _ HG.out HA.out).mono ?_
      rintro e_ w1 ⟨rfl, hb⟩
      have HB1 := Aside0.mk (below_step HB.out hb)
      clear hb
      go_wp2_with fail
      go_ret
      exact ⟨rfl, HB1.out⟩
    · have b3 : decide (300 < s3.size) = false := decide_eq_false h3
      have b3i : decide ((300 : Int) < (s3.size : Int)) = false := decide_eq_false (by omega)
      have b4 : decide (300 < l1.length) = true := decide_eq_true (by omega)
      have b4i : decide ((300 : Int) < (l1.length : Int)) = true := decide_eq_true (by omega)
      clear h h2 h3
      go_enter Tryd.func8, Tryd.ntmps8
      go_wp2_with fail
      refine (gantletlaw08_alive.calls k true _ HG.out HA.out).mono ?_
      rintro e_ w1 ⟨rfl, hb⟩
      have HB1 := Aside0.mk (below_step HB.out hb)
      clear hb
      go_wp2_with fail
      go_ret
      exact ⟨rfl, HB1.out⟩
set_option maxHeartbeats 16000000 in
set_option maxRecDepth 100000 in
theorem tells08_ok (k : Nat) (x0 x1 : Int) (s2 s3 : ByteArray) (A1 : Option Addr) (c1 : Nat) (l1 : List Int) (most : Int) (w : World) (hG : GB w) (hr1 : Kd.C (Kd.int .u8) w A1 l1.length l1) (hc1 : l1.length ≤ c1) (h : TellsOk k x0 x1 s2 s3 l1 most) (h2 : s2.size ≤ 300) (h3 : s3.size ≤ 300) (hl : l1.length ≤ 300) :
    Calls Tryd.prog 8 #[.agg #[.int .i64 x0, .int .i64 x1, .string s2, .string s3], .slice A1 l1.length c1, .int .i64 most] w (Ret8 w) := by
  obtain ⟨y0, y1, t2, t3, yq, ye, c, ce, b, d1, d2, e1, e2, sm, r1, r2⟩ := h.ok h2 h3 hl
  have HAL := Aside0.mk h.al
  have HB := Aside0.mk (below_alloc (Below.refl w.heap.size w) (.cells #[.int .i64 x0, .int .i64 x1, .string s2, .string s3] 44))
  have HX := Aside0.mk (blk_new w (.cells #[.int .i64 x0, .int .i64 x1, .string s2, .string s3] 44))
  have HG := Aside0.mk hG
  have HR := Aside0.mk hr1
  have HC := Aside0.mk hc1
  have D1 := Aside0.mk d1
  have D2 := Aside0.mk d2
  have E1 := Aside0.mk e1
  have E2 := Aside0.mk e2
  have SM := Aside0.mk sm
  have R1 := Aside0.mk r1
  have R2 := Aside0.mk r2
  have b2 : decide (300 < s2.size) = false := decide_eq_false (by omega)
  have b2i : decide ((300 : Int) < (s2.size : Int)) = false := decide_eq_false (by omega)
  have b3 : decide (300 < s3.size) = false := decide_eq_false (by omega)
  have b3i : decide ((300 : Int) < (s3.size : Int)) = false := decide_eq_false (by omega)
  have b4 : decide (300 < l1.length) = false := decide_eq_false (by omega)
  have b4i : decide ((300 : Int) < (l1.length : Int)) = false := decide_eq_false (by omega)
  have hu44 := Tryd.underlying44
  have hu47 := Tryd.underlying47
  clear h h2 h3 hl hG hr1 hc1 d1 d2 e1 e2 sm r1 r2
  go_enter Tryd.func8, Tryd.ntmps8
  go_wp2_with fail
  clear b2 b2i b3 b3i b4 b4i
  refine (item_Encode.calls k x0 x1 s2 s3 c ce _ (HG.out.below HB.out) E1.out).mono ?_
  rintro e_ w1 ⟨v1, rfl, hR1, hb1⟩
  obtain ⟨A5, c5, rfl⟩ := Kd.R_slice hR1
  have HC1 := Aside0.mk (Kd.R_reads' hR1)
  have HB1 := Aside0.mk (below_step HB.out hb1)
  have HX1 := Aside0.mk (blk_below HX.out hb1)
  clear hR1 hb1 HB HX
  obtain ⟨g, hg⟩ : ∃ q_, w.heap.size = q_ := ⟨_, rfl⟩
  rw [hg] at HX1 ⊢
  clear hg
  have p0_ : w1.cell? ⟨g, 0, none⟩ = some (.int .i64 x0) := (blk_cell HX1.out 0).trans rfl
  have p1_ : w1.cell? ⟨g, 1, none⟩ = some (.int .i64 x1) := (blk_cell HX1.out 1).trans rfl
  have p2_ : w1.cell? ⟨g, 2, none⟩ = some (.string s2) := (blk_cell HX1.out 2).trans rfl
  have p3_ : w1.cell? ⟨g, 3, none⟩ = some (.string s3) := (blk_cell HX1.out 3).trans rfl
  go_wp2_with fail
  refine (gantletlaw08_of.calls x0 x1 s2 s3 x0 x1 s2 s3 _ rfl).mono ?_
  rintro e_ w2 ⟨rfl, hb2⟩
  have HB2 := Aside0.mk (below_step HB1.out hb2)
  have HX2 := Aside0.mk (blk_below HX1.out hb2)
  have HC2 := Aside0.mk (Kd.C_below HC1.out.2.2 hb2)
  clear hb2 p0_ p1_ p2_ p3_ HB1 HX1
  go_wp2_with fail
  refine (gantletref08_Encode.calls k x0 x1 s2 s3 c ce _ E2.out).mono ?_
  rintro e_ w3 ⟨v3, rfl, hR3, hb3⟩
  obtain ⟨A6, c6, rfl⟩ := Kd.R_slice hR3
  have HD3 := Aside0.mk (Kd.R_reads' hR3)
  have HB3 := Aside0.mk (below_step HB2.out hb3)
  have HX3 := Aside0.mk (blk_below HX2.out hb3)
  have HC3 := Aside0.mk (Kd.C_below HC2.out hb3)
  clear hR3 hb3 HB2 HX2 HC2
  go_wp2_with fail
  refine (gantletref01_Same.calls k A5 c5 c A6 c6 c true _ HC3.out HC1.out.2.1 HD3.out.2.2 HD3.out.2.1 SM.out).mono ?_
  rintro e_ w4 ⟨rfl, ⟨nd, rfl⟩⟩
  have HB4 := Aside0.mk (pw_below_drewN HB3.out nd)
  have HX4 := Aside0.mk (blk_below HX3.out (pw_below_drewN (Below.refl _ _) nd))
  clear HB3 HX3 HC3 HD3 HC1
  go_wp2_with fail
  refine (item_Decode.calls k A1 c1 l1 most y0 y1 t2 t3 yq ye _ (HG.out.below HB4.out) (Kd.C_below HR.out HB4.out) HC.out D1.out).mono ?_
  rintro e_ w5 ⟨rfl, hb5⟩
  have hb5a := below_step hb5 (below_alloc (Below.refl w5.heap.size w5) (.cells #[.int .i64 y0, .int .i64 y1, .string t2, .string t3] 44))
  have HB5 := Aside0.mk (below_step HB4.out hb5a)
  have HX5 := Aside0.mk (blk_below HX4.out hb5a)
  have HY5 := Aside0.mk (blk_new w5 (.cells #[.int .i64 y0, .int .i64 y1, .string t2, .string t3] 44))
  clear hb5 hb5a HB4 HX4
  go_wp2_with fail
  refine (gantletref08_Decode.calls k A1 c1 l1 most y0 y1 t2 t3 yq ye _ (Kd.C_below HR.out HB5.out) HC.out D2.out).mono ?_
  rintro e_ w6 ⟨rfl, hb6⟩
  have hb6a := below_step hb6 (below_alloc (Below.refl w6.heap.size w6) (.cells #[.int .i64 y0, .int .i64 y1, .string t2, .string t3] 47))
  have HB6 := Aside0.mk (below_step HB5.out hb6a)
  have HX6 := Aside0.mk (blk_below HX5.out hb6a)
  have HY6 := Aside0.mk (blk_below HY5.out hb6a)
  have HZ6 := Aside0.mk (blk_new w6 (.cells #[.int .i64 y0, .int .i64 y1, .string t2, .string t3] 47))
  clear hb6 hb6a HB5 HX5 HY5
  obtain ⟨gy, hgy⟩ : ∃ q_, w5.heap.size = q_ := ⟨_, rfl⟩
  rw [hgy] at HY6 ⊢
  clear hgy
  go_wp2_with fail
  obtain ⟨gz, hgz⟩ : ∃ q_, w6.heap.size = q_ := ⟨_, rfl⟩
  rw [hgz] at HZ6 ⊢
  clear hgz
  obtain ⟨w9, hw9⟩ : ∃ W_ : World, W_ = w6.alloc (.cells #[.int .i64 y0, .int .i64 y1, .string t2, .string t3] 47) := ⟨_, rfl⟩
  rw [← hw9] at HB6 HX6 HY6 HZ6 ⊢
  clear hw9
  have heq := fun W_ => eq47 W_ y0 y1 t2 t3
  have heb : ∀ W_ : World, (binOp .eql 4 (.bool b) (.bool b)).run Tryd.prog W_ = .ok (.bool true) W_ := fun W_ => by cases b <;> go_simp
  refine start_ (n := 34) (S := fun w' => Below w9.heap.size w9 w') (ds := []) #[false, false, false, false, false, false, false, false, false, false, false, false, false, false, false, false, false, false, false, false, false, false, false, false, false, false, false, false, false, false, false, false, false, false] (by kernel_rfl) rfl rfl (below_drew1 (Below.refl _ _)) (fun hHeld => ?_)
  refine one_ (i := 0) (N := some 62) #[true, false, false, false, false, false, false, false, false, false, false, false, false, false, false, false, false, false, false, false, false, false, false, false, false, false, false, false, false, false, false, false, false, false] rfl rfl (by kernel_rfl) (by decide) (fun K_ hK_ => ?_)
  have HH_ := Aside0.mk hHeld
  clear hHeld
  refine goes_ Tryd.func29 (by kernel_rfl) rfl #[] (by rfl) rfl rfl (by (try simp only [List.map_toArray, List.map_cons, List.map_nil]); first | done | rfl | (simp only [List.length_drop, List.length_take]; rfl)) ?_
  refine (gantletlaw08_alive.calls k true _ (HG.out.below (below_step HB6.out HH_.out)) HAL.out).mono ?_
  rintro e_ wa ⟨rfl, hbe_⟩
  refine ⟨_, rfl, ?_⟩
  have hbn_ := below_step HH_.out hbe_
  clear HH_ hbe_
  refine hK_.out _ _ (hbn_) (fun hHeld => ?_)
  clear hK_
  refine norm_ (a' := ?_) ?_ ?_
  rotate_left
  · simp only [Act.put, List.setIfInBounds_toArray, List.set_cons_zero, List.set_cons_succ]
    rfl
  refine pure_ (i := 1) (N := some 63) (v := ?_) (a' := ?_) #[true, true, false, false, false, false, false, false, false, false, false, false, false, false, false, false, false, false, false, false, false, false, false, false, false, false, false, false, false, false, false, false, false, false] rfl rfl (by kernel_rfl) (fun _ _ _ h => h) (Or.inl ⟨by rfl, ?_⟩) ?_ ?_
  rotate_left
  · intro w'
    go_simp
    with_reducible rfl
  rotate_left
  · simp only [Act.put, List.setIfInBounds_toArray, List.set_cons_zero, List.set_cons_succ]
    rfl
  refine take_ (i := 2) (N := some 64) (v := ?_) (a' := ?_) #[true, true, true, false, false, false, false, false, false, false, false, false, false, false, false, false, false, false, false, false, false, false, false, false, false, false, false, false, false, false, false, false, false, false] rfl rfl (by kernel_rfl) (fun _ _ _ h => h) (Or.inl ⟨by rfl, ?_⟩) hHeld ?_ ?_
  rotate_left
  · intro w' hS_
    have p0_ : w'.cell? ⟨g, 0, none⟩ = some (.int .i64 x0) := (blk_cell (blk_below HX6.out hS_) 0).trans rfl
    have p1_ : w'.cell? ⟨g, 1, none⟩ = some (.int .i64 x1) := (blk_cell (blk_below HX6.out hS_) 1).trans rfl
    have p2_ : w'.cell? ⟨g, 2, none⟩ = some (.string s2) := (blk_cell (blk_below HX6.out hS_) 2).trans rfl
    have p3_ : w'.cell? ⟨g, 3, none⟩ = some (.string s3) := (blk_cell (blk_below HX6.out hS_) 3).trans rfl
    go_simp
    with_reducible rfl
  rotate_left
  · simp only [Act.put, List.setIfInBounds_toArray, List.set_cons_zero, List.set_cons_succ]
    rfl
  refine take_ (i := 4) (N := some 66) (v := ?_) (a' := ?_) #[true, true, true, false, true, false, false, false, false, false, false, false, false, false, false, false, false, false, false, false, false, false, false, false, false, false, false, false, false, false, false, false, false, false] rfl rfl (by kernel_rfl) (fun _ _ _ h => h) (Or.inl ⟨by rfl, ?_⟩) hHeld ?_ ?_
  rotate_left
  · intro w' hS_
    have p0_ : w'.cell? ⟨g, 0, none⟩ = some (.int .i64 x0) := (blk_cell (blk_below HX6.out hS_) 0).trans rfl
    have p1_ : w'.cell? ⟨g, 1, none⟩ = some (.int .i64 x1) := (blk_cell (blk_below HX6.out hS_) 1).trans rfl
    have p2_ : w'.cell? ⟨g, 2, none⟩ = some (.string s2) := (blk_cell (blk_below HX6.out hS_) 2).trans rfl
    have p3_ : w'.cell? ⟨g, 3, none⟩ = some (.string s3) := (blk_cell (blk_below HX6.out hS_) 3).trans rfl
    go_simp
    with_reducible rfl
  rotate_left
  · simp only [Act.put, List.setIfInBounds_toArray, List.set_cons_zero, List.set_cons_succ]
    rfl
  refine one_ (i := 3) (N := some 65) #[true, true, true, true, true, false, false, false, false, false, false, false, false, false, false, false, false, false, false, false, false, false, false, false, false, false, false, false, false, false, false, false, false, false] rfl rfl (by kernel_rfl) (by decide) (fun K_ hK_ => ?_)
  have HH_ := Aside0.mk hHeld
  clear hHeld
  refine goes_ Tryd.func35 (by kernel_rfl) rfl #[.agg #[.int .i64 x0, .int .i64 x1, .string s2, .string s3]] (by rfl) rfl rfl (by (try simp only [List.map_toArray, List.map_cons, List.map_nil]); first | done | rfl | (simp only [List.length_drop, List.length_take]; rfl)) ?_
  refine (item_Right.calls k x0 x1 s2 s3 b _ R1.out).mono ?_
  rintro e_ wb ⟨rfl, hbe_⟩
  refine ⟨_, rfl, ?_⟩
  have hbn_ := below_step HH_.out hbe_
  clear HH_ hbe_
  refine hK_.out _ _ (hbn_) (fun hHeld => ?_)
  clear hK_
  refine norm_ (a' := ?_) ?_ ?_
  rotate_left
  · simp only [Act.put, List.setIfInBounds_toArray, List.set_cons_zero, List.set_cons_succ]
    rfl
  refine one_ (i := 5) (N := some 67) #[true, true, true, true, true, true, false, false, false, false, false, false, false, false, false, false, false, false, false, false, false, false, false, false, false, false, false, false, false, false, false, false, false, false] rfl rfl (by kernel_rfl) (by decide) (fun K_ hK_ => ?_)
  have HH_ := Aside0.mk hHeld
  clear hHeld
  refine goes_ Tryd.func32 (by kernel_rfl) rfl #[.agg #[.int .i64 x0, .int .i64 x1, .string s2, .string s3]] (by rfl) rfl rfl (by (try simp only [List.map_toArray, List.map_cons, List.map_nil]); first | done | rfl | (simp only [List.length_drop, List.length_take]; rfl)) ?_
  refine (gantletlaw08_of.calls x0 x1 s2 s3 x0 x1 s2 s3 _ rfl).mono ?_
  rintro e_ wc ⟨rfl, hbe_⟩
  refine ⟨_, rfl, ?_⟩
  have hbn_ := below_step HH_.out hbe_
  clear HH_ hbe_
  refine hK_.out _ _ (hbn_) (fun hHeld => ?_)
  clear hK_
  refine norm_ (a' := ?_) ?_ ?_
  rotate_left
  · simp only [Act.put, List.setIfInBounds_toArray, List.set_cons_zero, List.set_cons_succ]
    rfl
  refine one_ (i := 6) (N := some 68) #[true, true, true, true, true, true, true, false, false, false, false, false, false, false, false, false, false, false, false, false, false, false, false, false, false, false, false, false, false, false, false, false, false, false] rfl rfl (by kernel_rfl) (by decide) (fun K_ hK_ => ?_)
  have HH_ := Aside0.mk hHeld
  clear hHeld
  refine goes_ Tryd.func36 (by kernel_rfl) rfl #[.agg #[.int .i64 x0, .int .i64 x1, .string s2, .string s3]] (by rfl) rfl rfl (by (try simp only [List.map_toArray, List.map_cons, List.map_nil]); first | done | rfl | (simp only [List.length_drop, List.length_take]; rfl)) ?_
  refine (gantletref08_Right.calls k x0 x1 s2 s3 b _ R2.out).mono ?_
  rintro e_ wd ⟨rfl, hbe_⟩
  refine ⟨_, rfl, ?_⟩
  have hbn_ := below_step HH_.out hbe_
  clear HH_ hbe_
  refine hK_.out _ _ (hbn_) (fun hHeld => ?_)
  clear hK_
  refine norm_ (a' := ?_) ?_ ?_
  rotate_left
  · simp only [Act.put, List.setIfInBounds_toArray, List.set_cons_zero, List.set_cons_succ]
    rfl
  refine pure_ (i := 7) (N := some 69) (v := ?_) (a' := ?_) #[true, true, true, true, true, true, true, true, false, false, false, false, false, false, false, false, false, false, false, false, false, false, false, false, false, false, false, false, false, false, false, false, false, false] rfl rfl (by kernel_rfl) (fun _ _ _ h => h) (Or.inl ⟨by rfl, ?_⟩) ?_ ?_
  rotate_left
  · intro w'
    go_simp
    with_reducible rfl
  rotate_left
  · simp only [Act.put, List.setIfInBounds_toArray, List.set_cons_zero, List.set_cons_succ]
    rfl
  refine pure_ (i := 8) (N := some 70) (v := ?_) (a' := ?_) #[true, true, true, true, true, true, true, true, true, false, false, false, false, false, false, false, false, false, false, false, false, false, false, false, false, false, false, false, false, false, false, false, false, false] rfl rfl (by kernel_rfl) (fun _ _ _ h => h) (Or.inl ⟨by rfl, ?_⟩) ?_ ?_
  rotate_left
  · intro w'
    go_simp
    with_reducible rfl
  rotate_left
  · simp only [Act.put, List.setIfInBounds_toArray, List.set_cons_zero, List.set_cons_succ]
    rfl
  refine pure_ (i := 9) (N := some 71) (v := ?_) (a' := ?_) #[true, true, true, true, true, true, true, true, true, true, false, false, false, false, false, false, false, false, false, false, false, false, false, false, false, false, false, false, false, false, false, false, false, false] rfl rfl (by kernel_rfl) (fun _ _ _ h => h) (Or.inl ⟨by rfl, ?_⟩) ?_ ?_
  rotate_left
  · intro w'
    go_simp
    with_reducible rfl
  rotate_left
  · simp only [Act.put, List.setIfInBounds_toArray, List.set_cons_zero, List.set_cons_succ]
    rfl
  refine pure_ (i := 10) (N := some 72) (v := ?_) (a' := ?_) #[true, true, true, true, true, true, true, true, true, true, true, false, false, false, false, false, false, false, false, false, false, false, false, false, false, false, false, false, false, false, false, false, false, false] rfl rfl (by kernel_rfl) (fun _ _ _ h => h) (Or.inl ⟨by rfl, ?_⟩) ?_ ?_
  rotate_left
  · intro w'
    go_simp
    with_reducible rfl
  rotate_left
  · simp only [Act.put, List.setIfInBounds_toArray, List.set_cons_zero, List.set_cons_succ]
    rfl
  refine pure_ (i := 11) (N := some 73) (v := ?_) (a' := ?_) #[true, true, true, true, true, true, true, true, true, true, true, true, false, false, false, false, false, false, false, false, false, false, false, false, false, false, false, false, false, false, false, false, false, false] rfl rfl (by kernel_rfl) (fun _ _ _ h => h) (Or.inl ⟨by rfl, ?_⟩) ?_ ?_
  rotate_left
  · intro w'
    go_simp
    with_reducible rfl
  rotate_left
  · simp only [Act.put, List.setIfInBounds_toArray, List.set_cons_zero, List.set_cons_succ]
    rfl
  refine pure_ (i := 12) (N := some 74) (v := ?_) (a' := ?_) #[true, true, true, true, true, true, true, true, true, true, true, true, true, false, false, false, false, false, false, false, false, false, false, false, false, false, false, false, false, false, false, false, false, false] rfl rfl (by kernel_rfl) (fun _ _ _ h => h) (Or.inl ⟨by rfl, ?_⟩) ?_ ?_
  rotate_left
  · intro w'
    go_simp
    with_reducible rfl
  rotate_left
  · simp only [Act.put, List.setIfInBounds_toArray, List.set_cons_zero, List.set_cons_succ]
    rfl
  refine pure_ (i := 13) (N := some 75) (v := ?_) (a' := ?_) #[true, true, true, true, true, true, true, true, true, true, true, true, true, true, false, false, false, false, false, false, false, false, false, false, false, false, false, false, false, false, false, false, false, false] rfl rfl (by kernel_rfl) (fun _ _ _ h => h) (Or.inl ⟨by rfl, ?_⟩) ?_ ?_
  rotate_left
  · intro w'
    go_simp
    with_reducible rfl
  rotate_left
  · simp only [Act.put, List.setIfInBounds_toArray, List.set_cons_zero, List.set_cons_succ]
    rfl
  refine pure_ (i := 14) (N := some 76) (v := ?_) (a' := ?_) #[true, true, true, true, true, true, true, true, true, true, true, true, true, true, true, false, false, false, false, false, false, false, false, false, false, false, false, false, false, false, false, false, false, false] rfl rfl (by kernel_rfl) (fun _ _ _ h => h) (Or.inl ⟨by rfl, ?_⟩) ?_ ?_
  rotate_left
  · intro w'
    go_simp
    with_reducible rfl
  rotate_left
  · simp only [Act.put, List.setIfInBounds_toArray, List.set_cons_zero, List.set_cons_succ]
    rfl
  refine pure_ (i := 15) (N := some 77) (v := ?_) (a' := ?_) #[true, true, true, true, true, true, true, true, true, true, true, true, true, true, true, true, false, false, false, false, false, false, false, false, false, false, false, false, false, false, false, false, false, false] rfl rfl (by kernel_rfl) (fun _ _ _ h => h) (Or.inl ⟨by rfl, ?_⟩) ?_ ?_
  rotate_left
  · intro w'
    go_simp
    with_reducible rfl
  rotate_left
  · simp only [Act.put, List.setIfInBounds_toArray, List.set_cons_zero, List.set_cons_succ]
    rfl
  refine pure_ (i := 16) (N := some 78) (v := ?_) (a' := ?_) #[true, true, true, true, true, true, true, true, true, true, true, true, true, true, true, true, true, false, false, false, false, false, false, false, false, false, false, false, false, false, false, false, false, false] rfl rfl (by kernel_rfl) (fun _ _ _ h => h) (Or.inl ⟨by rfl, ?_⟩) ?_ ?_
  rotate_left
  · intro w'
    go_simp
    with_reducible rfl
  rotate_left
  · simp only [Act.put, List.setIfInBounds_toArray, List.set_cons_zero, List.set_cons_succ]
    rfl
  refine pure_ (i := 17) (N := some 79) (v := ?_) (a' := ?_) #[true, true, true, true, true, true, true, true, true, true, true, true, true, true, true, true, true, true, false, false, false, false, false, false, false, false, false, false, false, false, false, false, false, false] rfl rfl (by kernel_rfl) (fun _ _ _ h => h) (Or.inl ⟨by rfl, ?_⟩) ?_ ?_
  rotate_left
  · intro w'
    go_simp
    with_reducible rfl
  rotate_left
  · simp only [Act.put, List.setIfInBounds_toArray, List.set_cons_zero, List.set_cons_succ]
    rfl
  refine take_ (i := 18) (N := some 80) (v := ?_) (a' := ?_) #[true, true, true, true, true, true, true, true, true, true, true, true, true, true, true, true, true, true, true, false, false, false, false, false, false, false, false, false, false, false, false, false, false, false] rfl rfl (by kernel_rfl) (fun _ _ _ h => h) (Or.inl ⟨by rfl, ?_⟩) hHeld ?_ ?_
  rotate_left
  · intro w' hS_
    have p0_ : w'.cell? ⟨gy, 0, none⟩ = some (.int .i64 y0) := (blk_cell (blk_below HY6.out hS_) 0).trans rfl
    have p1_ : w'.cell? ⟨gy, 1, none⟩ = some (.int .i64 y1) := (blk_cell (blk_below HY6.out hS_) 1).trans rfl
    have p2_ : w'.cell? ⟨gy, 2, none⟩ = some (.string t2) := (blk_cell (blk_below HY6.out hS_) 2).trans rfl
    have p3_ : w'.cell? ⟨gy, 3, none⟩ = some (.string t3) := (blk_cell (blk_below HY6.out hS_) 3).trans rfl
    go_simp
    with_reducible rfl
  rotate_left
  · simp only [Act.put, List.setIfInBounds_toArray, List.set_cons_zero, List.set_cons_succ]
    rfl
  refine take_ (i := 20) (N := some 82) (v := ?_) (a' := ?_) #[true, true, true, true, true, true, true, true, true, true, true, true, true, true, true, true, true, true, true, false, true, false, false, false, false, false, false, false, false, false, false, false, false, false] rfl rfl (by kernel_rfl) (fun _ _ _ h => h) (Or.inl ⟨by rfl, ?_⟩) hHeld ?_ ?_
  rotate_left
  · intro w' hS_
    have p0_ : w'.cell? ⟨gz, 0, none⟩ = some (.int .i64 y0) := (blk_cell (blk_below HZ6.out hS_) 0).trans rfl
    have p1_ : w'.cell? ⟨gz, 1, none⟩ = some (.int .i64 y1) := (blk_cell (blk_below HZ6.out hS_) 1).trans rfl
    have p2_ : w'.cell? ⟨gz, 2, none⟩ = some (.string t2) := (blk_cell (blk_below HZ6.out hS_) 2).trans rfl
    have p3_ : w'.cell? ⟨gz, 3, none⟩ = some (.string t3) := (blk_cell (blk_below HZ6.out hS_) 3).trans rfl
    go_simp
    with_reducible rfl
  rotate_left
  · simp only [Act.put, List.setIfInBounds_toArray, List.set_cons_zero, List.set_cons_succ]
    rfl
  refine one_ (i := 19) (N := some 81) #[true, true, true, true, true, true, true, true, true, true, true, true, true, true, true, true, true, true, true, true, true, false, false, false, false, false, false, false, false, false, false, false, false, false] rfl rfl (by kernel_rfl) (by decide) (fun K_ hK_ => ?_)
  have HH_ := Aside0.mk hHeld
  clear hHeld
  refine goes_ Tryd.func32 (by kernel_rfl) rfl #[.agg #[.int .i64 y0, .int .i64 y1, .string t2, .string t3]] (by rfl) rfl rfl (by (try simp only [List.map_toArray, List.map_cons, List.map_nil]); first | done | rfl | (simp only [List.length_drop, List.length_take]; rfl)) ?_
  refine (gantletlaw08_of.calls y0 y1 t2 t3 y0 y1 t2 t3 _ rfl).mono ?_
  rintro e_ wf ⟨rfl, hbe_⟩
  refine ⟨_, rfl, ?_⟩
  have hbn_ := below_step HH_.out hbe_
  clear HH_ hbe_
  refine hK_.out _ _ (hbn_) (fun hHeld => ?_)
  clear hK_
  refine norm_ (a' := ?_) ?_ ?_
  rotate_left
  · simp only [Act.put, List.setIfInBounds_toArray, List.set_cons_zero, List.set_cons_succ]
    rfl
  refine pure_ (i := 21) (N := some 83) (v := ?_) (a' := ?_) #[true, true, true, true, true, true, true, true, true, true, true, true, true, true, true, true, true, true, true, true, true, true, false, false, false, false, false, false, false, false, false, false, false, false] rfl rfl (by kernel_rfl) (fun _ _ _ h => h) (Or.inl ⟨by rfl, ?_⟩) ?_ ?_
  rotate_left
  · intro w'
    go_simp
    with_reducible rfl
  rotate_left
  · simp only [Act.put, List.setIfInBounds_toArray, List.set_cons_zero, List.set_cons_succ]
    rfl
  refine pure_ (i := 22) (N := some 84) (v := ?_) (a' := ?_) #[true, true, true, true, true, true, true, true, true, true, true, true, true, true, true, true, true, true, true, true, true, true, true, false, false, false, false, false, false, false, false, false, false, false] rfl rfl (by kernel_rfl) (fun _ _ _ h => h) (Or.inl ⟨by rfl, ?_⟩) ?_ ?_
  rotate_left
  · intro w'
    go_simp
    with_reducible rfl
  rotate_left
  · simp only [Act.put, List.setIfInBounds_toArray, List.set_cons_zero, List.set_cons_succ]
    rfl
  refine pure_ (i := 23) (N := some 85) (v := ?_) (a' := ?_) #[true, true, true, true, true, true, true, true, true, true, true, true, true, true, true, true, true, true, true, true, true, true, true, true, false, false, false, false, false, false, false, false, false, false] rfl rfl (by kernel_rfl) (fun _ _ _ h => h) (Or.inl ⟨by rfl, ?_⟩) ?_ ?_
  rotate_left
  · intro w'
    go_simp
    with_reducible rfl
  rotate_left
  · simp only [Act.put, List.setIfInBounds_toArray, List.set_cons_zero, List.set_cons_succ]
    rfl
  refine pure_ (i := 24) (N := some 86) (v := ?_) (a' := ?_) #[true, true, true, true, true, true, true, true, true, true, true, true, true, true, true, true, true, true, true, true, true, true, true, true, true, false, false, false, false, false, false, false, false, false] rfl rfl (by kernel_rfl) (fun _ _ _ h => h) (Or.inl ⟨by rfl, ?_⟩) ?_ ?_
  rotate_left
  · intro w'
    go_simp
    with_reducible rfl
  rotate_left
  · simp only [Act.put, List.setIfInBounds_toArray, List.set_cons_zero, List.set_cons_succ]
    rfl
  refine pure_ (i := 25) (N := some 87) (v := ?_) (a' := ?_) #[true, true, true, true, true, true, true, true, true, true, true, true, true, true, true, true, true, true, true, true, true, true, true, true, true, true, false, false, false, false, false, false, false, false] rfl rfl (by kernel_rfl) (fun _ _ _ h => h) (Or.inl ⟨by rfl, ?_⟩) ?_ ?_
  rotate_left
  · intro w'
    go_simp
    with_reducible rfl
  rotate_left
  · simp only [Act.put, List.setIfInBounds_toArray, List.set_cons_zero, List.set_cons_succ]
    rfl
  refine pure_ (i := 26) (N := some 88) (v := ?_) (a' := ?_) #[true, true, true, true, true, true, true, true, true, true, true, true, true, true, true, true, true, true, true, true, true, true, true, true, true, true, true, false, false, false, false, false, false, false] rfl rfl (by kernel_rfl) (fun _ _ _ h => h) (Or.inl ⟨by rfl, ?_⟩) ?_ ?_
  rotate_left
  · intro w'
    go_simp
    with_reducible rfl
  rotate_left
  · simp only [Act.put, List.setIfInBounds_toArray, List.set_cons_zero, List.set_cons_succ]
    rfl
  refine pure_ (i := 27) (N := some 89) (v := ?_) (a' := ?_) #[true, true, true, true, true, true, true, true, true, true, true, true, true, true, true, true, true, true, true, true, true, true, true, true, true, true, true, true, false, false, false, false, false, false] rfl rfl (by kernel_rfl) (fun _ _ _ h => h) (Or.inl ⟨by rfl, ?_⟩) ?_ ?_
  rotate_left
  · intro w'
    go_simp
    with_reducible rfl
  rotate_left
  · simp only [Act.put, List.setIfInBounds_toArray, List.set_cons_zero, List.set_cons_succ]
    rfl
  refine pure_ (i := 28) (N := some 90) (v := ?_) (a' := ?_) #[true, true, true, true, true, true, true, true, true, true, true, true, true, true, true, true, true, true, true, true, true, true, true, true, true, true, true, true, true, false, false, false, false, false] rfl rfl (by kernel_rfl) (fun _ _ _ h => h) (Or.inl ⟨by rfl, ?_⟩) ?_ ?_
  rotate_left
  · intro w'
    go_simp
    with_reducible rfl
  rotate_left
  · simp only [Act.put, List.setIfInBounds_toArray, List.set_cons_zero, List.set_cons_succ]
    rfl
  refine pure_ (i := 29) (N := some 91) (v := ?_) (a' := ?_) #[true, true, true, true, true, true, true, true, true, true, true, true, true, true, true, true, true, true, true, true, true, true, true, true, true, true, true, true, true, true, false, false, false, false] rfl rfl (by kernel_rfl) (fun _ _ _ h => h) (Or.inl ⟨by rfl, ?_⟩) ?_ ?_
  rotate_left
  · intro w'
    go_simp
    with_reducible rfl
  rotate_left
  · simp only [Act.put, List.setIfInBounds_toArray, List.set_cons_zero, List.set_cons_succ]
    rfl
  refine pure_ (i := 30) (N := some 92) (v := ?_) (a' := ?_) #[true, true, true, true, true, true, true, true, true, true, true, true, true, true, true, true, true, true, true, true, true, true, true, true, true, true, true, true, true, true, true, false, false, false] rfl rfl (by kernel_rfl) (fun _ _ _ h => h) (Or.inl ⟨by rfl, ?_⟩) ?_ ?_
  rotate_left
  · intro w'
    go_simp
    with_reducible rfl
  rotate_left
  · simp only [Act.put, List.setIfInBounds_toArray, List.set_cons_zero, List.set_cons_succ]
    rfl
  refine pure_ (i := 31) (N := some 93) (v := ?_) (a' := ?_) #[true, true, true, true, true, true, true, true, true, true, true, true, true, true, true, true, true, true, true, true, true, true, true, true, true, true, true, true, true, true, true, true, false, false] rfl rfl (by kernel_rfl) (fun _ _ _ h => h) (Or.inl ⟨by rfl, ?_⟩) ?_ ?_
  rotate_left
  · intro w'
    go_simp
    with_reducible rfl
  rotate_left
  · simp only [Act.put, List.setIfInBounds_toArray, List.set_cons_zero, List.set_cons_succ]
    rfl
  refine pure_ (i := 32) (N := some 94) (v := ?_) (a' := ?_) #[true, true, true, true, true, true, true, true, true, true, true, true, true, true, true, true, true, true, true, true, true, true, true, true, true, true, true, true, true, true, true, true, true, false] rfl rfl (by kernel_rfl) (fun _ _ _ h => h) (Or.inl ⟨by rfl, ?_⟩) ?_ ?_
  rotate_left
  · intro w'
    go_simp
    with_reducible rfl
  rotate_left
  · simp only [Act.put, List.setIfInBounds_toArray, List.set_cons_zero, List.set_cons_succ]
    rfl
  refine pure_ (i := 33) (N := some 6) (v := ?_) (a' := ?_) #[true, true, true, true, true, true, true, true, true, true, true, true, true, true, true, true, true, true, true, true, true, true, true, true, true, true, true, true, true, true, true, true, true, true] rfl rfl (by kernel_rfl) (fun _ _ _ h => h) (Or.inl ⟨by rfl, ?_⟩) ?_ ?_
  rotate_left
  · intro w'
    go_simp
    with_reducible rfl
  rotate_left
  · simp only [Act.put, List.setIfInBounds_toArray, List.set_cons_zero, List.set_cons_succ]
    rfl
  refine done_ (by kernel_rfl) ?_
  have HF := Aside0.mk (below_step HB6.out hHeld)
  clear hHeld
  go_wp2_with fail
  go_ret
  exact ⟨rfl, HF.out⟩
noncomputable def gantletlaw08_ItemTells.f (k : Nat) (x0 x1 : Int) (s2 s3 : ByteArray) (l1 : List Int) (most : Int) : Option Bool := @ite _ (TellsOk k x0 x1 s2 s3 l1 most) (Classical.propDecidable _) (some true) none
theorem gantletlaw08_ItemTells.calls (k : Nat) (a0_0 a0_1 : Int) (a0_2 a0_3 : ByteArray) (A1 : Option Addr) (c1 : Nat) (l1 : List Int) (a2 : Int) (r : Bool) (w : World) (hG : GB w) (hr1 : Kd.C (Kd.int .u8) w A1 l1.length l1) (hc1 : l1.length ≤ c1) (h : gantletlaw08_ItemTells.f k a0_0 a0_1 a0_2 a0_3 l1 a2 = some r) :
    Calls Tryd.prog 8 #[.agg #[.int .i64 a0_0, .int .i64 a0_1, .string a0_2, .string a0_3], .slice A1 l1.length c1, .int .i64 a2] w fun e w' => e = .returned (.bool r) ∧ Below w.heap.size w w' := by
  unfold gantletlaw08_ItemTells.f at h
  by_cases hb : TellsOk k a0_0 a0_1 a0_2 a0_3 l1 a2
  · rw [if_pos hb] at h
    obtain rfl := Option.some.inj h
    by_cases hs : a0_2.size ≤ 300 ∧ a0_3.size ≤ 300 ∧ l1.length ≤ 300
    · exact (tells08_ok k a0_0 a0_1 a0_2 a0_3 A1 c1 l1 a2 w hG hr1 hc1 hb hs.1 hs.2.1 hs.2.2).mono fun _ _ h => h
    · exact (tells08_alive k a0_0 a0_1 a0_2 a0_3 A1 c1 l1 a2 w hG hb.al (by omega)).mono fun _ _ h => h
  · rw [if_neg hb] at h; cases h
end Go.Proofs.YtlbjhbanfpnogaaDoor.QJ
