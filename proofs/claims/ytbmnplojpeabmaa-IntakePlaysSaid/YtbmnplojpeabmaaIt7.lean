/-
  INTAKE: the document's Next.
  Conditions: none of its own; lemmas that the claim's row rests on.
-/
import Derived.Test.YtbmnplojpeabmaaIt6
import Derived.WalkKit
namespace Go.Proofs.Ytbmnplojpeabmaa.It
open Go.RowKit Go.Proofs.YtbmnplojpeabmaaW.PrintWords Go.Proofs.YtbmnplojpeabmaaW.PrintLast Go.Proofs.YtbmnplojpeabmaaW.PrintMore
attribute [local go_sem] max2_int min2_int max_two min_two max_three min_three max_four min_four
set_option linter.unusedVariables false
set_option linter.unusedSimpArgs false
open Go.Proofs.Ytbmnplojpeabmaa.Ob Go.Proofs.Ytbmnplojpeabmaa.QI Go.Proofs.Ytbmnplojpeabmaa.FramePure Go.Proofs.Ytbmnplojpeabmaa.WirePure Go.Proofs.Ytbmnplojpeabmaa.IntakePure
section
variable {w : World} {g t : Nat} {most T O : Int} {v : Value} {B : List Int}
set_option maxHeartbeats 8000000 in
set_option maxRecDepth 100000 in
theorem r13_Next.ok (x0 x1 x2 : Int) (x3 : List Int) (n : Int) (h : IsR w g most v B T 0) (hT : T = (t : Int)) (htb : t ≤ 1000000) (hby : Bytes B) (h24 : 24 ≤ B.length) (hl : B.length ≤ 140737488350000) (ht : IntakePure.Told B most t) (hnx : nx (B.drop (at_ B most t)) most = (x0, x1, x2, x3, n, 0)) : Calls Try.prog 71 #[.pointer (some ⟨g, 0, none⟩)] w fun e w' => ∃ A3 c3, e = .returned (.tuple #[.agg #[.int .i64 x0, .int .i64 x1, .int .i64 x2, .slice A3 (x3 : List Int).length c3], .int .i64 0]) ∧ (x3 : List Int).length ≤ c3 ∧ Kd.F (Kd.int .u8) w' (fun k => w.heap.size ≤ k ∧ k < w'.heap.size) A3 (x3 : List Int).length x3 ∧ IsR w' g most v B ((t : Int) + 1) 0 ∧ Keeps w w' (FootT g v) := by
  have hu67 := Try.underlying67
  subst hT
  obtain ⟨A, c, rfl, hc, hC⟩ := h.reads
  have HB0 := Aside0.mk (below_alloc (Below.refl w.heap.size w) (.cells #[.int .i64 0, .int .i64 0, .int .i64 0, .slice none 0 0] 67))
  have HI0 := Aside0.mk (h.below HB0.out)
  have HZ0 := Aside0.mk (blk_new w (.cells #[.int .i64 0, .int .i64 0, .int .i64 0, .slice none 0 0] 67))
  have hgz : g ≠ w.heap.size := by have := blk_lt h.1; omega
  have hcell : (w.alloc (.cells #[.int .i64 0, .int .i64 0, .int .i64 0, .slice none 0 0] 67)).cell? ⟨g, 3, none⟩ = some (.int .i64 0) := (blk_cell HI0.out.1 3).trans rfl
  have hcell2 : (w.alloc (.cells #[.int .i64 0, .int .i64 0, .int .i64 0, .slice none 0 0] 67)).cell? ⟨g, 1, none⟩ = some (.slice A B.length c) := (blk_cell HI0.out.1 1).trans rfl
  have b24 : decide ((B.length : Int) < 24) = false := decide_eq_false (by omega)
  have HNX : Aside0 (gantletref02_Next.f (B.drop (at_ B most t)) most = some (x0, x1, x2, x3, n, 0)) := ⟨by rw [rnextE _ _ (hby.drop _) (by rw [List.length_drop]; omega), hnx]⟩
  have HL := Aside0.mk hl
  have HH0 := Aside0.mk h
  have HT := Aside0.mk ht
  clear h hC hnx hl ht
  go_enter Try.func71, Try.ntmps71
  go_wp2_with fail
  clear hcell hcell2 b24
  obtain ⟨gz, hgz_⟩ : ∃ q_, w.heap.size = q_ := ⟨_, rfl⟩
  rw [hgz_] at HZ0 hgz ⊢
  have HGZ := Aside0.mk hgz_
  clear hgz_
  obtain ⟨W0, hW0⟩ : ∃ W_ : World, W_ = w.alloc (.cells #[.int .i64 0, .int .i64 0, .int .i64 0, .slice none 0 0] 67) := ⟨_, rfl⟩
  rw [← hW0] at HB0 HI0 HZ0 ⊢
  clear hW0
  refine start_ (n := 15) (S := fun w' => Below W0.heap.size W0 w') (ds := []) #[false, false, false, false, false, false, false, false, false, false, false, false, false, false, false] (by kernel_rfl) rfl rfl (below_drew1 (Below.refl _ _)) (fun hHeld => ?_)
  refine pure_ (i := 0) (N := some 25) (v := ?_) (a' := ?_) #[true, false, false, false, false, false, false, false, false, false, false, false, false, false, false] rfl rfl (by kernel_rfl) (fun _ _ _ h => h) (Or.inl ⟨by rfl, ?_⟩) ?_ ?_
  rotate_left
  · intro w'
    go_simp
    with_reducible rfl
  rotate_left
  · simp only [Act.put, List.setIfInBounds_toArray, List.set_cons_zero, List.set_cons_succ]
    rfl
  refine pure_ (i := 2) (N := some 27) (v := ?_) (a' := ?_) #[true, false, true, false, false, false, false, false, false, false, false, false, false, false, false] rfl rfl (by kernel_rfl) (fun _ _ _ h => h) (Or.inl ⟨by rfl, ?_⟩) ?_ ?_
  rotate_left
  · intro w'
    go_simp
    with_reducible rfl
  rotate_left
  · simp only [Act.put, List.setIfInBounds_toArray, List.set_cons_zero, List.set_cons_succ]
    rfl
  refine pure_ (i := 3) (N := some 28) (v := ?_) (a' := ?_) #[true, false, true, true, false, false, false, false, false, false, false, false, false, false, false] rfl rfl (by kernel_rfl) (fun _ _ _ h => h) (Or.inl ⟨by rfl, ?_⟩) ?_ ?_
  rotate_left
  · intro w'
    go_simp
    with_reducible rfl
  rotate_left
  · simp only [Act.put, List.setIfInBounds_toArray, List.set_cons_zero, List.set_cons_succ]
    rfl
  refine pure_ (i := 4) (N := some 29) (v := ?_) (a' := ?_) #[true, false, true, true, true, false, false, false, false, false, false, false, false, false, false] rfl rfl (by kernel_rfl) (fun _ _ _ h => h) (Or.inl ⟨by rfl, ?_⟩) ?_ ?_
  rotate_left
  · intro w'
    go_simp
    with_reducible rfl
  rotate_left
  · simp only [Act.put, List.setIfInBounds_toArray, List.set_cons_zero, List.set_cons_succ]
    rfl
  refine take_ (i := 5) (N := some 30) (v := ?_) (a' := ?_) #[true, false, true, true, true, true, false, false, false, false, false, false, false, false, false] rfl rfl (by kernel_rfl) (fun _ _ _ h => h) (Or.inl ⟨by rfl, ?_⟩) hHeld ?_ ?_
  rotate_left
  · intro w' hS_
    have q0_ : w'.cell? ⟨g, 0, none⟩ = some (.int .i64 most) := (blk_cell (blk_below HI0.out.1 hS_) 0).trans rfl
    have q1_ : w'.cell? ⟨g, 1, none⟩ = some (.slice A B.length c) := (blk_cell (blk_below HI0.out.1 hS_) 1).trans rfl
    have q2_ : w'.cell? ⟨g, 2, none⟩ = some (.int .i64 (t : Int)) := (blk_cell (blk_below HI0.out.1 hS_) 2).trans rfl
    have q3_ : w'.cell? ⟨g, 3, none⟩ = some (.int .i64 0) := (blk_cell (blk_below HI0.out.1 hS_) 3).trans rfl
    go_simp
    with_reducible rfl
  rotate_left
  · simp only [Act.put, List.setIfInBounds_toArray, List.set_cons_zero, List.set_cons_succ]
    rfl
  refine two_ (i := 1) (j := 11) (Ni := some 26) (Nj := some 4) #[true, true, true, true, true, true, false, false, false, false, false, false, false, false, false] #[true, false, true, true, true, true, false, false, false, false, false, true, false, false, false] rfl rfl rfl rfl (by kernel_rfl) (by decide) (by decide) (fun K_ hK_ => ?_) (fun K_ hK_ => ?_)
  · skip
    have HH_ := Aside0.mk hHeld
    clear hHeld
    refine goes_ Try.func97 (by kernel_rfl) rfl #[.pointer (some ⟨g, 0, none⟩)] (by rfl) rfl rfl (by (try simp only [List.map_toArray, List.map_cons, List.map_nil]); first | done | rfl | (simp only [List.length_drop, List.length_take]; rfl)) ?_
    refine (r13_rest.is (HI0.out.below HH_.out) rfl htb hby h24 HL.out HT.out).mono ?_
    rintro e_ w2 ⟨Aq, cq, rfl, hcq, hQ_, hbe_⟩
    refine ⟨_, rfl, ?_⟩
    have HQ := Aside0.mk hQ_
    clear hQ_
    have hbn_ := below_step HH_.out hbe_
    have HB := Aside0.mk hbn_
    clear HH_ hbe_
    refine hK_.out _ _ (hbn_) (fun hHeld => ?_)
    clear hK_
    refine norm_ (a' := ?_) ?_ ?_
    rotate_left
    · simp only [Act.put, List.setIfInBounds_toArray, List.set_cons_zero, List.set_cons_succ]
      rfl
    refine two_ (i := 6) (j := 11) (Ni := some 31) (Nj := some 4) #[true, true, true, true, true, true, true, false, false, false, false, false, false, false, false] #[true, true, true, true, true, true, false, false, false, false, false, true, false, false, false] rfl rfl rfl rfl (by kernel_rfl) (by decide) (by decide) (fun K_ hK_ => ?_) (fun K_ hK_ => ?_)
    · skip
      have HH_ := Aside0.mk hHeld
      clear hHeld
      refine goes_ Try.func81 (by kernel_rfl) rfl #[.slice Aq (B.drop (at_ B most t)).length cq, .int .i64 most] (by rfl) rfl rfl (by (try simp only [List.map_toArray, List.map_cons, List.map_nil]); first | done | rfl | (simp only [List.length_drop, List.length_take]; rfl)) ?_
      refine (gantletref02_Next.calls Aq cq (B.drop (at_ B most t)) most (x0) (x1) (x2) (x3) (n) (0) _ HQ.out hcq HNX.out).mono ?_
      rintro e_ w3 ⟨v3, rfl, hR_, hbe_⟩
      refine ⟨_, rfl, ?_⟩
      obtain ⟨A3, c3, rfl, hc3, hC3_⟩ := Kd.R_reads hR_
      have HF_ := Aside0.mk (Kd.R_F (Kd.R_mono (ok' := fun k => W0.heap.size ≤ k ∧ k < w3.heap.size) (Kd.R_bound hR_) (fun k hk => ⟨Nat.le_trans (below_size HH_.out) hk.2.1, hk.2.2.1⟩)))
      have hHQ_ := Kd.C_below HQ.out hbe_
      have HQ_ := Aside0.mk hHQ_
      clear HQ hHQ_
      have HQ := HQ_
      clear HQ_
      have HF := HF_
      clear HF_ hR_ hC3_
      have hbn_ := below_step HH_.out hbe_
      have HB := Aside0.mk hbn_
      clear HH_ hbe_
      refine hK_.out _ _ (hbn_) (fun hHeld => ?_)
      clear hK_
      refine norm_ (a' := ?_) ?_ ?_
      rotate_left
      · simp only [Act.put, List.setIfInBounds_toArray, List.set_cons_zero, List.set_cons_succ]
        rfl
      refine pure_ (i := 7) (N := some 24) (v := ?_) (a' := ?_) #[true, true, true, true, true, true, true, true, false, false, false, false, false, false, false] rfl rfl (by kernel_rfl) (fun _ _ _ h => h) (Or.inl ⟨by rfl, ?_⟩) ?_ ?_
      rotate_left
      · intro w'
        go_simp
        with_reducible rfl
      rotate_left
      · simp only [Act.put, List.setIfInBounds_toArray, List.set_cons_zero, List.set_cons_succ]
        rfl
      refine pure_ (i := 8) (N := some 32) (v := ?_) (a' := ?_) #[true, true, true, true, true, true, true, true, true, false, false, false, false, false, false] rfl rfl (by kernel_rfl) (fun _ _ _ h => h) (Or.inl ⟨by rfl, ?_⟩) ?_ ?_
      rotate_left
      · intro w'
        go_simp
        with_reducible rfl
      rotate_left
      · simp only [Act.put, List.setIfInBounds_toArray, List.set_cons_zero, List.set_cons_succ]
        rfl
      refine pure_ (i := 9) (N := some 33) (v := ?_) (a' := ?_) #[true, true, true, true, true, true, true, true, true, true, false, false, false, false, false] rfl rfl (by kernel_rfl) (fun _ _ _ h => h) (Or.inl ⟨by rfl, ?_⟩) ?_ ?_
      rotate_left
      · intro w'
        go_simp
        with_reducible rfl
      rotate_left
      · simp only [Act.put, List.setIfInBounds_toArray, List.set_cons_zero, List.set_cons_succ]
        rfl
      refine pure_ (i := 10) (N := some 34) (v := ?_) (a' := ?_) #[true, true, true, true, true, true, true, true, true, true, true, false, false, false, false] rfl rfl (by kernel_rfl) (fun _ _ _ h => h) (Or.inl ⟨by rfl, ?_⟩) ?_ ?_
      rotate_left
      · intro w'
        go_simp
        with_reducible rfl
      rotate_left
      · simp only [Act.put, List.setIfInBounds_toArray, List.set_cons_zero, List.set_cons_succ]
        rfl
      refine one_ (i := 11) (N := some 4) #[true, true, true, true, true, true, true, true, true, true, true, true, false, false, false] rfl rfl (by kernel_rfl) (by decide) (fun K_ hK_ => ?_)
      refine value_ (w1 := w3.alloc (.cells #[.int .i64 0, .int .i64 0, .int .i64 0, .slice none 0 0] 67)) (by rfl) rfl (by go_simp; rfl) ?_
      have hy_ := blk_new w3 (.cells #[.int .i64 0, .int .i64 0, .int .i64 0, .slice none 0 0] 67)
      have hby_ := below_alloc (Below.refl w3.heap.size w3) (.cells #[.int .i64 0, .int .i64 0, .int .i64 0, .slice none 0 0] 67)
      have hbn_ := below_step hHeld hby_
      have hHQ_ := Kd.C_below HQ.out hby_
      have hHF_ := Kd.F_mono (ok' := fun k => W0.heap.size ≤ k ∧ k ≠ w3.heap.size) (Kd.F_below HF.out hby_) (fun k hk => ⟨hk.1, by have := hk.2; omega⟩)
      obtain ⟨gy, hgy_⟩ : ∃ q_, w3.heap.size = q_ := ⟨_, rfl⟩
      have HYG : Aside0 (W0.heap.size ≤ gy) := ⟨by have := below_size hHeld; omega⟩
      obtain ⟨w4, hw4_⟩ : ∃ W_ : World, W_ = w3.alloc (.cells #[.int .i64 0, .int .i64 0, .int .i64 0, .slice none 0 0] 67) := ⟨_, rfl⟩
      rw [← hw4_] at hy_ hbn_ hHQ_ hHF_ ⊢
      rw [hgy_] at hy_ hHF_ ⊢
      clear hw4_ hgy_ hby_ hHeld
      have HY := Aside0.mk hy_
      clear hy_
      have HB := Aside0.mk hbn_
      clear HQ
      have HQ := Aside0.mk hHQ_
      clear hHQ_
      clear HF
      have HF := Aside0.mk hHF_
      clear hHF_
      skip
      refine hK_.out _ _ (hbn_) (fun hHeld => ?_)
      clear hK_
      refine norm_ (a' := ?_) ?_ ?_
      rotate_left
      · simp only [Act.put, List.setIfInBounds_toArray, List.set_cons_zero, List.set_cons_succ]
        rfl
      refine one_ (i := 12) (N := none) #[true, true, true, true, true, true, true, true, true, true, true, true, true, false, false] rfl rfl (by kernel_rfl) (by decide) (fun K_ hK_ => ?_)
      clear hHeld
      have k0_ : w4.cell? ⟨gy, 0, none⟩ = some (.int .i64 0) := (blk_cell HY.out 0).trans rfl
      have kf0_ := blk_frozen HY.out 0
      have k1_ : w4.cell? ⟨gy, 1, none⟩ = some (.int .i64 0) := (blk_cell HY.out 1).trans rfl
      have kf1_ := blk_frozen HY.out 1
      have k2_ : w4.cell? ⟨gy, 2, none⟩ = some (.int .i64 0) := (blk_cell HY.out 2).trans rfl
      have kf2_ := blk_frozen HY.out 2
      have k3_ : w4.cell? ⟨gy, 3, none⟩ = some (.slice none 0 0) := (blk_cell HY.out 3).trans rfl
      have kf3_ := blk_frozen HY.out 3
      refine skip_ (w1 := ((((w4.setCell ⟨gy, 0, none⟩ (.int .i64 x0)).setCell ⟨gy, 1, none⟩ (.int .i64 x1)).setCell ⟨gy, 2, none⟩ (.int .i64 x2)).setCell ⟨gy, 3, none⟩ (.slice A3 x3.length c3))) (by rfl) rfl (by first | (go_simp; done) | (go_simp; rfl)) ?_
      have hfs_ := four_sets (y0 := .int .i64 x0) (y1 := .int .i64 x1) (y2 := .int .i64 x2) (y3 := .slice A3 x3.length c3) HY.out
      have hbn_ : Below W0.heap.size W0 ((((w4.setCell ⟨gy, 0, none⟩ (.int .i64 x0)).setCell ⟨gy, 1, none⟩ (.int .i64 x1)).setCell ⟨gy, 2, none⟩ (.int .i64 x2)).setCell ⟨gy, 3, none⟩ (.slice A3 x3.length c3)) := hfs_.2.under HB.out (fun k hk => by rw [show k = gy from hk]; exact HYG.out)
      have hx5_ := hfs_.1
      have hf5_ := Kd.F_step HF.out (fun k hk hlt => hfs_.2.block k hlt (fun e => hk.2 e))
      clear k0_ k1_ k2_ k3_ kf0_ kf1_ kf2_ kf3_ hfs_
      obtain ⟨w5, hw5_⟩ : ∃ W_ : World, W_ = ((((w4.setCell ⟨gy, 0, none⟩ (.int .i64 x0)).setCell ⟨gy, 1, none⟩ (.int .i64 x1)).setCell ⟨gy, 2, none⟩ (.int .i64 x2)).setCell ⟨gy, 3, none⟩ (.slice A3 x3.length c3)) := ⟨_, rfl⟩
      rw [← hw5_] at hx5_ hf5_ hbn_ ⊢
      clear hw5_ HY HF HB
      have HX5 := Aside0.mk hx5_
      have HF5 := Aside0.mk hf5_
      clear hx5_ hf5_
      refine hK_.out _ _ (hbn_) (fun hHeld => ?_)
      clear hK_
      refine pure_ (i := 13) (N := some 5) (v := ?_) (a' := ?_) #[true, true, true, true, true, true, true, true, true, true, true, true, true, true, false] rfl rfl (by kernel_rfl) (fun _ _ _ h => h) (Or.inl ⟨by rfl, ?_⟩) ?_ ?_
      rotate_left
      · intro w'
        go_simp
        with_reducible rfl
      rotate_left
      · simp only [Act.put, List.setIfInBounds_toArray, List.set_cons_zero, List.set_cons_succ]
        rfl
      refine pure_ (i := 14) (N := some 6) (v := ?_) (a' := ?_) #[true, true, true, true, true, true, true, true, true, true, true, true, true, true, true] rfl rfl (by kernel_rfl) (fun _ _ _ h => h) (Or.inl ⟨by rfl, ?_⟩) ?_ ?_
      rotate_left
      · intro w'
        go_simp
        with_reducible rfl
      rotate_left
      · simp only [Act.put, List.setIfInBounds_toArray, List.set_cons_zero, List.set_cons_succ]
        rfl
      refine done_ (by kernel_rfl) ?_
      have HB5 := Aside0.mk hHeld
      clear hHeld
      have HI5 := Aside0.mk (HI0.out.below HB5.out)
      have HZ5 := Aside0.mk (blk_below HZ0.out HB5.out)
      have HS5 := Aside0.mk (below_step HB0.out HB5.out)
      have HGY : Aside0 (gy ≠ g ∧ gy ≠ gz) := ⟨by have h1 := blk_lt HH0.out.1; have h2 := below_size HB0.out; have h3 := HYG.out; have h4 := blk_lt HZ0.out; omega⟩
      have q2_ : w5.cell? ⟨g, 2, none⟩ = some (.int .i64 (t : Int)) := (blk_cell HI5.out.1 2).trans rfl
      have f2_ := blk_frozen HI5.out.1 2
      have hwt : wrap64 ((t : Int) + 1) = (t : Int) + 1 := by unfold wrap64; omega
      have HKW := Aside0.mk ((Keeps.of_below HS5.out (FootT g (.slice A B.length c))).set (.inl (.inl rfl)) 2 (.int .i64 ((t : Int) + 1)))
      have HIW := Aside0.mk (HI5.out.set2 ((t : Int) + 1))
      have HFW := Aside0.mk (Kd.F_far (p := ⟨g, 2, none⟩) HF5.out (fun k hk e => by have h1 := blk_lt HH0.out.1; have h2 := below_size HB0.out; have h3 := hk.1; have h4 : k = g := e; omega) (.int .i64 ((t : Int) + 1)))
      have x0_ : (w5.setCell ⟨g, 2, none⟩ (.int .i64 ((t : Int) + 1))).cell? ⟨gy, 0, none⟩ = some (.int .i64 x0) := (blk_cell (blk_far HX5.out (p := ⟨g, 2, none⟩) (fun e => HGY.out.1 e) (.int .i64 ((t : Int) + 1))) 0).trans rfl
      have x1_ : (w5.setCell ⟨g, 2, none⟩ (.int .i64 ((t : Int) + 1))).cell? ⟨gy, 1, none⟩ = some (.int .i64 x1) := (blk_cell (blk_far HX5.out (p := ⟨g, 2, none⟩) (fun e => HGY.out.1 e) (.int .i64 ((t : Int) + 1))) 1).trans rfl
      have x2_ : (w5.setCell ⟨g, 2, none⟩ (.int .i64 ((t : Int) + 1))).cell? ⟨gy, 2, none⟩ = some (.int .i64 x2) := (blk_cell (blk_far HX5.out (p := ⟨g, 2, none⟩) (fun e => HGY.out.1 e) (.int .i64 ((t : Int) + 1))) 2).trans rfl
      have x3_ : (w5.setCell ⟨g, 2, none⟩ (.int .i64 ((t : Int) + 1))).cell? ⟨gy, 3, none⟩ = some (.slice A3 x3.length c3) := (blk_cell (blk_far HX5.out (p := ⟨g, 2, none⟩) (fun e => HGY.out.1 e) (.int .i64 ((t : Int) + 1))) 3).trans rfl
      have z0_ : (w5.setCell ⟨g, 2, none⟩ (.int .i64 ((t : Int) + 1))).cell? ⟨gz, 0, none⟩ = some (.int .i64 0) := (blk_cell (blk_far HZ5.out (p := ⟨g, 2, none⟩) (fun e => hgz e.symm) (.int .i64 ((t : Int) + 1))) 0).trans rfl
      have y0_ := blk_frozen (blk_far HZ5.out (p := ⟨g, 2, none⟩) (fun e => hgz e.symm) (.int .i64 ((t : Int) + 1))) 0
      have z1_ : (w5.setCell ⟨g, 2, none⟩ (.int .i64 ((t : Int) + 1))).cell? ⟨gz, 1, none⟩ = some (.int .i64 0) := (blk_cell (blk_far HZ5.out (p := ⟨g, 2, none⟩) (fun e => hgz e.symm) (.int .i64 ((t : Int) + 1))) 1).trans rfl
      have y1_ := blk_frozen (blk_far HZ5.out (p := ⟨g, 2, none⟩) (fun e => hgz e.symm) (.int .i64 ((t : Int) + 1))) 1
      have z2_ : (w5.setCell ⟨g, 2, none⟩ (.int .i64 ((t : Int) + 1))).cell? ⟨gz, 2, none⟩ = some (.int .i64 0) := (blk_cell (blk_far HZ5.out (p := ⟨g, 2, none⟩) (fun e => hgz e.symm) (.int .i64 ((t : Int) + 1))) 2).trans rfl
      have y2_ := blk_frozen (blk_far HZ5.out (p := ⟨g, 2, none⟩) (fun e => hgz e.symm) (.int .i64 ((t : Int) + 1))) 2
      have z3_ : (w5.setCell ⟨g, 2, none⟩ (.int .i64 ((t : Int) + 1))).cell? ⟨gz, 3, none⟩ = some (.slice none 0 0) := (blk_cell (blk_far HZ5.out (p := ⟨g, 2, none⟩) (fun e => hgz e.symm) (.int .i64 ((t : Int) + 1))) 3).trans rfl
      have y3_ := blk_frozen (blk_far HZ5.out (p := ⟨g, 2, none⟩) (fun e => hgz e.symm) (.int .i64 ((t : Int) + 1))) 3
      have HFS := Aside0.mk (four_sets (y0 := .int .i64 x0) (y1 := .int .i64 x1) (y2 := .int .i64 x2) (y3 := .slice A3 x3.length c3) (blk_far HZ5.out (p := ⟨g, 2, none⟩) (fun e => hgz e.symm) (.int .i64 ((t : Int) + 1))))
      go_wp2_with fail
      refine bodyPost_ret (results_ct rfl _ _ gz 67 _ (0, 0) _ rfl HFS.out.1 Try.underlying67 rfl sz67c) rfl ?_
      refine ⟨A3, c3, rfl, hc3, Kd.F_mono (Kd.F_bound (Kd.F_step HFW.out (fun k hk hlt => HFS.out.2.block k hlt (fun e => by have h1 := blk_lt HZ0.out; have h2 := hk.1; have h3 : k = gz := e; omega)))) (fun k hk => ⟨by have h1 := below_size HB0.out; have h2 := hk.1.1; omega, hk.2⟩), HIW.out.keeps HFS.out.2 (fun k hk e => ?_), HKW.out.then_ HFS.out.2 (fun i hi => .inr (by have h1 : i = gz := hi; have h2 := HGZ.out; omega))⟩
      rcases hk with h1 | h1
      · exact hgz (h1.symm.trans e)
      · have h2 := HH0.out.2.1.lt k h1; have h3 := HGZ.out; have h4 : k = gz := e; omega
    · skip
      refine value_ (w1 := w2.alloc (.cells #[.int .i64 0, .int .i64 0, .int .i64 0, .slice none 0 0] 67)) (by rfl) rfl (by go_simp; rfl) ?_
      have hy_ := blk_new w2 (.cells #[.int .i64 0, .int .i64 0, .int .i64 0, .slice none 0 0] 67)
      have hby_ := below_alloc (Below.refl w2.heap.size w2) (.cells #[.int .i64 0, .int .i64 0, .int .i64 0, .slice none 0 0] 67)
      have hbn_ := below_step hHeld hby_
      have hHQ_ := Kd.C_below HQ.out hby_
      obtain ⟨gy, hgy_⟩ : ∃ q_, w2.heap.size = q_ := ⟨_, rfl⟩
      have HYG : Aside0 (W0.heap.size ≤ gy) := ⟨by have := below_size hHeld; omega⟩
      obtain ⟨w3, hw4_⟩ : ∃ W_ : World, W_ = w2.alloc (.cells #[.int .i64 0, .int .i64 0, .int .i64 0, .slice none 0 0] 67) := ⟨_, rfl⟩
      rw [← hw4_] at hy_ hbn_ hHQ_ ⊢
      rw [hgy_] at hy_ ⊢
      clear hw4_ hgy_ hby_ hHeld
      have HY := Aside0.mk hy_
      clear hy_
      have HB := Aside0.mk hbn_
      clear HQ
      have HQ := Aside0.mk hHQ_
      clear hHQ_
      skip
      refine hK_.out _ _ (hbn_) (fun hHeld => ?_)
      clear hK_
      refine norm_ (a' := ?_) ?_ ?_
      rotate_left
      · simp only [Act.put, List.setIfInBounds_toArray, List.set_cons_zero, List.set_cons_succ]
        rfl
      refine one_ (i := 6) (N := some 31) #[true, true, true, true, true, true, true, false, false, false, false, true, false, false, false] rfl rfl (by kernel_rfl) (by decide) (fun K_ hK_ => ?_)
      have HH_ := Aside0.mk hHeld
      clear hHeld
      refine goes_ Try.func81 (by kernel_rfl) rfl #[.slice Aq (B.drop (at_ B most t)).length cq, .int .i64 most] (by rfl) rfl rfl (by (try simp only [List.map_toArray, List.map_cons, List.map_nil]); first | done | rfl | (simp only [List.length_drop, List.length_take]; rfl)) ?_
      refine (gantletref02_Next.calls Aq cq (B.drop (at_ B most t)) most (x0) (x1) (x2) (x3) (n) (0) _ HQ.out hcq HNX.out).mono ?_
      rintro e_ w4 ⟨v3, rfl, hR_, hbe_⟩
      refine ⟨_, rfl, ?_⟩
      obtain ⟨A3, c3, rfl, hc3, hC3_⟩ := Kd.R_reads hR_
      have HF_ := Aside0.mk (Kd.R_F (Kd.R_mono (ok' := fun k => W0.heap.size ≤ k ∧ k ≠ gy) (Kd.R_bound hR_) (fun k hk => ⟨Nat.le_trans (below_size HH_.out) hk.2.1, fun e => by have := blk_lt HY.out; have := hk.2.1; omega⟩)))
      have hHY_ := blk_below HY.out hbe_
      have HY_ := Aside0.mk hHY_
      clear HY hHY_
      have HY := HY_
      clear HY_
      have hHQ_ := Kd.C_below HQ.out hbe_
      have HQ_ := Aside0.mk hHQ_
      clear HQ hHQ_
      have HQ := HQ_
      clear HQ_
      have HF := HF_
      clear HF_ hR_ hC3_
      have hbn_ := below_step HH_.out hbe_
      have HB := Aside0.mk hbn_
      clear HH_ hbe_
      refine hK_.out _ _ (hbn_) (fun hHeld => ?_)
      clear hK_
      refine norm_ (a' := ?_) ?_ ?_
      rotate_left
      · simp only [Act.put, List.setIfInBounds_toArray, List.set_cons_zero, List.set_cons_succ]
        rfl
      refine pure_ (i := 7) (N := some 24) (v := ?_) (a' := ?_) #[true, true, true, true, true, true, true, true, false, false, false, true, false, false, false] rfl rfl (by kernel_rfl) (fun _ _ _ h => h) (Or.inl ⟨by rfl, ?_⟩) ?_ ?_
      rotate_left
      · intro w'
        go_simp
        with_reducible rfl
      rotate_left
      · simp only [Act.put, List.setIfInBounds_toArray, List.set_cons_zero, List.set_cons_succ]
        rfl
      refine pure_ (i := 8) (N := some 32) (v := ?_) (a' := ?_) #[true, true, true, true, true, true, true, true, true, false, false, true, false, false, false] rfl rfl (by kernel_rfl) (fun _ _ _ h => h) (Or.inl ⟨by rfl, ?_⟩) ?_ ?_
      rotate_left
      · intro w'
        go_simp
        with_reducible rfl
      rotate_left
      · simp only [Act.put, List.setIfInBounds_toArray, List.set_cons_zero, List.set_cons_succ]
        rfl
      refine pure_ (i := 9) (N := some 33) (v := ?_) (a' := ?_) #[true, true, true, true, true, true, true, true, true, true, false, true, false, false, false] rfl rfl (by kernel_rfl) (fun _ _ _ h => h) (Or.inl ⟨by rfl, ?_⟩) ?_ ?_
      rotate_left
      · intro w'
        go_simp
        with_reducible rfl
      rotate_left
      · simp only [Act.put, List.setIfInBounds_toArray, List.set_cons_zero, List.set_cons_succ]
        rfl
      refine pure_ (i := 10) (N := some 34) (v := ?_) (a' := ?_) #[true, true, true, true, true, true, true, true, true, true, true, true, false, false, false] rfl rfl (by kernel_rfl) (fun _ _ _ h => h) (Or.inl ⟨by rfl, ?_⟩) ?_ ?_
      rotate_left
      · intro w'
        go_simp
        with_reducible rfl
      rotate_left
      · simp only [Act.put, List.setIfInBounds_toArray, List.set_cons_zero, List.set_cons_succ]
        rfl
      refine one_ (i := 12) (N := none) #[true, true, true, true, true, true, true, true, true, true, true, true, true, false, false] rfl rfl (by kernel_rfl) (by decide) (fun K_ hK_ => ?_)
      clear hHeld
      have k0_ : w4.cell? ⟨gy, 0, none⟩ = some (.int .i64 0) := (blk_cell HY.out 0).trans rfl
      have kf0_ := blk_frozen HY.out 0
      have k1_ : w4.cell? ⟨gy, 1, none⟩ = some (.int .i64 0) := (blk_cell HY.out 1).trans rfl
      have kf1_ := blk_frozen HY.out 1
      have k2_ : w4.cell? ⟨gy, 2, none⟩ = some (.int .i64 0) := (blk_cell HY.out 2).trans rfl
      have kf2_ := blk_frozen HY.out 2
      have k3_ : w4.cell? ⟨gy, 3, none⟩ = some (.slice none 0 0) := (blk_cell HY.out 3).trans rfl
      have kf3_ := blk_frozen HY.out 3
      refine skip_ (w1 := ((((w4.setCell ⟨gy, 0, none⟩ (.int .i64 x0)).setCell ⟨gy, 1, none⟩ (.int .i64 x1)).setCell ⟨gy, 2, none⟩ (.int .i64 x2)).setCell ⟨gy, 3, none⟩ (.slice A3 x3.length c3))) (by rfl) rfl (by first | (go_simp; done) | (go_simp; rfl)) ?_
      have hfs_ := four_sets (y0 := .int .i64 x0) (y1 := .int .i64 x1) (y2 := .int .i64 x2) (y3 := .slice A3 x3.length c3) HY.out
      have hbn_ : Below W0.heap.size W0 ((((w4.setCell ⟨gy, 0, none⟩ (.int .i64 x0)).setCell ⟨gy, 1, none⟩ (.int .i64 x1)).setCell ⟨gy, 2, none⟩ (.int .i64 x2)).setCell ⟨gy, 3, none⟩ (.slice A3 x3.length c3)) := hfs_.2.under HB.out (fun k hk => by rw [show k = gy from hk]; exact HYG.out)
      have hx5_ := hfs_.1
      have hf5_ := Kd.F_step HF.out (fun k hk hlt => hfs_.2.block k hlt (fun e => hk.2 e))
      clear k0_ k1_ k2_ k3_ kf0_ kf1_ kf2_ kf3_ hfs_
      obtain ⟨w5, hw5_⟩ : ∃ W_ : World, W_ = ((((w4.setCell ⟨gy, 0, none⟩ (.int .i64 x0)).setCell ⟨gy, 1, none⟩ (.int .i64 x1)).setCell ⟨gy, 2, none⟩ (.int .i64 x2)).setCell ⟨gy, 3, none⟩ (.slice A3 x3.length c3)) := ⟨_, rfl⟩
      rw [← hw5_] at hx5_ hf5_ hbn_ ⊢
      clear hw5_ HY HF HB
      have HX5 := Aside0.mk hx5_
      have HF5 := Aside0.mk hf5_
      clear hx5_ hf5_
      refine hK_.out _ _ (hbn_) (fun hHeld => ?_)
      clear hK_
      refine pure_ (i := 13) (N := some 5) (v := ?_) (a' := ?_) #[true, true, true, true, true, true, true, true, true, true, true, true, true, true, false] rfl rfl (by kernel_rfl) (fun _ _ _ h => h) (Or.inl ⟨by rfl, ?_⟩) ?_ ?_
      rotate_left
      · intro w'
        go_simp
        with_reducible rfl
      rotate_left
      · simp only [Act.put, List.setIfInBounds_toArray, List.set_cons_zero, List.set_cons_succ]
        rfl
      refine pure_ (i := 14) (N := some 6) (v := ?_) (a' := ?_) #[true, true, true, true, true, true, true, true, true, true, true, true, true, true, true] rfl rfl (by kernel_rfl) (fun _ _ _ h => h) (Or.inl ⟨by rfl, ?_⟩) ?_ ?_
      rotate_left
      · intro w'
        go_simp
        with_reducible rfl
      rotate_left
      · simp only [Act.put, List.setIfInBounds_toArray, List.set_cons_zero, List.set_cons_succ]
        rfl
      refine done_ (by kernel_rfl) ?_
      have HB5 := Aside0.mk hHeld
      clear hHeld
      have HI5 := Aside0.mk (HI0.out.below HB5.out)
      have HZ5 := Aside0.mk (blk_below HZ0.out HB5.out)
      have HS5 := Aside0.mk (below_step HB0.out HB5.out)
      have HGY : Aside0 (gy ≠ g ∧ gy ≠ gz) := ⟨by have h1 := blk_lt HH0.out.1; have h2 := below_size HB0.out; have h3 := HYG.out; have h4 := blk_lt HZ0.out; omega⟩
      have q2_ : w5.cell? ⟨g, 2, none⟩ = some (.int .i64 (t : Int)) := (blk_cell HI5.out.1 2).trans rfl
      have f2_ := blk_frozen HI5.out.1 2
      have hwt : wrap64 ((t : Int) + 1) = (t : Int) + 1 := by unfold wrap64; omega
      have HKW := Aside0.mk ((Keeps.of_below HS5.out (FootT g (.slice A B.length c))).set (.inl (.inl rfl)) 2 (.int .i64 ((t : Int) + 1)))
      have HIW := Aside0.mk (HI5.out.set2 ((t : Int) + 1))
      have HFW := Aside0.mk (Kd.F_far (p := ⟨g, 2, none⟩) HF5.out (fun k hk e => by have h1 := blk_lt HH0.out.1; have h2 := below_size HB0.out; have h3 := hk.1; have h4 : k = g := e; omega) (.int .i64 ((t : Int) + 1)))
      have x0_ : (w5.setCell ⟨g, 2, none⟩ (.int .i64 ((t : Int) + 1))).cell? ⟨gy, 0, none⟩ = some (.int .i64 x0) := (blk_cell (blk_far HX5.out (p := ⟨g, 2, none⟩) (fun e => HGY.out.1 e) (.int .i64 ((t : Int) + 1))) 0).trans rfl
      have x1_ : (w5.setCell ⟨g, 2, none⟩ (.int .i64 ((t : Int) + 1))).cell? ⟨gy, 1, none⟩ = some (.int .i64 x1) := (blk_cell (blk_far HX5.out (p := ⟨g, 2, none⟩) (fun e => HGY.out.1 e) (.int .i64 ((t : Int) + 1))) 1).trans rfl
      have x2_ : (w5.setCell ⟨g, 2, none⟩ (.int .i64 ((t : Int) + 1))).cell? ⟨gy, 2, none⟩ = some (.int .i64 x2) := (blk_cell (blk_far HX5.out (p := ⟨g, 2, none⟩) (fun e => HGY.out.1 e) (.int .i64 ((t : Int) + 1))) 2).trans rfl
      have x3_ : (w5.setCell ⟨g, 2, none⟩ (.int .i64 ((t : Int) + 1))).cell? ⟨gy, 3, none⟩ = some (.slice A3 x3.length c3) := (blk_cell (blk_far HX5.out (p := ⟨g, 2, none⟩) (fun e => HGY.out.1 e) (.int .i64 ((t : Int) + 1))) 3).trans rfl
      have z0_ : (w5.setCell ⟨g, 2, none⟩ (.int .i64 ((t : Int) + 1))).cell? ⟨gz, 0, none⟩ = some (.int .i64 0) := (blk_cell (blk_far HZ5.out (p := ⟨g, 2, none⟩) (fun e => hgz e.symm) (.int .i64 ((t : Int) + 1))) 0).trans rfl
      have y0_ := blk_frozen (blk_far HZ5.out (p := ⟨g, 2, none⟩) (fun e => hgz e.symm) (.int .i64 ((t : Int) + 1))) 0
      have z1_ : (w5.setCell ⟨g, 2, none⟩ (.int .i64 ((t : Int) + 1))).cell? ⟨gz, 1, none⟩ = some (.int .i64 0) := (blk_cell (blk_far HZ5.out (p := ⟨g, 2, none⟩) (fun e => hgz e.symm) (.int .i64 ((t : Int) + 1))) 1).trans rfl
      have y1_ := blk_frozen (blk_far HZ5.out (p := ⟨g, 2, none⟩) (fun e => hgz e.symm) (.int .i64 ((t : Int) + 1))) 1
      have z2_ : (w5.setCell ⟨g, 2, none⟩ (.int .i64 ((t : Int) + 1))).cell? ⟨gz, 2, none⟩ = some (.int .i64 0) := (blk_cell (blk_far HZ5.out (p := ⟨g, 2, none⟩) (fun e => hgz e.symm) (.int .i64 ((t : Int) + 1))) 2).trans rfl
      have y2_ := blk_frozen (blk_far HZ5.out (p := ⟨g, 2, none⟩) (fun e => hgz e.symm) (.int .i64 ((t : Int) + 1))) 2
      have z3_ : (w5.setCell ⟨g, 2, none⟩ (.int .i64 ((t : Int) + 1))).cell? ⟨gz, 3, none⟩ = some (.slice none 0 0) := (blk_cell (blk_far HZ5.out (p := ⟨g, 2, none⟩) (fun e => hgz e.symm) (.int .i64 ((t : Int) + 1))) 3).trans rfl
      have y3_ := blk_frozen (blk_far HZ5.out (p := ⟨g, 2, none⟩) (fun e => hgz e.symm) (.int .i64 ((t : Int) + 1))) 3
      have HFS := Aside0.mk (four_sets (y0 := .int .i64 x0) (y1 := .int .i64 x1) (y2 := .int .i64 x2) (y3 := .slice A3 x3.length c3) (blk_far HZ5.out (p := ⟨g, 2, none⟩) (fun e => hgz e.symm) (.int .i64 ((t : Int) + 1))))
      go_wp2_with fail
      refine bodyPost_ret (results_ct rfl _ _ gz 67 _ (0, 0) _ rfl HFS.out.1 Try.underlying67 rfl sz67c) rfl ?_
      refine ⟨A3, c3, rfl, hc3, Kd.F_mono (Kd.F_bound (Kd.F_step HFW.out (fun k hk hlt => HFS.out.2.block k hlt (fun e => by have h1 := blk_lt HZ0.out; have h2 := hk.1; have h3 : k = gz := e; omega)))) (fun k hk => ⟨by have h1 := below_size HB0.out; have h2 := hk.1.1; omega, hk.2⟩), HIW.out.keeps HFS.out.2 (fun k hk e => ?_), HKW.out.then_ HFS.out.2 (fun i hi => .inr (by have h1 : i = gz := hi; have h2 := HGZ.out; omega))⟩
      rcases hk with h1 | h1
      · exact hgz (h1.symm.trans e)
      · have h2 := HH0.out.2.1.lt k h1; have h3 := HGZ.out; have h4 : k = gz := e; omega
  · skip
    obtain ⟨wd, hwd_⟩ : ∃ W_ : World, W_ = W0.drew := ⟨_, rfl⟩
    rw [← hwd_] at hHeld ⊢
    clear hwd_
    refine value_ (w1 := wd.alloc (.cells #[.int .i64 0, .int .i64 0, .int .i64 0, .slice none 0 0] 67)) (by rfl) rfl (by go_simp; rfl) ?_
    have hy_ := blk_new wd (.cells #[.int .i64 0, .int .i64 0, .int .i64 0, .slice none 0 0] 67)
    have hby_ := below_alloc (Below.refl wd.heap.size wd) (.cells #[.int .i64 0, .int .i64 0, .int .i64 0, .slice none 0 0] 67)
    have hbn_ := below_step hHeld hby_
    obtain ⟨gy, hgy_⟩ : ∃ q_, wd.heap.size = q_ := ⟨_, rfl⟩
    have HYG : Aside0 (W0.heap.size ≤ gy) := ⟨by have := below_size hHeld; omega⟩
    obtain ⟨w2, hw4_⟩ : ∃ W_ : World, W_ = wd.alloc (.cells #[.int .i64 0, .int .i64 0, .int .i64 0, .slice none 0 0] 67) := ⟨_, rfl⟩
    rw [← hw4_] at hy_ hbn_ ⊢
    rw [hgy_] at hy_ ⊢
    clear hw4_ hgy_ hby_ hHeld
    have HY := Aside0.mk hy_
    clear hy_
    have HB := Aside0.mk hbn_
    skip
    refine hK_.out _ _ (hbn_) (fun hHeld => ?_)
    clear hK_
    refine norm_ (a' := ?_) ?_ ?_
    rotate_left
    · simp only [Act.put, List.setIfInBounds_toArray, List.set_cons_zero, List.set_cons_succ]
      rfl
    refine one_ (i := 1) (N := some 26) #[true, true, true, true, true, true, false, false, false, false, false, true, false, false, false] rfl rfl (by kernel_rfl) (by decide) (fun K_ hK_ => ?_)
    have HH_ := Aside0.mk hHeld
    clear hHeld
    refine goes_ Try.func97 (by kernel_rfl) rfl #[.pointer (some ⟨g, 0, none⟩)] (by rfl) rfl rfl (by (try simp only [List.map_toArray, List.map_cons, List.map_nil]); first | done | rfl | (simp only [List.length_drop, List.length_take]; rfl)) ?_
    refine (r13_rest.is (HI0.out.below HH_.out) rfl htb hby h24 HL.out HT.out).mono ?_
    rintro e_ w3 ⟨Aq, cq, rfl, hcq, hQ_, hbe_⟩
    refine ⟨_, rfl, ?_⟩
    have hHY_ := blk_below HY.out hbe_
    have HY_ := Aside0.mk hHY_
    clear HY hHY_
    have HY := HY_
    clear HY_
    have HQ := Aside0.mk hQ_
    clear hQ_
    have hbn_ := below_step HH_.out hbe_
    have HB := Aside0.mk hbn_
    clear HH_ hbe_
    refine hK_.out _ _ (hbn_) (fun hHeld => ?_)
    clear hK_
    refine norm_ (a' := ?_) ?_ ?_
    rotate_left
    · simp only [Act.put, List.setIfInBounds_toArray, List.set_cons_zero, List.set_cons_succ]
      rfl
    refine one_ (i := 6) (N := some 31) #[true, true, true, true, true, true, true, false, false, false, false, true, false, false, false] rfl rfl (by kernel_rfl) (by decide) (fun K_ hK_ => ?_)
    have HH_ := Aside0.mk hHeld
    clear hHeld
    refine goes_ Try.func81 (by kernel_rfl) rfl #[.slice Aq (B.drop (at_ B most t)).length cq, .int .i64 most] (by rfl) rfl rfl (by (try simp only [List.map_toArray, List.map_cons, List.map_nil]); first | done | rfl | (simp only [List.length_drop, List.length_take]; rfl)) ?_
    refine (gantletref02_Next.calls Aq cq (B.drop (at_ B most t)) most (x0) (x1) (x2) (x3) (n) (0) _ HQ.out hcq HNX.out).mono ?_
    rintro e_ w4 ⟨v3, rfl, hR_, hbe_⟩
    refine ⟨_, rfl, ?_⟩
    obtain ⟨A3, c3, rfl, hc3, hC3_⟩ := Kd.R_reads hR_
    have HF_ := Aside0.mk (Kd.R_F (Kd.R_mono (ok' := fun k => W0.heap.size ≤ k ∧ k ≠ gy) (Kd.R_bound hR_) (fun k hk => ⟨Nat.le_trans (below_size HH_.out) hk.2.1, fun e => by have := blk_lt HY.out; have := hk.2.1; omega⟩)))
    have hHY_ := blk_below HY.out hbe_
    have HY_ := Aside0.mk hHY_
    clear HY hHY_
    have HY := HY_
    clear HY_
    have hHQ_ := Kd.C_below HQ.out hbe_
    have HQ_ := Aside0.mk hHQ_
    clear HQ hHQ_
    have HQ := HQ_
    clear HQ_
    have HF := HF_
    clear HF_ hR_ hC3_
    have hbn_ := below_step HH_.out hbe_
    have HB := Aside0.mk hbn_
    clear HH_ hbe_
    refine hK_.out _ _ (hbn_) (fun hHeld => ?_)
    clear hK_
    refine norm_ (a' := ?_) ?_ ?_
    rotate_left
    · simp only [Act.put, List.setIfInBounds_toArray, List.set_cons_zero, List.set_cons_succ]
      rfl
    refine pure_ (i := 7) (N := some 24) (v := ?_) (a' := ?_) #[true, true, true, true, true, true, true, true, false, false, false, true, false, false, false] rfl rfl (by kernel_rfl) (fun _ _ _ h => h) (Or.inl ⟨by rfl, ?_⟩) ?_ ?_
    rotate_left
    · intro w'
      go_simp
      with_reducible rfl
    rotate_left
    · simp only [Act.put, List.setIfInBounds_toArray, List.set_cons_zero, List.set_cons_succ]
      rfl
    refine pure_ (i := 8) (N := some 32) (v := ?_) (a' := ?_) #[true, true, true, true, true, true, true, true, true, false, false, true, false, false, false] rfl rfl (by kernel_rfl) (fun _ _ _ h => h) (Or.inl ⟨by rfl, ?_⟩) ?_ ?_
    rotate_left
    · intro w'
      go_simp
      with_reducible rfl
    rotate_left
    · simp only [Act.put, List.setIfInBounds_toArray, List.set_cons_zero, List.set_cons_succ]
      rfl
    refine pure_ (i := 9) (N := some 33) (v := ?_) (a' := ?_) #[true, true, true, true, true, true, true, true, true, true, false, true, false, false, false] rfl rfl (by kernel_rfl) (fun _ _ _ h => h) (Or.inl ⟨by rfl, ?_⟩) ?_ ?_
    rotate_left
    · intro w'
      go_simp
      with_reducible rfl
    rotate_left
    · simp only [Act.put, List.setIfInBounds_toArray, List.set_cons_zero, List.set_cons_succ]
      rfl
    refine pure_ (i := 10) (N := some 34) (v := ?_) (a' := ?_) #[true, true, true, true, true, true, true, true, true, true, true, true, false, false, false] rfl rfl (by kernel_rfl) (fun _ _ _ h => h) (Or.inl ⟨by rfl, ?_⟩) ?_ ?_
    rotate_left
    · intro w'
      go_simp
      with_reducible rfl
    rotate_left
    · simp only [Act.put, List.setIfInBounds_toArray, List.set_cons_zero, List.set_cons_succ]
      rfl
    refine one_ (i := 12) (N := none) #[true, true, true, true, true, true, true, true, true, true, true, true, true, false, false] rfl rfl (by kernel_rfl) (by decide) (fun K_ hK_ => ?_)
    clear hHeld
    have k0_ : w4.cell? ⟨gy, 0, none⟩ = some (.int .i64 0) := (blk_cell HY.out 0).trans rfl
    have kf0_ := blk_frozen HY.out 0
    have k1_ : w4.cell? ⟨gy, 1, none⟩ = some (.int .i64 0) := (blk_cell HY.out 1).trans rfl
    have kf1_ := blk_frozen HY.out 1
    have k2_ : w4.cell? ⟨gy, 2, none⟩ = some (.int .i64 0) := (blk_cell HY.out 2).trans rfl
    have kf2_ := blk_frozen HY.out 2
    have k3_ : w4.cell? ⟨gy, 3, none⟩ = some (.slice none 0 0) := (blk_cell HY.out 3).trans rfl
    have kf3_ := blk_frozen HY.out 3
    refine skip_ (w1 := ((((w4.setCell ⟨gy, 0, none⟩ (.int .i64 x0)).setCell ⟨gy, 1, none⟩ (.int .i64 x1)).setCell ⟨gy, 2, none⟩ (.int .i64 x2)).setCell ⟨gy, 3, none⟩ (.slice A3 x3.length c3))) (by rfl) rfl (by first | (go_simp; done) | (go_simp; rfl)) ?_
    have hfs_ := four_sets (y0 := .int .i64 x0) (y1 := .int .i64 x1) (y2 := .int .i64 x2) (y3 := .slice A3 x3.length c3) HY.out
    have hbn_ : Below W0.heap.size W0 ((((w4.setCell ⟨gy, 0, none⟩ (.int .i64 x0)).setCell ⟨gy, 1, none⟩ (.int .i64 x1)).setCell ⟨gy, 2, none⟩ (.int .i64 x2)).setCell ⟨gy, 3, none⟩ (.slice A3 x3.length c3)) := hfs_.2.under HB.out (fun k hk => by rw [show k = gy from hk]; exact HYG.out)
    have hx5_ := hfs_.1
    have hf5_ := Kd.F_step HF.out (fun k hk hlt => hfs_.2.block k hlt (fun e => hk.2 e))
    clear k0_ k1_ k2_ k3_ kf0_ kf1_ kf2_ kf3_ hfs_
    obtain ⟨w5, hw5_⟩ : ∃ W_ : World, W_ = ((((w4.setCell ⟨gy, 0, none⟩ (.int .i64 x0)).setCell ⟨gy, 1, none⟩ (.int .i64 x1)).setCell ⟨gy, 2, none⟩ (.int .i64 x2)).setCell ⟨gy, 3, none⟩ (.slice A3 x3.length c3)) := ⟨_, rfl⟩
    rw [← hw5_] at hx5_ hf5_ hbn_ ⊢
    clear hw5_ HY HF HB
    have HX5 := Aside0.mk hx5_
    have HF5 := Aside0.mk hf5_
    clear hx5_ hf5_
    refine hK_.out _ _ (hbn_) (fun hHeld => ?_)
    clear hK_
    refine pure_ (i := 13) (N := some 5) (v := ?_) (a' := ?_) #[true, true, true, true, true, true, true, true, true, true, true, true, true, true, false] rfl rfl (by kernel_rfl) (fun _ _ _ h => h) (Or.inl ⟨by rfl, ?_⟩) ?_ ?_
    rotate_left
    · intro w'
      go_simp
      with_reducible rfl
    rotate_left
    · simp only [Act.put, List.setIfInBounds_toArray, List.set_cons_zero, List.set_cons_succ]
      rfl
    refine pure_ (i := 14) (N := some 6) (v := ?_) (a' := ?_) #[true, true, true, true, true, true, true, true, true, true, true, true, true, true, true] rfl rfl (by kernel_rfl) (fun _ _ _ h => h) (Or.inl ⟨by rfl, ?_⟩) ?_ ?_
    rotate_left
    · intro w'
      go_simp
      with_reducible rfl
    rotate_left
    · simp only [Act.put, List.setIfInBounds_toArray, List.set_cons_zero, List.set_cons_succ]
      rfl
    refine done_ (by kernel_rfl) ?_
    have HB5 := Aside0.mk hHeld
    clear hHeld
    have HI5 := Aside0.mk (HI0.out.below HB5.out)
    have HZ5 := Aside0.mk (blk_below HZ0.out HB5.out)
    have HS5 := Aside0.mk (below_step HB0.out HB5.out)
    have HGY : Aside0 (gy ≠ g ∧ gy ≠ gz) := ⟨by have h1 := blk_lt HH0.out.1; have h2 := below_size HB0.out; have h3 := HYG.out; have h4 := blk_lt HZ0.out; omega⟩
    have q2_ : w5.cell? ⟨g, 2, none⟩ = some (.int .i64 (t : Int)) := (blk_cell HI5.out.1 2).trans rfl
    have f2_ := blk_frozen HI5.out.1 2
    have hwt : wrap64 ((t : Int) + 1) = (t : Int) + 1 := by unfold wrap64; omega
    have HKW := Aside0.mk ((Keeps.of_below HS5.out (FootT g (.slice A B.length c))).set (.inl (.inl rfl)) 2 (.int .i64 ((t : Int) + 1)))
    have HIW := Aside0.mk (HI5.out.set2 ((t : Int) + 1))
    have HFW := Aside0.mk (Kd.F_far (p := ⟨g, 2, none⟩) HF5.out (fun k hk e => by have h1 := blk_lt HH0.out.1; have h2 := below_size HB0.out; have h3 := hk.1; have h4 : k = g := e; omega) (.int .i64 ((t : Int) + 1)))
    have x0_ : (w5.setCell ⟨g, 2, none⟩ (.int .i64 ((t : Int) + 1))).cell? ⟨gy, 0, none⟩ = some (.int .i64 x0) := (blk_cell (blk_far HX5.out (p := ⟨g, 2, none⟩) (fun e => HGY.out.1 e) (.int .i64 ((t : Int) + 1))) 0).trans rfl
    have x1_ : (w5.setCell ⟨g, 2, none⟩ (.int .i64 ((t : Int) + 1))).cell? ⟨gy, 1, none⟩ = some (.int .i64 x1) := (blk_cell (blk_far HX5.out (p := ⟨g, 2, none⟩) (fun e => HGY.out.1 e) (.int .i64 ((t : Int) + 1))) 1).trans rfl
    have x2_ : (w5.setCell ⟨g, 2, none⟩ (.int .i64 ((t : Int) + 1))).cell? ⟨gy, 2, none⟩ = some (.int .i64 x2) := (blk_cell (blk_far HX5.out (p := ⟨g, 2, none⟩) (fun e => HGY.out.1 e) (.int .i64 ((t : Int) + 1))) 2).trans rfl
    have x3_ : (w5.setCell ⟨g, 2, none⟩ (.int .i64 ((t : Int) + 1))).cell? ⟨gy, 3, none⟩ = some (.slice A3 x3.length c3) := (blk_cell (blk_far HX5.out (p := ⟨g, 2, none⟩) (fun e => HGY.out.1 e) (.int .i64 ((t : Int) + 1))) 3).trans rfl
    have z0_ : (w5.setCell ⟨g, 2, none⟩ (.int .i64 ((t : Int) + 1))).cell? ⟨gz, 0, none⟩ = some (.int .i64 0) := (blk_cell (blk_far HZ5.out (p := ⟨g, 2, none⟩) (fun e => hgz e.symm) (.int .i64 ((t : Int) + 1))) 0).trans rfl
    have y0_ := blk_frozen (blk_far HZ5.out (p := ⟨g, 2, none⟩) (fun e => hgz e.symm) (.int .i64 ((t : Int) + 1))) 0
    have z1_ : (w5.setCell ⟨g, 2, none⟩ (.int .i64 ((t : Int) + 1))).cell? ⟨gz, 1, none⟩ = some (.int .i64 0) := (blk_cell (blk_far HZ5.out (p := ⟨g, 2, none⟩) (fun e => hgz e.symm) (.int .i64 ((t : Int) + 1))) 1).trans rfl
    have y1_ := blk_frozen (blk_far HZ5.out (p := ⟨g, 2, none⟩) (fun e => hgz e.symm) (.int .i64 ((t : Int) + 1))) 1
    have z2_ : (w5.setCell ⟨g, 2, none⟩ (.int .i64 ((t : Int) + 1))).cell? ⟨gz, 2, none⟩ = some (.int .i64 0) := (blk_cell (blk_far HZ5.out (p := ⟨g, 2, none⟩) (fun e => hgz e.symm) (.int .i64 ((t : Int) + 1))) 2).trans rfl
    have y2_ := blk_frozen (blk_far HZ5.out (p := ⟨g, 2, none⟩) (fun e => hgz e.symm) (.int .i64 ((t : Int) + 1))) 2
    have z3_ : (w5.setCell ⟨g, 2, none⟩ (.int .i64 ((t : Int) + 1))).cell? ⟨gz, 3, none⟩ = some (.slice none 0 0) := (blk_cell (blk_far HZ5.out (p := ⟨g, 2, none⟩) (fun e => hgz e.symm) (.int .i64 ((t : Int) + 1))) 3).trans rfl
    have y3_ := blk_frozen (blk_far HZ5.out (p := ⟨g, 2, none⟩) (fun e => hgz e.symm) (.int .i64 ((t : Int) + 1))) 3
    have HFS := Aside0.mk (four_sets (y0 := .int .i64 x0) (y1 := .int .i64 x1) (y2 := .int .i64 x2) (y3 := .slice A3 x3.length c3) (blk_far HZ5.out (p := ⟨g, 2, none⟩) (fun e => hgz e.symm) (.int .i64 ((t : Int) + 1))))
    go_wp2_with fail
    refine bodyPost_ret (results_ct rfl _ _ gz 67 _ (0, 0) _ rfl HFS.out.1 Try.underlying67 rfl sz67c) rfl ?_
    refine ⟨A3, c3, rfl, hc3, Kd.F_mono (Kd.F_bound (Kd.F_step HFW.out (fun k hk hlt => HFS.out.2.block k hlt (fun e => by have h1 := blk_lt HZ0.out; have h2 := hk.1; have h3 : k = gz := e; omega)))) (fun k hk => ⟨by have h1 := below_size HB0.out; have h2 := hk.1.1; omega, hk.2⟩), HIW.out.keeps HFS.out.2 (fun k hk e => ?_), HKW.out.then_ HFS.out.2 (fun i hi => .inr (by have h1 : i = gz := hi; have h2 := HGZ.out; omega))⟩
    rcases hk with h1 | h1
    · exact hgz (h1.symm.trans e)
    · have h2 := HH0.out.2.1.lt k h1; have h3 := HGZ.out; have h4 : k = gz := e; omega
set_option maxHeartbeats 8000000 in
set_option maxRecDepth 100000 in
theorem r13_Next.more (h : IsR w g most v B T 0) (hT : T = (t : Int)) (htb : t ≤ 1000000) (hby : Bytes B) (h24 : 24 ≤ B.length) (hl : B.length ≤ 140737488350000) (ht : IntakePure.Told B most t) (hnx : nx (B.drop (at_ B most t)) most = (0, 0, 0, [], 0, 2)) : Calls Try.prog 71 #[.pointer (some ⟨g, 0, none⟩)] w fun e w' => ∃ A3 c3, e = .returned (.tuple #[.agg #[.int .i64 0, .int .i64 0, .int .i64 0, .slice A3 ([] : List Int).length c3], .int .i64 2]) ∧ ([] : List Int).length ≤ c3 ∧ Kd.F (Kd.int .u8) w' (fun k => w.heap.size ≤ k ∧ k < w'.heap.size) A3 ([] : List Int).length [] ∧ IsR w' g most v B (t : Int) 0 ∧ Keeps w w' (FootT g v) := by
  have hu67 := Try.underlying67
  subst hT
  obtain ⟨A, c, rfl, hc, hC⟩ := h.reads
  have HB0 := Aside0.mk (below_alloc (Below.refl w.heap.size w) (.cells #[.int .i64 0, .int .i64 0, .int .i64 0, .slice none 0 0] 67))
  have HI0 := Aside0.mk (h.below HB0.out)
  have HZ0 := Aside0.mk (blk_new w (.cells #[.int .i64 0, .int .i64 0, .int .i64 0, .slice none 0 0] 67))
  have hgz : g ≠ w.heap.size := by have := blk_lt h.1; omega
  have hcell : (w.alloc (.cells #[.int .i64 0, .int .i64 0, .int .i64 0, .slice none 0 0] 67)).cell? ⟨g, 3, none⟩ = some (.int .i64 0) := (blk_cell HI0.out.1 3).trans rfl
  have hcell2 : (w.alloc (.cells #[.int .i64 0, .int .i64 0, .int .i64 0, .slice none 0 0] 67)).cell? ⟨g, 1, none⟩ = some (.slice A B.length c) := (blk_cell HI0.out.1 1).trans rfl
  have b24 : decide ((B.length : Int) < 24) = false := decide_eq_false (by omega)
  have HNX : Aside0 (gantletref02_Next.f (B.drop (at_ B most t)) most = some (0, 0, 0, [], 0, 2)) := ⟨by rw [rnextE _ _ (hby.drop _) (by rw [List.length_drop]; omega), hnx]⟩
  have HL := Aside0.mk hl
  have HH0 := Aside0.mk h
  have HT := Aside0.mk ht
  clear h hC hnx hl ht
  go_enter Try.func71, Try.ntmps71
  go_wp2_with fail
  clear hcell hcell2 b24
  obtain ⟨gz, hgz_⟩ : ∃ q_, w.heap.size = q_ := ⟨_, rfl⟩
  rw [hgz_] at HZ0 hgz ⊢
  have HGZ := Aside0.mk hgz_
  clear hgz_
  obtain ⟨W0, hW0⟩ : ∃ W_ : World, W_ = w.alloc (.cells #[.int .i64 0, .int .i64 0, .int .i64 0, .slice none 0 0] 67) := ⟨_, rfl⟩
  rw [← hW0] at HB0 HI0 HZ0 ⊢
  clear hW0
  refine start_ (n := 15) (S := fun w' => Below W0.heap.size W0 w') (ds := []) #[false, false, false, false, false, false, false, false, false, false, false, false, false, false, false] (by kernel_rfl) rfl rfl (below_drew1 (Below.refl _ _)) (fun hHeld => ?_)
  refine pure_ (i := 0) (N := some 25) (v := ?_) (a' := ?_) #[true, false, false, false, false, false, false, false, false, false, false, false, false, false, false] rfl rfl (by kernel_rfl) (fun _ _ _ h => h) (Or.inl ⟨by rfl, ?_⟩) ?_ ?_
  rotate_left
  · intro w'
    go_simp
    with_reducible rfl
  rotate_left
  · simp only [Act.put, List.setIfInBounds_toArray, List.set_cons_zero, List.set_cons_succ]
    rfl
  refine pure_ (i := 2) (N := some 27) (v := ?_) (a' := ?_) #[true, false, true, false, false, false, false, false, false, false, false, false, false, false, false] rfl rfl (by kernel_rfl) (fun _ _ _ h => h) (Or.inl ⟨by rfl, ?_⟩) ?_ ?_
  rotate_left
  · intro w'
    go_simp
    with_reducible rfl
  rotate_left
  · simp only [Act.put, List.setIfInBounds_toArray, List.set_cons_zero, List.set_cons_succ]
    rfl
  refine pure_ (i := 3) (N := some 28) (v := ?_) (a' := ?_) #[true, false, true, true, false, false, false, false, false, false, false, false, false, false, false] rfl rfl (by kernel_rfl) (fun _ _ _ h => h) (Or.inl ⟨by rfl, ?_⟩) ?_ ?_
  rotate_left
  · intro w'
    go_simp
    with_reducible rfl
  rotate_left
  · simp only [Act.put, List.setIfInBounds_toArray, List.set_cons_zero, List.set_cons_succ]
    rfl
  refine pure_ (i := 4) (N := some 29) (v := ?_) (a' := ?_) #[true, false, true, true, true, false, false, false, false, false, false, false, false, false, false] rfl rfl (by kernel_rfl) (fun _ _ _ h => h) (Or.inl ⟨by rfl, ?_⟩) ?_ ?_
  rotate_left
  · intro w'
    go_simp
    with_reducible rfl
  rotate_left
  · simp only [Act.put, List.setIfInBounds_toArray, List.set_cons_zero, List.set_cons_succ]
    rfl
  refine take_ (i := 5) (N := some 30) (v := ?_) (a' := ?_) #[true, false, true, true, true, true, false, false, false, false, false, false, false, false, false] rfl rfl (by kernel_rfl) (fun _ _ _ h => h) (Or.inl ⟨by rfl, ?_⟩) hHeld ?_ ?_
  rotate_left
  · intro w' hS_
    have q0_ : w'.cell? ⟨g, 0, none⟩ = some (.int .i64 most) := (blk_cell (blk_below HI0.out.1 hS_) 0).trans rfl
    have q1_ : w'.cell? ⟨g, 1, none⟩ = some (.slice A B.length c) := (blk_cell (blk_below HI0.out.1 hS_) 1).trans rfl
    have q2_ : w'.cell? ⟨g, 2, none⟩ = some (.int .i64 (t : Int)) := (blk_cell (blk_below HI0.out.1 hS_) 2).trans rfl
    have q3_ : w'.cell? ⟨g, 3, none⟩ = some (.int .i64 0) := (blk_cell (blk_below HI0.out.1 hS_) 3).trans rfl
    go_simp
    with_reducible rfl
  rotate_left
  · simp only [Act.put, List.setIfInBounds_toArray, List.set_cons_zero, List.set_cons_succ]
    rfl
  refine two_ (i := 1) (j := 11) (Ni := some 26) (Nj := some 4) #[true, true, true, true, true, true, false, false, false, false, false, false, false, false, false] #[true, false, true, true, true, true, false, false, false, false, false, true, false, false, false] rfl rfl rfl rfl (by kernel_rfl) (by decide) (by decide) (fun K_ hK_ => ?_) (fun K_ hK_ => ?_)
  · skip
    have HH_ := Aside0.mk hHeld
    clear hHeld
    refine goes_ Try.func97 (by kernel_rfl) rfl #[.pointer (some ⟨g, 0, none⟩)] (by rfl) rfl rfl (by (try simp only [List.map_toArray, List.map_cons, List.map_nil]); first | done | rfl | (simp only [List.length_drop, List.length_take]; rfl)) ?_
    refine (r13_rest.is (HI0.out.below HH_.out) rfl htb hby h24 HL.out HT.out).mono ?_
    rintro e_ w2 ⟨Aq, cq, rfl, hcq, hQ_, hbe_⟩
    refine ⟨_, rfl, ?_⟩
    have HQ := Aside0.mk hQ_
    clear hQ_
    have hbn_ := below_step HH_.out hbe_
    have HB := Aside0.mk hbn_
    clear HH_ hbe_
    refine hK_.out _ _ (hbn_) (fun hHeld => ?_)
    clear hK_
    refine norm_ (a' := ?_) ?_ ?_
    rotate_left
    · simp only [Act.put, List.setIfInBounds_toArray, List.set_cons_zero, List.set_cons_succ]
      rfl
    refine two_ (i := 6) (j := 11) (Ni := some 31) (Nj := some 4) #[true, true, true, true, true, true, true, false, false, false, false, false, false, false, false] #[true, true, true, true, true, true, false, false, false, false, false, true, false, false, false] rfl rfl rfl rfl (by kernel_rfl) (by decide) (by decide) (fun K_ hK_ => ?_) (fun K_ hK_ => ?_)
    · skip
      have HH_ := Aside0.mk hHeld
      clear hHeld
      refine goes_ Try.func81 (by kernel_rfl) rfl #[.slice Aq (B.drop (at_ B most t)).length cq, .int .i64 most] (by rfl) rfl rfl (by (try simp only [List.map_toArray, List.map_cons, List.map_nil]); first | done | rfl | (simp only [List.length_drop, List.length_take]; rfl)) ?_
      refine (gantletref02_Next.calls Aq cq (B.drop (at_ B most t)) most (0) (0) (0) ([]) (0) (2) _ HQ.out hcq HNX.out).mono ?_
      rintro e_ w3 ⟨v3, rfl, hR_, hbe_⟩
      refine ⟨_, rfl, ?_⟩
      obtain ⟨A3, c3, rfl, hc3, hC3_⟩ := Kd.R_reads hR_
      have HF_ := Aside0.mk (Kd.R_F (Kd.R_mono (ok' := fun k => W0.heap.size ≤ k ∧ k < w3.heap.size) (Kd.R_bound hR_) (fun k hk => ⟨Nat.le_trans (below_size HH_.out) hk.2.1, hk.2.2.1⟩)))
      have hHQ_ := Kd.C_below HQ.out hbe_
      have HQ_ := Aside0.mk hHQ_
      clear HQ hHQ_
      have HQ := HQ_
      clear HQ_
      have HF := HF_
      clear HF_ hR_ hC3_
      have hbn_ := below_step HH_.out hbe_
      have HB := Aside0.mk hbn_
      clear HH_ hbe_
      refine hK_.out _ _ (hbn_) (fun hHeld => ?_)
      clear hK_
      refine norm_ (a' := ?_) ?_ ?_
      rotate_left
      · simp only [Act.put, List.setIfInBounds_toArray, List.set_cons_zero, List.set_cons_succ]
        rfl
      refine pure_ (i := 7) (N := some 24) (v := ?_) (a' := ?_) #[true, true, true, true, true, true, true, true, false, false, false, false, false, false, false] rfl rfl (by kernel_rfl) (fun _ _ _ h => h) (Or.inl ⟨by rfl, ?_⟩) ?_ ?_
      rotate_left
      · intro w'
        go_simp
        with_reducible rfl
      rotate_left
      · simp only [Act.put, List.setIfInBounds_toArray, List.set_cons_zero, List.set_cons_succ]
        rfl
      refine pure_ (i := 8) (N := some 32) (v := ?_) (a' := ?_) #[true, true, true, true, true, true, true, true, true, false, false, false, false, false, false] rfl rfl (by kernel_rfl) (fun _ _ _ h => h) (Or.inl ⟨by rfl, ?_⟩) ?_ ?_
      rotate_left
      · intro w'
        go_simp
        with_reducible rfl
      rotate_left
      · simp only [Act.put, List.setIfInBounds_toArray, List.set_cons_zero, List.set_cons_succ]
        rfl
      refine pure_ (i := 9) (N := some 33) (v := ?_) (a' := ?_) #[true, true, true, true, true, true, true, true, true, true, false, false, false, false, false] rfl rfl (by kernel_rfl) (fun _ _ _ h => h) (Or.inl ⟨by rfl, ?_⟩) ?_ ?_
      rotate_left
      · intro w'
        go_simp
        with_reducible rfl
      rotate_left
      · simp only [Act.put, List.setIfInBounds_toArray, List.set_cons_zero, List.set_cons_succ]
        rfl
      refine pure_ (i := 10) (N := some 34) (v := ?_) (a' := ?_) #[true, true, true, true, true, true, true, true, true, true, true, false, false, false, false] rfl rfl (by kernel_rfl) (fun _ _ _ h => h) (Or.inl ⟨by rfl, ?_⟩) ?_ ?_
      rotate_left
      · intro w'
        go_simp
        with_reducible rfl
      rotate_left
      · simp only [Act.put, List.setIfInBounds_toArray, List.set_cons_zero, List.set_cons_succ]
        rfl
      refine one_ (i := 11) (N := some 4) #[true, true, true, true, true, true, true, true, true, true, true, true, false, false, false] rfl rfl (by kernel_rfl) (by decide) (fun K_ hK_ => ?_)
      refine value_ (w1 := w3.alloc (.cells #[.int .i64 0, .int .i64 0, .int .i64 0, .slice none 0 0] 67)) (by rfl) rfl (by go_simp; rfl) ?_
      have hy_ := blk_new w3 (.cells #[.int .i64 0, .int .i64 0, .int .i64 0, .slice none 0 0] 67)
      have hby_ := below_alloc (Below.refl w3.heap.size w3) (.cells #[.int .i64 0, .int .i64 0, .int .i64 0, .slice none 0 0] 67)
      have hbn_ := below_step hHeld hby_
      have hHQ_ := Kd.C_below HQ.out hby_
      have hHF_ := Kd.F_mono (ok' := fun k => W0.heap.size ≤ k ∧ k ≠ w3.heap.size) (Kd.F_below HF.out hby_) (fun k hk => ⟨hk.1, by have := hk.2; omega⟩)
      obtain ⟨gy, hgy_⟩ : ∃ q_, w3.heap.size = q_ := ⟨_, rfl⟩
      have HYG : Aside0 (W0.heap.size ≤ gy) := ⟨by have := below_size hHeld; omega⟩
      obtain ⟨w4, hw4_⟩ : ∃ W_ : World, W_ = w3.alloc (.cells #[.int .i64 0, .int .i64 0, .int .i64 0, .slice none 0 0] 67) := ⟨_, rfl⟩
      rw [← hw4_] at hy_ hbn_ hHQ_ hHF_ ⊢
      rw [hgy_] at hy_ hHF_ ⊢
      clear hw4_ hgy_ hby_ hHeld
      have HY := Aside0.mk hy_
      clear hy_
      have HB := Aside0.mk hbn_
      clear HQ
      have HQ := Aside0.mk hHQ_
      clear hHQ_
      clear HF
      have HF := Aside0.mk hHF_
      clear hHF_
      skip
      refine hK_.out _ _ (hbn_) (fun hHeld => ?_)
      clear hK_
      refine norm_ (a' := ?_) ?_ ?_
      rotate_left
      · simp only [Act.put, List.setIfInBounds_toArray, List.set_cons_zero, List.set_cons_succ]
        rfl
      refine one_ (i := 12) (N := none) #[true, true, true, true, true, true, true, true, true, true, true, true, true, false, false] rfl rfl (by kernel_rfl) (by decide) (fun K_ hK_ => ?_)
      clear hHeld
      have k0_ : w4.cell? ⟨gy, 0, none⟩ = some (.int .i64 0) := (blk_cell HY.out 0).trans rfl
      have kf0_ := blk_frozen HY.out 0
      have k1_ : w4.cell? ⟨gy, 1, none⟩ = some (.int .i64 0) := (blk_cell HY.out 1).trans rfl
      have kf1_ := blk_frozen HY.out 1
      have k2_ : w4.cell? ⟨gy, 2, none⟩ = some (.int .i64 0) := (blk_cell HY.out 2).trans rfl
      have kf2_ := blk_frozen HY.out 2
      have k3_ : w4.cell? ⟨gy, 3, none⟩ = some (.slice none 0 0) := (blk_cell HY.out 3).trans rfl
      have kf3_ := blk_frozen HY.out 3
      refine skip_ (w1 := ((((w4.setCell ⟨gy, 0, none⟩ (.int .i64 0)).setCell ⟨gy, 1, none⟩ (.int .i64 0)).setCell ⟨gy, 2, none⟩ (.int .i64 0)).setCell ⟨gy, 3, none⟩ (.slice A3 0 c3))) (by rfl) rfl (by first | (go_simp; done) | (go_simp; rfl)) ?_
      have hfs_ := four_sets (y0 := .int .i64 0) (y1 := .int .i64 0) (y2 := .int .i64 0) (y3 := .slice A3 0 c3) HY.out
      have hbn_ : Below W0.heap.size W0 ((((w4.setCell ⟨gy, 0, none⟩ (.int .i64 0)).setCell ⟨gy, 1, none⟩ (.int .i64 0)).setCell ⟨gy, 2, none⟩ (.int .i64 0)).setCell ⟨gy, 3, none⟩ (.slice A3 0 c3)) := hfs_.2.under HB.out (fun k hk => by rw [show k = gy from hk]; exact HYG.out)
      have hx5_ := hfs_.1
      have hf5_ := Kd.F_step HF.out (fun k hk hlt => hfs_.2.block k hlt (fun e => hk.2 e))
      clear k0_ k1_ k2_ k3_ kf0_ kf1_ kf2_ kf3_ hfs_
      obtain ⟨w5, hw5_⟩ : ∃ W_ : World, W_ = ((((w4.setCell ⟨gy, 0, none⟩ (.int .i64 0)).setCell ⟨gy, 1, none⟩ (.int .i64 0)).setCell ⟨gy, 2, none⟩ (.int .i64 0)).setCell ⟨gy, 3, none⟩ (.slice A3 0 c3)) := ⟨_, rfl⟩
      rw [← hw5_] at hx5_ hf5_ hbn_ ⊢
      clear hw5_ HY HF HB
      have HX5 := Aside0.mk hx5_
      have HF5 := Aside0.mk hf5_
      clear hx5_ hf5_
      refine hK_.out _ _ (hbn_) (fun hHeld => ?_)
      clear hK_
      refine pure_ (i := 13) (N := some 5) (v := ?_) (a' := ?_) #[true, true, true, true, true, true, true, true, true, true, true, true, true, true, false] rfl rfl (by kernel_rfl) (fun _ _ _ h => h) (Or.inl ⟨by rfl, ?_⟩) ?_ ?_
      rotate_left
      · intro w'
        go_simp
        with_reducible rfl
      rotate_left
      · simp only [Act.put, List.setIfInBounds_toArray, List.set_cons_zero, List.set_cons_succ]
        rfl
      refine pure_ (i := 14) (N := some 6) (v := ?_) (a' := ?_) #[true, true, true, true, true, true, true, true, true, true, true, true, true, true, true] rfl rfl (by kernel_rfl) (fun _ _ _ h => h) (Or.inl ⟨by rfl, ?_⟩) ?_ ?_
      rotate_left
      · intro w'
        go_simp
        with_reducible rfl
      rotate_left
      · simp only [Act.put, List.setIfInBounds_toArray, List.set_cons_zero, List.set_cons_succ]
        rfl
      refine done_ (by kernel_rfl) ?_
      have HB5 := Aside0.mk hHeld
      clear hHeld
      have HI5 := Aside0.mk (HI0.out.below HB5.out)
      have HZ5 := Aside0.mk (blk_below HZ0.out HB5.out)
      have HS5 := Aside0.mk (below_step HB0.out HB5.out)
      have HGY : Aside0 (gy ≠ g ∧ gy ≠ gz) := ⟨by have h1 := blk_lt HH0.out.1; have h2 := below_size HB0.out; have h3 := HYG.out; have h4 := blk_lt HZ0.out; omega⟩
      have HKW := Aside0.mk (Keeps.of_below HS5.out (FootT g (.slice A B.length c)))
      have HIW := Aside0.mk (HI5.out)
      have HFW := Aside0.mk (HF5.out)
      have x0_ : w5.cell? ⟨gy, 0, none⟩ = some (.int .i64 0) := (blk_cell (HX5.out) 0).trans rfl
      have x1_ : w5.cell? ⟨gy, 1, none⟩ = some (.int .i64 0) := (blk_cell (HX5.out) 1).trans rfl
      have x2_ : w5.cell? ⟨gy, 2, none⟩ = some (.int .i64 0) := (blk_cell (HX5.out) 2).trans rfl
      have x3_ : w5.cell? ⟨gy, 3, none⟩ = some (.slice A3 0 c3) := (blk_cell (HX5.out) 3).trans rfl
      have z0_ : w5.cell? ⟨gz, 0, none⟩ = some (.int .i64 0) := (blk_cell (HZ5.out) 0).trans rfl
      have y0_ := blk_frozen (HZ5.out) 0
      have z1_ : w5.cell? ⟨gz, 1, none⟩ = some (.int .i64 0) := (blk_cell (HZ5.out) 1).trans rfl
      have y1_ := blk_frozen (HZ5.out) 1
      have z2_ : w5.cell? ⟨gz, 2, none⟩ = some (.int .i64 0) := (blk_cell (HZ5.out) 2).trans rfl
      have y2_ := blk_frozen (HZ5.out) 2
      have z3_ : w5.cell? ⟨gz, 3, none⟩ = some (.slice none 0 0) := (blk_cell (HZ5.out) 3).trans rfl
      have y3_ := blk_frozen (HZ5.out) 3
      have HFS := Aside0.mk (four_sets (y0 := .int .i64 0) (y1 := .int .i64 0) (y2 := .int .i64 0) (y3 := .slice A3 0 c3) (HZ5.out))
      go_wp2_with fail
      refine bodyPost_ret (results_ct rfl _ _ gz 67 _ (0, 0) _ rfl HFS.out.1 Try.underlying67 rfl sz67c) rfl ?_
      refine ⟨A3, c3, rfl, hc3, Kd.F_mono (Kd.F_bound (Kd.F_step HFW.out (fun k hk hlt => HFS.out.2.block k hlt (fun e => by have h1 := blk_lt HZ0.out; have h2 := hk.1; have h3 : k = gz := e; omega)))) (fun k hk => ⟨by have h1 := below_size HB0.out; have h2 := hk.1.1; omega, hk.2⟩), HIW.out.keeps HFS.out.2 (fun k hk e => ?_), HKW.out.then_ HFS.out.2 (fun i hi => .inr (by have h1 : i = gz := hi; have h2 := HGZ.out; omega))⟩
      rcases hk with h1 | h1
      · exact hgz (h1.symm.trans e)
      · have h2 := HH0.out.2.1.lt k h1; have h3 := HGZ.out; have h4 : k = gz := e; omega
    · skip
      refine value_ (w1 := w2.alloc (.cells #[.int .i64 0, .int .i64 0, .int .i64 0, .slice none 0 0] 67)) (by rfl) rfl (by go_simp; rfl) ?_
      have hy_ := blk_new w2 (.cells #[.int .i64 0, .int .i64 0, .int .i64 0, .slice none 0 0] 67)
      have hby_ := below_alloc (Below.refl w2.heap.size w2) (.cells #[.int .i64 0, .int .i64 0, .int .i64 0, .slice none 0 0] 67)
      have hbn_ := below_step hHeld hby_
      have hHQ_ := Kd.C_below HQ.out hby_
      obtain ⟨gy, hgy_⟩ : ∃ q_, w2.heap.size = q_ := ⟨_, rfl⟩
      have HYG : Aside0 (W0.heap.size ≤ gy) := ⟨by have := below_size hHeld; omega⟩
      obtain ⟨w3, hw4_⟩ : ∃ W_ : World, W_ = w2.alloc (.cells #[.int .i64 0, .int .i64 0, .int .i64 0, .slice none 0 0] 67) := ⟨_, rfl⟩
      rw [← hw4_] at hy_ hbn_ hHQ_ ⊢
      rw [hgy_] at hy_ ⊢
      clear hw4_ hgy_ hby_ hHeld
      have HY := Aside0.mk hy_
      clear hy_
      have HB := Aside0.mk hbn_
      clear HQ
      have HQ := Aside0.mk hHQ_
      clear hHQ_
      skip
      refine hK_.out _ _ (hbn_) (fun hHeld => ?_)
      clear hK_
      refine norm_ (a' := ?_) ?_ ?_
      rotate_left
      · simp only [Act.put, List.setIfInBounds_toArray, List.set_cons_zero, List.set_cons_succ]
        rfl
      refine one_ (i := 6) (N := some 31) #[true, true, true, true, true, true, true, false, false, false, false, true, false, false, false] rfl rfl (by kernel_rfl) (by decide) (fun K_ hK_ => ?_)
      have HH_ := Aside0.mk hHeld
      clear hHeld
      refine goes_ Try.func81 (by kernel_rfl) rfl #[.slice Aq (B.drop (at_ B most t)).length cq, .int .i64 most] (by rfl) rfl rfl (by (try simp only [List.map_toArray, List.map_cons, List.map_nil]); first | done | rfl | (simp only [List.length_drop, List.length_take]; rfl)) ?_
      refine (gantletref02_Next.calls Aq cq (B.drop (at_ B most t)) most (0) (0) (0) ([]) (0) (2) _ HQ.out hcq HNX.out).mono ?_
      rintro e_ w4 ⟨v3, rfl, hR_, hbe_⟩
      refine ⟨_, rfl, ?_⟩
      obtain ⟨A3, c3, rfl, hc3, hC3_⟩ := Kd.R_reads hR_
      have HF_ := Aside0.mk (Kd.R_F (Kd.R_mono (ok' := fun k => W0.heap.size ≤ k ∧ k ≠ gy) (Kd.R_bound hR_) (fun k hk => ⟨Nat.le_trans (below_size HH_.out) hk.2.1, fun e => by have := blk_lt HY.out; have := hk.2.1; omega⟩)))
      have hHY_ := blk_below HY.out hbe_
      have HY_ := Aside0.mk hHY_
      clear HY hHY_
      have HY := HY_
      clear HY_
      have hHQ_ := Kd.C_below HQ.out hbe_
      have HQ_ := Aside0.mk hHQ_
      clear HQ hHQ_
      have HQ := HQ_
      clear HQ_
      have HF := HF_
      clear HF_ hR_ hC3_
      have hbn_ := below_step HH_.out hbe_
      have HB := Aside0.mk hbn_
      clear HH_ hbe_
      refine hK_.out _ _ (hbn_) (fun hHeld => ?_)
      clear hK_
      refine norm_ (a' := ?_) ?_ ?_
      rotate_left
      · simp only [Act.put, List.setIfInBounds_toArray, List.set_cons_zero, List.set_cons_succ]
        rfl
      refine pure_ (i := 7) (N := some 24) (v := ?_) (a' := ?_) #[true, true, true, true, true, true, true, true, false, false, false, true, false, false, false] rfl rfl (by kernel_rfl) (fun _ _ _ h => h) (Or.inl ⟨by rfl, ?_⟩) ?_ ?_
      rotate_left
      · intro w'
        go_simp
        with_reducible rfl
      rotate_left
      · simp only [Act.put, List.setIfInBounds_toArray, List.set_cons_zero, List.set_cons_succ]
        rfl
      refine pure_ (i := 8) (N := some 32) (v := ?_) (a' := ?_) #[true, true, true, true, true, true, true, true, true, false, false, true, false, false, false] rfl rfl (by kernel_rfl) (fun _ _ _ h => h) (Or.inl ⟨by rfl, ?_⟩) ?_ ?_
      rotate_left
      · intro w'
        go_simp
        with_reducible rfl
      rotate_left
      · simp only [Act.put, List.setIfInBounds_toArray, List.set_cons_zero, List.set_cons_succ]
        rfl
      refine pure_ (i := 9) (N := some 33) (v := ?_) (a' := ?_) #[true, true, true, true, true, true, true, true, true, true, false, true, false, false, false] rfl rfl (by kernel_rfl) (fun _ _ _ h => h) (Or.inl ⟨by rfl, ?_⟩) ?_ ?_
      rotate_left
      · intro w'
        go_simp
        with_reducible rfl
      rotate_left
      · simp only [Act.put, List.setIfInBounds_toArray, List.set_cons_zero, List.set_cons_succ]
        rfl
      refine pure_ (i := 10) (N := some 34) (v := ?_) (a' := ?_) #[true, true, true, true, true, true, true, true, true, true, true, true, false, false, false] rfl rfl (by kernel_rfl) (fun _ _ _ h => h) (Or.inl ⟨by rfl, ?_⟩) ?_ ?_
      rotate_left
      · intro w'
        go_simp
        with_reducible rfl
      rotate_left
      · simp only [Act.put, List.setIfInBounds_toArray, List.set_cons_zero, List.set_cons_succ]
        rfl
      refine one_ (i := 12) (N := none) #[true, true, true, true, true, true, true, true, true, true, true, true, true, false, false] rfl rfl (by kernel_rfl) (by decide) (fun K_ hK_ => ?_)
      clear hHeld
      have k0_ : w4.cell? ⟨gy, 0, none⟩ = some (.int .i64 0) := (blk_cell HY.out 0).trans rfl
      have kf0_ := blk_frozen HY.out 0
      have k1_ : w4.cell? ⟨gy, 1, none⟩ = some (.int .i64 0) := (blk_cell HY.out 1).trans rfl
      have kf1_ := blk_frozen HY.out 1
      have k2_ : w4.cell? ⟨gy, 2, none⟩ = some (.int .i64 0) := (blk_cell HY.out 2).trans rfl
      have kf2_ := blk_frozen HY.out 2
      have k3_ : w4.cell? ⟨gy, 3, none⟩ = some (.slice none 0 0) := (blk_cell HY.out 3).trans rfl
      have kf3_ := blk_frozen HY.out 3
      refine skip_ (w1 := ((((w4.setCell ⟨gy, 0, none⟩ (.int .i64 0)).setCell ⟨gy, 1, none⟩ (.int .i64 0)).setCell ⟨gy, 2, none⟩ (.int .i64 0)).setCell ⟨gy, 3, none⟩ (.slice A3 0 c3))) (by rfl) rfl (by first | (go_simp; done) | (go_simp; rfl)) ?_
      have hfs_ := four_sets (y0 := .int .i64 0) (y1 := .int .i64 0) (y2 := .int .i64 0) (y3 := .slice A3 0 c3) HY.out
      have hbn_ : Below W0.heap.size W0 ((((w4.setCell ⟨gy, 0, none⟩ (.int .i64 0)).setCell ⟨gy, 1, none⟩ (.int .i64 0)).setCell ⟨gy, 2, none⟩ (.int .i64 0)).setCell ⟨gy, 3, none⟩ (.slice A3 0 c3)) := hfs_.2.under HB.out (fun k hk => by rw [show k = gy from hk]; exact HYG.out)
      have hx5_ := hfs_.1
      have hf5_ := Kd.F_step HF.out (fun k hk hlt => hfs_.2.block k hlt (fun e => hk.2 e))
      clear k0_ k1_ k2_ k3_ kf0_ kf1_ kf2_ kf3_ hfs_
      obtain ⟨w5, hw5_⟩ : ∃ W_ : World, W_ = ((((w4.setCell ⟨gy, 0, none⟩ (.int .i64 0)).setCell ⟨gy, 1, none⟩ (.int .i64 0)).setCell ⟨gy, 2, none⟩ (.int .i64 0)).setCell ⟨gy, 3, none⟩ (.slice A3 0 c3)) := ⟨_, rfl⟩
      rw [← hw5_] at hx5_ hf5_ hbn_ ⊢
      clear hw5_ HY HF HB
      have HX5 := Aside0.mk hx5_
      have HF5 := Aside0.mk hf5_
      clear hx5_ hf5_
      refine hK_.out _ _ (hbn_) (fun hHeld => ?_)
      clear hK_
      refine pure_ (i := 13) (N := some 5) (v := ?_) (a' := ?_) #[true, true, true, true, true, true, true, true, true, true, true, true, true, true, false] rfl rfl (by kernel_rfl) (fun _ _ _ h => h) (Or.inl ⟨by rfl, ?_⟩) ?_ ?_
      rotate_left
      · intro w'
        go_simp
        with_reducible rfl
      rotate_left
      · simp only [Act.put, List.setIfInBounds_toArray, List.set_cons_zero, List.set_cons_succ]
        rfl
      refine pure_ (i := 14) (N := some 6) (v := ?_) (a' := ?_) #[true, true, true, true, true, true, true, true, true, true, true, true, true, true, true] rfl rfl (by kernel_rfl) (fun _ _ _ h => h) (Or.inl ⟨by rfl, ?_⟩) ?_ ?_
      rotate_left
      · intro w'
        go_simp
        with_reducible rfl
      rotate_left
      · simp only [Act.put, List.setIfInBounds_toArray, List.set_cons_zero, List.set_cons_succ]
        rfl
      refine done_ (by kernel_rfl) ?_
      have HB5 := Aside0.mk hHeld
      clear hHeld
      have HI5 := Aside0.mk (HI0.out.below HB5.out)
      have HZ5 := Aside0.mk (blk_below HZ0.out HB5.out)
      have HS5 := Aside0.mk (below_step HB0.out HB5.out)
      have HGY : Aside0 (gy ≠ g ∧ gy ≠ gz) := ⟨by have h1 := blk_lt HH0.out.1; have h2 := below_size HB0.out; have h3 := HYG.out; have h4 := blk_lt HZ0.out; omega⟩
      have HKW := Aside0.mk (Keeps.of_below HS5.out (FootT g (.slice A B.length c)))
      have HIW := Aside0.mk (HI5.out)
      have HFW := Aside0.mk (HF5.out)
      have x0_ : w5.cell? ⟨gy, 0, none⟩ = some (.int .i64 0) := (blk_cell (HX5.out) 0).trans rfl
      have x1_ : w5.cell? ⟨gy, 1, none⟩ = some (.int .i64 0) := (blk_cell (HX5.out) 1).trans rfl
      have x2_ : w5.cell? ⟨gy, 2, none⟩ = some (.int .i64 0) := (blk_cell (HX5.out) 2).trans rfl
      have x3_ : w5.cell? ⟨gy, 3, none⟩ = some (.slice A3 0 c3) := (blk_cell (HX5.out) 3).trans rfl
      have z0_ : w5.cell? ⟨gz, 0, none⟩ = some (.int .i64 0) := (blk_cell (HZ5.out) 0).trans rfl
      have y0_ := blk_frozen (HZ5.out) 0
      have z1_ : w5.cell? ⟨gz, 1, none⟩ = some (.int .i64 0) := (blk_cell (HZ5.out) 1).trans rfl
      have y1_ := blk_frozen (HZ5.out) 1
      have z2_ : w5.cell? ⟨gz, 2, none⟩ = some (.int .i64 0) := (blk_cell (HZ5.out) 2).trans rfl
      have y2_ := blk_frozen (HZ5.out) 2
      have z3_ : w5.cell? ⟨gz, 3, none⟩ = some (.slice none 0 0) := (blk_cell (HZ5.out) 3).trans rfl
      have y3_ := blk_frozen (HZ5.out) 3
      have HFS := Aside0.mk (four_sets (y0 := .int .i64 0) (y1 := .int .i64 0) (y2 := .int .i64 0) (y3 := .slice A3 0 c3) (HZ5.out))
      go_wp2_with fail
      refine bodyPost_ret (results_ct rfl _ _ gz 67 _ (0, 0) _ rfl HFS.out.1 Try.underlying67 rfl sz67c) rfl ?_
      refine ⟨A3, c3, rfl, hc3, Kd.F_mono (Kd.F_bound (Kd.F_step HFW.out (fun k hk hlt => HFS.out.2.block k hlt (fun e => by have h1 := blk_lt HZ0.out; have h2 := hk.1; have h3 : k = gz := e; omega)))) (fun k hk => ⟨by have h1 := below_size HB0.out; have h2 := hk.1.1; omega, hk.2⟩), HIW.out.keeps HFS.out.2 (fun k hk e => ?_), HKW.out.then_ HFS.out.2 (fun i hi => .inr (by have h1 : i = gz := hi; have h2 := HGZ.out; omega))⟩
      rcases hk with h1 | h1
      · exact hgz (h1.symm.trans e)
      · have h2 := HH0.out.2.1.lt k h1; have h3 := HGZ.out; have h4 : k = gz := e; omega
  · skip
    obtain ⟨wd, hwd_⟩ : ∃ W_ : World, W_ = W0.drew := ⟨_, rfl⟩
    rw [← hwd_] at hHeld ⊢
    clear hwd_
    refine value_ (w1 := wd.alloc (.cells #[.int .i64 0, .int .i64 0, .int .i64 0, .slice none 0 0] 67)) (by rfl) rfl (by go_simp; rfl) ?_
    have hy_ := blk_new wd (.cells #[.int .i64 0, .int .i64 0, .int .i64 0, .slice none 0 0] 67)
    have hby_ := below_alloc (Below.refl wd.heap.size wd) (.cells #[.int .i64 0, .int .i64 0, .int .i64 0, .slice none 0 0] 67)
    have hbn_ := below_step hHeld hby_
    obtain ⟨gy, hgy_⟩ : ∃ q_, wd.heap.size = q_ := ⟨_, rfl⟩
    have HYG : Aside0 (W0.heap.size ≤ gy) := ⟨by have := below_size hHeld; omega⟩
    obtain ⟨w2, hw4_⟩ : ∃ W_ : World, W_ = wd.alloc (.cells #[.int .i64 0, .int .i64 0, .int .i64 0, .slice none 0 0] 67) := ⟨_, rfl⟩
    rw [← hw4_] at hy_ hbn_ ⊢
    rw [hgy_] at hy_ ⊢
    clear hw4_ hgy_ hby_ hHeld
    have HY := Aside0.mk hy_
    clear hy_
    have HB := Aside0.mk hbn_
    skip
    refine hK_.out _ _ (hbn_) (fun hHeld => ?_)
    clear hK_
    refine norm_ (a' := ?_) ?_ ?_
    rotate_left
    · simp only [Act.put, List.setIfInBounds_toArray, List.set_cons_zero, List.set_cons_succ]
      rfl
    refine one_ (i := 1) (N := some 26) #[true, true, true, true, true, true, false, false, false, false, false, true, false, false, false] rfl rfl (by kernel_rfl) (by decide) (fun K_ hK_ => ?_)
    have HH_ := Aside0.mk hHeld
    clear hHeld
    refine goes_ Try.func97 (by kernel_rfl) rfl #[.pointer (some ⟨g, 0, none⟩)] (by rfl) rfl rfl (by (try simp only [List.map_toArray, List.map_cons, List.map_nil]); first | done | rfl | (simp only [List.length_drop, List.length_take]; rfl)) ?_
    refine (r13_rest.is (HI0.out.below HH_.out) rfl htb hby h24 HL.out HT.out).mono ?_
    rintro e_ w3 ⟨Aq, cq, rfl, hcq, hQ_, hbe_⟩
    refine ⟨_, rfl, ?_⟩
    have hHY_ := blk_below HY.out hbe_
    have HY_ := Aside0.mk hHY_
    clear HY hHY_
    have HY := HY_
    clear HY_
    have HQ := Aside0.mk hQ_
    clear hQ_
    have hbn_ := below_step HH_.out hbe_
    have HB := Aside0.mk hbn_
    clear HH_ hbe_
    refine hK_.out _ _ (hbn_) (fun hHeld => ?_)
    clear hK_
    refine norm_ (a' := ?_) ?_ ?_
    rotate_left
    · simp only [Act.put, List.setIfInBounds_toArray, List.set_cons_zero, List.set_cons_succ]
      rfl
    refine one_ (i := 6) (N := some 31) #[true, true, true, true, true, true, true, false, false, false, false, true, false, false, false] rfl rfl (by kernel_rfl) (by decide) (fun K_ hK_ => ?_)
    have HH_ := Aside0.mk hHeld
    clear hHeld
    refine goes_ Try.func81 (by kernel_rfl) rfl #[.slice Aq (B.drop (at_ B most t)).length cq, .int .i64 most] (by rfl) rfl rfl (by (try simp only [List.map_toArray, List.map_cons, List.map_nil]); first | done | rfl | (simp only [List.length_drop, List.length_take]; rfl)) ?_
    refine (gantletref02_Next.calls Aq cq (B.drop (at_ B most t)) most (0) (0) (0) ([]) (0) (2) _ HQ.out hcq HNX.out).mono ?_
    rintro e_ w4 ⟨v3, rfl, hR_, hbe_⟩
    refine ⟨_, rfl, ?_⟩
    obtain ⟨A3, c3, rfl, hc3, hC3_⟩ := Kd.R_reads hR_
    have HF_ := Aside0.mk (Kd.R_F (Kd.R_mono (ok' := fun k => W0.heap.size ≤ k ∧ k ≠ gy) (Kd.R_bound hR_) (fun k hk => ⟨Nat.le_trans (below_size HH_.out) hk.2.1, fun e => by have := blk_lt HY.out; have := hk.2.1; omega⟩)))
    have hHY_ := blk_below HY.out hbe_
    have HY_ := Aside0.mk hHY_
    clear HY hHY_
    have HY := HY_
    clear HY_
    have hHQ_ := Kd.C_below HQ.out hbe_
    have HQ_ := Aside0.mk hHQ_
    clear HQ hHQ_
    have HQ := HQ_
    clear HQ_
    have HF := HF_
    clear HF_ hR_ hC3_
    have hbn_ := below_step HH_.out hbe_
    have HB := Aside0.mk hbn_
    clear HH_ hbe_
    refine hK_.out _ _ (hbn_) (fun hHeld => ?_)
    clear hK_
    refine norm_ (a' := ?_) ?_ ?_
    rotate_left
    · simp only [Act.put, List.setIfInBounds_toArray, List.set_cons_zero, List.set_cons_succ]
      rfl
    refine pure_ (i := 7) (N := some 24) (v := ?_) (a' := ?_) #[true, true, true, true, true, true, true, true, false, false, false, true, false, false, false] rfl rfl (by kernel_rfl) (fun _ _ _ h => h) (Or.inl ⟨by rfl, ?_⟩) ?_ ?_
    rotate_left
    · intro w'
      go_simp
      with_reducible rfl
    rotate_left
    · simp only [Act.put, List.setIfInBounds_toArray, List.set_cons_zero, List.set_cons_succ]
      rfl
    refine pure_ (i := 8) (N := some 32) (v := ?_) (a' := ?_) #[true, true, true, true, true, true, true, true, true, false, false, true, false, false, false] rfl rfl (by kernel_rfl) (fun _ _ _ h => h) (Or.inl ⟨by rfl, ?_⟩) ?_ ?_
    rotate_left
    · intro w'
      go_simp
      with_reducible rfl
    rotate_left
    · simp only [Act.put, List.setIfInBounds_toArray, List.set_cons_zero, List.set_cons_succ]
      rfl
    refine pure_ (i := 9) (N := some 33) (v := ?_) (a' := ?_) #[true, true, true, true, true, true, true, true, true, true, false, true, false, false, false] rfl rfl (by kernel_rfl) (fun _ _ _ h => h) (Or.inl ⟨by rfl, ?_⟩) ?_ ?_
    rotate_left
    · intro w'
      go_simp
      with_reducible rfl
    rotate_left
    · simp only [Act.put, List.setIfInBounds_toArray, List.set_cons_zero, List.set_cons_succ]
      rfl
    refine pure_ (i := 10) (N := some 34) (v := ?_) (a' := ?_) #[true, true, true, true, true, true, true, true, true, true, true, true, false, false, false] rfl rfl (by kernel_rfl) (fun _ _ _ h => h) (Or.inl ⟨by rfl, ?_⟩) ?_ ?_
    rotate_left
    · intro w'
      go_simp
      with_reducible rfl
    rotate_left
    · simp only [Act.put, List.setIfInBounds_toArray, List.set_cons_zero, List.set_cons_succ]
      rfl
    refine one_ (i := 12) (N := none) #[true, true, true, true, true, true, true, true, true, true, true, true, true, false, false] rfl rfl (by kernel_rfl) (by decide) (fun K_ hK_ => ?_)
    clear hHeld
    have k0_ : w4.cell? ⟨gy, 0, none⟩ = some (.int .i64 0) := (blk_cell HY.out 0).trans rfl
    have kf0_ := blk_frozen HY.out 0
    have k1_ : w4.cell? ⟨gy, 1, none⟩ = some (.int .i64 0) := (blk_cell HY.out 1).trans rfl
    have kf1_ := blk_frozen HY.out 1
    have k2_ : w4.cell? ⟨gy, 2, none⟩ = some (.int .i64 0) := (blk_cell HY.out 2).trans rfl
    have kf2_ := blk_frozen HY.out 2
    have k3_ : w4.cell? ⟨gy, 3, none⟩ = some (.slice none 0 0) := (blk_cell HY.out 3).trans rfl
    have kf3_ := blk_frozen HY.out 3
    refine skip_ (w1 := ((((w4.setCell ⟨gy, 0, none⟩ (.int .i64 0)).setCell ⟨gy, 1, none⟩ (.int .i64 0)).setCell ⟨gy, 2, none⟩ (.int .i64 0)).setCell ⟨gy, 3, none⟩ (.slice A3 0 c3))) (by rfl) rfl (by first | (go_simp; done) | (go_simp; rfl)) ?_
    have hfs_ := four_sets (y0 := .int .i64 0) (y1 := .int .i64 0) (y2 := .int .i64 0) (y3 := .slice A3 0 c3) HY.out
    have hbn_ : Below W0.heap.size W0 ((((w4.setCell ⟨gy, 0, none⟩ (.int .i64 0)).setCell ⟨gy, 1, none⟩ (.int .i64 0)).setCell ⟨gy, 2, none⟩ (.int .i64 0)).setCell ⟨gy, 3, none⟩ (.slice A3 0 c3)) := hfs_.2.under HB.out (fun k hk => by rw [show k = gy from hk]; exact HYG.out)
    have hx5_ := hfs_.1
    have hf5_ := Kd.F_step HF.out (fun k hk hlt => hfs_.2.block k hlt (fun e => hk.2 e))
    clear k0_ k1_ k2_ k3_ kf0_ kf1_ kf2_ kf3_ hfs_
    obtain ⟨w5, hw5_⟩ : ∃ W_ : World, W_ = ((((w4.setCell ⟨gy, 0, none⟩ (.int .i64 0)).setCell ⟨gy, 1, none⟩ (.int .i64 0)).setCell ⟨gy, 2, none⟩ (.int .i64 0)).setCell ⟨gy, 3, none⟩ (.slice A3 0 c3)) := ⟨_, rfl⟩
    rw [← hw5_] at hx5_ hf5_ hbn_ ⊢
    clear hw5_ HY HF HB
    have HX5 := Aside0.mk hx5_
    have HF5 := Aside0.mk hf5_
    clear hx5_ hf5_
    refine hK_.out _ _ (hbn_) (fun hHeld => ?_)
    clear hK_
    refine pure_ (i := 13) (N := some 5) (v := ?_) (a' := ?_) #[true, true, true, true, true, true, true, true, true, true, true, true, true, true, false] rfl rfl (by kernel_rfl) (fun _ _ _ h => h) (Or.inl ⟨by rfl, ?_⟩) ?_ ?_
    rotate_left
    · intro w'
      go_simp
      with_reducible rfl
    rotate_left
    · simp only [Act.put, List.setIfInBounds_toArray, List.set_cons_zero, List.set_cons_succ]
      rfl
    refine pure_ (i := 14) (N := some 6) (v := ?_) (a' := ?_) #[true, true, true, true, true, true, true, true, true, true, true, true, true, true, true] rfl rfl (by kernel_rfl) (fun _ _ _ h => h) (Or.inl ⟨by rfl, ?_⟩) ?_ ?_
    rotate_left
    · intro w'
      go_simp
      with_reducible rfl
    rotate_left
    · simp only [Act.put, List.setIfInBounds_toArray, List.set_cons_zero, List.set_cons_succ]
      rfl
    refine done_ (by kernel_rfl) ?_
    have HB5 := Aside0.mk hHeld
    clear hHeld
    have HI5 := Aside0.mk (HI0.out.below HB5.out)
    have HZ5 := Aside0.mk (blk_below HZ0.out HB5.out)
    have HS5 := Aside0.mk (below_step HB0.out HB5.out)
    have HGY : Aside0 (gy ≠ g ∧ gy ≠ gz) := ⟨by have h1 := blk_lt HH0.out.1; have h2 := below_size HB0.out; have h3 := HYG.out; have h4 := blk_lt HZ0.out; omega⟩
    have HKW := Aside0.mk (Keeps.of_below HS5.out (FootT g (.slice A B.length c)))
    have HIW := Aside0.mk (HI5.out)
    have HFW := Aside0.mk (HF5.out)
    have x0_ : w5.cell? ⟨gy, 0, none⟩ = some (.int .i64 0) := (blk_cell (HX5.out) 0).trans rfl
    have x1_ : w5.cell? ⟨gy, 1, none⟩ = some (.int .i64 0) := (blk_cell (HX5.out) 1).trans rfl
    have x2_ : w5.cell? ⟨gy, 2, none⟩ = some (.int .i64 0) := (blk_cell (HX5.out) 2).trans rfl
    have x3_ : w5.cell? ⟨gy, 3, none⟩ = some (.slice A3 0 c3) := (blk_cell (HX5.out) 3).trans rfl
    have z0_ : w5.cell? ⟨gz, 0, none⟩ = some (.int .i64 0) := (blk_cell (HZ5.out) 0).trans rfl
    have y0_ := blk_frozen (HZ5.out) 0
    have z1_ : w5.cell? ⟨gz, 1, none⟩ = some (.int .i64 0) := (blk_cell (HZ5.out) 1).trans rfl
    have y1_ := blk_frozen (HZ5.out) 1
    have z2_ : w5.cell? ⟨gz, 2, none⟩ = some (.int .i64 0) := (blk_cell (HZ5.out) 2).trans rfl
    have y2_ := blk_frozen (HZ5.out) 2
    have z3_ : w5.cell? ⟨gz, 3, none⟩ = some (.slice none 0 0) := (blk_cell (HZ5.out) 3).trans rfl
    have y3_ := blk_frozen (HZ5.out) 3
    have HFS := Aside0.mk (four_sets (y0 := .int .i64 0) (y1 := .int .i64 0) (y2 := .int .i64 0) (y3 := .slice A3 0 c3) (HZ5.out))
    go_wp2_with fail
    refine bodyPost_ret (results_ct rfl _ _ gz 67 _ (0, 0) _ rfl HFS.out.1 Try.underlying67 rfl sz67c) rfl ?_
    refine ⟨A3, c3, rfl, hc3, Kd.F_mono (Kd.F_bound (Kd.F_step HFW.out (fun k hk hlt => HFS.out.2.block k hlt (fun e => by have h1 := blk_lt HZ0.out; have h2 := hk.1; have h3 : k = gz := e; omega)))) (fun k hk => ⟨by have h1 := below_size HB0.out; have h2 := hk.1.1; omega, hk.2⟩), HIW.out.keeps HFS.out.2 (fun k hk e => ?_), HKW.out.then_ HFS.out.2 (fun i hi => .inr (by have h1 : i = gz := hi; have h2 := HGZ.out; omega))⟩
    rcases hk with h1 | h1
    · exact hgz (h1.symm.trans e)
    · have h2 := HH0.out.2.1.lt k h1; have h3 := HGZ.out; have h4 : k = gz := e; omega
set_option maxHeartbeats 8000000 in
set_option maxRecDepth 100000 in
theorem r13_Next.full (h : IsR w g most v B T 0) (hT : T = (t : Int)) (htb : t ≤ 1000000) (hby : Bytes B) (h24 : 24 ≤ B.length) (hl : B.length ≤ 140737488350000) (ht : IntakePure.Told B most t) (hnx : nx (B.drop (at_ B most t)) most = (0, 0, 0, [], 0, 4)) : Calls Try.prog 71 #[.pointer (some ⟨g, 0, none⟩)] w fun e w' => ∃ A3 c3, e = .returned (.tuple #[.agg #[.int .i64 0, .int .i64 0, .int .i64 0, .slice A3 ([] : List Int).length c3], .int .i64 4]) ∧ ([] : List Int).length ≤ c3 ∧ Kd.F (Kd.int .u8) w' (fun k => w.heap.size ≤ k ∧ k < w'.heap.size) A3 ([] : List Int).length [] ∧ IsR w' g most v B (t : Int) 4 ∧ Keeps w w' (FootT g v) := by
  have hu67 := Try.underlying67
  subst hT
  obtain ⟨A, c, rfl, hc, hC⟩ := h.reads
  have HB0 := Aside0.mk (below_alloc (Below.refl w.heap.size w) (.cells #[.int .i64 0, .int .i64 0, .int .i64 0, .slice none 0 0] 67))
  have HI0 := Aside0.mk (h.below HB0.out)
  have HZ0 := Aside0.mk (blk_new w (.cells #[.int .i64 0, .int .i64 0, .int .i64 0, .slice none 0 0] 67))
  have hgz : g ≠ w.heap.size := by have := blk_lt h.1; omega
  have hcell : (w.alloc (.cells #[.int .i64 0, .int .i64 0, .int .i64 0, .slice none 0 0] 67)).cell? ⟨g, 3, none⟩ = some (.int .i64 0) := (blk_cell HI0.out.1 3).trans rfl
  have hcell2 : (w.alloc (.cells #[.int .i64 0, .int .i64 0, .int .i64 0, .slice none 0 0] 67)).cell? ⟨g, 1, none⟩ = some (.slice A B.length c) := (blk_cell HI0.out.1 1).trans rfl
  have b24 : decide ((B.length : Int) < 24) = false := decide_eq_false (by omega)
  have HNX : Aside0 (gantletref02_Next.f (B.drop (at_ B most t)) most = some (0, 0, 0, [], 0, 4)) := ⟨by rw [rnextE _ _ (hby.drop _) (by rw [List.length_drop]; omega), hnx]⟩
  have HL := Aside0.mk hl
  have HH0 := Aside0.mk h
  have HT := Aside0.mk ht
  clear h hC hnx hl ht
  go_enter Try.func71, Try.ntmps71
  go_wp2_with fail
  clear hcell hcell2 b24
  obtain ⟨gz, hgz_⟩ : ∃ q_, w.heap.size = q_ := ⟨_, rfl⟩
  rw [hgz_] at HZ0 hgz ⊢
  have HGZ := Aside0.mk hgz_
  clear hgz_
  obtain ⟨W0, hW0⟩ : ∃ W_ : World, W_ = w.alloc (.cells #[.int .i64 0, .int .i64 0, .int .i64 0, .slice none 0 0] 67) := ⟨_, rfl⟩
  rw [← hW0] at HB0 HI0 HZ0 ⊢
  clear hW0
  refine start_ (n := 15) (S := fun w' => Below W0.heap.size W0 w') (ds := []) #[false, false, false, false, false, false, false, false, false, false, false, false, false, false, false] (by kernel_rfl) rfl rfl (below_drew1 (Below.refl _ _)) (fun hHeld => ?_)
  refine pure_ (i := 0) (N := some 25) (v := ?_) (a' := ?_) #[true, false, false, false, false, false, false, false, false, false, false, false, false, false, false] rfl rfl (by kernel_rfl) (fun _ _ _ h => h) (Or.inl ⟨by rfl, ?_⟩) ?_ ?_
  rotate_left
  · intro w'
    go_simp
    with_reducible rfl
  rotate_left
  · simp only [Act.put, List.setIfInBounds_toArray, List.set_cons_zero, List.set_cons_succ]
    rfl
  refine pure_ (i := 2) (N := some 27) (v := ?_) (a' := ?_) #[true, false, true, false, false, false, false, false, false, false, false, false, false, false, false] rfl rfl (by kernel_rfl) (fun _ _ _ h => h) (Or.inl ⟨by rfl, ?_⟩) ?_ ?_
  rotate_left
  · intro w'
    go_simp
    with_reducible rfl
  rotate_left
  · simp only [Act.put, List.setIfInBounds_toArray, List.set_cons_zero, List.set_cons_succ]
    rfl
  refine pure_ (i := 3) (N := some 28) (v := ?_) (a' := ?_) #[true, false, true, true, false, false, false, false, false, false, false, false, false, false, false] rfl rfl (by kernel_rfl) (fun _ _ _ h => h) (Or.inl ⟨by rfl, ?_⟩) ?_ ?_
  rotate_left
  · intro w'
    go_simp
    with_reducible rfl
  rotate_left
  · simp only [Act.put, List.setIfInBounds_toArray, List.set_cons_zero, List.set_cons_succ]
    rfl
  refine pure_ (i := 4) (N := some 29) (v := ?_) (a' := ?_) #[true, false, true, true, true, false, false, false, false, false, false, false, false, false, false] rfl rfl (by kernel_rfl) (fun _ _ _ h => h) (Or.inl ⟨by rfl, ?_⟩) ?_ ?_
  rotate_left
  · intro w'
    go_simp
    with_reducible rfl
  rotate_left
  · simp only [Act.put, List.setIfInBounds_toArray, List.set_cons_zero, List.set_cons_succ]
    rfl
  refine take_ (i := 5) (N := some 30) (v := ?_) (a' := ?_) #[true, false, true, true, true, true, false, false, false, false, false, false, false, false, false] rfl rfl (by kernel_rfl) (fun _ _ _ h => h) (Or.inl ⟨by rfl, ?_⟩) hHeld ?_ ?_
  rotate_left
  · intro w' hS_
    have q0_ : w'.cell? ⟨g, 0, none⟩ = some (.int .i64 most) := (blk_cell (blk_below HI0.out.1 hS_) 0).trans rfl
    have q1_ : w'.cell? ⟨g, 1, none⟩ = some (.slice A B.length c) := (blk_cell (blk_below HI0.out.1 hS_) 1).trans rfl
    have q2_ : w'.cell? ⟨g, 2, none⟩ = some (.int .i64 (t : Int)) := (blk_cell (blk_below HI0.out.1 hS_) 2).trans rfl
    have q3_ : w'.cell? ⟨g, 3, none⟩ = some (.int .i64 0) := (blk_cell (blk_below HI0.out.1 hS_) 3).trans rfl
    go_simp
    with_reducible rfl
  rotate_left
  · simp only [Act.put, List.setIfInBounds_toArray, List.set_cons_zero, List.set_cons_succ]
    rfl
  refine two_ (i := 1) (j := 11) (Ni := some 26) (Nj := some 4) #[true, true, true, true, true, true, false, false, false, false, false, false, false, false, false] #[true, false, true, true, true, true, false, false, false, false, false, true, false, false, false] rfl rfl rfl rfl (by kernel_rfl) (by decide) (by decide) (fun K_ hK_ => ?_) (fun K_ hK_ => ?_)
  · skip
    have HH_ := Aside0.mk hHeld
    clear hHeld
    refine goes_ Try.func97 (by kernel_rfl) rfl #[.pointer (some ⟨g, 0, none⟩)] (by rfl) rfl rfl (by (try simp only [List.map_toArray, List.map_cons, List.map_nil]); first | done | rfl | (simp only [List.length_drop, List.length_take]; rfl)) ?_
    refine (r13_rest.is (HI0.out.below HH_.out) rfl htb hby h24 HL.out HT.out).mono ?_
    rintro e_ w2 ⟨Aq, cq, rfl, hcq, hQ_, hbe_⟩
    refine ⟨_, rfl, ?_⟩
    have HQ := Aside0.mk hQ_
    clear hQ_
    have hbn_ := below_step HH_.out hbe_
    have HB := Aside0.mk hbn_
    clear HH_ hbe_
    refine hK_.out _ _ (hbn_) (fun hHeld => ?_)
    clear hK_
    refine norm_ (a' := ?_) ?_ ?_
    rotate_left
    · simp only [Act.put, List.setIfInBounds_toArray, List.set_cons_zero, List.set_cons_succ]
      rfl
    refine two_ (i := 6) (j := 11) (Ni := some 31) (Nj := some 4) #[true, true, true, true, true, true, true, false, false, false, false, false, false, false, false] #[true, true, true, true, true, true, false, false, false, false, false, true, false, false, false] rfl rfl rfl rfl (by kernel_rfl) (by decide) (by decide) (fun K_ hK_ => ?_) (fun K_ hK_ => ?_)
    · skip
      have HH_ := Aside0.mk hHeld
      clear hHeld
      refine goes_ Try.func81 (by kernel_rfl) rfl #[.slice Aq (B.drop (at_ B most t)).length cq, .int .i64 most] (by rfl) rfl rfl (by (try simp only [List.map_toArray, List.map_cons, List.map_nil]); first | done | rfl | (simp only [List.length_drop, List.length_take]; rfl)) ?_
      refine (gantletref02_Next.calls Aq cq (B.drop (at_ B most t)) most (0) (0) (0) ([]) (0) (4) _ HQ.out hcq HNX.out).mono ?_
      rintro e_ w3 ⟨v3, rfl, hR_, hbe_⟩
      refine ⟨_, rfl, ?_⟩
      obtain ⟨A3, c3, rfl, hc3, hC3_⟩ := Kd.R_reads hR_
      have HF_ := Aside0.mk (Kd.R_F (Kd.R_mono (ok' := fun k => W0.heap.size ≤ k ∧ k < w3.heap.size) (Kd.R_bound hR_) (fun k hk => ⟨Nat.le_trans (below_size HH_.out) hk.2.1, hk.2.2.1⟩)))
      have hHQ_ := Kd.C_below HQ.out hbe_
      have HQ_ := Aside0.mk hHQ_
      clear HQ hHQ_
      have HQ := HQ_
      clear HQ_
      have HF := HF_
      clear HF_ hR_ hC3_
      have hbn_ := below_step HH_.out hbe_
      have HB := Aside0.mk hbn_
      clear HH_ hbe_
      refine hK_.out _ _ (hbn_) (fun hHeld => ?_)
      clear hK_
      refine norm_ (a' := ?_) ?_ ?_
      rotate_left
      · simp only [Act.put, List.setIfInBounds_toArray, List.set_cons_zero, List.set_cons_succ]
        rfl
      refine pure_ (i := 7) (N := some 24) (v := ?_) (a' := ?_) #[true, true, true, true, true, true, true, true, false, false, false, false, false, false, false] rfl rfl (by kernel_rfl) (fun _ _ _ h => h) (Or.inl ⟨by rfl, ?_⟩) ?_ ?_
      rotate_left
      · intro w'
        go_simp
        with_reducible rfl
      rotate_left
      · simp only [Act.put, List.setIfInBounds_toArray, List.set_cons_zero, List.set_cons_succ]
        rfl
      refine pure_ (i := 8) (N := some 32) (v := ?_) (a' := ?_) #[true, true, true, true, true, true, true, true, true, false, false, false, false, false, false] rfl rfl (by kernel_rfl) (fun _ _ _ h => h) (Or.inl ⟨by rfl, ?_⟩) ?_ ?_
      rotate_left
      · intro w'
        go_simp
        with_reducible rfl
      rotate_left
      · simp only [Act.put, List.setIfInBounds_toArray, List.set_cons_zero, List.set_cons_succ]
        rfl
      refine pure_ (i := 9) (N := some 33) (v := ?_) (a' := ?_) #[true, true, true, true, true, true, true, true, true, true, false, false, false, false, false] rfl rfl (by kernel_rfl) (fun _ _ _ h => h) (Or.inl ⟨by rfl, ?_⟩) ?_ ?_
      rotate_left
      · intro w'
        go_simp
        with_reducible rfl
      rotate_left
      · simp only [Act.put, List.setIfInBounds_toArray, List.set_cons_zero, List.set_cons_succ]
        rfl
      refine pure_ (i := 10) (N := some 34) (v := ?_) (a' := ?_) #[true, true, true, true, true, true, true, true, true, true, true, false, false, false, false] rfl rfl (by kernel_rfl) (fun _ _ _ h => h) (Or.inl ⟨by rfl, ?_⟩) ?_ ?_
      rotate_left
      · intro w'
        go_simp
        with_reducible rfl
      rotate_left
      · simp only [Act.put, List.setIfInBounds_toArray, List.set_cons_zero, List.set_cons_succ]
        rfl
      refine one_ (i := 11) (N := some 4) #[true, true, true, true, true, true, true, true, true, true, true, true, false, false, false] rfl rfl (by kernel_rfl) (by decide) (fun K_ hK_ => ?_)
      refine value_ (w1 := w3.alloc (.cells #[.int .i64 0, .int .i64 0, .int .i64 0, .slice none 0 0] 67)) (by rfl) rfl (by go_simp; rfl) ?_
      have hy_ := blk_new w3 (.cells #[.int .i64 0, .int .i64 0, .int .i64 0, .slice none 0 0] 67)
      have hby_ := below_alloc (Below.refl w3.heap.size w3) (.cells #[.int .i64 0, .int .i64 0, .int .i64 0, .slice none 0 0] 67)
      have hbn_ := below_step hHeld hby_
      have hHQ_ := Kd.C_below HQ.out hby_
      have hHF_ := Kd.F_mono (ok' := fun k => W0.heap.size ≤ k ∧ k ≠ w3.heap.size) (Kd.F_below HF.out hby_) (fun k hk => ⟨hk.1, by have := hk.2; omega⟩)
      obtain ⟨gy, hgy_⟩ : ∃ q_, w3.heap.size = q_ := ⟨_, rfl⟩
      have HYG : Aside0 (W0.heap.size ≤ gy) := ⟨by have := below_size hHeld; omega⟩
      obtain ⟨w4, hw4_⟩ : ∃ W_ : World, W_ = w3.alloc (.cells #[.int .i64 0, .int .i64 0, .int .i64 0, .slice none 0 0] 67) := ⟨_, rfl⟩
      rw [← hw4_] at hy_ hbn_ hHQ_ hHF_ ⊢
      rw [hgy_] at hy_ hHF_ ⊢
      clear hw4_ hgy_ hby_ hHeld
      have HY := Aside0.mk hy_
      clear hy_
      have HB := Aside0.mk hbn_
      clear HQ
      have HQ := Aside0.mk hHQ_
      clear hHQ_
      clear HF
      have HF := Aside0.mk hHF_
      clear hHF_
      skip
      refine hK_.out _ _ (hbn_) (fun hHeld => ?_)
      clear hK_
      refine norm_ (a' := ?_) ?_ ?_
      rotate_left
      · simp only [Act.put, List.setIfInBounds_toArray, List.set_cons_zero, List.set_cons_succ]
        rfl
      refine one_ (i := 12) (N := none) #[true, true, true, true, true, true, true, true, true, true, true, true, true, false, false] rfl rfl (by kernel_rfl) (by decide) (fun K_ hK_ => ?_)
      clear hHeld
      have k0_ : w4.cell? ⟨gy, 0, none⟩ = some (.int .i64 0) := (blk_cell HY.out 0).trans rfl
      have kf0_ := blk_frozen HY.out 0
      have k1_ : w4.cell? ⟨gy, 1, none⟩ = some (.int .i64 0) := (blk_cell HY.out 1).trans rfl
      have kf1_ := blk_frozen HY.out 1
      have k2_ : w4.cell? ⟨gy, 2, none⟩ = some (.int .i64 0) := (blk_cell HY.out 2).trans rfl
      have kf2_ := blk_frozen HY.out 2
      have k3_ : w4.cell? ⟨gy, 3, none⟩ = some (.slice none 0 0) := (blk_cell HY.out 3).trans rfl
      have kf3_ := blk_frozen HY.out 3
      refine skip_ (w1 := ((((w4.setCell ⟨gy, 0, none⟩ (.int .i64 0)).setCell ⟨gy, 1, none⟩ (.int .i64 0)).setCell ⟨gy, 2, none⟩ (.int .i64 0)).setCell ⟨gy, 3, none⟩ (.slice A3 0 c3))) (by rfl) rfl (by first | (go_simp; done) | (go_simp; rfl)) ?_
      have hfs_ := four_sets (y0 := .int .i64 0) (y1 := .int .i64 0) (y2 := .int .i64 0) (y3 := .slice A3 0 c3) HY.out
      have hbn_ : Below W0.heap.size W0 ((((w4.setCell ⟨gy, 0, none⟩ (.int .i64 0)).setCell ⟨gy, 1, none⟩ (.int .i64 0)).setCell ⟨gy, 2, none⟩ (.int .i64 0)).setCell ⟨gy, 3, none⟩ (.slice A3 0 c3)) := hfs_.2.under HB.out (fun k hk => by rw [show k = gy from hk]; exact HYG.out)
      have hx5_ := hfs_.1
      have hf5_ := Kd.F_step HF.out (fun k hk hlt => hfs_.2.block k hlt (fun e => hk.2 e))
      clear k0_ k1_ k2_ k3_ kf0_ kf1_ kf2_ kf3_ hfs_
      obtain ⟨w5, hw5_⟩ : ∃ W_ : World, W_ = ((((w4.setCell ⟨gy, 0, none⟩ (.int .i64 0)).setCell ⟨gy, 1, none⟩ (.int .i64 0)).setCell ⟨gy, 2, none⟩ (.int .i64 0)).setCell ⟨gy, 3, none⟩ (.slice A3 0 c3)) := ⟨_, rfl⟩
      rw [← hw5_] at hx5_ hf5_ hbn_ ⊢
      clear hw5_ HY HF HB
      have HX5 := Aside0.mk hx5_
      have HF5 := Aside0.mk hf5_
      clear hx5_ hf5_
      refine hK_.out _ _ (hbn_) (fun hHeld => ?_)
      clear hK_
      refine pure_ (i := 13) (N := some 5) (v := ?_) (a' := ?_) #[true, true, true, true, true, true, true, true, true, true, true, true, true, true, false] rfl rfl (by kernel_rfl) (fun _ _ _ h => h) (Or.inl ⟨by rfl, ?_⟩) ?_ ?_
      rotate_left
      · intro w'
        go_simp
        with_reducible rfl
      rotate_left
      · simp only [Act.put, List.setIfInBounds_toArray, List.set_cons_zero, List.set_cons_succ]
        rfl
      refine pure_ (i := 14) (N := some 6) (v := ?_) (a' := ?_) #[true, true, true, true, true, true, true, true, true, true, true, true, true, true, true] rfl rfl (by kernel_rfl) (fun _ _ _ h => h) (Or.inl ⟨by rfl, ?_⟩) ?_ ?_
      rotate_left
      · intro w'
        go_simp
        with_reducible rfl
      rotate_left
      · simp only [Act.put, List.setIfInBounds_toArray, List.set_cons_zero, List.set_cons_succ]
        rfl
      refine done_ (by kernel_rfl) ?_
      have HB5 := Aside0.mk hHeld
      clear hHeld
      have HI5 := Aside0.mk (HI0.out.below HB5.out)
      have HZ5 := Aside0.mk (blk_below HZ0.out HB5.out)
      have HS5 := Aside0.mk (below_step HB0.out HB5.out)
      have HGY : Aside0 (gy ≠ g ∧ gy ≠ gz) := ⟨by have h1 := blk_lt HH0.out.1; have h2 := below_size HB0.out; have h3 := HYG.out; have h4 := blk_lt HZ0.out; omega⟩
      have q3_ : w5.cell? ⟨g, 3, none⟩ = some (.int .i64 0) := (blk_cell HI5.out.1 3).trans rfl
      have f3_ := blk_frozen HI5.out.1 3
      have HKW := Aside0.mk ((Keeps.of_below HS5.out (FootT g (.slice A B.length c))).set (.inl (.inl rfl)) 3 (.int .i64 4))
      have HIW := Aside0.mk (HI5.out.set3 4)
      have HFW := Aside0.mk (Kd.F_far (p := ⟨g, 3, none⟩) HF5.out (fun k hk e => by have h1 := blk_lt HH0.out.1; have h2 := below_size HB0.out; have h3 := hk.1; have h4 : k = g := e; omega) (.int .i64 4))
      have x0_ : (w5.setCell ⟨g, 3, none⟩ (.int .i64 4)).cell? ⟨gy, 0, none⟩ = some (.int .i64 0) := (blk_cell (blk_far HX5.out (p := ⟨g, 3, none⟩) (fun e => HGY.out.1 e) (.int .i64 4)) 0).trans rfl
      have x1_ : (w5.setCell ⟨g, 3, none⟩ (.int .i64 4)).cell? ⟨gy, 1, none⟩ = some (.int .i64 0) := (blk_cell (blk_far HX5.out (p := ⟨g, 3, none⟩) (fun e => HGY.out.1 e) (.int .i64 4)) 1).trans rfl
      have x2_ : (w5.setCell ⟨g, 3, none⟩ (.int .i64 4)).cell? ⟨gy, 2, none⟩ = some (.int .i64 0) := (blk_cell (blk_far HX5.out (p := ⟨g, 3, none⟩) (fun e => HGY.out.1 e) (.int .i64 4)) 2).trans rfl
      have x3_ : (w5.setCell ⟨g, 3, none⟩ (.int .i64 4)).cell? ⟨gy, 3, none⟩ = some (.slice A3 0 c3) := (blk_cell (blk_far HX5.out (p := ⟨g, 3, none⟩) (fun e => HGY.out.1 e) (.int .i64 4)) 3).trans rfl
      have z0_ : (w5.setCell ⟨g, 3, none⟩ (.int .i64 4)).cell? ⟨gz, 0, none⟩ = some (.int .i64 0) := (blk_cell (blk_far HZ5.out (p := ⟨g, 3, none⟩) (fun e => hgz e.symm) (.int .i64 4)) 0).trans rfl
      have y0_ := blk_frozen (blk_far HZ5.out (p := ⟨g, 3, none⟩) (fun e => hgz e.symm) (.int .i64 4)) 0
      have z1_ : (w5.setCell ⟨g, 3, none⟩ (.int .i64 4)).cell? ⟨gz, 1, none⟩ = some (.int .i64 0) := (blk_cell (blk_far HZ5.out (p := ⟨g, 3, none⟩) (fun e => hgz e.symm) (.int .i64 4)) 1).trans rfl
      have y1_ := blk_frozen (blk_far HZ5.out (p := ⟨g, 3, none⟩) (fun e => hgz e.symm) (.int .i64 4)) 1
      have z2_ : (w5.setCell ⟨g, 3, none⟩ (.int .i64 4)).cell? ⟨gz, 2, none⟩ = some (.int .i64 0) := (blk_cell (blk_far HZ5.out (p := ⟨g, 3, none⟩) (fun e => hgz e.symm) (.int .i64 4)) 2).trans rfl
      have y2_ := blk_frozen (blk_far HZ5.out (p := ⟨g, 3, none⟩) (fun e => hgz e.symm) (.int .i64 4)) 2
      have z3_ : (w5.setCell ⟨g, 3, none⟩ (.int .i64 4)).cell? ⟨gz, 3, none⟩ = some (.slice none 0 0) := (blk_cell (blk_far HZ5.out (p := ⟨g, 3, none⟩) (fun e => hgz e.symm) (.int .i64 4)) 3).trans rfl
      have y3_ := blk_frozen (blk_far HZ5.out (p := ⟨g, 3, none⟩) (fun e => hgz e.symm) (.int .i64 4)) 3
      have HFS := Aside0.mk (four_sets (y0 := .int .i64 0) (y1 := .int .i64 0) (y2 := .int .i64 0) (y3 := .slice A3 0 c3) (blk_far HZ5.out (p := ⟨g, 3, none⟩) (fun e => hgz e.symm) (.int .i64 4)))
      go_wp2_with fail
      refine bodyPost_ret (results_ct rfl _ _ gz 67 _ (0, 0) _ rfl HFS.out.1 Try.underlying67 rfl sz67c) rfl ?_
      refine ⟨A3, c3, rfl, hc3, Kd.F_mono (Kd.F_bound (Kd.F_step HFW.out (fun k hk hlt => HFS.out.2.block k hlt (fun e => by have h1 := blk_lt HZ0.out; have h2 := hk.1; have h3 : k = gz := e; omega)))) (fun k hk => ⟨by have h1 := below_size HB0.out; have h2 := hk.1.1; omega, hk.2⟩), HIW.out.keeps HFS.out.2 (fun k hk e => ?_), HKW.out.then_ HFS.out.2 (fun i hi => .inr (by have h1 : i = gz := hi; have h2 := HGZ.out; omega))⟩
      rcases hk with h1 | h1
      · exact hgz (h1.symm.trans e)
      · have h2 := HH0.out.2.1.lt k h1; have h3 := HGZ.out; have h4 : k = gz := e; omega
    · skip
      refine value_ (w1 := w2.alloc (.cells #[.int .i64 0, .int .i64 0, .int .i64 0, .slice none 0 0] 67)) (by rfl) rfl (by go_simp; rfl) ?_
      have hy_ := blk_new w2 (.cells #[.int .i64 0, .int .i64 0, .int .i64 0, .slice none 0 0] 67)
      have hby_ := below_alloc (Below.refl w2.heap.size w2) (.cells #[.int .i64 0, .int .i64 0, .int .i64 0, .slice none 0 0] 67)
      have hbn_ := below_step hHeld hby_
      have hHQ_ := Kd.C_below HQ.out hby_
      obtain ⟨gy, hgy_⟩ : ∃ q_, w2.heap.size = q_ := ⟨_, rfl⟩
      have HYG : Aside0 (W0.heap.size ≤ gy) := ⟨by have := below_size hHeld; omega⟩
      obtain ⟨w3, hw4_⟩ : ∃ W_ : World, W_ = w2.alloc (.cells #[.int .i64 0, .int .i64 0, .int .i64 0, .slice none 0 0] 67) := ⟨_, rfl⟩
      rw [← hw4_] at hy_ hbn_ hHQ_ ⊢
      rw [hgy_] at hy_ ⊢
      clear hw4_ hgy_ hby_ hHeld
      have HY := Aside0.mk hy_
      clear hy_
      have HB := Aside0.mk hbn_
      clear HQ
      have HQ := Aside0.mk hHQ_
      clear hHQ_
      skip
      refine hK_.out _ _ (hbn_) (fun hHeld => ?_)
      clear hK_
      refine norm_ (a' := ?_) ?_ ?_
      rotate_left
      · simp only [Act.put, List.setIfInBounds_toArray, List.set_cons_zero, List.set_cons_succ]
        rfl
      refine one_ (i := 6) (N := some 31) #[true, true, true, true, true, true, true, false, false, false, false, true, false, false, false] rfl rfl (by kernel_rfl) (by decide) (fun K_ hK_ => ?_)
      have HH_ := Aside0.mk hHeld
      clear hHeld
      refine goes_ Try.func81 (by kernel_rfl) rfl #[.slice Aq (B.drop (at_ B most t)).length cq, .int .i64 most] (by rfl) rfl rfl (by (try simp only [List.map_toArray, List.map_cons, List.map_nil]); first | done | rfl | (simp only [List.length_drop, List.length_take]; rfl)) ?_
      refine (gantletref02_Next.calls Aq cq (B.drop (at_ B most t)) most (0) (0) (0) ([]) (0) (4) _ HQ.out hcq HNX.out).mono ?_
      rintro e_ w4 ⟨v3, rfl, hR_, hbe_⟩
      refine ⟨_, rfl, ?_⟩
      obtain ⟨A3, c3, rfl, hc3, hC3_⟩ := Kd.R_reads hR_
      have HF_ := Aside0.mk (Kd.R_F (Kd.R_mono (ok' := fun k => W0.heap.size ≤ k ∧ k ≠ gy) (Kd.R_bound hR_) (fun k hk => ⟨Nat.le_trans (below_size HH_.out) hk.2.1, fun e => by have := blk_lt HY.out; have := hk.2.1; omega⟩)))
      have hHY_ := blk_below HY.out hbe_
      have HY_ := Aside0.mk hHY_
      clear HY hHY_
      have HY := HY_
      clear HY_
      have hHQ_ := Kd.C_below HQ.out hbe_
      have HQ_ := Aside0.mk hHQ_
      clear HQ hHQ_
      have HQ := HQ_
      clear HQ_
      have HF := HF_
      clear HF_ hR_ hC3_
      have hbn_ := below_step HH_.out hbe_
      have HB := Aside0.mk hbn_
      clear HH_ hbe_
      refine hK_.out _ _ (hbn_) (fun hHeld => ?_)
      clear hK_
      refine norm_ (a' := ?_) ?_ ?_
      rotate_left
      · simp only [Act.put, List.setIfInBounds_toArray, List.set_cons_zero, List.set_cons_succ]
        rfl
      refine pure_ (i := 7) (N := some 24) (v := ?_) (a' := ?_) #[true, true, true, true, true, true, true, true, false, false, false, true, false, false, false] rfl rfl (by kernel_rfl) (fun _ _ _ h => h) (Or.inl ⟨by rfl, ?_⟩) ?_ ?_
      rotate_left
      · intro w'
        go_simp
        with_reducible rfl
      rotate_left
      · simp only [Act.put, List.setIfInBounds_toArray, List.set_cons_zero, List.set_cons_succ]
        rfl
      refine pure_ (i := 8) (N := some 32) (v := ?_) (a' := ?_) #[true, true, true, true, true, true, true, true, true, false, false, true, false, false, false] rfl rfl (by kernel_rfl) (fun _ _ _ h => h) (Or.inl ⟨by rfl, ?_⟩) ?_ ?_
      rotate_left
      · intro w'
        go_simp
        with_reducible rfl
      rotate_left
      · simp only [Act.put, List.setIfInBounds_toArray, List.set_cons_zero, List.set_cons_succ]
        rfl
      refine pure_ (i := 9) (N := some 33) (v := ?_) (a' := ?_) #[true, true, true, true, true, true, true, true, true, true, false, true, false, false, false] rfl rfl (by kernel_rfl) (fun _ _ _ h => h) (Or.inl ⟨by rfl, ?_⟩) ?_ ?_
      rotate_left
      · intro w'
        go_simp
        with_reducible rfl
      rotate_left
      · simp only [Act.put, List.setIfInBounds_toArray, List.set_cons_zero, List.set_cons_succ]
        rfl
      refine pure_ (i := 10) (N := some 34) (v := ?_) (a' := ?_) #[true, true, true, true, true, true, true, true, true, true, true, true, false, false, false] rfl rfl (by kernel_rfl) (fun _ _ _ h => h) (Or.inl ⟨by rfl, ?_⟩) ?_ ?_
      rotate_left
      · intro w'
        go_simp
        with_reducible rfl
      rotate_left
      · simp only [Act.put, List.setIfInBounds_toArray, List.set_cons_zero, List.set_cons_succ]
        rfl
      refine one_ (i := 12) (N := none) #[true, true, true, true, true, true, true, true, true, true, true, true, true, false, false] rfl rfl (by kernel_rfl) (by decide) (fun K_ hK_ => ?_)
      clear hHeld
      have k0_ : w4.cell? ⟨gy, 0, none⟩ = some (.int .i64 0) := (blk_cell HY.out 0).trans rfl
      have kf0_ := blk_frozen HY.out 0
      have k1_ : w4.cell? ⟨gy, 1, none⟩ = some (.int .i64 0) := (blk_cell HY.out 1).trans rfl
      have kf1_ := blk_frozen HY.out 1
      have k2_ : w4.cell? ⟨gy, 2, none⟩ = some (.int .i64 0) := (blk_cell HY.out 2).trans rfl
      have kf2_ := blk_frozen HY.out 2
      have k3_ : w4.cell? ⟨gy, 3, none⟩ = some (.slice none 0 0) := (blk_cell HY.out 3).trans rfl
      have kf3_ := blk_frozen HY.out 3
      refine skip_ (w1 := ((((w4.setCell ⟨gy, 0, none⟩ (.int .i64 0)).setCell ⟨gy, 1, none⟩ (.int .i64 0)).setCell ⟨gy, 2, none⟩ (.int .i64 0)).setCell ⟨gy, 3, none⟩ (.slice A3 0 c3))) (by rfl) rfl (by first | (go_simp; done) | (go_simp; rfl)) ?_
      have hfs_ := four_sets (y0 := .int .i64 0) (y1 := .int .i64 0) (y2 := .int .i64 0) (y3 := .slice A3 0 c3) HY.out
      have hbn_ : Below W0.heap.size W0 ((((w4.setCell ⟨gy, 0, none⟩ (.int .i64 0)).setCell ⟨gy, 1, none⟩ (.int .i64 0)).setCell ⟨gy, 2, none⟩ (.int .i64 0)).setCell ⟨gy, 3, none⟩ (.slice A3 0 c3)) := hfs_.2.under HB.out (fun k hk => by rw [show k = gy from hk]; exact HYG.out)
      have hx5_ := hfs_.1
      have hf5_ := Kd.F_step HF.out (fun k hk hlt => hfs_.2.block k hlt (fun e => hk.2 e))
      clear k0_ k1_ k2_ k3_ kf0_ kf1_ kf2_ kf3_ hfs_
      obtain ⟨w5, hw5_⟩ : ∃ W_ : World, W_ = ((((w4.setCell ⟨gy, 0, none⟩ (.int .i64 0)).setCell ⟨gy, 1, none⟩ (.int .i64 0)).setCell ⟨gy, 2, none⟩ (.int .i64 0)).setCell ⟨gy, 3, none⟩ (.slice A3 0 c3)) := ⟨_, rfl⟩
      rw [← hw5_] at hx5_ hf5_ hbn_ ⊢
      clear hw5_ HY HF HB
      have HX5 := Aside0.mk hx5_
      have HF5 := Aside0.mk hf5_
      clear hx5_ hf5_
      refine hK_.out _ _ (hbn_) (fun hHeld => ?_)
      clear hK_
      refine pure_ (i := 13) (N := some 5) (v := ?_) (a' := ?_) #[true, true, true, true, true, true, true, true, true, true, true, true, true, true, false] rfl rfl (by kernel_rfl) (fun _ _ _ h => h) (Or.inl ⟨by rfl, ?_⟩) ?_ ?_
      rotate_left
      · intro w'
        go_simp
        with_reducible rfl
      rotate_left
      · simp only [Act.put, List.setIfInBounds_toArray, List.set_cons_zero, List.set_cons_succ]
        rfl
      refine pure_ (i := 14) (N := some 6) (v := ?_) (a' := ?_) #[true, true, true, true, true, true, true, true, true, true, true, true, true, true, true] rfl rfl (by kernel_rfl) (fun _ _ _ h => h) (Or.inl ⟨by rfl, ?_⟩) ?_ ?_
      rotate_left
      · intro w'
        go_simp
        with_reducible rfl
      rotate_left
      · simp only [Act.put, List.setIfInBounds_toArray, List.set_cons_zero, List.set_cons_succ]
        rfl
      refine done_ (by kernel_rfl) ?_
      have HB5 := Aside0.mk hHeld
      clear hHeld
      have HI5 := Aside0.mk (HI0.out.below HB5.out)
      have HZ5 := Aside0.mk (blk_below HZ0.out HB5.out)
      have HS5 := Aside0.mk (below_step HB0.out HB5.out)
      have HGY : Aside0 (gy ≠ g ∧ gy ≠ gz) := ⟨by have h1 := blk_lt HH0.out.1; have h2 := below_size HB0.out; have h3 := HYG.out; have h4 := blk_lt HZ0.out; omega⟩
      have q3_ : w5.cell? ⟨g, 3, none⟩ = some (.int .i64 0) := (blk_cell HI5.out.1 3).trans rfl
      have f3_ := blk_frozen HI5.out.1 3
      have HKW := Aside0.mk ((Keeps.of_below HS5.out (FootT g (.slice A B.length c))).set (.inl (.inl rfl)) 3 (.int .i64 4))
      have HIW := Aside0.mk (HI5.out.set3 4)
      have HFW := Aside0.mk (Kd.F_far (p := ⟨g, 3, none⟩) HF5.out (fun k hk e => by have h1 := blk_lt HH0.out.1; have h2 := below_size HB0.out; have h3 := hk.1; have h4 : k = g := e; omega) (.int .i64 4))
      have x0_ : (w5.setCell ⟨g, 3, none⟩ (.int .i64 4)).cell? ⟨gy, 0, none⟩ = some (.int .i64 0) := (blk_cell (blk_far HX5.out (p := ⟨g, 3, none⟩) (fun e => HGY.out.1 e) (.int .i64 4)) 0).trans rfl
      have x1_ : (w5.setCell ⟨g, 3, none⟩ (.int .i64 4)).cell? ⟨gy, 1, none⟩ = some (.int .i64 0) := (blk_cell (blk_far HX5.out (p := ⟨g, 3, none⟩) (fun e => HGY.out.1 e) (.int .i64 4)) 1).trans rfl
      have x2_ : (w5.setCell ⟨g, 3, none⟩ (.int .i64 4)).cell? ⟨gy, 2, none⟩ = some (.int .i64 0) := (blk_cell (blk_far HX5.out (p := ⟨g, 3, none⟩) (fun e => HGY.out.1 e) (.int .i64 4)) 2).trans rfl
      have x3_ : (w5.setCell ⟨g, 3, none⟩ (.int .i64 4)).cell? ⟨gy, 3, none⟩ = some (.slice A3 0 c3) := (blk_cell (blk_far HX5.out (p := ⟨g, 3, none⟩) (fun e => HGY.out.1 e) (.int .i64 4)) 3).trans rfl
      have z0_ : (w5.setCell ⟨g, 3, none⟩ (.int .i64 4)).cell? ⟨gz, 0, none⟩ = some (.int .i64 0) := (blk_cell (blk_far HZ5.out (p := ⟨g, 3, none⟩) (fun e => hgz e.symm) (.int .i64 4)) 0).trans rfl
      have y0_ := blk_frozen (blk_far HZ5.out (p := ⟨g, 3, none⟩) (fun e => hgz e.symm) (.int .i64 4)) 0
      have z1_ : (w5.setCell ⟨g, 3, none⟩ (.int .i64 4)).cell? ⟨gz, 1, none⟩ = some (.int .i64 0) := (blk_cell (blk_far HZ5.out (p := ⟨g, 3, none⟩) (fun e => hgz e.symm) (.int .i64 4)) 1).trans rfl
      have y1_ := blk_frozen (blk_far HZ5.out (p := ⟨g, 3, none⟩) (fun e => hgz e.symm) (.int .i64 4)) 1
      have z2_ : (w5.setCell ⟨g, 3, none⟩ (.int .i64 4)).cell? ⟨gz, 2, none⟩ = some (.int .i64 0) := (blk_cell (blk_far HZ5.out (p := ⟨g, 3, none⟩) (fun e => hgz e.symm) (.int .i64 4)) 2).trans rfl
      have y2_ := blk_frozen (blk_far HZ5.out (p := ⟨g, 3, none⟩) (fun e => hgz e.symm) (.int .i64 4)) 2
      have z3_ : (w5.setCell ⟨g, 3, none⟩ (.int .i64 4)).cell? ⟨gz, 3, none⟩ = some (.slice none 0 0) := (blk_cell (blk_far HZ5.out (p := ⟨g, 3, none⟩) (fun e => hgz e.symm) (.int .i64 4)) 3).trans rfl
      have y3_ := blk_frozen (blk_far HZ5.out (p := ⟨g, 3, none⟩) (fun e => hgz e.symm) (.int .i64 4)) 3
      have HFS := Aside0.mk (four_sets (y0 := .int .i64 0) (y1 := .int .i64 0) (y2 := .int .i64 0) (y3 := .slice A3 0 c3) (blk_far HZ5.out (p := ⟨g, 3, none⟩) (fun e => hgz e.symm) (.int .i64 4)))
      go_wp2_with fail
      refine bodyPost_ret (results_ct rfl _ _ gz 67 _ (0, 0) _ rfl HFS.out.1 Try.underlying67 rfl sz67c) rfl ?_
      refine ⟨A3, c3, rfl, hc3, Kd.F_mono (Kd.F_bound (Kd.F_step HFW.out (fun k hk hlt => HFS.out.2.block k hlt (fun e => by have h1 := blk_lt HZ0.out; have h2 := hk.1; have h3 : k = gz := e; omega)))) (fun k hk => ⟨by have h1 := below_size HB0.out; have h2 := hk.1.1; omega, hk.2⟩), HIW.out.keeps HFS.out.2 (fun k hk e => ?_), HKW.out.then_ HFS.out.2 (fun i hi => .inr (by have h1 : i = gz := hi; have h2 := HGZ.out; omega))⟩
      rcases hk with h1 | h1
      · exact hgz (h1.symm.trans e)
      · have h2 := HH0.out.2.1.lt k h1; have h3 := HGZ.out; have h4 : k = gz := e; omega
  · skip
    obtain ⟨wd, hwd_⟩ : ∃ W_ : World, W_ = W0.drew := ⟨_, rfl⟩
    rw [← hwd_] at hHeld ⊢
    clear hwd_
    refine value_ (w1 := wd.alloc (.cells #[.int .i64 0, .int .i64 0, .int .i64 0, .slice none 0 0] 67)) (by rfl) rfl (by go_simp; rfl) ?_
    have hy_ := blk_new wd (.cells #[.int .i64 0, .int .i64 0, .int .i64 0, .slice none 0 0] 67)
    have hby_ := below_alloc (Below.refl wd.heap.size wd) (.cells #[.int .i64 0, .int .i64 0, .int .i64 0, .slice none 0 0] 67)
    have hbn_ := below_step hHeld hby_
    obtain ⟨gy, hgy_⟩ : ∃ q_, wd.heap.size = q_ := ⟨_, rfl⟩
    have HYG : Aside0 (W0.heap.size ≤ gy) := ⟨by have := below_size hHeld; omega⟩
    obtain ⟨w2, hw4_⟩ : ∃ W_ : World, W_ = wd.alloc (.cells #[.int .i64 0, .int .i64 0, .int .i64 0, .slice none 0 0] 67) := ⟨_, rfl⟩
    rw [← hw4_] at hy_ hbn_ ⊢
    rw [hgy_] at hy_ ⊢
    clear hw4_ hgy_ hby_ hHeld
    have HY := Aside0.mk hy_
    clear hy_
    have HB := Aside0.mk hbn_
    skip
    refine hK_.out _ _ (hbn_) (fun hHeld => ?_)
    clear hK_
    refine norm_ (a' := ?_) ?_ ?_
    rotate_left
    · simp only [Act.put, List.setIfInBounds_toArray, List.set_cons_zero, List.set_cons_succ]
      rfl
    refine one_ (i := 1) (N := some 26) #[true, true, true, true, true, true, false, false, false, false, false, true, false, false, false] rfl rfl (by kernel_rfl) (by decide) (fun K_ hK_ => ?_)
    have HH_ := Aside0.mk hHeld
    clear hHeld
    refine goes_ Try.func97 (by kernel_rfl) rfl #[.pointer (some ⟨g, 0, none⟩)] (by rfl) rfl rfl (by (try simp only [List.map_toArray, List.map_cons, List.map_nil]); first | done | rfl | (simp only [List.length_drop, List.length_take]; rfl)) ?_
    refine (r13_rest.is (HI0.out.below HH_.out) rfl htb hby h24 HL.out HT.out).mono ?_
    rintro e_ w3 ⟨Aq, cq, rfl, hcq, hQ_, hbe_⟩
    refine ⟨_, rfl, ?_⟩
    have hHY_ := blk_below HY.out hbe_
    have HY_ := Aside0.mk hHY_
    clear HY hHY_
    have HY := HY_
    clear HY_
    have HQ := Aside0.mk hQ_
    clear hQ_
    have hbn_ := below_step HH_.out hbe_
    have HB := Aside0.mk hbn_
    clear HH_ hbe_
    refine hK_.out _ _ (hbn_) (fun hHeld => ?_)
    clear hK_
    refine norm_ (a' := ?_) ?_ ?_
    rotate_left
    · simp only [Act.put, List.setIfInBounds_toArray, List.set_cons_zero, List.set_cons_succ]
      rfl
    refine one_ (i := 6) (N := some 31) #[true, true, true, true, true, true, true, false, false, false, false, true, false, false, false] rfl rfl (by kernel_rfl) (by decide) (fun K_ hK_ => ?_)
    have HH_ := Aside0.mk hHeld
    clear hHeld
    refine goes_ Try.func81 (by kernel_rfl) rfl #[.slice Aq (B.drop (at_ B most t)).length cq, .int .i64 most] (by rfl) rfl rfl (by (try simp only [List.map_toArray, List.map_cons, List.map_nil]); first | done | rfl | (simp only [List.length_drop, List.length_take]; rfl)) ?_
    refine (gantletref02_Next.calls Aq cq (B.drop (at_ B most t)) most (0) (0) (0) ([]) (0) (4) _ HQ.out hcq HNX.out).mono ?_
    rintro e_ w4 ⟨v3, rfl, hR_, hbe_⟩
    refine ⟨_, rfl, ?_⟩
    obtain ⟨A3, c3, rfl, hc3, hC3_⟩ := Kd.R_reads hR_
    have HF_ := Aside0.mk (Kd.R_F (Kd.R_mono (ok' := fun k => W0.heap.size ≤ k ∧ k ≠ gy) (Kd.R_bound hR_) (fun k hk => ⟨Nat.le_trans (below_size HH_.out) hk.2.1, fun e => by have := blk_lt HY.out; have := hk.2.1; omega⟩)))
    have hHY_ := blk_below HY.out hbe_
    have HY_ := Aside0.mk hHY_
    clear HY hHY_
    have HY := HY_
    clear HY_
    have hHQ_ := Kd.C_below HQ.out hbe_
    have HQ_ := Aside0.mk hHQ_
    clear HQ hHQ_
    have HQ := HQ_
    clear HQ_
    have HF := HF_
    clear HF_ hR_ hC3_
    have hbn_ := below_step HH_.out hbe_
    have HB := Aside0.mk hbn_
    clear HH_ hbe_
    refine hK_.out _ _ (hbn_) (fun hHeld => ?_)
    clear hK_
    refine norm_ (a' := ?_) ?_ ?_
    rotate_left
    · simp only [Act.put, List.setIfInBounds_toArray, List.set_cons_zero, List.set_cons_succ]
      rfl
    refine pure_ (i := 7) (N := some 24) (v := ?_) (a' := ?_) #[true, true, true, true, true, true, true, true, false, false, false, true, false, false, false] rfl rfl (by kernel_rfl) (fun _ _ _ h => h) (Or.inl ⟨by rfl, ?_⟩) ?_ ?_
    rotate_left
    · intro w'
      go_simp
      with_reducible rfl
    rotate_left
    · simp only [Act.put, List.setIfInBounds_toArray, List.set_cons_zero, List.set_cons_succ]
      rfl
    refine pure_ (i := 8) (N := some 32) (v := ?_) (a' := ?_) #[true, true, true, true, true, true, true, true, true, false, false, true, false, false, false] rfl rfl (by kernel_rfl) (fun _ _ _ h => h) (Or.inl ⟨by rfl, ?_⟩) ?_ ?_
    rotate_left
    · intro w'
      go_simp
      with_reducible rfl
    rotate_left
    · simp only [Act.put, List.setIfInBounds_toArray, List.set_cons_zero, List.set_cons_succ]
      rfl
    refine pure_ (i := 9) (N := some 33) (v := ?_) (a' := ?_) #[true, true, true, true, true, true, true, true, true, true, false, true, false, false, false] rfl rfl (by kernel_rfl) (fun _ _ _ h => h) (Or.inl ⟨by rfl, ?_⟩) ?_ ?_
    rotate_left
    · intro w'
      go_simp
      with_reducible rfl
    rotate_left
    · simp only [Act.put, List.setIfInBounds_toArray, List.set_cons_zero, List.set_cons_succ]
      rfl
    refine pure_ (i := 10) (N := some 34) (v := ?_) (a' := ?_) #[true, true, true, true, true, true, true, true, true, true, true, true, false, false, false] rfl rfl (by kernel_rfl) (fun _ _ _ h => h) (Or.inl ⟨by rfl, ?_⟩) ?_ ?_
    rotate_left
    · intro w'
      go_simp
      with_reducible rfl
    rotate_left
    · simp only [Act.put, List.setIfInBounds_toArray, List.set_cons_zero, List.set_cons_succ]
      rfl
    refine one_ (i := 12) (N := none) #[true, true, true, true, true, true, true, true, true, true, true, true, true, false, false] rfl rfl (by kernel_rfl) (by decide) (fun K_ hK_ => ?_)
    clear hHeld
    have k0_ : w4.cell? ⟨gy, 0, none⟩ = some (.int .i64 0) := (blk_cell HY.out 0).trans rfl
    have kf0_ := blk_frozen HY.out 0
    have k1_ : w4.cell? ⟨gy, 1, none⟩ = some (.int .i64 0) := (blk_cell HY.out 1).trans rfl
    have kf1_ := blk_frozen HY.out 1
    have k2_ : w4.cell? ⟨gy, 2, none⟩ = some (.int .i64 0) := (blk_cell HY.out 2).trans rfl
    have kf2_ := blk_frozen HY.out 2
    have k3_ : w4.cell? ⟨gy, 3, none⟩ = some (.slice none 0 0) := (blk_cell HY.out 3).trans rfl
    have kf3_ := blk_frozen HY.out 3
    refine skip_ (w1 := ((((w4.setCell ⟨gy, 0, none⟩ (.int .i64 0)).setCell ⟨gy, 1, none⟩ (.int .i64 0)).setCell ⟨gy, 2, none⟩ (.int .i64 0)).setCell ⟨gy, 3, none⟩ (.slice A3 0 c3))) (by rfl) rfl (by first | (go_simp; done) | (go_simp; rfl)) ?_
    have hfs_ := four_sets (y0 := .int .i64 0) (y1 := .int .i64 0) (y2 := .int .i64 0) (y3 := .slice A3 0 c3) HY.out
    have hbn_ : Below W0.heap.size W0 ((((w4.setCell ⟨gy, 0, none⟩ (.int .i64 0)).setCell ⟨gy, 1, none⟩ (.int .i64 0)).setCell ⟨gy, 2, none⟩ (.int .i64 0)).setCell ⟨gy, 3, none⟩ (.slice A3 0 c3)) := hfs_.2.under HB.out (fun k hk => by rw [show k = gy from hk]; exact HYG.out)
    have hx5_ := hfs_.1
    have hf5_ := Kd.F_step HF.out (fun k hk hlt => hfs_.2.block k hlt (fun e => hk.2 e))
    clear k0_ k1_ k2_ k3_ kf0_ kf1_ kf2_ kf3_ hfs_
    obtain ⟨w5, hw5_⟩ : ∃ W_ : World, W_ = ((((w4.setCell ⟨gy, 0, none⟩ (.int .i64 0)).setCell ⟨gy, 1, none⟩ (.int .i64 0)).setCell ⟨gy, 2, none⟩ (.int .i64 0)).setCell ⟨gy, 3, none⟩ (.slice A3 0 c3)) := ⟨_, rfl⟩
    rw [← hw5_] at hx5_ hf5_ hbn_ ⊢
    clear hw5_ HY HF HB
    have HX5 := Aside0.mk hx5_
    have HF5 := Aside0.mk hf5_
    clear hx5_ hf5_
    refine hK_.out _ _ (hbn_) (fun hHeld => ?_)
    clear hK_
    refine pure_ (i := 13) (N := some 5) (v := ?_) (a' := ?_) #[true, true, true, true, true, true, true, true, true, true, true, true, true, true, false] rfl rfl (by kernel_rfl) (fun _ _ _ h => h) (Or.inl ⟨by rfl, ?_⟩) ?_ ?_
    rotate_left
    · intro w'
      go_simp
      with_reducible rfl
    rotate_left
    · simp only [Act.put, List.setIfInBounds_toArray, List.set_cons_zero, List.set_cons_succ]
      rfl
    refine pure_ (i := 14) (N := some 6) (v := ?_) (a' := ?_) #[true, true, true, true, true, true, true, true, true, true, true, true, true, true, true] rfl rfl (by kernel_rfl) (fun _ _ _ h => h) (Or.inl ⟨by rfl, ?_⟩) ?_ ?_
    rotate_left
    · intro w'
      go_simp
      with_reducible rfl
    rotate_left
    · simp only [Act.put, List.setIfInBounds_toArray, List.set_cons_zero, List.set_cons_succ]
      rfl
    refine done_ (by kernel_rfl) ?_
    have HB5 := Aside0.mk hHeld
    clear hHeld
    have HI5 := Aside0.mk (HI0.out.below HB5.out)
    have HZ5 := Aside0.mk (blk_below HZ0.out HB5.out)
    have HS5 := Aside0.mk (below_step HB0.out HB5.out)
    have HGY : Aside0 (gy ≠ g ∧ gy ≠ gz) := ⟨by have h1 := blk_lt HH0.out.1; have h2 := below_size HB0.out; have h3 := HYG.out; have h4 := blk_lt HZ0.out; omega⟩
    have q3_ : w5.cell? ⟨g, 3, none⟩ = some (.int .i64 0) := (blk_cell HI5.out.1 3).trans rfl
    have f3_ := blk_frozen HI5.out.1 3
    have HKW := Aside0.mk ((Keeps.of_below HS5.out (FootT g (.slice A B.length c))).set (.inl (.inl rfl)) 3 (.int .i64 4))
    have HIW := Aside0.mk (HI5.out.set3 4)
    have HFW := Aside0.mk (Kd.F_far (p := ⟨g, 3, none⟩) HF5.out (fun k hk e => by have h1 := blk_lt HH0.out.1; have h2 := below_size HB0.out; have h3 := hk.1; have h4 : k = g := e; omega) (.int .i64 4))
    have x0_ : (w5.setCell ⟨g, 3, none⟩ (.int .i64 4)).cell? ⟨gy, 0, none⟩ = some (.int .i64 0) := (blk_cell (blk_far HX5.out (p := ⟨g, 3, none⟩) (fun e => HGY.out.1 e) (.int .i64 4)) 0).trans rfl
    have x1_ : (w5.setCell ⟨g, 3, none⟩ (.int .i64 4)).cell? ⟨gy, 1, none⟩ = some (.int .i64 0) := (blk_cell (blk_far HX5.out (p := ⟨g, 3, none⟩) (fun e => HGY.out.1 e) (.int .i64 4)) 1).trans rfl
    have x2_ : (w5.setCell ⟨g, 3, none⟩ (.int .i64 4)).cell? ⟨gy, 2, none⟩ = some (.int .i64 0) := (blk_cell (blk_far HX5.out (p := ⟨g, 3, none⟩) (fun e => HGY.out.1 e) (.int .i64 4)) 2).trans rfl
    have x3_ : (w5.setCell ⟨g, 3, none⟩ (.int .i64 4)).cell? ⟨gy, 3, none⟩ = some (.slice A3 0 c3) := (blk_cell (blk_far HX5.out (p := ⟨g, 3, none⟩) (fun e => HGY.out.1 e) (.int .i64 4)) 3).trans rfl
    have z0_ : (w5.setCell ⟨g, 3, none⟩ (.int .i64 4)).cell? ⟨gz, 0, none⟩ = some (.int .i64 0) := (blk_cell (blk_far HZ5.out (p := ⟨g, 3, none⟩) (fun e => hgz e.symm) (.int .i64 4)) 0).trans rfl
    have y0_ := blk_frozen (blk_far HZ5.out (p := ⟨g, 3, none⟩) (fun e => hgz e.symm) (.int .i64 4)) 0
    have z1_ : (w5.setCell ⟨g, 3, none⟩ (.int .i64 4)).cell? ⟨gz, 1, none⟩ = some (.int .i64 0) := (blk_cell (blk_far HZ5.out (p := ⟨g, 3, none⟩) (fun e => hgz e.symm) (.int .i64 4)) 1).trans rfl
    have y1_ := blk_frozen (blk_far HZ5.out (p := ⟨g, 3, none⟩) (fun e => hgz e.symm) (.int .i64 4)) 1
    have z2_ : (w5.setCell ⟨g, 3, none⟩ (.int .i64 4)).cell? ⟨gz, 2, none⟩ = some (.int .i64 0) := (blk_cell (blk_far HZ5.out (p := ⟨g, 3, none⟩) (fun e => hgz e.symm) (.int .i64 4)) 2).trans rfl
    have y2_ := blk_frozen (blk_far HZ5.out (p := ⟨g, 3, none⟩) (fun e => hgz e.symm) (.int .i64 4)) 2
    have z3_ : (w5.setCell ⟨g, 3, none⟩ (.int .i64 4)).cell? ⟨gz, 3, none⟩ = some (.slice none 0 0) := (blk_cell (blk_far HZ5.out (p := ⟨g, 3, none⟩) (fun e => hgz e.symm) (.int .i64 4)) 3).trans rfl
    have y3_ := blk_frozen (blk_far HZ5.out (p := ⟨g, 3, none⟩) (fun e => hgz e.symm) (.int .i64 4)) 3
    have HFS := Aside0.mk (four_sets (y0 := .int .i64 0) (y1 := .int .i64 0) (y2 := .int .i64 0) (y3 := .slice A3 0 c3) (blk_far HZ5.out (p := ⟨g, 3, none⟩) (fun e => hgz e.symm) (.int .i64 4)))
    go_wp2_with fail
    refine bodyPost_ret (results_ct rfl _ _ gz 67 _ (0, 0) _ rfl HFS.out.1 Try.underlying67 rfl sz67c) rfl ?_
    refine ⟨A3, c3, rfl, hc3, Kd.F_mono (Kd.F_bound (Kd.F_step HFW.out (fun k hk hlt => HFS.out.2.block k hlt (fun e => by have h1 := blk_lt HZ0.out; have h2 := hk.1; have h3 : k = gz := e; omega)))) (fun k hk => ⟨by have h1 := below_size HB0.out; have h2 := hk.1.1; omega, hk.2⟩), HIW.out.keeps HFS.out.2 (fun k hk e => ?_), HKW.out.then_ HFS.out.2 (fun i hi => .inr (by have h1 : i = gz := hi; have h2 := HGZ.out; omega))⟩
    rcases hk with h1 | h1
    · exact hgz (h1.symm.trans e)
    · have h2 := HH0.out.2.1.lt k h1; have h3 := HGZ.out; have h4 : k = gz := e; omega
end
end Go.Proofs.Ytbmnplojpeabmaa.It
