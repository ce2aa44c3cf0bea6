/-
  INTAKE: the document's: rest.
  Conditions: none of its own; lemmas that the claim's row rests on.
-/
import Derived.Test.YtbmnplojpeabmaaIt4
import Derived.Test.YtbmnplojpeabmaaQI3
import Derived.WalkKit
namespace Go.Proofs.Ytbmnplojpeabmaa.It
open Go.RowKit Go.Proofs.YtbmnplojpeabmaaW.PrintWords Go.Proofs.YtbmnplojpeabmaaW.PrintLast Go.Proofs.YtbmnplojpeabmaaW.PrintMore
attribute [local go_sem] max2_int min2_int max_two min_two max_three min_three max_four min_four
set_option linter.unusedVariables false
set_option linter.unusedSimpArgs false
open Go.Proofs.Ytbmnplojpeabmaa.Ob Go.Proofs.Ytbmnplojpeabmaa.QI Go.Proofs.Ytbmnplojpeabmaa.FramePure Go.Proofs.Ytbmnplojpeabmaa.WirePure Go.Proofs.Ytbmnplojpeabmaa.IntakePure
section
variable {w : World} {g t : Nat} {most T O : Int} {v : Value} {B : List Int}
set_option maxHeartbeats 8000000 in
set_option maxRecDepth 100000 in
theorem r13_rest.is (h : IsR w g most v B T O) (hT : T = (t : Int)) (htb : t ≤ 1000000) (hby : Bytes B) (h24 : 24 ≤ B.length) (hl : B.length ≤ 140737488350000) (ht : IntakePure.Told B most t) : Calls Try.prog 97 #[.pointer (some ⟨g, 0, none⟩)] w fun e w' => ∃ A3 c3, e = .returned (.slice A3 (B.drop (at_ B most t)).length c3) ∧ (B.drop (at_ B most t)).length ≤ c3 ∧ Kd.C (Kd.int .u8) w' A3 (B.drop (at_ B most t)).length (B.drop (at_ B most t)) ∧ Below w.heap.size w w' := by
  have hu67 := Try.underlying67
  subst hT
  obtain ⟨A, c, rfl, hc, hC⟩ := h.reads
  have HI := Aside0.mk h
  have HC := Aside0.mk hC
  have HT := Aside0.mk ht
  have HY0 := Aside0.mk hby
  have HL := Aside0.mk hl
  have H24 := Aside0.mk h24
  clear h hC ht hby hl h24
  have hcell : w.cell? ⟨g, 2, none⟩ = some (.int .i64 (t : Int)) := (blk_cell HI.out.1 2).trans rfl
  go_enter Try.func97, Try.ntmps97
  go_wp2_with fail
  clear hcell
  go_loopg [3, 4] (t + 1) (fun kq v3 v4 w' => ∃ (i : Nat), v3 = .int .i64 (at_ B most i : Int) ∧ v4 = .int .i64 (i : Int) ∧ Aside0 (i + kq = t + 1 ∧ i ≤ t) ∧ Aside0 (Below w.heap.size w w'))
  case atStart => exact ⟨0, rfl, rfl, ⟨by omega⟩, ⟨Below.refl _ _⟩⟩
  case round =>
    obtain ⟨i, rfl, rfl, HK, HB⟩ := hrel
    have HI1 := Aside0.mk (HI.out.below HB.out)
    have hc1 : wr.cell? ⟨g, 1, none⟩ = some (.slice A B.length c) := (blk_cell HI1.out.1 1).trans rfl
    have hc2 : wr.cell? ⟨g, 2, none⟩ = some (.int .i64 (t : Int)) := (blk_cell HI1.out.1 2).trans rfl
    have hat := at_le HY0.out H24.out i (fun j hj => HT.out j (by have := HK.out; omega))
    by_cases hi : i < t
    · have b1 : decide ((i : Int) < (t : Int)) = true := decide_eq_true (by omega)
      obtain ⟨k1, hk1⟩ : ∃ j, gk = j + 1 := ⟨gk - 1, by have := HK.out; omega⟩
      subst hk1
      go_wp2_with fail
      clear hc1 hc2 b1
      obtain ⟨p, hp⟩ : ∃ p, at_ B most i = p := ⟨_, rfl⟩
      rw [hp] at hat ⊢
      have HP := Aside0.mk hp
      clear hp
      obtain ⟨A', hA'⟩ : ∃ A', (if c = p then A else Option.map (fun x => x.add p) A) = A' := ⟨_, rfl⟩
      have hd_ := Kd.C_drop HC.out hat hc
      rw [show (Kd.int .u8).sz = 1 from rfl, Nat.mul_one, hA'] at hd_
      have HD := Aside0.mk hd_
      clear hd_
      have hle : (B.drop p).length ≤ c - p := by rw [List.length_drop]; omega
      rcases hx : nx (B.drop p) most with ⟨x0, x1, x2, x3, x4, x5⟩
      have HNX : Aside0 (gantletref02_Next.f (B.drop p) most = some (x0, x1, x2, x3, x4, x5)) := ⟨by rw [rnextE _ _ (HY0.out.drop p) (by have := HL.out; rw [List.length_drop]; omega), hx]⟩
      have hN : at_ B most (i + 1) = p + x4.toNat ∧ 0 ≤ x4 ∧ x4.toNat ≤ B.length - p := by
        have h0 := HT.out i hi
        rw [HP.out] at h0
        have hn := nx_n (HY0.out.drop p) h0
        rw [hx, List.length_drop] at hn
        refine ⟨by show at_ B most i + _ = _; rw [HP.out, hx]; rfl, ?_, hn.2.1⟩
        have h9 : 9 ≤ x4.toNat := hn.1
        omega
      have HN := Aside0.mk hN
      clear hN hx
      have hpT : ((p : Int) ≤ (B.length : Int)) = True := eq_true (by omega)
      have hpc : ((B.length : Int) ≤ (c : Int)) = True := eq_true (by omega)
      have HBW := Aside0.mk HB.out
      clear HB
      refine start_ (n := 19) (S := fun w' => Below wr.heap.size wr w') (ds := []) #[false, false, false, false, false, false, false, false, false, false, false, false, false, false, false, false, false, false, false] (by kernel_rfl) rfl rfl (below_drew1 (Below.refl _ _)) (fun hHeld => ?_)
      refine pure_ (i := 0) (N := some 17) (v := ?_) (a' := ?_) #[true, false, false, false, false, false, false, false, false, false, false, false, false, false, false, false, false, false, false] rfl rfl (by kernel_rfl) (fun _ _ _ h => h) (Or.inl ⟨by rfl, ?_⟩) ?_ ?_
      rotate_left
      · intro w'
        go_simp
        with_reducible rfl
      rotate_left
      · simp only [Act.put, List.setIfInBounds_toArray, List.set_cons_zero, List.set_cons_succ]
        rfl
      refine pure_ (i := 1) (N := some 18) (v := ?_) (a' := ?_) #[true, true, false, false, false, false, false, false, false, false, false, false, false, false, false, false, false, false, false] rfl rfl (by kernel_rfl) (fun _ _ _ h => h) (Or.inl ⟨by rfl, ?_⟩) ?_ ?_
      rotate_left
      · intro w'
        go_simp
        with_reducible rfl
      rotate_left
      · simp only [Act.put, List.setIfInBounds_toArray, List.set_cons_zero, List.set_cons_succ]
        rfl
      refine pure_ (i := 2) (N := some 19) (v := ?_) (a' := ?_) #[true, true, true, false, false, false, false, false, false, false, false, false, false, false, false, false, false, false, false] rfl rfl (by kernel_rfl) (fun _ _ _ h => h) (Or.inl ⟨by rfl, ?_⟩) ?_ ?_
      rotate_left
      · intro w'
        go_simp
        with_reducible rfl
      rotate_left
      · simp only [Act.put, List.setIfInBounds_toArray, List.set_cons_zero, List.set_cons_succ]
        rfl
      refine take_ (i := 3) (N := some 20) (v := ?_) (a' := ?_) #[true, true, true, true, false, false, false, false, false, false, false, false, false, false, false, false, false, false, false] rfl rfl (by kernel_rfl) (fun _ _ _ h => h) (Or.inl ⟨by rfl, ?_⟩) hHeld ?_ ?_
      rotate_left
      · intro w' hS_
        have q0_ : w'.cell? ⟨g, 0, none⟩ = some (.int .i64 most) := (blk_cell (blk_below HI1.out.1 hS_) 0).trans rfl
        have q1_ : w'.cell? ⟨g, 1, none⟩ = some (.slice A B.length c) := (blk_cell (blk_below HI1.out.1 hS_) 1).trans rfl
        have q2_ : w'.cell? ⟨g, 2, none⟩ = some (.int .i64 (t : Int)) := (blk_cell (blk_below HI1.out.1 hS_) 2).trans rfl
        have q3_ : w'.cell? ⟨g, 3, none⟩ = some (.int .i64 O) := (blk_cell (blk_below HI1.out.1 hS_) 3).trans rfl
        go_simp
        with_reducible rfl
      rotate_left
      · simp only [Act.put, List.setIfInBounds_toArray, List.set_cons_zero, List.set_cons_succ]
        rfl
      refine pure_ (i := 4) (N := some 21) (v := ?_) (a' := ?_) #[true, true, true, true, true, false, false, false, false, false, false, false, false, false, false, false, false, false, false] rfl rfl (by kernel_rfl) (fun _ _ _ h => h) (Or.inl ⟨by rfl, ?_⟩) ?_ ?_
      rotate_left
      · intro w'
        go_simp
        with_reducible rfl
      rotate_left
      · simp only [Act.put, List.setIfInBounds_toArray, List.set_cons_zero, List.set_cons_succ]
        rfl
      refine pure_ (i := 5) (N := some 22) (v := ?_) (a' := ?_) #[true, true, true, true, true, true, false, false, false, false, false, false, false, false, false, false, false, false, false] rfl rfl (by kernel_rfl) (fun _ _ _ h => h) (Or.inl ⟨by rfl, ?_⟩) ?_ ?_
      rotate_left
      · intro w'
        (try simp only [hA'])
        go_simp
        (try simp only [hA'])
        with_reducible rfl
      rotate_left
      · simp only [Act.put, List.setIfInBounds_toArray, List.set_cons_zero, List.set_cons_succ]
        rfl
      refine pure_ (i := 6) (N := some 23) (v := ?_) (a' := ?_) #[true, true, true, true, true, true, true, false, false, false, false, false, false, false, false, false, false, false, false] rfl rfl (by kernel_rfl) (fun _ _ _ h => h) (Or.inl ⟨by rfl, ?_⟩) ?_ ?_
      rotate_left
      · intro w'
        go_simp
        with_reducible rfl
      rotate_left
      · simp only [Act.put, List.setIfInBounds_toArray, List.set_cons_zero, List.set_cons_succ]
        rfl
      refine pure_ (i := 7) (N := some 24) (v := ?_) (a' := ?_) #[true, true, true, true, true, true, true, true, false, false, false, false, false, false, false, false, false, false, false] rfl rfl (by kernel_rfl) (fun _ _ _ h => h) (Or.inl ⟨by rfl, ?_⟩) ?_ ?_
      rotate_left
      · intro w'
        go_simp
        with_reducible rfl
      rotate_left
      · simp only [Act.put, List.setIfInBounds_toArray, List.set_cons_zero, List.set_cons_succ]
        rfl
      refine pure_ (i := 8) (N := some 25) (v := ?_) (a' := ?_) #[true, true, true, true, true, true, true, true, true, false, false, false, false, false, false, false, false, false, false] rfl rfl (by kernel_rfl) (fun _ _ _ h => h) (Or.inl ⟨by rfl, ?_⟩) ?_ ?_
      rotate_left
      · intro w'
        go_simp
        with_reducible rfl
      rotate_left
      · simp only [Act.put, List.setIfInBounds_toArray, List.set_cons_zero, List.set_cons_succ]
        rfl
      refine take_ (i := 9) (N := some 26) (v := ?_) (a' := ?_) #[true, true, true, true, true, true, true, true, true, true, false, false, false, false, false, false, false, false, false] rfl rfl (by kernel_rfl) (fun _ _ _ h => h) (Or.inl ⟨by rfl, ?_⟩) hHeld ?_ ?_
      rotate_left
      · intro w' hS_
        have q0_ : w'.cell? ⟨g, 0, none⟩ = some (.int .i64 most) := (blk_cell (blk_below HI1.out.1 hS_) 0).trans rfl
        have q1_ : w'.cell? ⟨g, 1, none⟩ = some (.slice A B.length c) := (blk_cell (blk_below HI1.out.1 hS_) 1).trans rfl
        have q2_ : w'.cell? ⟨g, 2, none⟩ = some (.int .i64 (t : Int)) := (blk_cell (blk_below HI1.out.1 hS_) 2).trans rfl
        have q3_ : w'.cell? ⟨g, 3, none⟩ = some (.int .i64 O) := (blk_cell (blk_below HI1.out.1 hS_) 3).trans rfl
        go_simp
        with_reducible rfl
      rotate_left
      · simp only [Act.put, List.setIfInBounds_toArray, List.set_cons_zero, List.set_cons_succ]
        rfl
      refine two_ (i := 10) (j := 15) (Ni := some 27) (Nj := some 5) #[true, true, true, true, true, true, true, true, true, true, true, false, false, false, false, false, false, false, false] #[true, true, true, true, true, true, true, true, true, true, false, false, false, false, false, true, false, false, false] rfl rfl rfl rfl (by kernel_rfl) (by decide) (by decide) (fun K_ hK_ => ?_) (fun K_ hK_ => ?_)
      · skip
        have HH_ := Aside0.mk hHeld
        clear hHeld
        have hE_ := gantletref02_Next.calls A' (c - p) (B.drop p) most x0 x1 x2 x3 x4 x5 _ (Kd.C_below HD.out (below_step HBW.out HH_.out)) hle HNX.out
        rw [List.length_drop] at hE_
        refine goes_ Try.func81 (by kernel_rfl) rfl #[.slice A' (B.length - p) (c - p), .int .i64 most] (by rfl) rfl rfl (by (try simp only [List.map_toArray, List.map_cons, List.map_nil]); first | done | rfl | (simp only [List.length_drop, List.length_take]; rfl)) ?_
        refine (hE_).mono ?_
        rintro e_ w3 ⟨v3, rfl, hR_, hbe_⟩
        refine ⟨_, rfl, ?_⟩
        clear hE_
        obtain ⟨A3, c3, rfl, hc3, hC3_⟩ := Kd.R_reads hR_
        have HF_ := Aside0.mk (Kd.R_F (Kd.R_mono (ok' := fun k => wr.heap.size ≤ k ∧ k < w3.heap.size) (Kd.R_bound hR_) (fun k hk => ⟨Nat.le_trans (below_size HH_.out) hk.2.1, hk.2.2.1⟩)))
        have HF := HF_
        clear HF_ hR_ hC3_
        have hbn_ := below_step HH_.out hbe_
        have HB := Aside0.mk hbn_
        clear HH_ hbe_
        refine hK_.out _ _ (hbn_) (fun hHeld => ?_)
        clear hK_
        refine norm_ (a' := ?_) ?_ ?_
        rotate_left
        · simp only [Act.put, List.setIfInBounds_toArray, List.set_cons_zero, List.set_cons_succ]
          rfl
        refine pure_ (i := 11) (N := some 16) (v := ?_) (a' := ?_) #[true, true, true, true, true, true, true, true, true, true, true, true, false, false, false, false, false, false, false] rfl rfl (by kernel_rfl) (fun _ _ _ h => h) (Or.inl ⟨by rfl, ?_⟩) ?_ ?_
        rotate_left
        · intro w'
          go_simp
          with_reducible rfl
        rotate_left
        · simp only [Act.put, List.setIfInBounds_toArray, List.set_cons_zero, List.set_cons_succ]
          rfl
        refine pure_ (i := 12) (N := some 28) (v := ?_) (a' := ?_) #[true, true, true, true, true, true, true, true, true, true, true, true, true, false, false, false, false, false, false] rfl rfl (by kernel_rfl) (fun _ _ _ h => h) (Or.inl ⟨by rfl, ?_⟩) ?_ ?_
        rotate_left
        · intro w'
          go_simp
          with_reducible rfl
        rotate_left
        · simp only [Act.put, List.setIfInBounds_toArray, List.set_cons_zero, List.set_cons_succ]
          rfl
        refine pure_ (i := 13) (N := some 29) (v := ?_) (a' := ?_) #[true, true, true, true, true, true, true, true, true, true, true, true, true, true, false, false, false, false, false] rfl rfl (by kernel_rfl) (fun _ _ _ h => h) (Or.inl ⟨by rfl, ?_⟩) ?_ ?_
        rotate_left
        · intro w'
          go_simp
          with_reducible rfl
        rotate_left
        · simp only [Act.put, List.setIfInBounds_toArray, List.set_cons_zero, List.set_cons_succ]
          rfl
        refine pure_ (i := 14) (N := some 30) (v := ?_) (a' := ?_) #[true, true, true, true, true, true, true, true, true, true, true, true, true, true, true, false, false, false, false] rfl rfl (by kernel_rfl) (fun _ _ _ h => h) (Or.inl ⟨by rfl, ?_⟩) ?_ ?_
        rotate_left
        · intro w'
          go_simp
          with_reducible rfl
        rotate_left
        · simp only [Act.put, List.setIfInBounds_toArray, List.set_cons_zero, List.set_cons_succ]
          rfl
        refine one_ (i := 15) (N := some 5) #[true, true, true, true, true, true, true, true, true, true, true, true, true, true, true, true, false, false, false] rfl rfl (by kernel_rfl) (by decide) (fun K_ hK_ => ?_)
        refine value_ (w1 := w3.alloc (.cells #[.int .i64 0, .int .i64 0, .int .i64 0, .slice none 0 0] 67)) (by rfl) rfl (by go_simp; rfl) ?_
        have hy_ := blk_new w3 (.cells #[.int .i64 0, .int .i64 0, .int .i64 0, .slice none 0 0] 67)
        have hby_ := below_alloc (Below.refl w3.heap.size w3) (.cells #[.int .i64 0, .int .i64 0, .int .i64 0, .slice none 0 0] 67)
        have hbn_ := below_step hHeld hby_
        have hHF_ := Kd.F_mono (ok' := fun k => wr.heap.size ≤ k ∧ k ≠ w3.heap.size) (Kd.F_below HF.out hby_) (fun k hk => ⟨hk.1, by have := hk.2; omega⟩)
        obtain ⟨gy, hgy_⟩ : ∃ q_, w3.heap.size = q_ := ⟨_, rfl⟩
        have HYG : Aside0 (wr.heap.size ≤ gy) := ⟨by have := below_size hHeld; omega⟩
        obtain ⟨w4, hw4_⟩ : ∃ W_ : World, W_ = w3.alloc (.cells #[.int .i64 0, .int .i64 0, .int .i64 0, .slice none 0 0] 67) := ⟨_, rfl⟩
        rw [← hw4_] at hy_ hbn_ hHF_ ⊢
        rw [hgy_] at hy_ hHF_ ⊢
        clear hw4_ hgy_ hby_ hHeld
        have HY := Aside0.mk hy_
        clear hy_
        have HB := Aside0.mk hbn_
        clear HF
        have HF := Aside0.mk hHF_
        clear hHF_
        skip
        refine hK_.out _ _ (hbn_) (fun hHeld => ?_)
        clear hK_
        refine norm_ (a' := ?_) ?_ ?_
        rotate_left
        · simp only [Act.put, List.setIfInBounds_toArray, List.set_cons_zero, List.set_cons_succ]
          rfl
        refine one_ (i := 16) (N := none) #[true, true, true, true, true, true, true, true, true, true, true, true, true, true, true, true, true, false, false] rfl rfl (by kernel_rfl) (by decide) (fun K_ hK_ => ?_)
        clear hHeld
        have k0_ : w4.cell? ⟨gy, 0, none⟩ = some (.int .i64 0) := (blk_cell HY.out 0).trans rfl
        have kf0_ := blk_frozen HY.out 0
        have k1_ : w4.cell? ⟨gy, 1, none⟩ = some (.int .i64 0) := (blk_cell HY.out 1).trans rfl
        have kf1_ := blk_frozen HY.out 1
        have k2_ : w4.cell? ⟨gy, 2, none⟩ = some (.int .i64 0) := (blk_cell HY.out 2).trans rfl
        have kf2_ := blk_frozen HY.out 2
        have k3_ : w4.cell? ⟨gy, 3, none⟩ = some (.slice none 0 0) := (blk_cell HY.out 3).trans rfl
        have kf3_ := blk_frozen HY.out 3
        refine skip_ (w1 := ((((w4.setCell ⟨gy, 0, none⟩ (.int .i64 x0)).setCell ⟨gy, 1, none⟩ (.int .i64 x1)).setCell ⟨gy, 2, none⟩ (.int .i64 x2)).setCell ⟨gy, 3, none⟩ (.slice A3 x3.length c3))) (by rfl) rfl (by first | (go_simp; done) | (go_simp; rfl)) ?_
        have hfs_ := four_sets (y0 := .int .i64 x0) (y1 := .int .i64 x1) (y2 := .int .i64 x2) (y3 := .slice A3 x3.length c3) HY.out
        have hbn_ : Below wr.heap.size wr ((((w4.setCell ⟨gy, 0, none⟩ (.int .i64 x0)).setCell ⟨gy, 1, none⟩ (.int .i64 x1)).setCell ⟨gy, 2, none⟩ (.int .i64 x2)).setCell ⟨gy, 3, none⟩ (.slice A3 x3.length c3)) := hfs_.2.under HB.out (fun k hk => by rw [show k = gy from hk]; exact HYG.out)
        have hx5_ := hfs_.1
        have hf5_ := Kd.F_step HF.out (fun k hk hlt => hfs_.2.block k hlt (fun e => hk.2 e))
        clear k0_ k1_ k2_ k3_ kf0_ kf1_ kf2_ kf3_ hfs_
        obtain ⟨w5, hw5_⟩ : ∃ W_ : World, W_ = ((((w4.setCell ⟨gy, 0, none⟩ (.int .i64 x0)).setCell ⟨gy, 1, none⟩ (.int .i64 x1)).setCell ⟨gy, 2, none⟩ (.int .i64 x2)).setCell ⟨gy, 3, none⟩ (.slice A3 x3.length c3)) := ⟨_, rfl⟩
        rw [← hw5_] at hx5_ hf5_ hbn_ ⊢
        clear hw5_ HY HF HB
        have HX5 := Aside0.mk hx5_
        have HF5 := Aside0.mk hf5_
        clear hx5_ hf5_
        refine hK_.out _ _ (hbn_) (fun hHeld => ?_)
        clear hK_
        refine pure_ (i := 17) (N := some 6) (v := ?_) (a' := ?_) #[true, true, true, true, true, true, true, true, true, true, true, true, true, true, true, true, true, true, false] rfl rfl (by kernel_rfl) (fun _ _ _ h => h) (Or.inl ⟨by rfl, ?_⟩) ?_ ?_
        rotate_left
        · intro w'
          go_simp
          with_reducible rfl
        rotate_left
        · simp only [Act.put, List.setIfInBounds_toArray, List.set_cons_zero, List.set_cons_succ]
          rfl
        refine pure_ (i := 18) (N := some 7) (v := ?_) (a' := ?_) #[true, true, true, true, true, true, true, true, true, true, true, true, true, true, true, true, true, true, true] rfl rfl (by kernel_rfl) (fun _ _ _ h => h) (Or.inl ⟨by rfl, ?_⟩) ?_ ?_
        rotate_left
        · intro w'
          go_simp
          with_reducible rfl
        rotate_left
        · simp only [Act.put, List.setIfInBounds_toArray, List.set_cons_zero, List.set_cons_succ]
          rfl
        refine done_ (by kernel_rfl) ?_
        have HB5 := Aside0.mk hHeld
        clear hHeld
        go_wp2_with fail
        go_roundg k1
        case measure => omega
        case rel =>
          refine ⟨i + 1, ?_, ?_, ⟨by have := HK.out; omega⟩, ⟨below_step HBW.out HB5.out⟩⟩
          · have h1 := HN.out; have h2 := HL.out; rw [h1.1]; rw [wr_in (by omega) (by omega)]; congr 1; omega
          · first | rfl | (have h2 := HK.out; rw [wr_in (by omega) (by omega)]; rfl)
      · skip
        obtain ⟨wd, hwd_⟩ : ∃ W_ : World, W_ = wr.drew := ⟨_, rfl⟩
        rw [← hwd_] at hHeld ⊢
        clear hwd_
        refine value_ (w1 := wd.alloc (.cells #[.int .i64 0, .int .i64 0, .int .i64 0, .slice none 0 0] 67)) (by rfl) rfl (by go_simp; rfl) ?_
        have hy_ := blk_new wd (.cells #[.int .i64 0, .int .i64 0, .int .i64 0, .slice none 0 0] 67)
        have hby_ := below_alloc (Below.refl wd.heap.size wd) (.cells #[.int .i64 0, .int .i64 0, .int .i64 0, .slice none 0 0] 67)
        have hbn_ := below_step hHeld hby_
        obtain ⟨gy, hgy_⟩ : ∃ q_, wd.heap.size = q_ := ⟨_, rfl⟩
        have HYG : Aside0 (wr.heap.size ≤ gy) := ⟨by have := below_size hHeld; omega⟩
        obtain ⟨w3, hw4_⟩ : ∃ W_ : World, W_ = wd.alloc (.cells #[.int .i64 0, .int .i64 0, .int .i64 0, .slice none 0 0] 67) := ⟨_, rfl⟩
        rw [← hw4_] at hy_ hbn_ ⊢
        rw [hgy_] at hy_ ⊢
        clear hw4_ hgy_ hby_ hHeld
        have HY := Aside0.mk hy_
        clear hy_
        have HB := Aside0.mk hbn_
        skip
        refine hK_.out _ _ (hbn_) (fun hHeld => ?_)
        clear hK_
        refine norm_ (a' := ?_) ?_ ?_
        rotate_left
        · simp only [Act.put, List.setIfInBounds_toArray, List.set_cons_zero, List.set_cons_succ]
          rfl
        refine one_ (i := 10) (N := some 27) #[true, true, true, true, true, true, true, true, true, true, true, false, false, false, false, true, false, false, false] rfl rfl (by kernel_rfl) (by decide) (fun K_ hK_ => ?_)
        have HH_ := Aside0.mk hHeld
        clear hHeld
        have hE_ := gantletref02_Next.calls A' (c - p) (B.drop p) most x0 x1 x2 x3 x4 x5 _ (Kd.C_below HD.out (below_step HBW.out HH_.out)) hle HNX.out
        rw [List.length_drop] at hE_
        refine goes_ Try.func81 (by kernel_rfl) rfl #[.slice A' (B.length - p) (c - p), .int .i64 most] (by rfl) rfl rfl (by (try simp only [List.map_toArray, List.map_cons, List.map_nil]); first | done | rfl | (simp only [List.length_drop, List.length_take]; rfl)) ?_
        refine (hE_).mono ?_
        rintro e_ w4 ⟨v3, rfl, hR_, hbe_⟩
        refine ⟨_, rfl, ?_⟩
        clear hE_
        obtain ⟨A3, c3, rfl, hc3, hC3_⟩ := Kd.R_reads hR_
        have HF_ := Aside0.mk (Kd.R_F (Kd.R_mono (ok' := fun k => wr.heap.size ≤ k ∧ k ≠ gy) (Kd.R_bound hR_) (fun k hk => ⟨Nat.le_trans (below_size HH_.out) hk.2.1, fun e => by have := blk_lt HY.out; have := hk.2.1; omega⟩)))
        have hHY_ := blk_below HY.out hbe_
        have HY_ := Aside0.mk hHY_
        clear HY hHY_
        have HY := HY_
        clear HY_
        have HF := HF_
        clear HF_ hR_ hC3_
        have hbn_ := below_step HH_.out hbe_
        have HB := Aside0.mk hbn_
        clear HH_ hbe_
        refine hK_.out _ _ (hbn_) (fun hHeld => ?_)
        clear hK_
        refine norm_ (a' := ?_) ?_ ?_
        rotate_left
        · simp only [Act.put, List.setIfInBounds_toArray, List.set_cons_zero, List.set_cons_succ]
          rfl
        refine pure_ (i := 11) (N := some 16) (v := ?_) (a' := ?_) #[true, true, true, true, true, true, true, true, true, true, true, true, false, false, false, true, false, false, false] rfl rfl (by kernel_rfl) (fun _ _ _ h => h) (Or.inl ⟨by rfl, ?_⟩) ?_ ?_
        rotate_left
        · intro w'
          go_simp
          with_reducible rfl
        rotate_left
        · simp only [Act.put, List.setIfInBounds_toArray, List.set_cons_zero, List.set_cons_succ]
          rfl
        refine pure_ (i := 12) (N := some 28) (v := ?_) (a' := ?_) #[true, true, true, true, true, true, true, true, true, true, true, true, true, false, false, true, false, false, false] rfl rfl (by kernel_rfl) (fun _ _ _ h => h) (Or.inl ⟨by rfl, ?_⟩) ?_ ?_
        rotate_left
        · intro w'
          go_simp
          with_reducible rfl
        rotate_left
        · simp only [Act.put, List.setIfInBounds_toArray, List.set_cons_zero, List.set_cons_succ]
          rfl
        refine pure_ (i := 13) (N := some 29) (v := ?_) (a' := ?_) #[true, true, true, true, true, true, true, true, true, true, true, true, true, true, false, true, false, false, false] rfl rfl (by kernel_rfl) (fun _ _ _ h => h) (Or.inl ⟨by rfl, ?_⟩) ?_ ?_
        rotate_left
        · intro w'
          go_simp
          with_reducible rfl
        rotate_left
        · simp only [Act.put, List.setIfInBounds_toArray, List.set_cons_zero, List.set_cons_succ]
          rfl
        refine pure_ (i := 14) (N := some 30) (v := ?_) (a' := ?_) #[true, true, true, true, true, true, true, true, true, true, true, true, true, true, true, true, false, false, false] rfl rfl (by kernel_rfl) (fun _ _ _ h => h) (Or.inl ⟨by rfl, ?_⟩) ?_ ?_
        rotate_left
        · intro w'
          go_simp
          with_reducible rfl
        rotate_left
        · simp only [Act.put, List.setIfInBounds_toArray, List.set_cons_zero, List.set_cons_succ]
          rfl
        refine one_ (i := 16) (N := none) #[true, true, true, true, true, true, true, true, true, true, true, true, true, true, true, true, true, false, false] rfl rfl (by kernel_rfl) (by decide) (fun K_ hK_ => ?_)
        clear hHeld
        have k0_ : w4.cell? ⟨gy, 0, none⟩ = some (.int .i64 0) := (blk_cell HY.out 0).trans rfl
        have kf0_ := blk_frozen HY.out 0
        have k1_ : w4.cell? ⟨gy, 1, none⟩ = some (.int .i64 0) := (blk_cell HY.out 1).trans rfl
        have kf1_ := blk_frozen HY.out 1
        have k2_ : w4.cell? ⟨gy, 2, none⟩ = some (.int .i64 0) := (blk_cell HY.out 2).trans rfl
        have kf2_ := blk_frozen HY.out 2
        have k3_ : w4.cell? ⟨gy, 3, none⟩ = some (.slice none 0 0) := (blk_cell HY.out 3).trans rfl
        have kf3_ := blk_frozen HY.out 3
        refine skip_ (w1 := ((((w4.setCell ⟨gy, 0, none⟩ (.int .i64 x0)).setCell ⟨gy, 1, none⟩ (.int .i64 x1)).setCell ⟨gy, 2, none⟩ (.int .i64 x2)).setCell ⟨gy, 3, none⟩ (.slice A3 x3.length c3))) (by rfl) rfl (by first | (go_simp; done) | (go_simp; rfl)) ?_
        have hfs_ := four_sets (y0 := .int .i64 x0) (y1 := .int .i64 x1) (y2 := .int .i64 x2) (y3 := .slice A3 x3.length c3) HY.out
        have hbn_ : Below wr.heap.size wr ((((w4.setCell ⟨gy, 0, none⟩ (.int .i64 x0)).setCell ⟨gy, 1, none⟩ (.int .i64 x1)).setCell ⟨gy, 2, none⟩ (.int .i64 x2)).setCell ⟨gy, 3, none⟩ (.slice A3 x3.length c3)) := hfs_.2.under HB.out (fun k hk => by rw [show k = gy from hk]; exact HYG.out)
        have hx5_ := hfs_.1
        have hf5_ := Kd.F_step HF.out (fun k hk hlt => hfs_.2.block k hlt (fun e => hk.2 e))
        clear k0_ k1_ k2_ k3_ kf0_ kf1_ kf2_ kf3_ hfs_
        obtain ⟨w5, hw5_⟩ : ∃ W_ : World, W_ = ((((w4.setCell ⟨gy, 0, none⟩ (.int .i64 x0)).setCell ⟨gy, 1, none⟩ (.int .i64 x1)).setCell ⟨gy, 2, none⟩ (.int .i64 x2)).setCell ⟨gy, 3, none⟩ (.slice A3 x3.length c3)) := ⟨_, rfl⟩
        rw [← hw5_] at hx5_ hf5_ hbn_ ⊢
        clear hw5_ HY HF HB
        have HX5 := Aside0.mk hx5_
        have HF5 := Aside0.mk hf5_
        clear hx5_ hf5_
        refine hK_.out _ _ (hbn_) (fun hHeld => ?_)
        clear hK_
        refine pure_ (i := 17) (N := some 6) (v := ?_) (a' := ?_) #[true, true, true, true, true, true, true, true, true, true, true, true, true, true, true, true, true, true, false] rfl rfl (by kernel_rfl) (fun _ _ _ h => h) (Or.inl ⟨by rfl, ?_⟩) ?_ ?_
        rotate_left
        · intro w'
          go_simp
          with_reducible rfl
        rotate_left
        · simp only [Act.put, List.setIfInBounds_toArray, List.set_cons_zero, List.set_cons_succ]
          rfl
        refine pure_ (i := 18) (N := some 7) (v := ?_) (a' := ?_) #[true, true, true, true, true, true, true, true, true, true, true, true, true, true, true, true, true, true, true] rfl rfl (by kernel_rfl) (fun _ _ _ h => h) (Or.inl ⟨by rfl, ?_⟩) ?_ ?_
        rotate_left
        · intro w'
          go_simp
          with_reducible rfl
        rotate_left
        · simp only [Act.put, List.setIfInBounds_toArray, List.set_cons_zero, List.set_cons_succ]
          rfl
        refine done_ (by kernel_rfl) ?_
        have HB5 := Aside0.mk hHeld
        clear hHeld
        go_wp2_with fail
        go_roundg k1
        case measure => omega
        case rel =>
          refine ⟨i + 1, ?_, ?_, ⟨by have := HK.out; omega⟩, ⟨below_step HBW.out HB5.out⟩⟩
          · have h1 := HN.out; have h2 := HL.out; rw [h1.1]; rw [wr_in (by omega) (by omega)]; congr 1; omega
          · first | rfl | (have h2 := HK.out; rw [wr_in (by omega) (by omega)]; rfl)
    · have b1 : decide ((i : Int) < (t : Int)) = false := decide_eq_false (by omega)
      obtain rfl : i = t := by have := HK.out; omega
      obtain ⟨p, hp⟩ : ∃ p, at_ B most i = p := ⟨_, rfl⟩
      rw [hp] at hat ⊢
      have HP := Aside0.mk hp
      clear hp
      obtain ⟨A', hA'⟩ : ∃ A', (if c = p then A else Option.map (fun x => x.add p) A) = A' := ⟨_, rfl⟩
      have hd_ := Kd.C_drop HC.out hat hc
      rw [show (Kd.int .u8).sz = 1 from rfl, Nat.mul_one, hA'] at hd_
      have HD := Aside0.mk (Kd.C_below hd_ HB.out)
      clear hd_
      have hpT : ((p : Int) ≤ (B.length : Int)) = True := eq_true (by omega)
      have hpc : ((B.length : Int) ≤ (c : Int)) = True := eq_true (by omega)
      have hle : (B.drop p).length ≤ c - p := by rw [List.length_drop]; omega
      go_wp2_with fail
      go_ret
      rw [HP.out]
      exact ⟨A', c - p, by rw [List.length_drop]; rfl, hle, HD.out, HB.out⟩
end
end Go.Proofs.Ytbmnplojpeabmaa.It
