/-
  INTAKE: Next; its row is none but the one it was.
  Conditions: none of its own; lemmas that the claim's row rests on.
-/
import Derived.Test.YtbmnplojpeabmaaIt4
import Derived.WalkKit
namespace Go.Proofs.Ytbmnplojpeabmaa.It
open Go.RowKit Go.Proofs.YtbmnplojpeabmaaW.PrintWords Go.Proofs.YtbmnplojpeabmaaW.PrintLast Go.Proofs.YtbmnplojpeabmaaW.PrintMore
attribute [local go_sem] max2_int min2_int max_two min_two max_three min_three max_four min_four
set_option linter.unusedVariables false
set_option linter.unusedSimpArgs false
open Go.Proofs.Ytbmnplojpeabmaa.Ob Go.Proofs.Ytbmnplojpeabmaa.QI Go.Proofs.Ytbmnplojpeabmaa.FramePure Go.Proofs.Ytbmnplojpeabmaa.WirePure Go.Proofs.Ytbmnplojpeabmaa.IntakePure
/-- An intake moved on, its row none but the one it was. -/
def Mn (w : World) (g : Nat) (v : Value) (w' : World) (v' : Value) : Prop := Keeps w w' (FootT g v) ∧ (∀ k, v'.ownBlock = some k → v.ownBlock = some k)
theorem Mn.mt {w w' : World} {g : Nat} {v v' : Value} (h : Mn w g v w' v') : Mt w g v w' v' := ⟨h.1, fun k hk => .inl (h.2 k hk)⟩
section
variable {w : World} {g : Nat} {most ov : Int} {v : Value} {l : List Int} {bg : Bool}
set_option maxHeartbeats 8000000 in
set_option maxRecDepth 100000 in
theorem intake_Next.ok (x0 x1 x2 : Int) (x3 : List Int) (n : Nat) (hn : n ≤ l.length) (h : IsT w g most v l true 0) (hby : Bytes l) (hl : l.length ≤ 140737488350000) (hnx : nx l most = (x0, x1, x2, x3, (n : Int), 0)) : Calls Try.prog 70 #[.pointer (some ⟨g, 0, none⟩)] w fun e w' => ∃ A3 c3, e = .returned (.tuple #[.agg #[.int .i64 x0, .int .i64 x1, .int .i64 x2, .slice A3 (x3 : List Int).length c3], .int .i64 0]) ∧ (x3 : List Int).length ≤ c3 ∧ Kd.F (Kd.int .u8) w' (fun k => w.heap.size ≤ k ∧ k < w'.heap.size) A3 (x3 : List Int).length x3 ∧ ∃ v', IsT w' g most v' (l.drop n) true 0 ∧ Mn w g v w' v' := by
  have hu67 := Try.underlying67
  obtain ⟨A, c, rfl, hc, hC⟩ := h.reads
  have HB0 := Aside0.mk (below_alloc (Below.refl w.heap.size w) (.cells #[.int .i64 0, .int .i64 0, .int .i64 0, .slice none 0 0] 67))
  have HI0 := Aside0.mk (h.below HB0.out)
  have HZ0 := Aside0.mk (blk_new w (.cells #[.int .i64 0, .int .i64 0, .int .i64 0, .slice none 0 0] 67))
  have HC0 := Aside0.mk (Kd.C_below hC HB0.out)
  have hgz : g ≠ w.heap.size := by have := blk_lt h.1; omega
  have hcell : (w.alloc (.cells #[.int .i64 0, .int .i64 0, .int .i64 0, .slice none 0 0] 67)).cell? ⟨g, 3, none⟩ = some (.int .i64 0) := (blk_cell HI0.out.1 3).trans rfl
  have hcell2 : (w.alloc (.cells #[.int .i64 0, .int .i64 0, .int .i64 0, .slice none 0 0] 67)).cell? ⟨g, 2, none⟩ = some (.bool true) := (blk_cell HI0.out.1 2).trans rfl
  have HNX : Aside0 (frame_Next.f 9 l most = some (x0, x1, x2, x3, (n : Int), 0)) := ⟨by rw [nextE (Nat.le_refl 9) l most hby (by omega), hnx]⟩
  have HL := Aside0.mk hl
  have HH0 := Aside0.mk h
  clear h hC hnx hl
  go_enter Try.func70, Try.ntmps70
  go_wp2_with fail
  clear hcell hcell2
  obtain ⟨gz, hgz_⟩ : ∃ q_, w.heap.size = q_ := ⟨_, rfl⟩
  rw [hgz_] at HZ0 hgz ⊢
  have HGZ := Aside0.mk hgz_
  clear hgz_
  obtain ⟨W0, hW0⟩ : ∃ W_ : World, W_ = w.alloc (.cells #[.int .i64 0, .int .i64 0, .int .i64 0, .slice none 0 0] 67) := ⟨_, rfl⟩
  rw [← hW0] at HB0 HI0 HZ0 HC0 ⊢
  clear hW0
  refine start_ (n := 17) (S := fun w' => Below W0.heap.size W0 w') (ds := []) #[false, false, false, false, false, false, false, false, false, false, false, false, false, false, false, false, false] (by kernel_rfl) rfl rfl (below_drew1 (Below.refl _ _)) (fun hHeld => ?_)
  refine pure_ (i := 0) (N := some 30) (v := ?_) (a' := ?_) #[true, false, false, false, false, false, false, false, false, false, false, false, false, false, false, false, false] rfl rfl (by kernel_rfl) (fun _ _ _ h => h) (Or.inl ⟨by rfl, ?_⟩) ?_ ?_
  rotate_left
  · intro w'
    go_simp
    with_reducible rfl
  rotate_left
  · simp only [Act.put, List.setIfInBounds_toArray, List.set_cons_zero, List.set_cons_succ]
    rfl
  refine pure_ (i := 1) (N := some 31) (v := ?_) (a' := ?_) #[true, true, false, false, false, false, false, false, false, false, false, false, false, false, false, false, false] rfl rfl (by kernel_rfl) (fun _ _ _ h => h) (Or.inl ⟨by rfl, ?_⟩) ?_ ?_
  rotate_left
  · intro w'
    go_simp
    with_reducible rfl
  rotate_left
  · simp only [Act.put, List.setIfInBounds_toArray, List.set_cons_zero, List.set_cons_succ]
    rfl
  refine pure_ (i := 2) (N := some 32) (v := ?_) (a' := ?_) #[true, true, true, false, false, false, false, false, false, false, false, false, false, false, false, false, false] rfl rfl (by kernel_rfl) (fun _ _ _ h => h) (Or.inl ⟨by rfl, ?_⟩) ?_ ?_
  rotate_left
  · intro w'
    go_simp
    with_reducible rfl
  rotate_left
  · simp only [Act.put, List.setIfInBounds_toArray, List.set_cons_zero, List.set_cons_succ]
    rfl
  refine take_ (i := 3) (N := some 33) (v := ?_) (a' := ?_) #[true, true, true, true, false, false, false, false, false, false, false, false, false, false, false, false, false] rfl rfl (by kernel_rfl) (fun _ _ _ h => h) (Or.inl ⟨by rfl, ?_⟩) hHeld ?_ ?_
  rotate_left
  · intro w' hS_
    have q0_ : w'.cell? ⟨g, 0, none⟩ = some (.int .i64 most) := (blk_cell (blk_below HI0.out.1 hS_) 0).trans rfl
    have q1_ : w'.cell? ⟨g, 1, none⟩ = some (.slice A l.length c) := (blk_cell (blk_below HI0.out.1 hS_) 1).trans rfl
    have q2_ : w'.cell? ⟨g, 2, none⟩ = some (.bool true) := (blk_cell (blk_below HI0.out.1 hS_) 2).trans rfl
    have q3_ : w'.cell? ⟨g, 3, none⟩ = some (.int .i64 0) := (blk_cell (blk_below HI0.out.1 hS_) 3).trans rfl
    go_simp
    with_reducible rfl
  rotate_left
  · simp only [Act.put, List.setIfInBounds_toArray, List.set_cons_zero, List.set_cons_succ]
    rfl
  refine pure_ (i := 4) (N := some 34) (v := ?_) (a' := ?_) #[true, true, true, true, true, false, false, false, false, false, false, false, false, false, false, false, false] rfl rfl (by kernel_rfl) (fun _ _ _ h => h) (Or.inl ⟨by rfl, ?_⟩) ?_ ?_
  rotate_left
  · intro w'
    go_simp
    with_reducible rfl
  rotate_left
  · simp only [Act.put, List.setIfInBounds_toArray, List.set_cons_zero, List.set_cons_succ]
    rfl
  refine pure_ (i := 5) (N := some 35) (v := ?_) (a' := ?_) #[true, true, true, true, true, true, false, false, false, false, false, false, false, false, false, false, false] rfl rfl (by kernel_rfl) (fun _ _ _ h => h) (Or.inl ⟨by rfl, ?_⟩) ?_ ?_
  rotate_left
  · intro w'
    go_simp
    with_reducible rfl
  rotate_left
  · simp only [Act.put, List.setIfInBounds_toArray, List.set_cons_zero, List.set_cons_succ]
    rfl
  refine pure_ (i := 6) (N := some 36) (v := ?_) (a' := ?_) #[true, true, true, true, true, true, true, false, false, false, false, false, false, false, false, false, false] rfl rfl (by kernel_rfl) (fun _ _ _ h => h) (Or.inl ⟨by rfl, ?_⟩) ?_ ?_
  rotate_left
  · intro w'
    go_simp
    with_reducible rfl
  rotate_left
  · simp only [Act.put, List.setIfInBounds_toArray, List.set_cons_zero, List.set_cons_succ]
    rfl
  refine take_ (i := 7) (N := some 37) (v := ?_) (a' := ?_) #[true, true, true, true, true, true, true, true, false, false, false, false, false, false, false, false, false] rfl rfl (by kernel_rfl) (fun _ _ _ h => h) (Or.inl ⟨by rfl, ?_⟩) hHeld ?_ ?_
  rotate_left
  · intro w' hS_
    have q0_ : w'.cell? ⟨g, 0, none⟩ = some (.int .i64 most) := (blk_cell (blk_below HI0.out.1 hS_) 0).trans rfl
    have q1_ : w'.cell? ⟨g, 1, none⟩ = some (.slice A l.length c) := (blk_cell (blk_below HI0.out.1 hS_) 1).trans rfl
    have q2_ : w'.cell? ⟨g, 2, none⟩ = some (.bool true) := (blk_cell (blk_below HI0.out.1 hS_) 2).trans rfl
    have q3_ : w'.cell? ⟨g, 3, none⟩ = some (.int .i64 0) := (blk_cell (blk_below HI0.out.1 hS_) 3).trans rfl
    go_simp
    with_reducible rfl
  rotate_left
  · simp only [Act.put, List.setIfInBounds_toArray, List.set_cons_zero, List.set_cons_succ]
    rfl
  refine two_ (i := 8) (j := 13) (Ni := some 38) (Nj := some 4) #[true, true, true, true, true, true, true, true, true, false, false, false, false, false, false, false, false] #[true, true, true, true, true, true, true, true, false, false, false, false, false, true, false, false, false] rfl rfl rfl rfl (by kernel_rfl) (by decide) (by decide) (fun K_ hK_ => ?_) (fun K_ hK_ => ?_)
  · skip
    have HH_ := Aside0.mk hHeld
    clear hHeld
    refine goes_ Try.func63 (by kernel_rfl) rfl #[.slice A l.length c, .int .i64 most] (by rfl) rfl rfl (by (try simp only [List.map_toArray, List.map_cons, List.map_nil]); first | done | rfl | (simp only [List.length_drop, List.length_take]; rfl)) ?_
    refine (frame_Next.calls 9 A c l most (x0) (x1) (x2) (x3) ((n : Int)) (0) _ (Kd.C_below HC0.out HH_.out) hc HNX.out).mono ?_
    rintro e_ w3 ⟨v3, rfl, hR_, hbe_⟩
    refine ⟨_, rfl, ?_⟩
    obtain ⟨A3, c3, rfl, hc3, hC3_⟩ := Kd.R_reads hR_
    have HF3 := Aside0.mk (Kd.R_F (Kd.R_mono (ok' := fun k => W0.heap.size ≤ k ∧ k < w3.heap.size) (Kd.R_bound hR_) (fun k hk => ⟨Nat.le_trans (below_size HH_.out) hk.2.1, hk.2.2.1⟩)))
    clear hR_ hC3_
    have hbn_ := below_step HH_.out hbe_
    clear HH_ hbe_
    refine hK_.out _ _ (hbn_) (fun hHeld => ?_)
    clear hK_
    refine norm_ (a' := ?_) ?_ ?_
    rotate_left
    · simp only [Act.put, List.setIfInBounds_toArray, List.set_cons_zero, List.set_cons_succ]
      rfl
    refine pure_ (i := 9) (N := some 29) (v := ?_) (a' := ?_) #[true, true, true, true, true, true, true, true, true, true, false, false, false, false, false, false, false] rfl rfl (by kernel_rfl) (fun _ _ _ h => h) (Or.inl ⟨by rfl, ?_⟩) ?_ ?_
    rotate_left
    · intro w'
      go_simp
      with_reducible rfl
    rotate_left
    · simp only [Act.put, List.setIfInBounds_toArray, List.set_cons_zero, List.set_cons_succ]
      rfl
    refine pure_ (i := 10) (N := some 39) (v := ?_) (a' := ?_) #[true, true, true, true, true, true, true, true, true, true, true, false, false, false, false, false, false] rfl rfl (by kernel_rfl) (fun _ _ _ h => h) (Or.inl ⟨by rfl, ?_⟩) ?_ ?_
    rotate_left
    · intro w'
      go_simp
      with_reducible rfl
    rotate_left
    · simp only [Act.put, List.setIfInBounds_toArray, List.set_cons_zero, List.set_cons_succ]
      rfl
    refine pure_ (i := 11) (N := some 40) (v := ?_) (a' := ?_) #[true, true, true, true, true, true, true, true, true, true, true, true, false, false, false, false, false] rfl rfl (by kernel_rfl) (fun _ _ _ h => h) (Or.inl ⟨by rfl, ?_⟩) ?_ ?_
    rotate_left
    · intro w'
      go_simp
      with_reducible rfl
    rotate_left
    · simp only [Act.put, List.setIfInBounds_toArray, List.set_cons_zero, List.set_cons_succ]
      rfl
    refine pure_ (i := 12) (N := some 41) (v := ?_) (a' := ?_) #[true, true, true, true, true, true, true, true, true, true, true, true, true, false, false, false, false] rfl rfl (by kernel_rfl) (fun _ _ _ h => h) (Or.inl ⟨by rfl, ?_⟩) ?_ ?_
    rotate_left
    · intro w'
      go_simp
      with_reducible rfl
    rotate_left
    · simp only [Act.put, List.setIfInBounds_toArray, List.set_cons_zero, List.set_cons_succ]
      rfl
    refine one_ (i := 13) (N := some 4) #[true, true, true, true, true, true, true, true, true, true, true, true, true, true, false, false, false] rfl rfl (by kernel_rfl) (by decide) (fun K_ hK_ => ?_)
    refine value_ (w1 := w3.alloc (.cells #[.int .i64 0, .int .i64 0, .int .i64 0, .slice none 0 0] 67)) (by rfl) rfl (by go_simp; rfl) ?_
    have hy_ := blk_new w3 (.cells #[.int .i64 0, .int .i64 0, .int .i64 0, .slice none 0 0] 67)
    have hby_ := below_alloc (Below.refl w3.heap.size w3) (.cells #[.int .i64 0, .int .i64 0, .int .i64 0, .slice none 0 0] 67)
    have hbn_ := below_step hHeld hby_
    have hf4_ := Kd.F_mono (ok' := fun k => W0.heap.size ≤ k ∧ k ≠ w3.heap.size) (Kd.F_below HF3.out hby_) (fun k hk => ⟨hk.1, by have := hk.2; omega⟩)
    obtain ⟨gy, hgy_⟩ : ∃ q_, w3.heap.size = q_ := ⟨_, rfl⟩
    have HYG : Aside0 (W0.heap.size ≤ gy) := ⟨by have := below_size hHeld; omega⟩
    obtain ⟨w4, hw4_⟩ : ∃ W_ : World, W_ = w3.alloc (.cells #[.int .i64 0, .int .i64 0, .int .i64 0, .slice none 0 0] 67) := ⟨_, rfl⟩
    rw [← hw4_] at hy_ hbn_ hf4_ ⊢
    rw [hgy_] at hy_ hf4_ ⊢
    clear hw4_ hgy_ hby_ hHeld
    have HY := Aside0.mk hy_
    clear hy_
    have HF4 := Aside0.mk hf4_
    clear hf4_ HF3
    have HB4 := Aside0.mk hbn_
    refine hK_.out _ _ (hbn_) (fun hHeld => ?_)
    clear hK_
    refine norm_ (a' := ?_) ?_ ?_
    rotate_left
    · simp only [Act.put, List.setIfInBounds_toArray, List.set_cons_zero, List.set_cons_succ]
      rfl
    refine one_ (i := 14) (N := none) #[true, true, true, true, true, true, true, true, true, true, true, true, true, true, true, false, false] rfl rfl (by kernel_rfl) (by decide) (fun K_ hK_ => ?_)
    clear hHeld
    have k0_ : w4.cell? ⟨gy, 0, none⟩ = some (.int .i64 0) := (blk_cell HY.out 0).trans rfl
    have kf0_ := blk_frozen HY.out 0
    have k1_ : w4.cell? ⟨gy, 1, none⟩ = some (.int .i64 0) := (blk_cell HY.out 1).trans rfl
    have kf1_ := blk_frozen HY.out 1
    have k2_ : w4.cell? ⟨gy, 2, none⟩ = some (.int .i64 0) := (blk_cell HY.out 2).trans rfl
    have kf2_ := blk_frozen HY.out 2
    have k3_ : w4.cell? ⟨gy, 3, none⟩ = some (.slice none 0 0) := (blk_cell HY.out 3).trans rfl
    have kf3_ := blk_frozen HY.out 3
    refine skip_ (w1 := ((((w4.setCell ⟨gy, 0, none⟩ (.int .i64 (x0))).setCell ⟨gy, 1, none⟩ (.int .i64 (x1))).setCell ⟨gy, 2, none⟩ (.int .i64 (x2))).setCell ⟨gy, 3, none⟩ (.slice A3 (x3 : List Int).length c3))) (by rfl) rfl (by first | (go_simp; done) | (go_simp; rfl)) ?_
    have hfs_ := four_sets (y0 := .int .i64 (x0)) (y1 := .int .i64 (x1)) (y2 := .int .i64 (x2)) (y3 := .slice A3 (x3 : List Int).length c3) HY.out
    have hbn_ : Below W0.heap.size W0 ((((w4.setCell ⟨gy, 0, none⟩ (.int .i64 (x0))).setCell ⟨gy, 1, none⟩ (.int .i64 (x1))).setCell ⟨gy, 2, none⟩ (.int .i64 (x2))).setCell ⟨gy, 3, none⟩ (.slice A3 (x3 : List Int).length c3)) := hfs_.2.under HB4.out (fun k hk => by rw [show k = gy from hk]; exact HYG.out)
    have HX5 := Aside0.mk hfs_.1
    have hf5_ := Kd.F_step HF4.out (fun k hk hlt => hfs_.2.block k hlt (fun e => hk.2 e))
    clear k0_ k1_ k2_ k3_ kf0_ kf1_ kf2_ kf3_ hfs_
    refine hK_.out _ _ (hbn_) (fun hHeld => ?_)
    clear hK_
    refine pure_ (i := 15) (N := some 5) (v := ?_) (a' := ?_) #[true, true, true, true, true, true, true, true, true, true, true, true, true, true, true, true, false] rfl rfl (by kernel_rfl) (fun _ _ _ h => h) (Or.inl ⟨by rfl, ?_⟩) ?_ ?_
    rotate_left
    · intro w'
      go_simp
      with_reducible rfl
    rotate_left
    · simp only [Act.put, List.setIfInBounds_toArray, List.set_cons_zero, List.set_cons_succ]
      rfl
    refine pure_ (i := 16) (N := some 6) (v := ?_) (a' := ?_) #[true, true, true, true, true, true, true, true, true, true, true, true, true, true, true, true, true] rfl rfl (by kernel_rfl) (fun _ _ _ h => h) (Or.inl ⟨by rfl, ?_⟩) ?_ ?_
    rotate_left
    · intro w'
      go_simp
      with_reducible rfl
    rotate_left
    · simp only [Act.put, List.setIfInBounds_toArray, List.set_cons_zero, List.set_cons_succ]
      rfl
    refine done_ (by kernel_rfl) ?_
    have HB5 := Aside0.mk hHeld
    clear hHeld
    obtain ⟨w5, hw5_⟩ : ∃ W_ : World, W_ = ((((w4.setCell ⟨gy, 0, none⟩ (.int .i64 (x0))).setCell ⟨gy, 1, none⟩ (.int .i64 (x1))).setCell ⟨gy, 2, none⟩ (.int .i64 (x2))).setCell ⟨gy, 3, none⟩ (.slice A3 (x3 : List Int).length c3)) := ⟨_, rfl⟩
    rw [← hw5_] at HX5 hf5_ HB5 ⊢
    clear hw5_ HY HB4 HF4 hbn_
    have HF5 := Aside0.mk hf5_
    clear hf5_
    have HI5 := Aside0.mk (HI0.out.below HB5.out)
    have HZ5 := Aside0.mk (blk_below HZ0.out HB5.out)
    have HS5 := Aside0.mk (below_step HB0.out HB5.out)
    have HGY : Aside0 (gy ≠ g ∧ gy ≠ gz) := ⟨by have h1 := blk_lt HH0.out.1; have h2 := below_size HB0.out; have h3 := HYG.out; have h4 := blk_lt HZ0.out; omega⟩
    go_wp2_with fail
    obtain ⟨A', hA'⟩ : ∃ A', (if l.length = n then A else Option.map (fun x => x.add n) A) = A' := ⟨_, rfl⟩
    have hlT : ((n : Int) ≤ (l.length : Int)) = True := eq_true (by omega)
    have hlN : (n ≤ l.length) = True := eq_true hn
    refine start_ (n := 20) (S := fun w' => Below w5.heap.size w5 w') (ds := [19]) #[false, false, false, false, false, false, false, false, false, false, false, false, false, false, false, false, false, false, false, false] (by kernel_rfl) rfl rfl (below_drew1 (Below.refl _ _)) (fun hHeld => ?_)
    refine pure_ (i := 0) (N := some 55) (v := ?_) (a' := ?_) #[true, false, false, false, false, false, false, false, false, false, false, false, false, false, false, false, false, false, false, false] rfl rfl (by kernel_rfl) (fun _ _ _ h => h) (Or.inl ⟨by rfl, ?_⟩) ?_ ?_
    rotate_left
    · intro w'
      go_simp
      with_reducible rfl
    rotate_left
    · simp only [Act.put, List.setIfInBounds_toArray, List.set_cons_zero, List.set_cons_succ]
      rfl
    refine pure_ (i := 1) (N := some 56) (v := ?_) (a' := ?_) #[true, true, false, false, false, false, false, false, false, false, false, false, false, false, false, false, false, false, false, false] rfl rfl (by kernel_rfl) (fun _ _ _ h => h) (Or.inl ⟨by rfl, ?_⟩) ?_ ?_
    rotate_left
    · intro w'
      go_simp
      with_reducible rfl
    rotate_left
    · simp only [Act.put, List.setIfInBounds_toArray, List.set_cons_zero, List.set_cons_succ]
      rfl
    refine pure_ (i := 2) (N := some 57) (v := ?_) (a' := ?_) #[true, true, true, false, false, false, false, false, false, false, false, false, false, false, false, false, false, false, false, false] rfl rfl (by kernel_rfl) (fun _ _ _ h => h) (Or.inl ⟨by rfl, ?_⟩) ?_ ?_
    rotate_left
    · intro w'
      go_simp
      with_reducible rfl
    rotate_left
    · simp only [Act.put, List.setIfInBounds_toArray, List.set_cons_zero, List.set_cons_succ]
      rfl
    refine pure_ (i := 3) (N := some 58) (v := ?_) (a' := ?_) #[true, true, true, true, false, false, false, false, false, false, false, false, false, false, false, false, false, false, false, false] rfl rfl (by kernel_rfl) (fun _ _ _ h => h) (Or.inl ⟨by rfl, ?_⟩) ?_ ?_
    rotate_left
    · intro w'
      go_simp
      with_reducible rfl
    rotate_left
    · simp only [Act.put, List.setIfInBounds_toArray, List.set_cons_zero, List.set_cons_succ]
      rfl
    refine take_ (i := 4) (N := some 59) (v := ?_) (a' := ?_) #[true, true, true, true, true, false, false, false, false, false, false, false, false, false, false, false, false, false, false, false] rfl rfl (by kernel_rfl) (fun _ _ _ h => h) (Or.inl ⟨by rfl, ?_⟩) hHeld ?_ ?_
    rotate_left
    · intro w' hS_
      have q0_ : w'.cell? ⟨g, 0, none⟩ = some (.int .i64 most) := (blk_cell (blk_below HI5.out.1 hS_) 0).trans rfl
      have q1_ : w'.cell? ⟨g, 1, none⟩ = some (.slice A l.length c) := (blk_cell (blk_below HI5.out.1 hS_) 1).trans rfl
      have q2_ : w'.cell? ⟨g, 2, none⟩ = some (.bool true) := (blk_cell (blk_below HI5.out.1 hS_) 2).trans rfl
      have q3_ : w'.cell? ⟨g, 3, none⟩ = some (.int .i64 0) := (blk_cell (blk_below HI5.out.1 hS_) 3).trans rfl
      go_simp
      with_reducible rfl
    rotate_left
    · simp only [Act.put, List.setIfInBounds_toArray, List.set_cons_zero, List.set_cons_succ]
      rfl
    refine pure_ (i := 5) (N := some 60) (v := ?_) (a' := ?_) #[true, true, true, true, true, true, false, false, false, false, false, false, false, false, false, false, false, false, false, false] rfl rfl (by kernel_rfl) (fun _ _ _ h => h) (Or.inl ⟨by rfl, ?_⟩) ?_ ?_
    rotate_left
    · intro w'
      go_simp
      with_reducible rfl
    rotate_left
    · simp only [Act.put, List.setIfInBounds_toArray, List.set_cons_zero, List.set_cons_succ]
      rfl
    refine pure_ (i := 6) (N := some 61) (v := ?_) (a' := ?_) #[true, true, true, true, true, true, true, false, false, false, false, false, false, false, false, false, false, false, false, false] rfl rfl (by kernel_rfl) (fun _ _ _ h => h) (Or.inl ⟨by rfl, ?_⟩) ?_ ?_
    rotate_left
    · intro w'
      go_simp
      with_reducible rfl
    rotate_left
    · simp only [Act.put, List.setIfInBounds_toArray, List.set_cons_zero, List.set_cons_succ]
      rfl
    refine pure_ (i := 7) (N := some 62) (v := ?_) (a' := ?_) #[true, true, true, true, true, true, true, true, false, false, false, false, false, false, false, false, false, false, false, false] rfl rfl (by kernel_rfl) (fun _ _ _ h => h) (Or.inl ⟨by rfl, ?_⟩) ?_ ?_
    rotate_left
    · intro w'
      go_simp
      with_reducible rfl
    rotate_left
    · simp only [Act.put, List.setIfInBounds_toArray, List.set_cons_zero, List.set_cons_succ]
      rfl
    refine pure_ (i := 8) (N := some 63) (v := ?_) (a' := ?_) #[true, true, true, true, true, true, true, true, true, false, false, false, false, false, false, false, false, false, false, false] rfl rfl (by kernel_rfl) (fun _ _ _ h => h) (Or.inl ⟨by rfl, ?_⟩) ?_ ?_
    rotate_left
    · intro w'
      go_simp
      with_reducible rfl
    rotate_left
    · simp only [Act.put, List.setIfInBounds_toArray, List.set_cons_zero, List.set_cons_succ]
      rfl
    refine take_ (i := 9) (N := some 64) (v := ?_) (a' := ?_) #[true, true, true, true, true, true, true, true, true, true, false, false, false, false, false, false, false, false, false, false] rfl rfl (by kernel_rfl) (fun _ _ _ h => h) (Or.inl ⟨by rfl, ?_⟩) hHeld ?_ ?_
    rotate_left
    · intro w' hS_
      have q0_ : w'.cell? ⟨g, 0, none⟩ = some (.int .i64 most) := (blk_cell (blk_below HI5.out.1 hS_) 0).trans rfl
      have q1_ : w'.cell? ⟨g, 1, none⟩ = some (.slice A l.length c) := (blk_cell (blk_below HI5.out.1 hS_) 1).trans rfl
      have q2_ : w'.cell? ⟨g, 2, none⟩ = some (.bool true) := (blk_cell (blk_below HI5.out.1 hS_) 2).trans rfl
      have q3_ : w'.cell? ⟨g, 3, none⟩ = some (.int .i64 0) := (blk_cell (blk_below HI5.out.1 hS_) 3).trans rfl
      go_simp
      with_reducible rfl
    rotate_left
    · simp only [Act.put, List.setIfInBounds_toArray, List.set_cons_zero, List.set_cons_succ]
      rfl
    refine pure_ (i := 10) (N := some 65) (v := ?_) (a' := ?_) #[true, true, true, true, true, true, true, true, true, true, true, false, false, false, false, false, false, false, false, false] rfl rfl (by kernel_rfl) (fun _ _ _ h => h) (Or.inl ⟨by rfl, ?_⟩) ?_ ?_
    rotate_left
    · intro w'
      go_simp
      with_reducible rfl
    rotate_left
    · simp only [Act.put, List.setIfInBounds_toArray, List.set_cons_zero, List.set_cons_succ]
      rfl
    refine pure_ (i := 11) (N := some 66) (v := ?_) (a' := ?_) #[true, true, true, true, true, true, true, true, true, true, true, true, false, false, false, false, false, false, false, false] rfl rfl (by kernel_rfl) (fun _ _ _ h => h) (Or.inl ⟨by rfl, ?_⟩) ?_ ?_
    rotate_left
    · intro w'
      go_simp
      with_reducible rfl
    rotate_left
    · simp only [Act.put, List.setIfInBounds_toArray, List.set_cons_zero, List.set_cons_succ]
      rfl
    refine pure_ (i := 12) (N := some 67) (v := ?_) (a' := ?_) #[true, true, true, true, true, true, true, true, true, true, true, true, true, false, false, false, false, false, false, false] rfl rfl (by kernel_rfl) (fun _ _ _ h => h) (Or.inl ⟨by rfl, ?_⟩) ?_ ?_
    rotate_left
    · intro w'
      go_simp
      with_reducible rfl
    rotate_left
    · simp only [Act.put, List.setIfInBounds_toArray, List.set_cons_zero, List.set_cons_succ]
      rfl
    refine pure_ (i := 13) (N := some 68) (v := ?_) (a' := ?_) #[true, true, true, true, true, true, true, true, true, true, true, true, true, true, false, false, false, false, false, false] rfl rfl (by kernel_rfl) (fun _ _ _ h => h) (Or.inl ⟨by rfl, ?_⟩) ?_ ?_
    rotate_left
    · intro w'
      go_simp
      with_reducible rfl
    rotate_left
    · simp only [Act.put, List.setIfInBounds_toArray, List.set_cons_zero, List.set_cons_succ]
      rfl
    refine take_ (i := 14) (N := some 69) (v := ?_) (a' := ?_) #[true, true, true, true, true, true, true, true, true, true, true, true, true, true, true, false, false, false, false, false] rfl rfl (by kernel_rfl) (fun _ _ _ h => h) (Or.inl ⟨by rfl, ?_⟩) hHeld ?_ ?_
    rotate_left
    · intro w' hS_
      have q0_ : w'.cell? ⟨g, 0, none⟩ = some (.int .i64 most) := (blk_cell (blk_below HI5.out.1 hS_) 0).trans rfl
      have q1_ : w'.cell? ⟨g, 1, none⟩ = some (.slice A l.length c) := (blk_cell (blk_below HI5.out.1 hS_) 1).trans rfl
      have q2_ : w'.cell? ⟨g, 2, none⟩ = some (.bool true) := (blk_cell (blk_below HI5.out.1 hS_) 2).trans rfl
      have q3_ : w'.cell? ⟨g, 3, none⟩ = some (.int .i64 0) := (blk_cell (blk_below HI5.out.1 hS_) 3).trans rfl
      go_simp
      with_reducible rfl
    rotate_left
    · simp only [Act.put, List.setIfInBounds_toArray, List.set_cons_zero, List.set_cons_succ]
      rfl
    refine pure_ (i := 15) (N := some 70) (v := ?_) (a' := ?_) #[true, true, true, true, true, true, true, true, true, true, true, true, true, true, true, true, false, false, false, false] rfl rfl (by kernel_rfl) (fun _ _ _ h => h) (Or.inl ⟨by rfl, ?_⟩) ?_ ?_
    rotate_left
    · intro w'
      go_simp
      with_reducible rfl
    rotate_left
    · simp only [Act.put, List.setIfInBounds_toArray, List.set_cons_zero, List.set_cons_succ]
      rfl
    refine pure_ (i := 16) (N := some 71) (v := ?_) (a' := ?_) #[true, true, true, true, true, true, true, true, true, true, true, true, true, true, true, true, true, false, false, false] rfl rfl (by kernel_rfl) (fun _ _ _ h => h) (Or.inl ⟨by rfl, ?_⟩) ?_ ?_
    rotate_left
    · intro w'
      (try simp only [hA'])
      go_simp
      (try simp only [hA'])
      with_reducible rfl
    rotate_left
    · simp only [Act.put, List.setIfInBounds_toArray, List.set_cons_zero, List.set_cons_succ]
      rfl
    refine pure_ (i := 17) (N := some 72) (v := ?_) (a' := ?_) #[true, true, true, true, true, true, true, true, true, true, true, true, true, true, true, true, true, true, false, false] rfl rfl (by kernel_rfl) (fun _ _ _ h => h) (Or.inl ⟨by rfl, ?_⟩) ?_ ?_
    rotate_left
    · intro w'
      go_simp
      with_reducible rfl
    rotate_left
    · simp only [Act.put, List.setIfInBounds_toArray, List.set_cons_zero, List.set_cons_succ]
      rfl
    refine pure_ (i := 18) (N := some 73) (v := ?_) (a' := ?_) #[true, true, true, true, true, true, true, true, true, true, true, true, true, true, true, true, true, true, true, false] rfl rfl (by kernel_rfl) (fun _ _ _ h => h) (Or.inl ⟨by rfl, ?_⟩) ?_ ?_
    rotate_left
    · intro w'
      go_simp
      with_reducible rfl
    rotate_left
    · simp only [Act.put, List.setIfInBounds_toArray, List.set_cons_zero, List.set_cons_succ]
      rfl
    have HD := Aside0.mk (HI5.out.below hHeld)
    have s1_ : w5.drew.cell? ⟨g, 1, none⟩ = some (.slice A l.length c) := (blk_cell HD.out.1 1).trans rfl
    have f1_ := blk_frozen HD.out.1 1
    have t1_ : w5.cell? ⟨g, 1, none⟩ = some (.slice A l.length c) := (blk_cell HI5.out.1 1).trans rfl
    have u1_ := blk_frozen HI5.out.1 1
    refine last_store (i := 19) (w1 := (w5.drew.setCell ⟨g, 1, none⟩ (.slice A' (l.length - n) (l.length - n)))) #[true, true, true, true, true, true, true, true, true, true, true, true, true, true, true, true, true, true, true, true] rfl rfl (by kernel_rfl) (by decide) (by rfl) (by first | (go_simp; done) | (go_simp; rfl)) ?_
    clear s1_ f1_ t1_ u1_
    have HC_ := Aside0.mk (HD.out.cut n hn hA')
    refine done_ (by kernel_rfl) ?_
    have HKD : Aside0 (Keeps w (w5.drew.setCell ⟨g, 1, none⟩ (.slice A' (l.length - n) (l.length - n))) (FootT g (.slice A l.length c))) := ⟨((Keeps.of_below HS5.out _).below hHeld).set (.inl (.inl rfl)) 1 _⟩
    have HF6 : Aside0 (Kd.F (Kd.int .u8) (w5.drew.setCell ⟨g, 1, none⟩ (.slice A' (l.length - n) (l.length - n))) (fun k => W0.heap.size ≤ k ∧ k ≠ gy) A3 x3.length x3) := ⟨Kd.F_far (p := ⟨g, 1, none⟩) (Kd.F_below HF5.out hHeld) (fun k hk e => by have h1 := blk_lt HH0.out.1; have h2 := below_size HB0.out; have h3 := hk.1; have h4 : k = g := e; omega) _⟩
    have HX6 := Aside0.mk (blk_far (blk_below HX5.out hHeld) (p := ⟨g, 1, none⟩) (fun e => HGY.out.1 e) (.slice A' (l.length - n) (l.length - n)))
    have HZ6 := Aside0.mk (blk_far (blk_below HZ5.out hHeld) (p := ⟨g, 1, none⟩) (fun e => hgz e.symm) (.slice A' (l.length - n) (l.length - n)))
    clear hHeld
    obtain ⟨w6, hw6_⟩ : ∃ W_ : World, W_ = (w5.drew.setCell ⟨g, 1, none⟩ (.slice A' (l.length - n) (l.length - n))) := ⟨_, rfl⟩
    rw [← hw6_] at HKD HF6 HX6 HZ6 HC_ ⊢
    clear hw6_
    have x0_ : w6.cell? ⟨gy, 0, none⟩ = some (.int .i64 x0) := (blk_cell HX6.out 0).trans rfl
    have x1_ : w6.cell? ⟨gy, 1, none⟩ = some (.int .i64 x1) := (blk_cell HX6.out 1).trans rfl
    have x2_ : w6.cell? ⟨gy, 2, none⟩ = some (.int .i64 x2) := (blk_cell HX6.out 2).trans rfl
    have x3_ : w6.cell? ⟨gy, 3, none⟩ = some (.slice A3 x3.length c3) := (blk_cell HX6.out 3).trans rfl
    have z0_ : w6.cell? ⟨gz, 0, none⟩ = some (.int .i64 0) := (blk_cell HZ6.out 0).trans rfl
    have z1_ : w6.cell? ⟨gz, 1, none⟩ = some (.int .i64 0) := (blk_cell HZ6.out 1).trans rfl
    have z2_ : w6.cell? ⟨gz, 2, none⟩ = some (.int .i64 0) := (blk_cell HZ6.out 2).trans rfl
    have z3_ : w6.cell? ⟨gz, 3, none⟩ = some (.slice none 0 0) := (blk_cell HZ6.out 3).trans rfl
    have y0_ := blk_frozen HZ6.out 0
    have y1_ := blk_frozen HZ6.out 1
    have y2_ := blk_frozen HZ6.out 2
    have y3_ := blk_frozen HZ6.out 3
    have HFS := Aside0.mk (four_sets (y0 := .int .i64 x0) (y1 := .int .i64 x1) (y2 := .int .i64 x2) (y3 := .slice A3 x3.length c3) HZ6.out)
    go_wp2_with fail
    refine bodyPost_ret (results_ct rfl _ _ gz 67 _ (0, 0) _ rfl HFS.out.1 Try.underlying67 rfl sz67c) rfl ?_
    refine ⟨A3, c3, rfl, hc3, Kd.F_mono (Kd.F_bound (Kd.F_step HF6.out (fun k hk hlt => HFS.out.2.block k hlt (fun e => by have h1 := blk_lt HZ0.out; have h2 := hk.1; have h3 : k = gz := e; omega)))) (fun k hk => ⟨by have h1 := below_size HB0.out; have h2 := hk.1.1; omega, hk.2⟩), _, HC_.out.1.keeps HFS.out.2 (fun k hk e => ?_), HKD.out.then_ HFS.out.2 (fun i hi => .inr (by have h1 : i = gz := hi; have h2 := HGZ.out; omega)), fun k hk => by rw [HC_.out.2] at hk; exact hk⟩
    rcases hk with h1 | h1
    · exact hgz (h1.symm.trans e)
    · rw [HC_.out.2] at h1; have h2 := HH0.out.2.1.lt k h1; have h3 := HGZ.out; have h4 : k = gz := e; omega
    
  · skip
    obtain ⟨wd, hwd_⟩ : ∃ W_ : World, W_ = W0.drew := ⟨_, rfl⟩
    rw [← hwd_] at hHeld ⊢
    clear hwd_
    refine value_ (w1 := wd.alloc (.cells #[.int .i64 0, .int .i64 0, .int .i64 0, .slice none 0 0] 67)) (by rfl) rfl (by go_simp; rfl) ?_
    have hy_ := blk_new wd (.cells #[.int .i64 0, .int .i64 0, .int .i64 0, .slice none 0 0] 67)
    have hby_ := below_alloc (Below.refl wd.heap.size wd) (.cells #[.int .i64 0, .int .i64 0, .int .i64 0, .slice none 0 0] 67)
    have hbn_ := below_step hHeld hby_
    obtain ⟨gy, hgy_⟩ : ∃ q_, wd.heap.size = q_ := ⟨_, rfl⟩
    have HYG : Aside0 (W0.heap.size ≤ gy) := ⟨by have := below_size hHeld; omega⟩
    obtain ⟨wa, hw4_⟩ : ∃ W_ : World, W_ = wd.alloc (.cells #[.int .i64 0, .int .i64 0, .int .i64 0, .slice none 0 0] 67) := ⟨_, rfl⟩
    rw [← hw4_] at hy_ hbn_ ⊢
    rw [hgy_] at hy_ ⊢
    clear hw4_ hgy_ hby_ hHeld
    have HY := Aside0.mk hy_
    clear hy_
    skip
    refine hK_.out _ _ (hbn_) (fun hHeld => ?_)
    clear hK_
    refine norm_ (a' := ?_) ?_ ?_
    rotate_left
    · simp only [Act.put, List.setIfInBounds_toArray, List.set_cons_zero, List.set_cons_succ]
      rfl
    refine one_ (i := 8) (N := some 38) #[true, true, true, true, true, true, true, true, true, false, false, false, false, true, false, false, false] rfl rfl (by kernel_rfl) (by decide) (fun K_ hK_ => ?_)
    have HH_ := Aside0.mk hHeld
    clear hHeld
    refine goes_ Try.func63 (by kernel_rfl) rfl #[.slice A l.length c, .int .i64 most] (by rfl) rfl rfl (by (try simp only [List.map_toArray, List.map_cons, List.map_nil]); first | done | rfl | (simp only [List.length_drop, List.length_take]; rfl)) ?_
    refine (frame_Next.calls 9 A c l most (x0) (x1) (x2) (x3) ((n : Int)) (0) _ (Kd.C_below HC0.out HH_.out) hc HNX.out).mono ?_
    rintro e_ w4 ⟨v3, rfl, hR_, hbe_⟩
    refine ⟨_, rfl, ?_⟩
    obtain ⟨A3, c3, rfl, hc3, hC3_⟩ := Kd.R_reads hR_
    have HF4 := Aside0.mk (Kd.R_F (Kd.R_mono (ok' := fun k => W0.heap.size ≤ k ∧ k ≠ gy) (Kd.R_bound hR_) (fun k hk => ⟨Nat.le_trans (below_size HH_.out) hk.2.1, fun e => by have := blk_lt HY.out; have := hk.2.1; omega⟩)))
    have HB4 := Aside0.mk (below_step HH_.out hbe_)
    have HY_ := Aside0.mk (blk_below HY.out hbe_)
    clear HY
    have HY := HY_
    clear HY_
    clear hR_ hC3_
    have hbn_ := below_step HH_.out hbe_
    clear HH_ hbe_
    refine hK_.out _ _ (hbn_) (fun hHeld => ?_)
    clear hK_
    refine norm_ (a' := ?_) ?_ ?_
    rotate_left
    · simp only [Act.put, List.setIfInBounds_toArray, List.set_cons_zero, List.set_cons_succ]
      rfl
    refine pure_ (i := 9) (N := some 29) (v := ?_) (a' := ?_) #[true, true, true, true, true, true, true, true, true, true, false, false, false, true, false, false, false] rfl rfl (by kernel_rfl) (fun _ _ _ h => h) (Or.inl ⟨by rfl, ?_⟩) ?_ ?_
    rotate_left
    · intro w'
      go_simp
      with_reducible rfl
    rotate_left
    · simp only [Act.put, List.setIfInBounds_toArray, List.set_cons_zero, List.set_cons_succ]
      rfl
    refine pure_ (i := 10) (N := some 39) (v := ?_) (a' := ?_) #[true, true, true, true, true, true, true, true, true, true, true, false, false, true, false, false, false] rfl rfl (by kernel_rfl) (fun _ _ _ h => h) (Or.inl ⟨by rfl, ?_⟩) ?_ ?_
    rotate_left
    · intro w'
      go_simp
      with_reducible rfl
    rotate_left
    · simp only [Act.put, List.setIfInBounds_toArray, List.set_cons_zero, List.set_cons_succ]
      rfl
    refine pure_ (i := 11) (N := some 40) (v := ?_) (a' := ?_) #[true, true, true, true, true, true, true, true, true, true, true, true, false, true, false, false, false] rfl rfl (by kernel_rfl) (fun _ _ _ h => h) (Or.inl ⟨by rfl, ?_⟩) ?_ ?_
    rotate_left
    · intro w'
      go_simp
      with_reducible rfl
    rotate_left
    · simp only [Act.put, List.setIfInBounds_toArray, List.set_cons_zero, List.set_cons_succ]
      rfl
    refine pure_ (i := 12) (N := some 41) (v := ?_) (a' := ?_) #[true, true, true, true, true, true, true, true, true, true, true, true, true, true, false, false, false] rfl rfl (by kernel_rfl) (fun _ _ _ h => h) (Or.inl ⟨by rfl, ?_⟩) ?_ ?_
    rotate_left
    · intro w'
      go_simp
      with_reducible rfl
    rotate_left
    · simp only [Act.put, List.setIfInBounds_toArray, List.set_cons_zero, List.set_cons_succ]
      rfl
    refine one_ (i := 14) (N := none) #[true, true, true, true, true, true, true, true, true, true, true, true, true, true, true, false, false] rfl rfl (by kernel_rfl) (by decide) (fun K_ hK_ => ?_)
    clear hHeld
    have k0_ : w4.cell? ⟨gy, 0, none⟩ = some (.int .i64 0) := (blk_cell HY.out 0).trans rfl
    have kf0_ := blk_frozen HY.out 0
    have k1_ : w4.cell? ⟨gy, 1, none⟩ = some (.int .i64 0) := (blk_cell HY.out 1).trans rfl
    have kf1_ := blk_frozen HY.out 1
    have k2_ : w4.cell? ⟨gy, 2, none⟩ = some (.int .i64 0) := (blk_cell HY.out 2).trans rfl
    have kf2_ := blk_frozen HY.out 2
    have k3_ : w4.cell? ⟨gy, 3, none⟩ = some (.slice none 0 0) := (blk_cell HY.out 3).trans rfl
    have kf3_ := blk_frozen HY.out 3
    refine skip_ (w1 := ((((w4.setCell ⟨gy, 0, none⟩ (.int .i64 (x0))).setCell ⟨gy, 1, none⟩ (.int .i64 (x1))).setCell ⟨gy, 2, none⟩ (.int .i64 (x2))).setCell ⟨gy, 3, none⟩ (.slice A3 (x3 : List Int).length c3))) (by rfl) rfl (by first | (go_simp; done) | (go_simp; rfl)) ?_
    have hfs_ := four_sets (y0 := .int .i64 (x0)) (y1 := .int .i64 (x1)) (y2 := .int .i64 (x2)) (y3 := .slice A3 (x3 : List Int).length c3) HY.out
    have hbn_ : Below W0.heap.size W0 ((((w4.setCell ⟨gy, 0, none⟩ (.int .i64 (x0))).setCell ⟨gy, 1, none⟩ (.int .i64 (x1))).setCell ⟨gy, 2, none⟩ (.int .i64 (x2))).setCell ⟨gy, 3, none⟩ (.slice A3 (x3 : List Int).length c3)) := hfs_.2.under HB4.out (fun k hk => by rw [show k = gy from hk]; exact HYG.out)
    have HX5 := Aside0.mk hfs_.1
    have hf5_ := Kd.F_step HF4.out (fun k hk hlt => hfs_.2.block k hlt (fun e => hk.2 e))
    clear k0_ k1_ k2_ k3_ kf0_ kf1_ kf2_ kf3_ hfs_
    refine hK_.out _ _ (hbn_) (fun hHeld => ?_)
    clear hK_
    refine pure_ (i := 15) (N := some 5) (v := ?_) (a' := ?_) #[true, true, true, true, true, true, true, true, true, true, true, true, true, true, true, true, false] rfl rfl (by kernel_rfl) (fun _ _ _ h => h) (Or.inl ⟨by rfl, ?_⟩) ?_ ?_
    rotate_left
    · intro w'
      go_simp
      with_reducible rfl
    rotate_left
    · simp only [Act.put, List.setIfInBounds_toArray, List.set_cons_zero, List.set_cons_succ]
      rfl
    refine pure_ (i := 16) (N := some 6) (v := ?_) (a' := ?_) #[true, true, true, true, true, true, true, true, true, true, true, true, true, true, true, true, true] rfl rfl (by kernel_rfl) (fun _ _ _ h => h) (Or.inl ⟨by rfl, ?_⟩) ?_ ?_
    rotate_left
    · intro w'
      go_simp
      with_reducible rfl
    rotate_left
    · simp only [Act.put, List.setIfInBounds_toArray, List.set_cons_zero, List.set_cons_succ]
      rfl
    refine done_ (by kernel_rfl) ?_
    have HB5 := Aside0.mk hHeld
    clear hHeld
    obtain ⟨w5, hw5_⟩ : ∃ W_ : World, W_ = ((((w4.setCell ⟨gy, 0, none⟩ (.int .i64 (x0))).setCell ⟨gy, 1, none⟩ (.int .i64 (x1))).setCell ⟨gy, 2, none⟩ (.int .i64 (x2))).setCell ⟨gy, 3, none⟩ (.slice A3 (x3 : List Int).length c3)) := ⟨_, rfl⟩
    rw [← hw5_] at HX5 hf5_ HB5 ⊢
    clear hw5_ HY HB4 HF4 hbn_
    have HF5 := Aside0.mk hf5_
    clear hf5_
    have HI5 := Aside0.mk (HI0.out.below HB5.out)
    have HZ5 := Aside0.mk (blk_below HZ0.out HB5.out)
    have HS5 := Aside0.mk (below_step HB0.out HB5.out)
    have HGY : Aside0 (gy ≠ g ∧ gy ≠ gz) := ⟨by have h1 := blk_lt HH0.out.1; have h2 := below_size HB0.out; have h3 := HYG.out; have h4 := blk_lt HZ0.out; omega⟩
    go_wp2_with fail
    obtain ⟨A', hA'⟩ : ∃ A', (if l.length = n then A else Option.map (fun x => x.add n) A) = A' := ⟨_, rfl⟩
    have hlT : ((n : Int) ≤ (l.length : Int)) = True := eq_true (by omega)
    have hlN : (n ≤ l.length) = True := eq_true hn
    refine start_ (n := 20) (S := fun w' => Below w5.heap.size w5 w') (ds := [19]) #[false, false, false, false, false, false, false, false, false, false, false, false, false, false, false, false, false, false, false, false] (by kernel_rfl) rfl rfl (below_drew1 (Below.refl _ _)) (fun hHeld => ?_)
    refine pure_ (i := 0) (N := some 55) (v := ?_) (a' := ?_) #[true, false, false, false, false, false, false, false, false, false, false, false, false, false, false, false, false, false, false, false] rfl rfl (by kernel_rfl) (fun _ _ _ h => h) (Or.inl ⟨by rfl, ?_⟩) ?_ ?_
    rotate_left
    · intro w'
      go_simp
      with_reducible rfl
    rotate_left
    · simp only [Act.put, List.setIfInBounds_toArray, List.set_cons_zero, List.set_cons_succ]
      rfl
    refine pure_ (i := 1) (N := some 56) (v := ?_) (a' := ?_) #[true, true, false, false, false, false, false, false, false, false, false, false, false, false, false, false, false, false, false, false] rfl rfl (by kernel_rfl) (fun _ _ _ h => h) (Or.inl ⟨by rfl, ?_⟩) ?_ ?_
    rotate_left
    · intro w'
      go_simp
      with_reducible rfl
    rotate_left
    · simp only [Act.put, List.setIfInBounds_toArray, List.set_cons_zero, List.set_cons_succ]
      rfl
    refine pure_ (i := 2) (N := some 57) (v := ?_) (a' := ?_) #[true, true, true, false, false, false, false, false, false, false, false, false, false, false, false, false, false, false, false, false] rfl rfl (by kernel_rfl) (fun _ _ _ h => h) (Or.inl ⟨by rfl, ?_⟩) ?_ ?_
    rotate_left
    · intro w'
      go_simp
      with_reducible rfl
    rotate_left
    · simp only [Act.put, List.setIfInBounds_toArray, List.set_cons_zero, List.set_cons_succ]
      rfl
    refine pure_ (i := 3) (N := some 58) (v := ?_) (a' := ?_) #[true, true, true, true, false, false, false, false, false, false, false, false, false, false, false, false, false, false, false, false] rfl rfl (by kernel_rfl) (fun _ _ _ h => h) (Or.inl ⟨by rfl, ?_⟩) ?_ ?_
    rotate_left
    · intro w'
      go_simp
      with_reducible rfl
    rotate_left
    · simp only [Act.put, List.setIfInBounds_toArray, List.set_cons_zero, List.set_cons_succ]
      rfl
    refine take_ (i := 4) (N := some 59) (v := ?_) (a' := ?_) #[true, true, true, true, true, false, false, false, false, false, false, false, false, false, false, false, false, false, false, false] rfl rfl (by kernel_rfl) (fun _ _ _ h => h) (Or.inl ⟨by rfl, ?_⟩) hHeld ?_ ?_
    rotate_left
    · intro w' hS_
      have q0_ : w'.cell? ⟨g, 0, none⟩ = some (.int .i64 most) := (blk_cell (blk_below HI5.out.1 hS_) 0).trans rfl
      have q1_ : w'.cell? ⟨g, 1, none⟩ = some (.slice A l.length c) := (blk_cell (blk_below HI5.out.1 hS_) 1).trans rfl
      have q2_ : w'.cell? ⟨g, 2, none⟩ = some (.bool true) := (blk_cell (blk_below HI5.out.1 hS_) 2).trans rfl
      have q3_ : w'.cell? ⟨g, 3, none⟩ = some (.int .i64 0) := (blk_cell (blk_below HI5.out.1 hS_) 3).trans rfl
      go_simp
      with_reducible rfl
    rotate_left
    · simp only [Act.put, List.setIfInBounds_toArray, List.set_cons_zero, List.set_cons_succ]
      rfl
    refine pure_ (i := 5) (N := some 60) (v := ?_) (a' := ?_) #[true, true, true, true, true, true, false, false, false, false, false, false, false, false, false, false, false, false, false, false] rfl rfl (by kernel_rfl) (fun _ _ _ h => h) (Or.inl ⟨by rfl, ?_⟩) ?_ ?_
    rotate_left
    · intro w'
      go_simp
      with_reducible rfl
    rotate_left
    · simp only [Act.put, List.setIfInBounds_toArray, List.set_cons_zero, List.set_cons_succ]
      rfl
    refine pure_ (i := 6) (N := some 61) (v := ?_) (a' := ?_) #[true, true, true, true, true, true, true, false, false, false, false, false, false, false, false, false, false, false, false, false] rfl rfl (by kernel_rfl) (fun _ _ _ h => h) (Or.inl ⟨by rfl, ?_⟩) ?_ ?_
    rotate_left
    · intro w'
      go_simp
      with_reducible rfl
    rotate_left
    · simp only [Act.put, List.setIfInBounds_toArray, List.set_cons_zero, List.set_cons_succ]
      rfl
    refine pure_ (i := 7) (N := some 62) (v := ?_) (a' := ?_) #[true, true, true, true, true, true, true, true, false, false, false, false, false, false, false, false, false, false, false, false] rfl rfl (by kernel_rfl) (fun _ _ _ h => h) (Or.inl ⟨by rfl, ?_⟩) ?_ ?_
    rotate_left
    · intro w'
      go_simp
      with_reducible rfl
    rotate_left
    · simp only [Act.put, List.setIfInBounds_toArray, List.set_cons_zero, List.set_cons_succ]
      rfl
    refine pure_ (i := 8) (N := some 63) (v := ?_) (a' := ?_) #[true, true, true, true, true, true, true, true, true, false, false, false, false, false, false, false, false, false, false, false] rfl rfl (by kernel_rfl) (fun _ _ _ h => h) (Or.inl ⟨by rfl, ?_⟩) ?_ ?_
    rotate_left
    · intro w'
      go_simp
      with_reducible rfl
    rotate_left
    · simp only [Act.put, List.setIfInBounds_toArray, List.set_cons_zero, List.set_cons_succ]
      rfl
    refine take_ (i := 9) (N := some 64) (v := ?_) (a' := ?_) #[true, true, true, true, true, true, true, true, true, true, false, false, false, false, false, false, false, false, false, false] rfl rfl (by kernel_rfl) (fun _ _ _ h => h) (Or.inl ⟨by rfl, ?_⟩) hHeld ?_ ?_
    rotate_left
    · intro w' hS_
      have q0_ : w'.cell? ⟨g, 0, none⟩ = some (.int .i64 most) := (blk_cell (blk_below HI5.out.1 hS_) 0).trans rfl
      have q1_ : w'.cell? ⟨g, 1, none⟩ = some (.slice A l.length c) := (blk_cell (blk_below HI5.out.1 hS_) 1).trans rfl
      have q2_ : w'.cell? ⟨g, 2, none⟩ = some (.bool true) := (blk_cell (blk_below HI5.out.1 hS_) 2).trans rfl
      have q3_ : w'.cell? ⟨g, 3, none⟩ = some (.int .i64 0) := (blk_cell (blk_below HI5.out.1 hS_) 3).trans rfl
      go_simp
      with_reducible rfl
    rotate_left
    · simp only [Act.put, List.setIfInBounds_toArray, List.set_cons_zero, List.set_cons_succ]
      rfl
    refine pure_ (i := 10) (N := some 65) (v := ?_) (a' := ?_) #[true, true, true, true, true, true, true, true, true, true, true, false, false, false, false, false, false, false, false, false] rfl rfl (by kernel_rfl) (fun _ _ _ h => h) (Or.inl ⟨by rfl, ?_⟩) ?_ ?_
    rotate_left
    · intro w'
      go_simp
      with_reducible rfl
    rotate_left
    · simp only [Act.put, List.setIfInBounds_toArray, List.set_cons_zero, List.set_cons_succ]
      rfl
    refine pure_ (i := 11) (N := some 66) (v := ?_) (a' := ?_) #[true, true, true, true, true, true, true, true, true, true, true, true, false, false, false, false, false, false, false, false] rfl rfl (by kernel_rfl) (fun _ _ _ h => h) (Or.inl ⟨by rfl, ?_⟩) ?_ ?_
    rotate_left
    · intro w'
      go_simp
      with_reducible rfl
    rotate_left
    · simp only [Act.put, List.setIfInBounds_toArray, List.set_cons_zero, List.set_cons_succ]
      rfl
    refine pure_ (i := 12) (N := some 67) (v := ?_) (a' := ?_) #[true, true, true, true, true, true, true, true, true, true, true, true, true, false, false, false, false, false, false, false] rfl rfl (by kernel_rfl) (fun _ _ _ h => h) (Or.inl ⟨by rfl, ?_⟩) ?_ ?_
    rotate_left
    · intro w'
      go_simp
      with_reducible rfl
    rotate_left
    · simp only [Act.put, List.setIfInBounds_toArray, List.set_cons_zero, List.set_cons_succ]
      rfl
    refine pure_ (i := 13) (N := some 68) (v := ?_) (a' := ?_) #[true, true, true, true, true, true, true, true, true, true, true, true, true, true, false, false, false, false, false, false] rfl rfl (by kernel_rfl) (fun _ _ _ h => h) (Or.inl ⟨by rfl, ?_⟩) ?_ ?_
    rotate_left
    · intro w'
      go_simp
      with_reducible rfl
    rotate_left
    · simp only [Act.put, List.setIfInBounds_toArray, List.set_cons_zero, List.set_cons_succ]
      rfl
    refine take_ (i := 14) (N := some 69) (v := ?_) (a' := ?_) #[true, true, true, true, true, true, true, true, true, true, true, true, true, true, true, false, false, false, false, false] rfl rfl (by kernel_rfl) (fun _ _ _ h => h) (Or.inl ⟨by rfl, ?_⟩) hHeld ?_ ?_
    rotate_left
    · intro w' hS_
      have q0_ : w'.cell? ⟨g, 0, none⟩ = some (.int .i64 most) := (blk_cell (blk_below HI5.out.1 hS_) 0).trans rfl
      have q1_ : w'.cell? ⟨g, 1, none⟩ = some (.slice A l.length c) := (blk_cell (blk_below HI5.out.1 hS_) 1).trans rfl
      have q2_ : w'.cell? ⟨g, 2, none⟩ = some (.bool true) := (blk_cell (blk_below HI5.out.1 hS_) 2).trans rfl
      have q3_ : w'.cell? ⟨g, 3, none⟩ = some (.int .i64 0) := (blk_cell (blk_below HI5.out.1 hS_) 3).trans rfl
      go_simp
      with_reducible rfl
    rotate_left
    · simp only [Act.put, List.setIfInBounds_toArray, List.set_cons_zero, List.set_cons_succ]
      rfl
    refine pure_ (i := 15) (N := some 70) (v := ?_) (a' := ?_) #[true, true, true, true, true, true, true, true, true, true, true, true, true, true, true, true, false, false, false, false] rfl rfl (by kernel_rfl) (fun _ _ _ h => h) (Or.inl ⟨by rfl, ?_⟩) ?_ ?_
    rotate_left
    · intro w'
      go_simp
      with_reducible rfl
    rotate_left
    · simp only [Act.put, List.setIfInBounds_toArray, List.set_cons_zero, List.set_cons_succ]
      rfl
    refine pure_ (i := 16) (N := some 71) (v := ?_) (a' := ?_) #[true, true, true, true, true, true, true, true, true, true, true, true, true, true, true, true, true, false, false, false] rfl rfl (by kernel_rfl) (fun _ _ _ h => h) (Or.inl ⟨by rfl, ?_⟩) ?_ ?_
    rotate_left
    · intro w'
      (try simp only [hA'])
      go_simp
      (try simp only [hA'])
      with_reducible rfl
    rotate_left
    · simp only [Act.put, List.setIfInBounds_toArray, List.set_cons_zero, List.set_cons_succ]
      rfl
    refine pure_ (i := 17) (N := some 72) (v := ?_) (a' := ?_) #[true, true, true, true, true, true, true, true, true, true, true, true, true, true, true, true, true, true, false, false] rfl rfl (by kernel_rfl) (fun _ _ _ h => h) (Or.inl ⟨by rfl, ?_⟩) ?_ ?_
    rotate_left
    · intro w'
      go_simp
      with_reducible rfl
    rotate_left
    · simp only [Act.put, List.setIfInBounds_toArray, List.set_cons_zero, List.set_cons_succ]
      rfl
    refine pure_ (i := 18) (N := some 73) (v := ?_) (a' := ?_) #[true, true, true, true, true, true, true, true, true, true, true, true, true, true, true, true, true, true, true, false] rfl rfl (by kernel_rfl) (fun _ _ _ h => h) (Or.inl ⟨by rfl, ?_⟩) ?_ ?_
    rotate_left
    · intro w'
      go_simp
      with_reducible rfl
    rotate_left
    · simp only [Act.put, List.setIfInBounds_toArray, List.set_cons_zero, List.set_cons_succ]
      rfl
    have HD := Aside0.mk (HI5.out.below hHeld)
    have s1_ : w5.drew.cell? ⟨g, 1, none⟩ = some (.slice A l.length c) := (blk_cell HD.out.1 1).trans rfl
    have f1_ := blk_frozen HD.out.1 1
    have t1_ : w5.cell? ⟨g, 1, none⟩ = some (.slice A l.length c) := (blk_cell HI5.out.1 1).trans rfl
    have u1_ := blk_frozen HI5.out.1 1
    refine last_store (i := 19) (w1 := (w5.drew.setCell ⟨g, 1, none⟩ (.slice A' (l.length - n) (l.length - n)))) #[true, true, true, true, true, true, true, true, true, true, true, true, true, true, true, true, true, true, true, true] rfl rfl (by kernel_rfl) (by decide) (by rfl) (by first | (go_simp; done) | (go_simp; rfl)) ?_
    clear s1_ f1_ t1_ u1_
    have HC_ := Aside0.mk (HD.out.cut n hn hA')
    refine done_ (by kernel_rfl) ?_
    have HKD : Aside0 (Keeps w (w5.drew.setCell ⟨g, 1, none⟩ (.slice A' (l.length - n) (l.length - n))) (FootT g (.slice A l.length c))) := ⟨((Keeps.of_below HS5.out _).below hHeld).set (.inl (.inl rfl)) 1 _⟩
    have HF6 : Aside0 (Kd.F (Kd.int .u8) (w5.drew.setCell ⟨g, 1, none⟩ (.slice A' (l.length - n) (l.length - n))) (fun k => W0.heap.size ≤ k ∧ k ≠ gy) A3 x3.length x3) := ⟨Kd.F_far (p := ⟨g, 1, none⟩) (Kd.F_below HF5.out hHeld) (fun k hk e => by have h1 := blk_lt HH0.out.1; have h2 := below_size HB0.out; have h3 := hk.1; have h4 : k = g := e; omega) _⟩
    have HX6 := Aside0.mk (blk_far (blk_below HX5.out hHeld) (p := ⟨g, 1, none⟩) (fun e => HGY.out.1 e) (.slice A' (l.length - n) (l.length - n)))
    have HZ6 := Aside0.mk (blk_far (blk_below HZ5.out hHeld) (p := ⟨g, 1, none⟩) (fun e => hgz e.symm) (.slice A' (l.length - n) (l.length - n)))
    clear hHeld
    obtain ⟨w6, hw6_⟩ : ∃ W_ : World, W_ = (w5.drew.setCell ⟨g, 1, none⟩ (.slice A' (l.length - n) (l.length - n))) := ⟨_, rfl⟩
    rw [← hw6_] at HKD HF6 HX6 HZ6 HC_ ⊢
    clear hw6_
    have x0_ : w6.cell? ⟨gy, 0, none⟩ = some (.int .i64 x0) := (blk_cell HX6.out 0).trans rfl
    have x1_ : w6.cell? ⟨gy, 1, none⟩ = some (.int .i64 x1) := (blk_cell HX6.out 1).trans rfl
    have x2_ : w6.cell? ⟨gy, 2, none⟩ = some (.int .i64 x2) := (blk_cell HX6.out 2).trans rfl
    have x3_ : w6.cell? ⟨gy, 3, none⟩ = some (.slice A3 x3.length c3) := (blk_cell HX6.out 3).trans rfl
    have z0_ : w6.cell? ⟨gz, 0, none⟩ = some (.int .i64 0) := (blk_cell HZ6.out 0).trans rfl
    have z1_ : w6.cell? ⟨gz, 1, none⟩ = some (.int .i64 0) := (blk_cell HZ6.out 1).trans rfl
    have z2_ : w6.cell? ⟨gz, 2, none⟩ = some (.int .i64 0) := (blk_cell HZ6.out 2).trans rfl
    have z3_ : w6.cell? ⟨gz, 3, none⟩ = some (.slice none 0 0) := (blk_cell HZ6.out 3).trans rfl
    have y0_ := blk_frozen HZ6.out 0
    have y1_ := blk_frozen HZ6.out 1
    have y2_ := blk_frozen HZ6.out 2
    have y3_ := blk_frozen HZ6.out 3
    have HFS := Aside0.mk (four_sets (y0 := .int .i64 x0) (y1 := .int .i64 x1) (y2 := .int .i64 x2) (y3 := .slice A3 x3.length c3) HZ6.out)
    go_wp2_with fail
    refine bodyPost_ret (results_ct rfl _ _ gz 67 _ (0, 0) _ rfl HFS.out.1 Try.underlying67 rfl sz67c) rfl ?_
    refine ⟨A3, c3, rfl, hc3, Kd.F_mono (Kd.F_bound (Kd.F_step HF6.out (fun k hk hlt => HFS.out.2.block k hlt (fun e => by have h1 := blk_lt HZ0.out; have h2 := hk.1; have h3 : k = gz := e; omega)))) (fun k hk => ⟨by have h1 := below_size HB0.out; have h2 := hk.1.1; omega, hk.2⟩), _, HC_.out.1.keeps HFS.out.2 (fun k hk e => ?_), HKD.out.then_ HFS.out.2 (fun i hi => .inr (by have h1 : i = gz := hi; have h2 := HGZ.out; omega)), fun k hk => by rw [HC_.out.2] at hk; exact hk⟩
    rcases hk with h1 | h1
    · exact hgz (h1.symm.trans e)
    · rw [HC_.out.2] at h1; have h2 := HH0.out.2.1.lt k h1; have h3 := HGZ.out; have h4 : k = gz := e; omega
    
set_option maxHeartbeats 8000000 in
set_option maxRecDepth 100000 in
theorem intake_Next.more (h : IsT w g most v l true 0) (hby : Bytes l) (hl : l.length ≤ 140737488350000) (hnx : nx l most = (0, 0, 0, [], 0, 2)) : Calls Try.prog 70 #[.pointer (some ⟨g, 0, none⟩)] w fun e w' => ∃ A3 c3, e = .returned (.tuple #[.agg #[.int .i64 0, .int .i64 0, .int .i64 0, .slice A3 ([] : List Int).length c3], .int .i64 2]) ∧ ([] : List Int).length ≤ c3 ∧ Kd.F (Kd.int .u8) w' (fun k => w.heap.size ≤ k ∧ k < w'.heap.size) A3 ([] : List Int).length [] ∧ ∃ v', IsT w' g most v' l true 0 ∧ Mn w g v w' v' := by
  have hu67 := Try.underlying67
  obtain ⟨A, c, rfl, hc, hC⟩ := h.reads
  have HB0 := Aside0.mk (below_alloc (Below.refl w.heap.size w) (.cells #[.int .i64 0, .int .i64 0, .int .i64 0, .slice none 0 0] 67))
  have HI0 := Aside0.mk (h.below HB0.out)
  have HZ0 := Aside0.mk (blk_new w (.cells #[.int .i64 0, .int .i64 0, .int .i64 0, .slice none 0 0] 67))
  have HC0 := Aside0.mk (Kd.C_below hC HB0.out)
  have hgz : g ≠ w.heap.size := by have := blk_lt h.1; omega
  have hcell : (w.alloc (.cells #[.int .i64 0, .int .i64 0, .int .i64 0, .slice none 0 0] 67)).cell? ⟨g, 3, none⟩ = some (.int .i64 0) := (blk_cell HI0.out.1 3).trans rfl
  have hcell2 : (w.alloc (.cells #[.int .i64 0, .int .i64 0, .int .i64 0, .slice none 0 0] 67)).cell? ⟨g, 2, none⟩ = some (.bool true) := (blk_cell HI0.out.1 2).trans rfl
  have HNX : Aside0 (frame_Next.f 9 l most = some (0, 0, 0, [], 0, 2)) := ⟨by rw [nextE (Nat.le_refl 9) l most hby (by omega), hnx]⟩
  have HL := Aside0.mk hl
  have HH0 := Aside0.mk h
  clear h hC hnx hl
  go_enter Try.func70, Try.ntmps70
  go_wp2_with fail
  clear hcell hcell2
  obtain ⟨gz, hgz_⟩ : ∃ q_, w.heap.size = q_ := ⟨_, rfl⟩
  rw [hgz_] at HZ0 hgz ⊢
  have HGZ := Aside0.mk hgz_
  clear hgz_
  obtain ⟨W0, hW0⟩ : ∃ W_ : World, W_ = w.alloc (.cells #[.int .i64 0, .int .i64 0, .int .i64 0, .slice none 0 0] 67) := ⟨_, rfl⟩
  rw [← hW0] at HB0 HI0 HZ0 HC0 ⊢
  clear hW0
  refine start_ (n := 17) (S := fun w' => Below W0.heap.size W0 w') (ds := []) #[false, false, false, false, false, false, false, false, false, false, false, false, false, false, false, false, false] (by kernel_rfl) rfl rfl (below_drew1 (Below.refl _ _)) (fun hHeld => ?_)
  refine pure_ (i := 0) (N := some 30) (v := ?_) (a' := ?_) #[true, false, false, false, false, false, false, false, false, false, false, false, false, false, false, false, false] rfl rfl (by kernel_rfl) (fun _ _ _ h => h) (Or.inl ⟨by rfl, ?_⟩) ?_ ?_
  rotate_left
  · intro w'
    go_simp
    with_reducible rfl
  rotate_left
  · simp only [Act.put, List.setIfInBounds_toArray, List.set_cons_zero, List.set_cons_succ]
    rfl
  refine pure_ (i := 1) (N := some 31) (v := ?_) (a' := ?_) #[true, true, false, false, false, false, false, false, false, false, false, false, false, false, false, false, false] rfl rfl (by kernel_rfl) (fun _ _ _ h => h) (Or.inl ⟨by rfl, ?_⟩) ?_ ?_
  rotate_left
  · intro w'
    go_simp
    with_reducible rfl
  rotate_left
  · simp only [Act.put, List.setIfInBounds_toArray, List.set_cons_zero, List.set_cons_succ]
    rfl
  refine pure_ (i := 2) (N := some 32) (v := ?_) (a' := ?_) #[true, true, true, false, false, false, false, false, false, false, false, false, false, false, false, false, false] rfl rfl (by kernel_rfl) (fun _ _ _ h => h) (Or.inl ⟨by rfl, ?_⟩) ?_ ?_
  rotate_left
  · intro w'
    go_simp
    with_reducible rfl
  rotate_left
  · simp only [Act.put, List.setIfInBounds_toArray, List.set_cons_zero, List.set_cons_succ]
    rfl
  refine take_ (i := 3) (N := some 33) (v := ?_) (a' := ?_) #[true, true, true, true, false, false, false, false, false, false, false, false, false, false, false, false, false] rfl rfl (by kernel_rfl) (fun _ _ _ h => h) (Or.inl ⟨by rfl, ?_⟩) hHeld ?_ ?_
  rotate_left
  · intro w' hS_
    have q0_ : w'.cell? ⟨g, 0, none⟩ = some (.int .i64 most) := (blk_cell (blk_below HI0.out.1 hS_) 0).trans rfl
    have q1_ : w'.cell? ⟨g, 1, none⟩ = some (.slice A l.length c) := (blk_cell (blk_below HI0.out.1 hS_) 1).trans rfl
    have q2_ : w'.cell? ⟨g, 2, none⟩ = some (.bool true) := (blk_cell (blk_below HI0.out.1 hS_) 2).trans rfl
    have q3_ : w'.cell? ⟨g, 3, none⟩ = some (.int .i64 0) := (blk_cell (blk_below HI0.out.1 hS_) 3).trans rfl
    go_simp
    with_reducible rfl
  rotate_left
  · simp only [Act.put, List.setIfInBounds_toArray, List.set_cons_zero, List.set_cons_succ]
    rfl
  refine pure_ (i := 4) (N := some 34) (v := ?_) (a' := ?_) #[true, true, true, true, true, false, false, false, false, false, false, false, false, false, false, false, false] rfl rfl (by kernel_rfl) (fun _ _ _ h => h) (Or.inl ⟨by rfl, ?_⟩) ?_ ?_
  rotate_left
  · intro w'
    go_simp
    with_reducible rfl
  rotate_left
  · simp only [Act.put, List.setIfInBounds_toArray, List.set_cons_zero, List.set_cons_succ]
    rfl
  refine pure_ (i := 5) (N := some 35) (v := ?_) (a' := ?_) #[true, true, true, true, true, true, false, false, false, false, false, false, false, false, false, false, false] rfl rfl (by kernel_rfl) (fun _ _ _ h => h) (Or.inl ⟨by rfl, ?_⟩) ?_ ?_
  rotate_left
  · intro w'
    go_simp
    with_reducible rfl
  rotate_left
  · simp only [Act.put, List.setIfInBounds_toArray, List.set_cons_zero, List.set_cons_succ]
    rfl
  refine pure_ (i := 6) (N := some 36) (v := ?_) (a' := ?_) #[true, true, true, true, true, true, true, false, false, false, false, false, false, false, false, false, false] rfl rfl (by kernel_rfl) (fun _ _ _ h => h) (Or.inl ⟨by rfl, ?_⟩) ?_ ?_
  rotate_left
  · intro w'
    go_simp
    with_reducible rfl
  rotate_left
  · simp only [Act.put, List.setIfInBounds_toArray, List.set_cons_zero, List.set_cons_succ]
    rfl
  refine take_ (i := 7) (N := some 37) (v := ?_) (a' := ?_) #[true, true, true, true, true, true, true, true, false, false, false, false, false, false, false, false, false] rfl rfl (by kernel_rfl) (fun _ _ _ h => h) (Or.inl ⟨by rfl, ?_⟩) hHeld ?_ ?_
  rotate_left
  · intro w' hS_
    have q0_ : w'.cell? ⟨g, 0, none⟩ = some (.int .i64 most) := (blk_cell (blk_below HI0.out.1 hS_) 0).trans rfl
    have q1_ : w'.cell? ⟨g, 1, none⟩ = some (.slice A l.length c) := (blk_cell (blk_below HI0.out.1 hS_) 1).trans rfl
    have q2_ : w'.cell? ⟨g, 2, none⟩ = some (.bool true) := (blk_cell (blk_below HI0.out.1 hS_) 2).trans rfl
    have q3_ : w'.cell? ⟨g, 3, none⟩ = some (.int .i64 0) := (blk_cell (blk_below HI0.out.1 hS_) 3).trans rfl
    go_simp
    with_reducible rfl
  rotate_left
  · simp only [Act.put, List.setIfInBounds_toArray, List.set_cons_zero, List.set_cons_succ]
    rfl
  refine two_ (i := 8) (j := 13) (Ni := some 38) (Nj := some 4) #[true, true, true, true, true, true, true, true, true, false, false, false, false, false, false, false, false] #[true, true, true, true, true, true, true, true, false, false, false, false, false, true, false, false, false] rfl rfl rfl rfl (by kernel_rfl) (by decide) (by decide) (fun K_ hK_ => ?_) (fun K_ hK_ => ?_)
  · skip
    have HH_ := Aside0.mk hHeld
    clear hHeld
    refine goes_ Try.func63 (by kernel_rfl) rfl #[.slice A l.length c, .int .i64 most] (by rfl) rfl rfl (by (try simp only [List.map_toArray, List.map_cons, List.map_nil]); first | done | rfl | (simp only [List.length_drop, List.length_take]; rfl)) ?_
    refine (frame_Next.calls 9 A c l most (0) (0) (0) ([]) (0) (2) _ (Kd.C_below HC0.out HH_.out) hc HNX.out).mono ?_
    rintro e_ w3 ⟨v3, rfl, hR_, hbe_⟩
    refine ⟨_, rfl, ?_⟩
    obtain ⟨A3, c3, rfl, hc3, hC3_⟩ := Kd.R_reads hR_
    have HF3 := Aside0.mk (Kd.R_F (Kd.R_mono (ok' := fun k => W0.heap.size ≤ k ∧ k < w3.heap.size) (Kd.R_bound hR_) (fun k hk => ⟨Nat.le_trans (below_size HH_.out) hk.2.1, hk.2.2.1⟩)))
    clear hR_ hC3_
    have hbn_ := below_step HH_.out hbe_
    clear HH_ hbe_
    refine hK_.out _ _ (hbn_) (fun hHeld => ?_)
    clear hK_
    refine norm_ (a' := ?_) ?_ ?_
    rotate_left
    · simp only [Act.put, List.setIfInBounds_toArray, List.set_cons_zero, List.set_cons_succ]
      rfl
    refine pure_ (i := 9) (N := some 29) (v := ?_) (a' := ?_) #[true, true, true, true, true, true, true, true, true, true, false, false, false, false, false, false, false] rfl rfl (by kernel_rfl) (fun _ _ _ h => h) (Or.inl ⟨by rfl, ?_⟩) ?_ ?_
    rotate_left
    · intro w'
      go_simp
      with_reducible rfl
    rotate_left
    · simp only [Act.put, List.setIfInBounds_toArray, List.set_cons_zero, List.set_cons_succ]
      rfl
    refine pure_ (i := 10) (N := some 39) (v := ?_) (a' := ?_) #[true, true, true, true, true, true, true, true, true, true, true, false, false, false, false, false, false] rfl rfl (by kernel_rfl) (fun _ _ _ h => h) (Or.inl ⟨by rfl, ?_⟩) ?_ ?_
    rotate_left
    · intro w'
      go_simp
      with_reducible rfl
    rotate_left
    · simp only [Act.put, List.setIfInBounds_toArray, List.set_cons_zero, List.set_cons_succ]
      rfl
    refine pure_ (i := 11) (N := some 40) (v := ?_) (a' := ?_) #[true, true, true, true, true, true, true, true, true, true, true, true, false, false, false, false, false] rfl rfl (by kernel_rfl) (fun _ _ _ h => h) (Or.inl ⟨by rfl, ?_⟩) ?_ ?_
    rotate_left
    · intro w'
      go_simp
      with_reducible rfl
    rotate_left
    · simp only [Act.put, List.setIfInBounds_toArray, List.set_cons_zero, List.set_cons_succ]
      rfl
    refine pure_ (i := 12) (N := some 41) (v := ?_) (a' := ?_) #[true, true, true, true, true, true, true, true, true, true, true, true, true, false, false, false, false] rfl rfl (by kernel_rfl) (fun _ _ _ h => h) (Or.inl ⟨by rfl, ?_⟩) ?_ ?_
    rotate_left
    · intro w'
      go_simp
      with_reducible rfl
    rotate_left
    · simp only [Act.put, List.setIfInBounds_toArray, List.set_cons_zero, List.set_cons_succ]
      rfl
    refine one_ (i := 13) (N := some 4) #[true, true, true, true, true, true, true, true, true, true, true, true, true, true, false, false, false] rfl rfl (by kernel_rfl) (by decide) (fun K_ hK_ => ?_)
    refine value_ (w1 := w3.alloc (.cells #[.int .i64 0, .int .i64 0, .int .i64 0, .slice none 0 0] 67)) (by rfl) rfl (by go_simp; rfl) ?_
    have hy_ := blk_new w3 (.cells #[.int .i64 0, .int .i64 0, .int .i64 0, .slice none 0 0] 67)
    have hby_ := below_alloc (Below.refl w3.heap.size w3) (.cells #[.int .i64 0, .int .i64 0, .int .i64 0, .slice none 0 0] 67)
    have hbn_ := below_step hHeld hby_
    have hf4_ := Kd.F_mono (ok' := fun k => W0.heap.size ≤ k ∧ k ≠ w3.heap.size) (Kd.F_below HF3.out hby_) (fun k hk => ⟨hk.1, by have := hk.2; omega⟩)
    obtain ⟨gy, hgy_⟩ : ∃ q_, w3.heap.size = q_ := ⟨_, rfl⟩
    have HYG : Aside0 (W0.heap.size ≤ gy) := ⟨by have := below_size hHeld; omega⟩
    obtain ⟨w4, hw4_⟩ : ∃ W_ : World, W_ = w3.alloc (.cells #[.int .i64 0, .int .i64 0, .int .i64 0, .slice none 0 0] 67) := ⟨_, rfl⟩
    rw [← hw4_] at hy_ hbn_ hf4_ ⊢
    rw [hgy_] at hy_ hf4_ ⊢
    clear hw4_ hgy_ hby_ hHeld
    have HY := Aside0.mk hy_
    clear hy_
    have HF4 := Aside0.mk hf4_
    clear hf4_ HF3
    have HB4 := Aside0.mk hbn_
    refine hK_.out _ _ (hbn_) (fun hHeld => ?_)
    clear hK_
    refine norm_ (a' := ?_) ?_ ?_
    rotate_left
    · simp only [Act.put, List.setIfInBounds_toArray, List.set_cons_zero, List.set_cons_succ]
      rfl
    refine one_ (i := 14) (N := none) #[true, true, true, true, true, true, true, true, true, true, true, true, true, true, true, false, false] rfl rfl (by kernel_rfl) (by decide) (fun K_ hK_ => ?_)
    clear hHeld
    have k0_ : w4.cell? ⟨gy, 0, none⟩ = some (.int .i64 0) := (blk_cell HY.out 0).trans rfl
    have kf0_ := blk_frozen HY.out 0
    have k1_ : w4.cell? ⟨gy, 1, none⟩ = some (.int .i64 0) := (blk_cell HY.out 1).trans rfl
    have kf1_ := blk_frozen HY.out 1
    have k2_ : w4.cell? ⟨gy, 2, none⟩ = some (.int .i64 0) := (blk_cell HY.out 2).trans rfl
    have kf2_ := blk_frozen HY.out 2
    have k3_ : w4.cell? ⟨gy, 3, none⟩ = some (.slice none 0 0) := (blk_cell HY.out 3).trans rfl
    have kf3_ := blk_frozen HY.out 3
    refine skip_ (w1 := ((((w4.setCell ⟨gy, 0, none⟩ (.int .i64 0)).setCell ⟨gy, 1, none⟩ (.int .i64 0)).setCell ⟨gy, 2, none⟩ (.int .i64 0)).setCell ⟨gy, 3, none⟩ (.slice A3 0 c3))) (by rfl) rfl (by first | (go_simp; done) | (go_simp; rfl)) ?_
    have hfs_ := four_sets (y0 := .int .i64 0) (y1 := .int .i64 0) (y2 := .int .i64 0) (y3 := .slice A3 0 c3) HY.out
    have hbn_ : Below W0.heap.size W0 ((((w4.setCell ⟨gy, 0, none⟩ (.int .i64 0)).setCell ⟨gy, 1, none⟩ (.int .i64 0)).setCell ⟨gy, 2, none⟩ (.int .i64 0)).setCell ⟨gy, 3, none⟩ (.slice A3 0 c3)) := hfs_.2.under HB4.out (fun k hk => by rw [show k = gy from hk]; exact HYG.out)
    have HX5 := Aside0.mk hfs_.1
    have hf5_ := Kd.F_step HF4.out (fun k hk hlt => hfs_.2.block k hlt (fun e => hk.2 e))
    clear k0_ k1_ k2_ k3_ kf0_ kf1_ kf2_ kf3_ hfs_
    refine hK_.out _ _ (hbn_) (fun hHeld => ?_)
    clear hK_
    refine pure_ (i := 15) (N := some 5) (v := ?_) (a' := ?_) #[true, true, true, true, true, true, true, true, true, true, true, true, true, true, true, true, false] rfl rfl (by kernel_rfl) (fun _ _ _ h => h) (Or.inl ⟨by rfl, ?_⟩) ?_ ?_
    rotate_left
    · intro w'
      go_simp
      with_reducible rfl
    rotate_left
    · simp only [Act.put, List.setIfInBounds_toArray, List.set_cons_zero, List.set_cons_succ]
      rfl
    refine pure_ (i := 16) (N := some 6) (v := ?_) (a' := ?_) #[true, true, true, true, true, true, true, true, true, true, true, true, true, true, true, true, true] rfl rfl (by kernel_rfl) (fun _ _ _ h => h) (Or.inl ⟨by rfl, ?_⟩) ?_ ?_
    rotate_left
    · intro w'
      go_simp
      with_reducible rfl
    rotate_left
    · simp only [Act.put, List.setIfInBounds_toArray, List.set_cons_zero, List.set_cons_succ]
      rfl
    refine done_ (by kernel_rfl) ?_
    have HB5 := Aside0.mk hHeld
    clear hHeld
    obtain ⟨w5, hw5_⟩ : ∃ W_ : World, W_ = ((((w4.setCell ⟨gy, 0, none⟩ (.int .i64 0)).setCell ⟨gy, 1, none⟩ (.int .i64 0)).setCell ⟨gy, 2, none⟩ (.int .i64 0)).setCell ⟨gy, 3, none⟩ (.slice A3 0 c3)) := ⟨_, rfl⟩
    rw [← hw5_] at HX5 hf5_ HB5 ⊢
    clear hw5_ HY HB4 HF4 hbn_
    have HF5 := Aside0.mk hf5_
    clear hf5_
    have HI5 := Aside0.mk (HI0.out.below HB5.out)
    have HZ5 := Aside0.mk (blk_below HZ0.out HB5.out)
    have HS5 := Aside0.mk (below_step HB0.out HB5.out)
    have HGY : Aside0 (gy ≠ g ∧ gy ≠ gz) := ⟨by have h1 := blk_lt HH0.out.1; have h2 := below_size HB0.out; have h3 := HYG.out; have h4 := blk_lt HZ0.out; omega⟩
    have HKW := Aside0.mk (Keeps.of_below HS5.out (FootT g (.slice A l.length c)))
    have z0_ : w5.cell? ⟨gz, 0, none⟩ = some (.int .i64 0) := (blk_cell (HZ5.out) 0).trans rfl
    have z1_ : w5.cell? ⟨gz, 1, none⟩ = some (.int .i64 0) := (blk_cell (HZ5.out) 1).trans rfl
    have z2_ : w5.cell? ⟨gz, 2, none⟩ = some (.int .i64 0) := (blk_cell (HZ5.out) 2).trans rfl
    have z3_ : w5.cell? ⟨gz, 3, none⟩ = some (.slice none 0 0) := (blk_cell (HZ5.out) 3).trans rfl
    have y0_ := blk_frozen (HZ5.out) 0
    have y1_ := blk_frozen (HZ5.out) 1
    have y2_ := blk_frozen (HZ5.out) 2
    have y3_ := blk_frozen (HZ5.out) 3
    have hfs_ := four_sets (y0 := .int .i64 0) (y1 := .int .i64 0) (y2 := .int .i64 0) (y3 := .slice none 0 0) (HZ5.out)
    have HFS := Aside0.mk hfs_
    clear hfs_
    go_wp2_with fail
    refine bodyPost_ret (results_ct rfl _ _ gz 67 _ (0, 0) _ rfl HFS.out.1 Try.underlying67 rfl sz67c) rfl ?_
    refine ⟨none, 0, rfl, Nat.le_refl 0, Kd.F_nil _ _ _, _, HI5.out.keeps HFS.out.2 (fun k hk e => ?_), HKW.out.then_ HFS.out.2 (fun i hi => .inr (by have h1 : i = gz := hi; have h2 := HGZ.out; omega)), fun k hk => hk⟩
    rcases hk with h1 | h1
    · exact hgz (h1.symm.trans e)
    · have h2 := HH0.out.2.1.lt k h1; have h3 := HGZ.out; have h4 : k = gz := e; omega
    
  · skip
    obtain ⟨wd, hwd_⟩ : ∃ W_ : World, W_ = W0.drew := ⟨_, rfl⟩
    rw [← hwd_] at hHeld ⊢
    clear hwd_
    refine value_ (w1 := wd.alloc (.cells #[.int .i64 0, .int .i64 0, .int .i64 0, .slice none 0 0] 67)) (by rfl) rfl (by go_simp; rfl) ?_
    have hy_ := blk_new wd (.cells #[.int .i64 0, .int .i64 0, .int .i64 0, .slice none 0 0] 67)
    have hby_ := below_alloc (Below.refl wd.heap.size wd) (.cells #[.int .i64 0, .int .i64 0, .int .i64 0, .slice none 0 0] 67)
    have hbn_ := below_step hHeld hby_
    obtain ⟨gy, hgy_⟩ : ∃ q_, wd.heap.size = q_ := ⟨_, rfl⟩
    have HYG : Aside0 (W0.heap.size ≤ gy) := ⟨by have := below_size hHeld; omega⟩
    obtain ⟨wa, hw4_⟩ : ∃ W_ : World, W_ = wd.alloc (.cells #[.int .i64 0, .int .i64 0, .int .i64 0, .slice none 0 0] 67) := ⟨_, rfl⟩
    rw [← hw4_] at hy_ hbn_ ⊢
    rw [hgy_] at hy_ ⊢
    clear hw4_ hgy_ hby_ hHeld
    have HY := Aside0.mk hy_
    clear hy_
    skip
    refine hK_.out _ _ (hbn_) (fun hHeld => ?_)
    clear hK_
    refine norm_ (a' := ?_) ?_ ?_
    rotate_left
    · simp only [Act.put, List.setIfInBounds_toArray, List.set_cons_zero, List.set_cons_succ]
      rfl
    refine one_ (i := 8) (N := some 38) #[true, true, true, true, true, true, true, true, true, false, false, false, false, true, false, false, false] rfl rfl (by kernel_rfl) (by decide) (fun K_ hK_ => ?_)
    have HH_ := Aside0.mk hHeld
    clear hHeld
    refine goes_ Try.func63 (by kernel_rfl) rfl #[.slice A l.length c, .int .i64 most] (by rfl) rfl rfl (by (try simp only [List.map_toArray, List.map_cons, List.map_nil]); first | done | rfl | (simp only [List.length_drop, List.length_take]; rfl)) ?_
    refine (frame_Next.calls 9 A c l most (0) (0) (0) ([]) (0) (2) _ (Kd.C_below HC0.out HH_.out) hc HNX.out).mono ?_
    rintro e_ w4 ⟨v3, rfl, hR_, hbe_⟩
    refine ⟨_, rfl, ?_⟩
    obtain ⟨A3, c3, rfl, hc3, hC3_⟩ := Kd.R_reads hR_
    have HF4 := Aside0.mk (Kd.R_F (Kd.R_mono (ok' := fun k => W0.heap.size ≤ k ∧ k ≠ gy) (Kd.R_bound hR_) (fun k hk => ⟨Nat.le_trans (below_size HH_.out) hk.2.1, fun e => by have := blk_lt HY.out; have := hk.2.1; omega⟩)))
    have HB4 := Aside0.mk (below_step HH_.out hbe_)
    have HY_ := Aside0.mk (blk_below HY.out hbe_)
    clear HY
    have HY := HY_
    clear HY_
    clear hR_ hC3_
    have hbn_ := below_step HH_.out hbe_
    clear HH_ hbe_
    refine hK_.out _ _ (hbn_) (fun hHeld => ?_)
    clear hK_
    refine norm_ (a' := ?_) ?_ ?_
    rotate_left
    · simp only [Act.put, List.setIfInBounds_toArray, List.set_cons_zero, List.set_cons_succ]
      rfl
    refine pure_ (i := 9) (N := some 29) (v := ?_) (a' := ?_) #[true, true, true, true, true, true, true, true, true, true, false, false, false, true, false, false, false] rfl rfl (by kernel_rfl) (fun _ _ _ h => h) (Or.inl ⟨by rfl, ?_⟩) ?_ ?_
    rotate_left
    · intro w'
      go_simp
      with_reducible rfl
    rotate_left
    · simp only [Act.put, List.setIfInBounds_toArray, List.set_cons_zero, List.set_cons_succ]
      rfl
    refine pure_ (i := 10) (N := some 39) (v := ?_) (a' := ?_) #[true, true, true, true, true, true, true, true, true, true, true, false, false, true, false, false, false] rfl rfl (by kernel_rfl) (fun _ _ _ h => h) (Or.inl ⟨by rfl, ?_⟩) ?_ ?_
    rotate_left
    · intro w'
      go_simp
      with_reducible rfl
    rotate_left
    · simp only [Act.put, List.setIfInBounds_toArray, List.set_cons_zero, List.set_cons_succ]
      rfl
    refine pure_ (i := 11) (N := some 40) (v := ?_) (a' := ?_) #[true, true, true, true, true, true, true, true, true, true, true, true, false, true, false, false, false] rfl rfl (by kernel_rfl) (fun _ _ _ h => h) (Or.inl ⟨by rfl, ?_⟩) ?_ ?_
    rotate_left
    · intro w'
      go_simp
      with_reducible rfl
    rotate_left
    · simp only [Act.put, List.setIfInBounds_toArray, List.set_cons_zero, List.set_cons_succ]
      rfl
    refine pure_ (i := 12) (N := some 41) (v := ?_) (a' := ?_) #[true, true, true, true, true, true, true, true, true, true, true, true, true, true, false, false, false] rfl rfl (by kernel_rfl) (fun _ _ _ h => h) (Or.inl ⟨by rfl, ?_⟩) ?_ ?_
    rotate_left
    · intro w'
      go_simp
      with_reducible rfl
    rotate_left
    · simp only [Act.put, List.setIfInBounds_toArray, List.set_cons_zero, List.set_cons_succ]
      rfl
    refine one_ (i := 14) (N := none) #[true, true, true, true, true, true, true, true, true, true, true, true, true, true, true, false, false] rfl rfl (by kernel_rfl) (by decide) (fun K_ hK_ => ?_)
    clear hHeld
    have k0_ : w4.cell? ⟨gy, 0, none⟩ = some (.int .i64 0) := (blk_cell HY.out 0).trans rfl
    have kf0_ := blk_frozen HY.out 0
    have k1_ : w4.cell? ⟨gy, 1, none⟩ = some (.int .i64 0) := (blk_cell HY.out 1).trans rfl
    have kf1_ := blk_frozen HY.out 1
    have k2_ : w4.cell? ⟨gy, 2, none⟩ = some (.int .i64 0) := (blk_cell HY.out 2).trans rfl
    have kf2_ := blk_frozen HY.out 2
    have k3_ : w4.cell? ⟨gy, 3, none⟩ = some (.slice none 0 0) := (blk_cell HY.out 3).trans rfl
    have kf3_ := blk_frozen HY.out 3
    refine skip_ (w1 := ((((w4.setCell ⟨gy, 0, none⟩ (.int .i64 0)).setCell ⟨gy, 1, none⟩ (.int .i64 0)).setCell ⟨gy, 2, none⟩ (.int .i64 0)).setCell ⟨gy, 3, none⟩ (.slice A3 0 c3))) (by rfl) rfl (by first | (go_simp; done) | (go_simp; rfl)) ?_
    have hfs_ := four_sets (y0 := .int .i64 0) (y1 := .int .i64 0) (y2 := .int .i64 0) (y3 := .slice A3 0 c3) HY.out
    have hbn_ : Below W0.heap.size W0 ((((w4.setCell ⟨gy, 0, none⟩ (.int .i64 0)).setCell ⟨gy, 1, none⟩ (.int .i64 0)).setCell ⟨gy, 2, none⟩ (.int .i64 0)).setCell ⟨gy, 3, none⟩ (.slice A3 0 c3)) := hfs_.2.under HB4.out (fun k hk => by rw [show k = gy from hk]; exact HYG.out)
    have HX5 := Aside0.mk hfs_.1
    have hf5_ := Kd.F_step HF4.out (fun k hk hlt => hfs_.2.block k hlt (fun e => hk.2 e))
    clear k0_ k1_ k2_ k3_ kf0_ kf1_ kf2_ kf3_ hfs_
    refine hK_.out _ _ (hbn_) (fun hHeld => ?_)
    clear hK_
    refine pure_ (i := 15) (N := some 5) (v := ?_) (a' := ?_) #[true, true, true, true, true, true, true, true, true, true, true, true, true, true, true, true, false] rfl rfl (by kernel_rfl) (fun _ _ _ h => h) (Or.inl ⟨by rfl, ?_⟩) ?_ ?_
    rotate_left
    · intro w'
      go_simp
      with_reducible rfl
    rotate_left
    · simp only [Act.put, List.setIfInBounds_toArray, List.set_cons_zero, List.set_cons_succ]
      rfl
    refine pure_ (i := 16) (N := some 6) (v := ?_) (a' := ?_) #[true, true, true, true, true, true, true, true, true, true, true, true, true, true, true, true, true] rfl rfl (by kernel_rfl) (fun _ _ _ h => h) (Or.inl ⟨by rfl, ?_⟩) ?_ ?_
    rotate_left
    · intro w'
      go_simp
      with_reducible rfl
    rotate_left
    · simp only [Act.put, List.setIfInBounds_toArray, List.set_cons_zero, List.set_cons_succ]
      rfl
    refine done_ (by kernel_rfl) ?_
    have HB5 := Aside0.mk hHeld
    clear hHeld
    obtain ⟨w5, hw5_⟩ : ∃ W_ : World, W_ = ((((w4.setCell ⟨gy, 0, none⟩ (.int .i64 0)).setCell ⟨gy, 1, none⟩ (.int .i64 0)).setCell ⟨gy, 2, none⟩ (.int .i64 0)).setCell ⟨gy, 3, none⟩ (.slice A3 0 c3)) := ⟨_, rfl⟩
    rw [← hw5_] at HX5 hf5_ HB5 ⊢
    clear hw5_ HY HB4 HF4 hbn_
    have HF5 := Aside0.mk hf5_
    clear hf5_
    have HI5 := Aside0.mk (HI0.out.below HB5.out)
    have HZ5 := Aside0.mk (blk_below HZ0.out HB5.out)
    have HS5 := Aside0.mk (below_step HB0.out HB5.out)
    have HGY : Aside0 (gy ≠ g ∧ gy ≠ gz) := ⟨by have h1 := blk_lt HH0.out.1; have h2 := below_size HB0.out; have h3 := HYG.out; have h4 := blk_lt HZ0.out; omega⟩
    have HKW := Aside0.mk (Keeps.of_below HS5.out (FootT g (.slice A l.length c)))
    have z0_ : w5.cell? ⟨gz, 0, none⟩ = some (.int .i64 0) := (blk_cell (HZ5.out) 0).trans rfl
    have z1_ : w5.cell? ⟨gz, 1, none⟩ = some (.int .i64 0) := (blk_cell (HZ5.out) 1).trans rfl
    have z2_ : w5.cell? ⟨gz, 2, none⟩ = some (.int .i64 0) := (blk_cell (HZ5.out) 2).trans rfl
    have z3_ : w5.cell? ⟨gz, 3, none⟩ = some (.slice none 0 0) := (blk_cell (HZ5.out) 3).trans rfl
    have y0_ := blk_frozen (HZ5.out) 0
    have y1_ := blk_frozen (HZ5.out) 1
    have y2_ := blk_frozen (HZ5.out) 2
    have y3_ := blk_frozen (HZ5.out) 3
    have hfs_ := four_sets (y0 := .int .i64 0) (y1 := .int .i64 0) (y2 := .int .i64 0) (y3 := .slice none 0 0) (HZ5.out)
    have HFS := Aside0.mk hfs_
    clear hfs_
    go_wp2_with fail
    refine bodyPost_ret (results_ct rfl _ _ gz 67 _ (0, 0) _ rfl HFS.out.1 Try.underlying67 rfl sz67c) rfl ?_
    refine ⟨none, 0, rfl, Nat.le_refl 0, Kd.F_nil _ _ _, _, HI5.out.keeps HFS.out.2 (fun k hk e => ?_), HKW.out.then_ HFS.out.2 (fun i hi => .inr (by have h1 : i = gz := hi; have h2 := HGZ.out; omega)), fun k hk => hk⟩
    rcases hk with h1 | h1
    · exact hgz (h1.symm.trans e)
    · have h2 := HH0.out.2.1.lt k h1; have h3 := HGZ.out; have h4 : k = gz := e; omega
    
set_option maxHeartbeats 8000000 in
set_option maxRecDepth 100000 in
theorem intake_Next.full (h : IsT w g most v l true 0) (hby : Bytes l) (hl : l.length ≤ 140737488350000) (hnx : nx l most = (0, 0, 0, [], 0, 4)) : Calls Try.prog 70 #[.pointer (some ⟨g, 0, none⟩)] w fun e w' => ∃ A3 c3, e = .returned (.tuple #[.agg #[.int .i64 0, .int .i64 0, .int .i64 0, .slice A3 ([] : List Int).length c3], .int .i64 4]) ∧ ([] : List Int).length ≤ c3 ∧ Kd.F (Kd.int .u8) w' (fun k => w.heap.size ≤ k ∧ k < w'.heap.size) A3 ([] : List Int).length [] ∧ ∃ v', IsT w' g most v' [] true 4 ∧ Mn w g v w' v' := by
  have hu67 := Try.underlying67
  obtain ⟨A, c, rfl, hc, hC⟩ := h.reads
  have HB0 := Aside0.mk (below_alloc (Below.refl w.heap.size w) (.cells #[.int .i64 0, .int .i64 0, .int .i64 0, .slice none 0 0] 67))
  have HI0 := Aside0.mk (h.below HB0.out)
  have HZ0 := Aside0.mk (blk_new w (.cells #[.int .i64 0, .int .i64 0, .int .i64 0, .slice none 0 0] 67))
  have HC0 := Aside0.mk (Kd.C_below hC HB0.out)
  have hgz : g ≠ w.heap.size := by have := blk_lt h.1; omega
  have hcell : (w.alloc (.cells #[.int .i64 0, .int .i64 0, .int .i64 0, .slice none 0 0] 67)).cell? ⟨g, 3, none⟩ = some (.int .i64 0) := (blk_cell HI0.out.1 3).trans rfl
  have hcell2 : (w.alloc (.cells #[.int .i64 0, .int .i64 0, .int .i64 0, .slice none 0 0] 67)).cell? ⟨g, 2, none⟩ = some (.bool true) := (blk_cell HI0.out.1 2).trans rfl
  have HNX : Aside0 (frame_Next.f 9 l most = some (0, 0, 0, [], 0, 4)) := ⟨by rw [nextE (Nat.le_refl 9) l most hby (by omega), hnx]⟩
  have HL := Aside0.mk hl
  have HH0 := Aside0.mk h
  clear h hC hnx hl
  go_enter Try.func70, Try.ntmps70
  go_wp2_with fail
  clear hcell hcell2
  obtain ⟨gz, hgz_⟩ : ∃ q_, w.heap.size = q_ := ⟨_, rfl⟩
  rw [hgz_] at HZ0 hgz ⊢
  have HGZ := Aside0.mk hgz_
  clear hgz_
  obtain ⟨W0, hW0⟩ : ∃ W_ : World, W_ = w.alloc (.cells #[.int .i64 0, .int .i64 0, .int .i64 0, .slice none 0 0] 67) := ⟨_, rfl⟩
  rw [← hW0] at HB0 HI0 HZ0 HC0 ⊢
  clear hW0
  refine start_ (n := 17) (S := fun w' => Below W0.heap.size W0 w') (ds := []) #[false, false, false, false, false, false, false, false, false, false, false, false, false, false, false, false, false] (by kernel_rfl) rfl rfl (below_drew1 (Below.refl _ _)) (fun hHeld => ?_)
  refine pure_ (i := 0) (N := some 30) (v := ?_) (a' := ?_) #[true, false, false, false, false, false, false, false, false, false, false, false, false, false, false, false, false] rfl rfl (by kernel_rfl) (fun _ _ _ h => h) (Or.inl ⟨by rfl, ?_⟩) ?_ ?_
  rotate_left
  · intro w'
    go_simp
    with_reducible rfl
  rotate_left
  · simp only [Act.put, List.setIfInBounds_toArray, List.set_cons_zero, List.set_cons_succ]
    rfl
  refine pure_ (i := 1) (N := some 31) (v := ?_) (a' := ?_) #[true, true, false, false, false, false, false, false, false, false, false, false, false, false, false, false, false] rfl rfl (by kernel_rfl) (fun _ _ _ h => h) (Or.inl ⟨by rfl, ?_⟩) ?_ ?_
  rotate_left
  · intro w'
    go_simp
    with_reducible rfl
  rotate_left
  · simp only [Act.put, List.setIfInBounds_toArray, List.set_cons_zero, List.set_cons_succ]
    rfl
  refine pure_ (i := 2) (N := some 32) (v := ?_) (a' := ?_) #[true, true, true, false, false, false, false, false, false, false, false, false, false, false, false, false, false] rfl rfl (by kernel_rfl) (fun _ _ _ h => h) (Or.inl ⟨by rfl, ?_⟩) ?_ ?_
  rotate_left
  · intro w'
    go_simp
    with_reducible rfl
  rotate_left
  · simp only [Act.put, List.setIfInBounds_toArray, List.set_cons_zero, List.set_cons_succ]
    rfl
  refine take_ (i := 3) (N := some 33) (v := ?_) (a' := ?_) #[true, true, true, true, false, false, false, false, false, false, false, false, false, false, false, false, false] rfl rfl (by kernel_rfl) (fun _ _ _ h => h) (Or.inl ⟨by rfl, ?_⟩) hHeld ?_ ?_
  rotate_left
  · intro w' hS_
    have q0_ : w'.cell? ⟨g, 0, none⟩ = some (.int .i64 most) := (blk_cell (blk_below HI0.out.1 hS_) 0).trans rfl
    have q1_ : w'.cell? ⟨g, 1, none⟩ = some (.slice A l.length c) := (blk_cell (blk_below HI0.out.1 hS_) 1).trans rfl
    have q2_ : w'.cell? ⟨g, 2, none⟩ = some (.bool true) := (blk_cell (blk_below HI0.out.1 hS_) 2).trans rfl
    have q3_ : w'.cell? ⟨g, 3, none⟩ = some (.int .i64 0) := (blk_cell (blk_below HI0.out.1 hS_) 3).trans rfl
    go_simp
    with_reducible rfl
  rotate_left
  · simp only [Act.put, List.setIfInBounds_toArray, List.set_cons_zero, List.set_cons_succ]
    rfl
  refine pure_ (i := 4) (N := some 34) (v := ?_) (a' := ?_) #[true, true, true, true, true, false, false, false, false, false, false, false, false, false, false, false, false] rfl rfl (by kernel_rfl) (fun _ _ _ h => h) (Or.inl ⟨by rfl, ?_⟩) ?_ ?_
  rotate_left
  · intro w'
    go_simp
    with_reducible rfl
  rotate_left
  · simp only [Act.put, List.setIfInBounds_toArray, List.set_cons_zero, List.set_cons_succ]
    rfl
  refine pure_ (i := 5) (N := some 35) (v := ?_) (a' := ?_) #[true, true, true, true, true, true, false, false, false, false, false, false, false, false, false, false, false] rfl rfl (by kernel_rfl) (fun _ _ _ h => h) (Or.inl ⟨by rfl, ?_⟩) ?_ ?_
  rotate_left
  · intro w'
    go_simp
    with_reducible rfl
  rotate_left
  · simp only [Act.put, List.setIfInBounds_toArray, List.set_cons_zero, List.set_cons_succ]
    rfl
  refine pure_ (i := 6) (N := some 36) (v := ?_) (a' := ?_) #[true, true, true, true, true, true, true, false, false, false, false, false, false, false, false, false, false] rfl rfl (by kernel_rfl) (fun _ _ _ h => h) (Or.inl ⟨by rfl, ?_⟩) ?_ ?_
  rotate_left
  · intro w'
    go_simp
    with_reducible rfl
  rotate_left
  · simp only [Act.put, List.setIfInBounds_toArray, List.set_cons_zero, List.set_cons_succ]
    rfl
  refine take_ (i := 7) (N := some 37) (v := ?_) (a' := ?_) #[true, true, true, true, true, true, true, true, false, false, false, false, false, false, false, false, false] rfl rfl (by kernel_rfl) (fun _ _ _ h => h) (Or.inl ⟨by rfl, ?_⟩) hHeld ?_ ?_
  rotate_left
  · intro w' hS_
    have q0_ : w'.cell? ⟨g, 0, none⟩ = some (.int .i64 most) := (blk_cell (blk_below HI0.out.1 hS_) 0).trans rfl
    have q1_ : w'.cell? ⟨g, 1, none⟩ = some (.slice A l.length c) := (blk_cell (blk_below HI0.out.1 hS_) 1).trans rfl
    have q2_ : w'.cell? ⟨g, 2, none⟩ = some (.bool true) := (blk_cell (blk_below HI0.out.1 hS_) 2).trans rfl
    have q3_ : w'.cell? ⟨g, 3, none⟩ = some (.int .i64 0) := (blk_cell (blk_below HI0.out.1 hS_) 3).trans rfl
    go_simp
    with_reducible rfl
  rotate_left
  · simp only [Act.put, List.setIfInBounds_toArray, List.set_cons_zero, List.set_cons_succ]
    rfl
  refine two_ (i := 8) (j := 13) (Ni := some 38) (Nj := some 4) #[true, true, true, true, true, true, true, true, true, false, false, false, false, false, false, false, false] #[true, true, true, true, true, true, true, true, false, false, false, false, false, true, false, false, false] rfl rfl rfl rfl (by kernel_rfl) (by decide) (by decide) (fun K_ hK_ => ?_) (fun K_ hK_ => ?_)
  · skip
    have HH_ := Aside0.mk hHeld
    clear hHeld
    refine goes_ Try.func63 (by kernel_rfl) rfl #[.slice A l.length c, .int .i64 most] (by rfl) rfl rfl (by (try simp only [List.map_toArray, List.map_cons, List.map_nil]); first | done | rfl | (simp only [List.length_drop, List.length_take]; rfl)) ?_
    refine (frame_Next.calls 9 A c l most (0) (0) (0) ([]) (0) (4) _ (Kd.C_below HC0.out HH_.out) hc HNX.out).mono ?_
    rintro e_ w3 ⟨v3, rfl, hR_, hbe_⟩
    refine ⟨_, rfl, ?_⟩
    obtain ⟨A3, c3, rfl, hc3, hC3_⟩ := Kd.R_reads hR_
    have HF3 := Aside0.mk (Kd.R_F (Kd.R_mono (ok' := fun k => W0.heap.size ≤ k ∧ k < w3.heap.size) (Kd.R_bound hR_) (fun k hk => ⟨Nat.le_trans (below_size HH_.out) hk.2.1, hk.2.2.1⟩)))
    clear hR_ hC3_
    have hbn_ := below_step HH_.out hbe_
    clear HH_ hbe_
    refine hK_.out _ _ (hbn_) (fun hHeld => ?_)
    clear hK_
    refine norm_ (a' := ?_) ?_ ?_
    rotate_left
    · simp only [Act.put, List.setIfInBounds_toArray, List.set_cons_zero, List.set_cons_succ]
      rfl
    refine pure_ (i := 9) (N := some 29) (v := ?_) (a' := ?_) #[true, true, true, true, true, true, true, true, true, true, false, false, false, false, false, false, false] rfl rfl (by kernel_rfl) (fun _ _ _ h => h) (Or.inl ⟨by rfl, ?_⟩) ?_ ?_
    rotate_left
    · intro w'
      go_simp
      with_reducible rfl
    rotate_left
    · simp only [Act.put, List.setIfInBounds_toArray, List.set_cons_zero, List.set_cons_succ]
      rfl
    refine pure_ (i := 10) (N := some 39) (v := ?_) (a' := ?_) #[true, true, true, true, true, true, true, true, true, true, true, false, false, false, false, false, false] rfl rfl (by kernel_rfl) (fun _ _ _ h => h) (Or.inl ⟨by rfl, ?_⟩) ?_ ?_
    rotate_left
    · intro w'
      go_simp
      with_reducible rfl
    rotate_left
    · simp only [Act.put, List.setIfInBounds_toArray, List.set_cons_zero, List.set_cons_succ]
      rfl
    refine pure_ (i := 11) (N := some 40) (v := ?_) (a' := ?_) #[true, true, true, true, true, true, true, true, true, true, true, true, false, false, false, false, false] rfl rfl (by kernel_rfl) (fun _ _ _ h => h) (Or.inl ⟨by rfl, ?_⟩) ?_ ?_
    rotate_left
    · intro w'
      go_simp
      with_reducible rfl
    rotate_left
    · simp only [Act.put, List.setIfInBounds_toArray, List.set_cons_zero, List.set_cons_succ]
      rfl
    refine pure_ (i := 12) (N := some 41) (v := ?_) (a' := ?_) #[true, true, true, true, true, true, true, true, true, true, true, true, true, false, false, false, false] rfl rfl (by kernel_rfl) (fun _ _ _ h => h) (Or.inl ⟨by rfl, ?_⟩) ?_ ?_
    rotate_left
    · intro w'
      go_simp
      with_reducible rfl
    rotate_left
    · simp only [Act.put, List.setIfInBounds_toArray, List.set_cons_zero, List.set_cons_succ]
      rfl
    refine one_ (i := 13) (N := some 4) #[true, true, true, true, true, true, true, true, true, true, true, true, true, true, false, false, false] rfl rfl (by kernel_rfl) (by decide) (fun K_ hK_ => ?_)
    refine value_ (w1 := w3.alloc (.cells #[.int .i64 0, .int .i64 0, .int .i64 0, .slice none 0 0] 67)) (by rfl) rfl (by go_simp; rfl) ?_
    have hy_ := blk_new w3 (.cells #[.int .i64 0, .int .i64 0, .int .i64 0, .slice none 0 0] 67)
    have hby_ := below_alloc (Below.refl w3.heap.size w3) (.cells #[.int .i64 0, .int .i64 0, .int .i64 0, .slice none 0 0] 67)
    have hbn_ := below_step hHeld hby_
    have hf4_ := Kd.F_mono (ok' := fun k => W0.heap.size ≤ k ∧ k ≠ w3.heap.size) (Kd.F_below HF3.out hby_) (fun k hk => ⟨hk.1, by have := hk.2; omega⟩)
    obtain ⟨gy, hgy_⟩ : ∃ q_, w3.heap.size = q_ := ⟨_, rfl⟩
    have HYG : Aside0 (W0.heap.size ≤ gy) := ⟨by have := below_size hHeld; omega⟩
    obtain ⟨w4, hw4_⟩ : ∃ W_ : World, W_ = w3.alloc (.cells #[.int .i64 0, .int .i64 0, .int .i64 0, .slice none 0 0] 67) := ⟨_, rfl⟩
    rw [← hw4_] at hy_ hbn_ hf4_ ⊢
    rw [hgy_] at hy_ hf4_ ⊢
    clear hw4_ hgy_ hby_ hHeld
    have HY := Aside0.mk hy_
    clear hy_
    have HF4 := Aside0.mk hf4_
    clear hf4_ HF3
    have HB4 := Aside0.mk hbn_
    refine hK_.out _ _ (hbn_) (fun hHeld => ?_)
    clear hK_
    refine norm_ (a' := ?_) ?_ ?_
    rotate_left
    · simp only [Act.put, List.setIfInBounds_toArray, List.set_cons_zero, List.set_cons_succ]
      rfl
    refine one_ (i := 14) (N := none) #[true, true, true, true, true, true, true, true, true, true, true, true, true, true, true, false, false] rfl rfl (by kernel_rfl) (by decide) (fun K_ hK_ => ?_)
    clear hHeld
    have k0_ : w4.cell? ⟨gy, 0, none⟩ = some (.int .i64 0) := (blk_cell HY.out 0).trans rfl
    have kf0_ := blk_frozen HY.out 0
    have k1_ : w4.cell? ⟨gy, 1, none⟩ = some (.int .i64 0) := (blk_cell HY.out 1).trans rfl
    have kf1_ := blk_frozen HY.out 1
    have k2_ : w4.cell? ⟨gy, 2, none⟩ = some (.int .i64 0) := (blk_cell HY.out 2).trans rfl
    have kf2_ := blk_frozen HY.out 2
    have k3_ : w4.cell? ⟨gy, 3, none⟩ = some (.slice none 0 0) := (blk_cell HY.out 3).trans rfl
    have kf3_ := blk_frozen HY.out 3
    refine skip_ (w1 := ((((w4.setCell ⟨gy, 0, none⟩ (.int .i64 0)).setCell ⟨gy, 1, none⟩ (.int .i64 0)).setCell ⟨gy, 2, none⟩ (.int .i64 0)).setCell ⟨gy, 3, none⟩ (.slice A3 0 c3))) (by rfl) rfl (by first | (go_simp; done) | (go_simp; rfl)) ?_
    have hfs_ := four_sets (y0 := .int .i64 0) (y1 := .int .i64 0) (y2 := .int .i64 0) (y3 := .slice A3 0 c3) HY.out
    have hbn_ : Below W0.heap.size W0 ((((w4.setCell ⟨gy, 0, none⟩ (.int .i64 0)).setCell ⟨gy, 1, none⟩ (.int .i64 0)).setCell ⟨gy, 2, none⟩ (.int .i64 0)).setCell ⟨gy, 3, none⟩ (.slice A3 0 c3)) := hfs_.2.under HB4.out (fun k hk => by rw [show k = gy from hk]; exact HYG.out)
    have HX5 := Aside0.mk hfs_.1
    have hf5_ := Kd.F_step HF4.out (fun k hk hlt => hfs_.2.block k hlt (fun e => hk.2 e))
    clear k0_ k1_ k2_ k3_ kf0_ kf1_ kf2_ kf3_ hfs_
    refine hK_.out _ _ (hbn_) (fun hHeld => ?_)
    clear hK_
    refine pure_ (i := 15) (N := some 5) (v := ?_) (a' := ?_) #[true, true, true, true, true, true, true, true, true, true, true, true, true, true, true, true, false] rfl rfl (by kernel_rfl) (fun _ _ _ h => h) (Or.inl ⟨by rfl, ?_⟩) ?_ ?_
    rotate_left
    · intro w'
      go_simp
      with_reducible rfl
    rotate_left
    · simp only [Act.put, List.setIfInBounds_toArray, List.set_cons_zero, List.set_cons_succ]
      rfl
    refine pure_ (i := 16) (N := some 6) (v := ?_) (a' := ?_) #[true, true, true, true, true, true, true, true, true, true, true, true, true, true, true, true, true] rfl rfl (by kernel_rfl) (fun _ _ _ h => h) (Or.inl ⟨by rfl, ?_⟩) ?_ ?_
    rotate_left
    · intro w'
      go_simp
      with_reducible rfl
    rotate_left
    · simp only [Act.put, List.setIfInBounds_toArray, List.set_cons_zero, List.set_cons_succ]
      rfl
    refine done_ (by kernel_rfl) ?_
    have HB5 := Aside0.mk hHeld
    clear hHeld
    obtain ⟨w5, hw5_⟩ : ∃ W_ : World, W_ = ((((w4.setCell ⟨gy, 0, none⟩ (.int .i64 0)).setCell ⟨gy, 1, none⟩ (.int .i64 0)).setCell ⟨gy, 2, none⟩ (.int .i64 0)).setCell ⟨gy, 3, none⟩ (.slice A3 0 c3)) := ⟨_, rfl⟩
    rw [← hw5_] at HX5 hf5_ HB5 ⊢
    clear hw5_ HY HB4 HF4 hbn_
    have HF5 := Aside0.mk hf5_
    clear hf5_
    have HI5 := Aside0.mk (HI0.out.below HB5.out)
    have HZ5 := Aside0.mk (blk_below HZ0.out HB5.out)
    have HS5 := Aside0.mk (below_step HB0.out HB5.out)
    have HGY : Aside0 (gy ≠ g ∧ gy ≠ gz) := ⟨by have h1 := blk_lt HH0.out.1; have h2 := below_size HB0.out; have h3 := HYG.out; have h4 := blk_lt HZ0.out; omega⟩
    have q3_ : w5.cell? ⟨g, 3, none⟩ = some (.int .i64 0) := (blk_cell HI5.out.1 3).trans rfl
    have f3_ := blk_frozen HI5.out.1 3
    have q1_ : w5.cell? ⟨g, 1, none⟩ = some (.slice A l.length c) := (blk_cell HI5.out.1 1).trans rfl
    have f1_ := blk_frozen HI5.out.1 1
    have HT6 := Aside0.mk (HI5.out.set3 4).wipe
    have HZ6 := Aside0.mk (blk_far (blk_far HZ5.out (p := ⟨g, 3, none⟩) (fun e => hgz e.symm) (.int .i64 4)) (p := ⟨g, 1, none⟩) (fun e => hgz e.symm) (.slice none 0 0))
    have HKW := Aside0.mk (((Keeps.of_below HS5.out (FootT g (.slice A l.length c))).set (.inl (.inl rfl)) 3 (.int .i64 4)).set (.inl (.inl rfl)) 1 (.slice none 0 0))
    have z0_ : ((w5.setCell ⟨g, 3, none⟩ (.int .i64 4)).setCell ⟨g, 1, none⟩ (.slice none 0 0)).cell? ⟨gz, 0, none⟩ = some (.int .i64 0) := (blk_cell (HZ6.out) 0).trans rfl
    have z1_ : ((w5.setCell ⟨g, 3, none⟩ (.int .i64 4)).setCell ⟨g, 1, none⟩ (.slice none 0 0)).cell? ⟨gz, 1, none⟩ = some (.int .i64 0) := (blk_cell (HZ6.out) 1).trans rfl
    have z2_ : ((w5.setCell ⟨g, 3, none⟩ (.int .i64 4)).setCell ⟨g, 1, none⟩ (.slice none 0 0)).cell? ⟨gz, 2, none⟩ = some (.int .i64 0) := (blk_cell (HZ6.out) 2).trans rfl
    have z3_ : ((w5.setCell ⟨g, 3, none⟩ (.int .i64 4)).setCell ⟨g, 1, none⟩ (.slice none 0 0)).cell? ⟨gz, 3, none⟩ = some (.slice none 0 0) := (blk_cell (HZ6.out) 3).trans rfl
    have y0_ := blk_frozen (HZ6.out) 0
    have y1_ := blk_frozen (HZ6.out) 1
    have y2_ := blk_frozen (HZ6.out) 2
    have y3_ := blk_frozen (HZ6.out) 3
    have hfs_ := four_sets (y0 := .int .i64 0) (y1 := .int .i64 0) (y2 := .int .i64 0) (y3 := .slice none 0 0) (HZ6.out)
    have HFS := Aside0.mk hfs_
    clear hfs_
    go_wp2_with fail
    refine bodyPost_ret (results_ct rfl _ _ gz 67 _ (0, 0) _ rfl HFS.out.1 Try.underlying67 rfl sz67c) rfl ?_
    refine ⟨none, 0, rfl, Nat.le_refl 0, Kd.F_nil _ _ _, _, HT6.out.keeps HFS.out.2 (fun k hk e => ?_), HKW.out.then_ HFS.out.2 (fun i hi => .inr (by have h1 : i = gz := hi; have h2 := HGZ.out; omega)), fun k hk => by simp [Value.ownBlock] at hk⟩
    rcases hk with h1 | h1
    · exact hgz (h1.symm.trans e)
    · simp [Value.ownBlock] at h1
    
  · skip
    obtain ⟨wd, hwd_⟩ : ∃ W_ : World, W_ = W0.drew := ⟨_, rfl⟩
    rw [← hwd_] at hHeld ⊢
    clear hwd_
    refine value_ (w1 := wd.alloc (.cells #[.int .i64 0, .int .i64 0, .int .i64 0, .slice none 0 0] 67)) (by rfl) rfl (by go_simp; rfl) ?_
    have hy_ := blk_new wd (.cells #[.int .i64 0, .int .i64 0, .int .i64 0, .slice none 0 0] 67)
    have hby_ := below_alloc (Below.refl wd.heap.size wd) (.cells #[.int .i64 0, .int .i64 0, .int .i64 0, .slice none 0 0] 67)
    have hbn_ := below_step hHeld hby_
    obtain ⟨gy, hgy_⟩ : ∃ q_, wd.heap.size = q_ := ⟨_, rfl⟩
    have HYG : Aside0 (W0.heap.size ≤ gy) := ⟨by have := below_size hHeld; omega⟩
    obtain ⟨wa, hw4_⟩ : ∃ W_ : World, W_ = wd.alloc (.cells #[.int .i64 0, .int .i64 0, .int .i64 0, .slice none 0 0] 67) := ⟨_, rfl⟩
    rw [← hw4_] at hy_ hbn_ ⊢
    rw [hgy_] at hy_ ⊢
    clear hw4_ hgy_ hby_ hHeld
    have HY := Aside0.mk hy_
    clear hy_
    skip
    refine hK_.out _ _ (hbn_) (fun hHeld => ?_)
    clear hK_
    refine norm_ (a' := ?_) ?_ ?_
    rotate_left
    · simp only [Act.put, List.setIfInBounds_toArray, List.set_cons_zero, List.set_cons_succ]
      rfl
    refine one_ (i := 8) (N := some 38) #[true, true, true, true, true, true, true, true, true, false, false, false, false, true, false, false, false] rfl rfl (by kernel_rfl) (by decide) (fun K_ hK_ => ?_)
    have HH_ := Aside0.mk hHeld
    clear hHeld
    refine goes_ Try.func63 (by kernel_rfl) rfl #[.slice A l.length c, .int .i64 most] (by rfl) rfl rfl (by (try simp only [List.map_toArray, List.map_cons, List.map_nil]); first | done | rfl | (simp only [List.length_drop, List.length_take]; rfl)) ?_
    refine (frame_Next.calls 9 A c l most (0) (0) (0) ([]) (0) (4) _ (Kd.C_below HC0.out HH_.out) hc HNX.out).mono ?_
    rintro e_ w4 ⟨v3, rfl, hR_, hbe_⟩
    refine ⟨_, rfl, ?_⟩
    obtain ⟨A3, c3, rfl, hc3, hC3_⟩ := Kd.R_reads hR_
    have HF4 := Aside0.mk (Kd.R_F (Kd.R_mono (ok' := fun k => W0.heap.size ≤ k ∧ k ≠ gy) (Kd.R_bound hR_) (fun k hk => ⟨Nat.le_trans (below_size HH_.out) hk.2.1, fun e => by have := blk_lt HY.out; have := hk.2.1; omega⟩)))
    have HB4 := Aside0.mk (below_step HH_.out hbe_)
    have HY_ := Aside0.mk (blk_below HY.out hbe_)
    clear HY
    have HY := HY_
    clear HY_
    clear hR_ hC3_
    have hbn_ := below_step HH_.out hbe_
    clear HH_ hbe_
    refine hK_.out _ _ (hbn_) (fun hHeld => ?_)
    clear hK_
    refine norm_ (a' := ?_) ?_ ?_
    rotate_left
    · simp only [Act.put, List.setIfInBounds_toArray, List.set_cons_zero, List.set_cons_succ]
      rfl
    refine pure_ (i := 9) (N := some 29) (v := ?_) (a' := ?_) #[true, true, true, true, true, true, true, true, true, true, false, false, false, true, false, false, false] rfl rfl (by kernel_rfl) (fun _ _ _ h => h) (Or.inl ⟨by rfl, ?_⟩) ?_ ?_
    rotate_left
    · intro w'
      go_simp
      with_reducible rfl
    rotate_left
    · simp only [Act.put, List.setIfInBounds_toArray, List.set_cons_zero, List.set_cons_succ]
      rfl
    refine pure_ (i := 10) (N := some 39) (v := ?_) (a' := ?_) #[true, true, true, true, true, true, true, true, true, true, true, false, false, true, false, false, false] rfl rfl (by kernel_rfl) (fun _ _ _ h => h) (Or.inl ⟨by rfl, ?_⟩) ?_ ?_
    rotate_left
    · intro w'
      go_simp
      with_reducible rfl
    rotate_left
    · simp only [Act.put, List.setIfInBounds_toArray, List.set_cons_zero, List.set_cons_succ]
      rfl
    refine pure_ (i := 11) (N := some 40) (v := ?_) (a' := ?_) #[true, true, true, true, true, true, true, true, true, true, true, true, false, true, false, false, false] rfl rfl (by kernel_rfl) (fun _ _ _ h => h) (Or.inl ⟨by rfl, ?_⟩) ?_ ?_
    rotate_left
    · intro w'
      go_simp
      with_reducible rfl
    rotate_left
    · simp only [Act.put, List.setIfInBounds_toArray, List.set_cons_zero, List.set_cons_succ]
      rfl
    refine pure_ (i := 12) (N := some 41) (v := ?_) (a' := ?_) #[true, true, true, true, true, true, true, true, true, true, true, true, true, true, false, false, false] rfl rfl (by kernel_rfl) (fun _ _ _ h => h) (Or.inl ⟨by rfl, ?_⟩) ?_ ?_
    rotate_left
    · intro w'
      go_simp
      with_reducible rfl
    rotate_left
    · simp only [Act.put, List.setIfInBounds_toArray, List.set_cons_zero, List.set_cons_succ]
      rfl
    refine one_ (i := 14) (N := none) #[true, true, true, true, true, true, true, true, true, true, true, true, true, true, true, false, false] rfl rfl (by kernel_rfl) (by decide) (fun K_ hK_ => ?_)
    clear hHeld
    have k0_ : w4.cell? ⟨gy, 0, none⟩ = some (.int .i64 0) := (blk_cell HY.out 0).trans rfl
    have kf0_ := blk_frozen HY.out 0
    have k1_ : w4.cell? ⟨gy, 1, none⟩ = some (.int .i64 0) := (blk_cell HY.out 1).trans rfl
    have kf1_ := blk_frozen HY.out 1
    have k2_ : w4.cell? ⟨gy, 2, none⟩ = some (.int .i64 0) := (blk_cell HY.out 2).trans rfl
    have kf2_ := blk_frozen HY.out 2
    have k3_ : w4.cell? ⟨gy, 3, none⟩ = some (.slice none 0 0) := (blk_cell HY.out 3).trans rfl
    have kf3_ := blk_frozen HY.out 3
    refine skip_ (w1 := ((((w4.setCell ⟨gy, 0, none⟩ (.int .i64 0)).setCell ⟨gy, 1, none⟩ (.int .i64 0)).setCell ⟨gy, 2, none⟩ (.int .i64 0)).setCell ⟨gy, 3, none⟩ (.slice A3 0 c3))) (by rfl) rfl (by first | (go_simp; done) | (go_simp; rfl)) ?_
    have hfs_ := four_sets (y0 := .int .i64 0) (y1 := .int .i64 0) (y2 := .int .i64 0) (y3 := .slice A3 0 c3) HY.out
    have hbn_ : Below W0.heap.size W0 ((((w4.setCell ⟨gy, 0, none⟩ (.int .i64 0)).setCell ⟨gy, 1, none⟩ (.int .i64 0)).setCell ⟨gy, 2, none⟩ (.int .i64 0)).setCell ⟨gy, 3, none⟩ (.slice A3 0 c3)) := hfs_.2.under HB4.out (fun k hk => by rw [show k = gy from hk]; exact HYG.out)
    have HX5 := Aside0.mk hfs_.1
    have hf5_ := Kd.F_step HF4.out (fun k hk hlt => hfs_.2.block k hlt (fun e => hk.2 e))
    clear k0_ k1_ k2_ k3_ kf0_ kf1_ kf2_ kf3_ hfs_
    refine hK_.out _ _ (hbn_) (fun hHeld => ?_)
    clear hK_
    refine pure_ (i := 15) (N := some 5) (v := ?_) (a' := ?_) #[true, true, true, true, true, true, true, true, true, true, true, true, true, true, true, true, false] rfl rfl (by kernel_rfl) (fun _ _ _ h => h) (Or.inl ⟨by rfl, ?_⟩) ?_ ?_
    rotate_left
    · intro w'
      go_simp
      with_reducible rfl
    rotate_left
    · simp only [Act.put, List.setIfInBounds_toArray, List.set_cons_zero, List.set_cons_succ]
      rfl
    refine pure_ (i := 16) (N := some 6) (v := ?_) (a' := ?_) #[true, true, true, true, true, true, true, true, true, true, true, true, true, true, true, true, true] rfl rfl (by kernel_rfl) (fun _ _ _ h => h) (Or.inl ⟨by rfl, ?_⟩) ?_ ?_
    rotate_left
    · intro w'
      go_simp
      with_reducible rfl
    rotate_left
    · simp only [Act.put, List.setIfInBounds_toArray, List.set_cons_zero, List.set_cons_succ]
      rfl
    refine done_ (by kernel_rfl) ?_
    have HB5 := Aside0.mk hHeld
    clear hHeld
    obtain ⟨w5, hw5_⟩ : ∃ W_ : World, W_ = ((((w4.setCell ⟨gy, 0, none⟩ (.int .i64 0)).setCell ⟨gy, 1, none⟩ (.int .i64 0)).setCell ⟨gy, 2, none⟩ (.int .i64 0)).setCell ⟨gy, 3, none⟩ (.slice A3 0 c3)) := ⟨_, rfl⟩
    rw [← hw5_] at HX5 hf5_ HB5 ⊢
    clear hw5_ HY HB4 HF4 hbn_
    have HF5 := Aside0.mk hf5_
    clear hf5_
    have HI5 := Aside0.mk (HI0.out.below HB5.out)
    have HZ5 := Aside0.mk (blk_below HZ0.out HB5.out)
    have HS5 := Aside0.mk (below_step HB0.out HB5.out)
    have HGY : Aside0 (gy ≠ g ∧ gy ≠ gz) := ⟨by have h1 := blk_lt HH0.out.1; have h2 := below_size HB0.out; have h3 := HYG.out; have h4 := blk_lt HZ0.out; omega⟩
    have q3_ : w5.cell? ⟨g, 3, none⟩ = some (.int .i64 0) := (blk_cell HI5.out.1 3).trans rfl
    have f3_ := blk_frozen HI5.out.1 3
    have q1_ : w5.cell? ⟨g, 1, none⟩ = some (.slice A l.length c) := (blk_cell HI5.out.1 1).trans rfl
    have f1_ := blk_frozen HI5.out.1 1
    have HT6 := Aside0.mk (HI5.out.set3 4).wipe
    have HZ6 := Aside0.mk (blk_far (blk_far HZ5.out (p := ⟨g, 3, none⟩) (fun e => hgz e.symm) (.int .i64 4)) (p := ⟨g, 1, none⟩) (fun e => hgz e.symm) (.slice none 0 0))
    have HKW := Aside0.mk (((Keeps.of_below HS5.out (FootT g (.slice A l.length c))).set (.inl (.inl rfl)) 3 (.int .i64 4)).set (.inl (.inl rfl)) 1 (.slice none 0 0))
    have z0_ : ((w5.setCell ⟨g, 3, none⟩ (.int .i64 4)).setCell ⟨g, 1, none⟩ (.slice none 0 0)).cell? ⟨gz, 0, none⟩ = some (.int .i64 0) := (blk_cell (HZ6.out) 0).trans rfl
    have z1_ : ((w5.setCell ⟨g, 3, none⟩ (.int .i64 4)).setCell ⟨g, 1, none⟩ (.slice none 0 0)).cell? ⟨gz, 1, none⟩ = some (.int .i64 0) := (blk_cell (HZ6.out) 1).trans rfl
    have z2_ : ((w5.setCell ⟨g, 3, none⟩ (.int .i64 4)).setCell ⟨g, 1, none⟩ (.slice none 0 0)).cell? ⟨gz, 2, none⟩ = some (.int .i64 0) := (blk_cell (HZ6.out) 2).trans rfl
    have z3_ : ((w5.setCell ⟨g, 3, none⟩ (.int .i64 4)).setCell ⟨g, 1, none⟩ (.slice none 0 0)).cell? ⟨gz, 3, none⟩ = some (.slice none 0 0) := (blk_cell (HZ6.out) 3).trans rfl
    have y0_ := blk_frozen (HZ6.out) 0
    have y1_ := blk_frozen (HZ6.out) 1
    have y2_ := blk_frozen (HZ6.out) 2
    have y3_ := blk_frozen (HZ6.out) 3
    have hfs_ := four_sets (y0 := .int .i64 0) (y1 := .int .i64 0) (y2 := .int .i64 0) (y3 := .slice none 0 0) (HZ6.out)
    have HFS := Aside0.mk hfs_
    clear hfs_
    go_wp2_with fail
    refine bodyPost_ret (results_ct rfl _ _ gz 67 _ (0, 0) _ rfl HFS.out.1 Try.underlying67 rfl sz67c) rfl ?_
    refine ⟨none, 0, rfl, Nat.le_refl 0, Kd.F_nil _ _ _, _, HT6.out.keeps HFS.out.2 (fun k hk e => ?_), HKW.out.then_ HFS.out.2 (fun i hi => .inr (by have h1 : i = gz := hi; have h2 := HGZ.out; omega)), fun k hk => by simp [Value.ownBlock] at hk⟩
    rcases hk with h1 | h1
    · exact hgz (h1.symm.trans e)
    · simp [Value.ownBlock] at h1
    
end
end Go.Proofs.Ytbmnplojpeabmaa.It
