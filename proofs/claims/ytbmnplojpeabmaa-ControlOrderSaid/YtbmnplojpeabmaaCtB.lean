/-
  CONTROL: Push, Last.
  Conditions: none of its own; lemmas that the claim's row rests on.
-/
import Derived.Test.YtbmnplojpeabmaaCtA
import Derived.WalkKit
namespace Go.Proofs.Ytbmnplojpeabmaa.QK
open Go.RowKit Go.Proofs.YtbmnplojpeabmaaW.PrintWords Go.Proofs.YtbmnplojpeabmaaW.PrintLast Go.Proofs.YtbmnplojpeabmaaW.PrintMore
attribute [local go_sem] max2_int min2_int max_two min_two max_three min_three max_four min_four
set_option linter.unusedVariables false
set_option linter.unusedSimpArgs false
open Go.Proofs.Ytbmnplojpeabmaa.Ob
theorem fk67_of {W : World} {x0 x1 x2 : Int} {x3 : List Int} {A4 : Option Addr} {c4 : Nat} {okr okp : Nat → Prop} (hc : x3.length ≤ c4) (hF : Kd.F (Kd.int .u8) W okr A4 x3.length x3) (hok : ∀ k, (okr k ∧ k < W.heap.size) → okp k) :
    Kd.FK k67 W okp ⟨x0, x1, x2, x3⟩ [.int .i64 x0, .int .i64 x1, .int .i64 x2, .slice A4 x3.length c4] :=
  Kd.FK_mono (ok := fun k => okr k ∧ k < W.heap.size) (fun W' hW => k67_mk W' ⟨x0, x1, x2, x3⟩ hc (Kd.F_now (Kd.F_step (Kd.F_bound hF) hW))) hok
set_option maxHeartbeats 8000000 in
set_option maxRecDepth 100000 in
theorem control_Push.ok (x0 x1 x2 : Int) (A3 : Option Addr) (c3 : Nat) (x3 : List Int) (w : World) (g : Nat) (room : Int) (v : Value) (l : List S67) (ok : Nat → Prop) (h : IsC w g room v l false ok) (hC : Kd.C (Kd.int .u8) w A3 x3.length x3) (hc3 : x3.length ≤ c3) (hl3 : x3.length ≤ 1000000) (hl : l.length ≤ 100000) (hr : (l.length : Int) < room) :
    Calls Try.prog 54 #[.pointer (some ⟨g, 0, none⟩), .agg #[.int .i64 x0, .int .i64 x1, .int .i64 x2, .slice A3 x3.length c3]] w fun e w' => e = .returned (.int .i64 0) ∧ ∃ v' ok', IsC w' g room v' (l ++ [(⟨x0, x1, x2, x3⟩ : S67)]) false ok' ∧ MvC w g v ok w' v' ok' := by
  have hu67 := Try.underlying67
  obtain ⟨A, c, rfl⟩ := h.form
  have HB2 := Aside0.mk (below_alloc (Below.refl w.heap.size w) (.cells #[.int .i64 x0, .int .i64 x1, .int .i64 x2, .slice A3 x3.length c3] 67))
  have HI2 := Aside0.mk (h.below HB2.out)
  have HX2 := Aside0.mk (blk_new w (.cells #[.int .i64 x0, .int .i64 x1, .int .i64 x2, .slice A3 x3.length c3] 67))
  have HC2 := Aside0.mk (Kd.C_below hC HB2.out)
  have hgz : g ≠ w.heap.size := by have := blk_lt h.blk; omega
  have b0_ : (w.alloc (.cells #[.int .i64 x0, .int .i64 x1, .int .i64 x2, .slice A3 x3.length c3] 67)).cell? ⟨g, 0, none⟩ = some (.int .i64 room) := (blk_cell HI2.out.blk 0).trans rfl
  have b1_ : (w.alloc (.cells #[.int .i64 x0, .int .i64 x1, .int .i64 x2, .slice A3 x3.length c3] 67)).cell? ⟨g, 1, none⟩ = some (.slice A l.length c) := (blk_cell HI2.out.blk 1).trans rfl
  have b2_ : (w.alloc (.cells #[.int .i64 x0, .int .i64 x1, .int .i64 x2, .slice A3 x3.length c3] 67)).cell? ⟨g, 2, none⟩ = some (.bool false) := (blk_cell HI2.out.blk 2).trans rfl
  have hrd : decide (room ≤ (l.length : Int)) = false := decide_eq_false (by omega)
  have HOW : Aside0 (control_own.f x0 x1 x2 x3 = some (x0, x1, x2, x3)) := ⟨by unfold control_own.f slices_Clone_byte_byte.f; rw [if_pos (by omega)]; rfl⟩
  have HL := Aside0.mk hl
  clear h hC hl hl3
  go_enter Try.func54, Try.ntmps54
  go_wp2
  generalize (w.alloc (.cells #[.int .i64 x0, .int .i64 x1, .int .i64 x2, .slice A3 x3.length c3] 67)) = w1 at *
  clear b0_ b1_ b2_
  refine start_ (n := 11) (S := fun w' => Below w1.heap.size w1 w') (ds := []) #[false, false, false, false, false, false, false, false, false, false, false] (by kernel_rfl) rfl rfl (below_drew1 (Below.refl _ _)) (fun hHeld => ?_)
  refine pure_ (i := 0) (N := some 14) (v := ?_) (a' := ?_) #[true, false, false, false, false, false, false, false, false, false, false] rfl rfl (by kernel_rfl) (fun _ _ _ h => h) (Or.inl ⟨by rfl, ?_⟩) ?_ ?_
  rotate_left
  · intro w'
    go_simp
    with_reducible rfl
  rotate_left
  · simp only [Act.put, List.setIfInBounds_toArray, List.set_cons_zero, List.set_cons_succ]
    rfl
  refine pure_ (i := 1) (N := some 15) (v := ?_) (a' := ?_) #[true, true, false, false, false, false, false, false, false, false, false] rfl rfl (by kernel_rfl) (fun _ _ _ h => h) (Or.inl ⟨by rfl, ?_⟩) ?_ ?_
  rotate_left
  · intro w'
    go_simp
    with_reducible rfl
  rotate_left
  · simp only [Act.put, List.setIfInBounds_toArray, List.set_cons_zero, List.set_cons_succ]
    rfl
  refine pure_ (i := 2) (N := some 16) (v := ?_) (a' := ?_) #[true, true, true, false, false, false, false, false, false, false, false] rfl rfl (by kernel_rfl) (fun _ _ _ h => h) (Or.inl ⟨by rfl, ?_⟩) ?_ ?_
  rotate_left
  · intro w'
    go_simp
    with_reducible rfl
  rotate_left
  · simp only [Act.put, List.setIfInBounds_toArray, List.set_cons_zero, List.set_cons_succ]
    rfl
  refine take_ (i := 3) (N := some 17) (v := ?_) (a' := ?_) #[true, true, true, true, false, false, false, false, false, false, false] rfl rfl (by kernel_rfl) (fun _ _ _ h => h) (Or.inl ⟨by rfl, ?_⟩) hHeld ?_ ?_
  rotate_left
  · intro w' hS_
    have b0_ : w'.cell? ⟨g, 0, none⟩ = some (.int .i64 room) := (blk_cell (HI2.out.below hS_).blk 0).trans rfl
    have b1_ : w'.cell? ⟨g, 1, none⟩ = some (.slice A l.length c) := (blk_cell (HI2.out.below hS_).blk 1).trans rfl
    have b2_ : w'.cell? ⟨g, 2, none⟩ = some (.bool false) := (blk_cell (HI2.out.below hS_).blk 2).trans rfl
    go_simp
    with_reducible rfl
  rotate_left
  · simp only [Act.put, List.setIfInBounds_toArray, List.set_cons_zero, List.set_cons_succ]
    rfl
  refine pure_ (i := 4) (N := some 18) (v := ?_) (a' := ?_) #[true, true, true, true, true, false, false, false, false, false, false] rfl rfl (by kernel_rfl) (fun _ _ _ h => h) (Or.inl ⟨by rfl, ?_⟩) ?_ ?_
  rotate_left
  · intro w'
    go_simp
    with_reducible rfl
  rotate_left
  · simp only [Act.put, List.setIfInBounds_toArray, List.set_cons_zero, List.set_cons_succ]
    rfl
  refine pure_ (i := 5) (N := some 19) (v := ?_) (a' := ?_) #[true, true, true, true, true, true, false, false, false, false, false] rfl rfl (by kernel_rfl) (fun _ _ _ h => h) (Or.inl ⟨by rfl, ?_⟩) ?_ ?_
  rotate_left
  · intro w'
    go_simp
    with_reducible rfl
  rotate_left
  · simp only [Act.put, List.setIfInBounds_toArray, List.set_cons_zero, List.set_cons_succ]
    rfl
  refine pure_ (i := 6) (N := some 20) (v := ?_) (a' := ?_) #[true, true, true, true, true, true, true, false, false, false, false] rfl rfl (by kernel_rfl) (fun _ _ _ h => h) (Or.inl ⟨by rfl, ?_⟩) ?_ ?_
  rotate_left
  · intro w'
    go_simp
    with_reducible rfl
  rotate_left
  · simp only [Act.put, List.setIfInBounds_toArray, List.set_cons_zero, List.set_cons_succ]
    rfl
  refine pure_ (i := 7) (N := some 21) (v := ?_) (a' := ?_) #[true, true, true, true, true, true, true, true, false, false, false] rfl rfl (by kernel_rfl) (fun _ _ _ h => h) (Or.inl ⟨by rfl, ?_⟩) ?_ ?_
  rotate_left
  · intro w'
    go_simp
    with_reducible rfl
  rotate_left
  · simp only [Act.put, List.setIfInBounds_toArray, List.set_cons_zero, List.set_cons_succ]
    rfl
  refine take_ (i := 8) (N := some 22) (v := ?_) (a' := ?_) #[true, true, true, true, true, true, true, true, true, false, false] rfl rfl (by kernel_rfl) (fun _ _ _ h => h) (Or.inl ⟨by rfl, ?_⟩) hHeld ?_ ?_
  rotate_left
  · intro w' hS_
    have b0_ : w'.cell? ⟨g, 0, none⟩ = some (.int .i64 room) := (blk_cell (HI2.out.below hS_).blk 0).trans rfl
    have b1_ : w'.cell? ⟨g, 1, none⟩ = some (.slice A l.length c) := (blk_cell (HI2.out.below hS_).blk 1).trans rfl
    have b2_ : w'.cell? ⟨g, 2, none⟩ = some (.bool false) := (blk_cell (HI2.out.below hS_).blk 2).trans rfl
    go_simp
    with_reducible rfl
  rotate_left
  · simp only [Act.put, List.setIfInBounds_toArray, List.set_cons_zero, List.set_cons_succ]
    rfl
  refine pure_ (i := 9) (N := some 23) (v := ?_) (a' := ?_) #[true, true, true, true, true, true, true, true, true, true, false] rfl rfl (by kernel_rfl) (fun _ _ _ h => h) (Or.inl ⟨by rfl, ?_⟩) ?_ ?_
  rotate_left
  · intro w'
    go_simp
    with_reducible rfl
  rotate_left
  · simp only [Act.put, List.setIfInBounds_toArray, List.set_cons_zero, List.set_cons_succ]
    rfl
  refine pure_ (i := 10) (N := some 13) (v := ?_) (a' := ?_) #[true, true, true, true, true, true, true, true, true, true, true] rfl rfl (by kernel_rfl) (fun _ _ _ h => h) (Or.inl ⟨by rfl, ?_⟩) ?_ ?_
  rotate_left
  · intro w'
    go_simp
    with_reducible rfl
  rotate_left
  · simp only [Act.put, List.setIfInBounds_toArray, List.set_cons_zero, List.set_cons_succ]
    rfl
  refine done_ (by kernel_rfl) ?_
  go_wp2
  have HBd : Below w1.heap.size w1 w1.drew := below_drew (Below.refl _ _)
  have HI3 := Aside0.mk (HI2.out.below HBd)
  have HX3 := Aside0.mk (blk_below HX2.out HBd)
  have HC3 := Aside0.mk (Kd.C_below HC2.out HBd)
  have HB3 := Aside0.mk (below_step HB2.out HBd)
  clear HI2 HX2 HC2 HB2 HBd
  generalize w1.drew = w2 at *
  refine start_ (n := 12) (S := fun w' => Below w2.heap.size w2 w') (ds := [8, 11]) #[false, false, false, false, false, false, false, false, false, false, false, false] (by kernel_rfl) rfl rfl (below_drew1 (Below.refl _ _)) (fun hHeld => ?_)
  refine pure_ (i := 0) (N := some 24) (v := ?_) (a' := ?_) #[true, false, false, false, false, false, false, false, false, false, false, false] rfl rfl (by kernel_rfl) (fun _ _ _ h => h) (Or.inl ⟨by rfl, ?_⟩) ?_ ?_
  rotate_left
  · intro w'
    go_simp
    with_reducible rfl
  rotate_left
  · simp only [Act.put, List.setIfInBounds_toArray, List.set_cons_zero, List.set_cons_succ]
    rfl
  refine pure_ (i := 1) (N := some 25) (v := ?_) (a' := ?_) #[true, true, false, false, false, false, false, false, false, false, false, false] rfl rfl (by kernel_rfl) (fun _ _ _ h => h) (Or.inl ⟨by rfl, ?_⟩) ?_ ?_
  rotate_left
  · intro w'
    go_simp
    with_reducible rfl
  rotate_left
  · simp only [Act.put, List.setIfInBounds_toArray, List.set_cons_zero, List.set_cons_succ]
    rfl
  refine pure_ (i := 2) (N := some 26) (v := ?_) (a' := ?_) #[true, true, true, false, false, false, false, false, false, false, false, false] rfl rfl (by kernel_rfl) (fun _ _ _ h => h) (Or.inl ⟨by rfl, ?_⟩) ?_ ?_
  rotate_left
  · intro w'
    go_simp
    with_reducible rfl
  rotate_left
  · simp only [Act.put, List.setIfInBounds_toArray, List.set_cons_zero, List.set_cons_succ]
    rfl
  refine pure_ (i := 3) (N := some 27) (v := ?_) (a' := ?_) #[true, true, true, true, false, false, false, false, false, false, false, false] rfl rfl (by kernel_rfl) (fun _ _ _ h => h) (Or.inl ⟨by rfl, ?_⟩) ?_ ?_
  rotate_left
  · intro w'
    go_simp
    with_reducible rfl
  rotate_left
  · simp only [Act.put, List.setIfInBounds_toArray, List.set_cons_zero, List.set_cons_succ]
    rfl
  refine take_ (i := 4) (N := some 28) (v := ?_) (a' := ?_) #[true, true, true, true, true, false, false, false, false, false, false, false] rfl rfl (by kernel_rfl) (fun _ _ _ h => h) (Or.inl ⟨by rfl, ?_⟩) hHeld ?_ ?_
  rotate_left
  · intro w' hS_
    have b0_ : w'.cell? ⟨g, 0, none⟩ = some (.int .i64 room) := (blk_cell (HI3.out.below hS_).blk 0).trans rfl
    have b1_ : w'.cell? ⟨g, 1, none⟩ = some (.slice A l.length c) := (blk_cell (HI3.out.below hS_).blk 1).trans rfl
    have b2_ : w'.cell? ⟨g, 2, none⟩ = some (.bool false) := (blk_cell (HI3.out.below hS_).blk 2).trans rfl
    go_simp
    with_reducible rfl
  rotate_left
  · simp only [Act.put, List.setIfInBounds_toArray, List.set_cons_zero, List.set_cons_succ]
    rfl
  refine take_ (i := 5) (N := some 29) (v := ?_) (a' := ?_) #[true, true, true, true, true, true, false, false, false, false, false, false] rfl rfl (by kernel_rfl) (fun _ _ _ h => h) (Or.inl ⟨by rfl, ?_⟩) hHeld ?_ ?_
  rotate_left
  · intro w' hS_
    have q0_ : w'.cell? ⟨w.heap.size, 0, none⟩ = some (.int .i64 x0) := (blk_cell (blk_below HX3.out hS_) 0).trans rfl
    have q1_ : w'.cell? ⟨w.heap.size, 1, none⟩ = some (.int .i64 x1) := (blk_cell (blk_below HX3.out hS_) 1).trans rfl
    have q2_ : w'.cell? ⟨w.heap.size, 2, none⟩ = some (.int .i64 x2) := (blk_cell (blk_below HX3.out hS_) 2).trans rfl
    have q3_ : w'.cell? ⟨w.heap.size, 3, none⟩ = some (.slice A3 x3.length c3) := (blk_cell (blk_below HX3.out hS_) 3).trans rfl
    go_simp
    with_reducible rfl
  rotate_left
  · simp only [Act.put, List.setIfInBounds_toArray, List.set_cons_zero, List.set_cons_succ]
    rfl
  refine one_ (i := 6) (N := some 30) #[true, true, true, true, true, true, true, false, false, false, false, false] rfl rfl (by kernel_rfl) (by decide) (fun K_ hK_ => ?_)
  refine call_ 92 _ (by rfl) rfl (by go_simp; rfl) ?_
  refine (control_own.calls x0 x1 x2 A3 c3 x3 x0 x1 x2 x3 _ (Kd.C_below HC3.out hHeld) hc3 HOW.out).mono ?_
  rintro e_ w4 ⟨v4, rfl, hR4, hb4⟩
  refine ⟨_, rfl, ?_⟩
  obtain ⟨A4, c4, rfl, hc4, hC4⟩ := Kd.R_reads hR4
  have HF4 := Aside0.mk (Kd.R_F (Kd.R_mono (ok' := fun k => w2.heap.size ≤ k) (Kd.R_bound hR4) (fun k hk => hk.2.1)))
  have hB4 := below_step hHeld hb4
  have HS4 := Aside0.mk hB4
  have HZ4 := Aside0.mk hb4
  have HLO := Aside0.mk (Kd.R_base hR4)
  clear hR4 hb4 hC4 hHeld
  refine hK_.out _ _ (hB4) (fun hHeld => ?_)
  clear hK_
  refine norm_ (a' := ?_) ?_ ?_
  rotate_left
  · simp only [Act.put, List.setIfInBounds_toArray, List.set_cons_zero, List.set_cons_succ]
    rfl
  refine one_ (i := 7) (N := some 31) #[true, true, true, true, true, true, true, true, false, false, false, false] rfl rfl (by kernel_rfl) (by decide) (fun K_ hK_ => ?_)
  refine event_step (by rfl) (by go_simp; exact ⟨rfl, rfl⟩) ?_
  have hB5 := below_step HS4.out (below_alloc (Below.refl w4.heap.size w4) (.cells #[.int .i64 x0, .int .i64 x1, .int .i64 x2, .slice A4 x3.length c4] 67))
  clear hHeld
  refine hK_.out _ _ (hB5) (fun hHeld => ?_)
  clear hK_
  refine norm_ (a' := ?_) ?_ ?_
  rotate_left
  · simp only [Act.put, List.setIfInBounds_toArray, List.set_cons_zero, List.set_cons_succ]
    rfl
  refine last_ (i := 8) (N := some 32) #[true, true, true, true, true, true, true, true, true, false, false, false] rfl rfl (by kernel_rfl) (by decide) (fun K_ hK_ => ?_)
  clear hHeld
  have hI4 := HI3.out.below HS4.out
  refine Kd.N_append_step k67 (w0 := w4) (W := w4) 0 ?hw (.tmp 28) (.tmp 31) 56 67 (.agg #[(.int .i64 0), (.int .i64 0), (.int .i64 0), (.slice none 0 0)]) 48 rfl Try.underlying56 info67c rfl (by decide) (by decide) (.slice A l.length c) l (⟨x0, x1, x2, x3⟩ : S67) [.int .i64 x0, .int .i64 x1, .int .i64 x2, .slice A4 x3.length c4] (fun k => ok k ∨ w2.heap.size ≤ k) (fun k => w2.heap.size ≤ k ∧ k < w4.heap.size ∧ some k ≠ (Value.slice A l.length c).ownBlock) rfl rfl ?fk (fun k hk => ⟨.inr hk.1, hk.2.2⟩) (fun k hk => .inr (Nat.le_trans HS4.out.size hk)) (Kd.N_mono hI4.row (fun k hk => .inl hk)) ⟨rfl, rfl, rfl, Nat.le_refl _, fun _ h => absurd h (Nat.not_lt_zero _)⟩ (Nat.zero_le _) (by have := HL.out; omega) ?_
  case hw => rfl
  case fk => exact fk67_of hc4 HF4.out (fun k hk => ⟨hk.1, hk.2, fun e => by have h1 := hI4.lt k (hI4.row.1 k e.symm); have h2 := HI3.out.lt k (hI4.row.1 k e.symm); have := hk.1; omega⟩)
  intro v6 w6 hN6 _ hg6 hat6
  obtain ⟨l6, hl6⟩ : ∃ l6, l ++ [(⟨x0, x1, x2, x3⟩ : S67)] = l6 := ⟨_, rfl⟩
  rw [hl6] at hN6
  have HL6 := Aside0.mk hl6
  clear hl6
  refine hK_.out _ _ ?_
  clear hK_
  refine norm_ (a' := ?_) ?_ ?_
  rotate_left
  · simp only [Act.put, List.setIfInBounds_toArray, List.set_cons_zero, List.set_cons_succ]
    rfl
  refine pure_ (i := 9) (N := some 33) (v := ?_) (a' := ?_) #[true, true, true, true, true, true, true, true, true, true, false, false] rfl rfl (by kernel_rfl) (fun _ _ _ h => h) (Or.inl ⟨by rfl, ?_⟩) ?_ ?_
  rotate_left
  · intro w'
    go_simp
    with_reducible rfl
  rotate_left
  · simp only [Act.put, List.setIfInBounds_toArray, List.set_cons_zero, List.set_cons_succ]
    rfl
  refine pure_ (i := 10) (N := some 34) (v := ?_) (a' := ?_) #[true, true, true, true, true, true, true, true, true, true, true, false] rfl rfl (by kernel_rfl) (fun _ _ _ h => h) (Or.inl ⟨by rfl, ?_⟩) ?_ ?_
  rotate_left
  · intro w'
    go_simp
    with_reducible rfl
  rotate_left
  · simp only [Act.put, List.setIfInBounds_toArray, List.set_cons_zero, List.set_cons_succ]
    rfl
  refine last_ (i := 11) (N := none) #[true, true, true, true, true, true, true, true, true, true, true, true] rfl rfl (by kernel_rfl) (by decide) (fun K_ hK_ => ?_)
  have hk6 : Keeps w2 w6 (Fw g (.slice A l.length c)) := ((Keeps.of_below HS4.out _).grown hg6 (fun k e => .inl (.inr e)))
  have hb6 : w6.heap[g]? = some (.cells #[.int .i64 room, .slice A l.length c, .bool false] 141 (0, 0)) := blk_grown (blk_below HI3.out.blk HS4.out) hg6 (fun e => HI3.out.ng (HI3.out.row.1 g e.symm))
  have hp6 := HI3.out.put hN6 hb6 hk6 (at_own hat6 HS4.out.size) (fun k hk => hk)
  have hc6_ : w6.cell? ⟨g, 1, none⟩ = some (.slice A l.length c) := (blk_cell hb6 1).trans rfl
  have hf6_ := blk_frozen hb6 1
  obtain ⟨A6, c6, e6⟩ := Kd.N_slice hN6
  subst e6
  refine store_step (w1 := w6.setCell ⟨g, 1, none⟩ (.slice A6 l6.length c6)) (by rfl) rfl (by first | (go_simp; done) | (go_simp; rfl)) ?_
  have HP6 := Aside0.mk hp6
  clear hc6_ hf6_ hp6 hk6 hg6 hat6 hN6
  refine hK_.out _ _ ?_
  clear hK_
  refine done_ (by kernel_rfl) ?_
  go_wp2
  go_ret
  rw [HL6.out]
  exact ⟨rfl, _, _, HP6.out.1, (MvC.of_below HB3.out).trans HP6.out.2⟩
set_option maxHeartbeats 8000000 in
set_option maxRecDepth 100000 in
theorem control_Last.ok (x0 x1 x2 : Int) (A3 : Option Addr) (c3 : Nat) (x3 : List Int) (w : World) (g : Nat) (room : Int) (v : Value) (l : List S67) (ok : Nat → Prop) (h : IsC w g room v l false ok) (hC : Kd.C (Kd.int .u8) w A3 x3.length x3) (hc3 : x3.length ≤ c3) (hl3 : x3.length ≤ 1000000) (hl : l.length ≤ 100000) :
    Calls Try.prog 52 #[.pointer (some ⟨g, 0, none⟩), .agg #[.int .i64 x0, .int .i64 x1, .int .i64 x2, .slice A3 x3.length c3]] w fun e w' => e = .returned (.int .i64 0) ∧ ∃ v' ok', IsC w' g room v' (l ++ [(⟨x0, x1, x2, x3⟩ : S67)]) true ok' ∧ MvC w g v ok w' v' ok' := by
  have hu67 := Try.underlying67
  obtain ⟨A, c, rfl⟩ := h.form
  have HB2 := Aside0.mk (below_alloc (Below.refl w.heap.size w) (.cells #[.int .i64 x0, .int .i64 x1, .int .i64 x2, .slice A3 x3.length c3] 67))
  have HI2 := Aside0.mk (h.below HB2.out)
  have HX2 := Aside0.mk (blk_new w (.cells #[.int .i64 x0, .int .i64 x1, .int .i64 x2, .slice A3 x3.length c3] 67))
  have HC2 := Aside0.mk (Kd.C_below hC HB2.out)
  have hgz : g ≠ w.heap.size := by have := blk_lt h.blk; omega
  have b0_ : (w.alloc (.cells #[.int .i64 x0, .int .i64 x1, .int .i64 x2, .slice A3 x3.length c3] 67)).cell? ⟨g, 0, none⟩ = some (.int .i64 room) := (blk_cell HI2.out.blk 0).trans rfl
  have b1_ : (w.alloc (.cells #[.int .i64 x0, .int .i64 x1, .int .i64 x2, .slice A3 x3.length c3] 67)).cell? ⟨g, 1, none⟩ = some (.slice A l.length c) := (blk_cell HI2.out.blk 1).trans rfl
  have b2_ : (w.alloc (.cells #[.int .i64 x0, .int .i64 x1, .int .i64 x2, .slice A3 x3.length c3] 67)).cell? ⟨g, 2, none⟩ = some (.bool false) := (blk_cell HI2.out.blk 2).trans rfl
  have HOW : Aside0 (control_own.f x0 x1 x2 x3 = some (x0, x1, x2, x3)) := ⟨by unfold control_own.f slices_Clone_byte_byte.f; rw [if_pos (by omega)]; rfl⟩
  have HL := Aside0.mk hl
  clear h hC hl hl3
  go_enter Try.func52, Try.ntmps52
  go_wp2
  have HBd : Below (w.alloc (.cells #[.int .i64 x0, .int .i64 x1, .int .i64 x2, .slice A3 x3.length c3] 67)).heap.size (w.alloc (.cells #[.int .i64 x0, .int .i64 x1, .int .i64 x2, .slice A3 x3.length c3] 67)) (w.alloc (.cells #[.int .i64 x0, .int .i64 x1, .int .i64 x2, .slice A3 x3.length c3] 67)) := Below.refl _ _
  have HI3 := Aside0.mk (HI2.out.below HBd)
  have HX3 := Aside0.mk (blk_below HX2.out HBd)
  have HC3 := Aside0.mk (Kd.C_below HC2.out HBd)
  have HB3 := Aside0.mk (below_step HB2.out HBd)
  clear b0_ b1_ b2_ HI2 HX2 HC2 HB2 HBd
  generalize (w.alloc (.cells #[.int .i64 x0, .int .i64 x1, .int .i64 x2, .slice A3 x3.length c3] 67)) = w2 at *
  refine start_ (n := 16) (S := fun w' => Below w2.heap.size w2 w') (ds := [9, 12, 15]) #[false, false, false, false, false, false, false, false, false, false, false, false, false, false, false, false] (by kernel_rfl) rfl rfl (below_drew1 (Below.refl _ _)) (fun hHeld => ?_)
  refine pure_ (i := 0) (N := some 13) (v := ?_) (a' := ?_) #[true, false, false, false, false, false, false, false, false, false, false, false, false, false, false, false] rfl rfl (by kernel_rfl) (fun _ _ _ h => h) (Or.inl ⟨by rfl, ?_⟩) ?_ ?_
  rotate_left
  · intro w'
    go_simp
    with_reducible rfl
  rotate_left
  · simp only [Act.put, List.setIfInBounds_toArray, List.set_cons_zero, List.set_cons_succ]
    rfl
  refine pure_ (i := 1) (N := some 14) (v := ?_) (a' := ?_) #[true, true, false, false, false, false, false, false, false, false, false, false, false, false, false, false] rfl rfl (by kernel_rfl) (fun _ _ _ h => h) (Or.inl ⟨by rfl, ?_⟩) ?_ ?_
  rotate_left
  · intro w'
    go_simp
    with_reducible rfl
  rotate_left
  · simp only [Act.put, List.setIfInBounds_toArray, List.set_cons_zero, List.set_cons_succ]
    rfl
  refine pure_ (i := 2) (N := some 15) (v := ?_) (a' := ?_) #[true, true, true, false, false, false, false, false, false, false, false, false, false, false, false, false] rfl rfl (by kernel_rfl) (fun _ _ _ h => h) (Or.inl ⟨by rfl, ?_⟩) ?_ ?_
  rotate_left
  · intro w'
    go_simp
    with_reducible rfl
  rotate_left
  · simp only [Act.put, List.setIfInBounds_toArray, List.set_cons_zero, List.set_cons_succ]
    rfl
  refine pure_ (i := 3) (N := some 16) (v := ?_) (a' := ?_) #[true, true, true, true, false, false, false, false, false, false, false, false, false, false, false, false] rfl rfl (by kernel_rfl) (fun _ _ _ h => h) (Or.inl ⟨by rfl, ?_⟩) ?_ ?_
  rotate_left
  · intro w'
    go_simp
    with_reducible rfl
  rotate_left
  · simp only [Act.put, List.setIfInBounds_toArray, List.set_cons_zero, List.set_cons_succ]
    rfl
  refine pure_ (i := 4) (N := some 17) (v := ?_) (a' := ?_) #[true, true, true, true, true, false, false, false, false, false, false, false, false, false, false, false] rfl rfl (by kernel_rfl) (fun _ _ _ h => h) (Or.inl ⟨by rfl, ?_⟩) ?_ ?_
  rotate_left
  · intro w'
    go_simp
    with_reducible rfl
  rotate_left
  · simp only [Act.put, List.setIfInBounds_toArray, List.set_cons_zero, List.set_cons_succ]
    rfl
  refine take_ (i := 5) (N := some 18) (v := ?_) (a' := ?_) #[true, true, true, true, true, true, false, false, false, false, false, false, false, false, false, false] rfl rfl (by kernel_rfl) (fun _ _ _ h => h) (Or.inl ⟨by rfl, ?_⟩) hHeld ?_ ?_
  rotate_left
  · intro w' hS_
    have b0_ : w'.cell? ⟨g, 0, none⟩ = some (.int .i64 room) := (blk_cell (HI3.out.below hS_).blk 0).trans rfl
    have b1_ : w'.cell? ⟨g, 1, none⟩ = some (.slice A l.length c) := (blk_cell (HI3.out.below hS_).blk 1).trans rfl
    have b2_ : w'.cell? ⟨g, 2, none⟩ = some (.bool false) := (blk_cell (HI3.out.below hS_).blk 2).trans rfl
    go_simp
    with_reducible rfl
  rotate_left
  · simp only [Act.put, List.setIfInBounds_toArray, List.set_cons_zero, List.set_cons_succ]
    rfl
  refine take_ (i := 6) (N := some 19) (v := ?_) (a' := ?_) #[true, true, true, true, true, true, true, false, false, false, false, false, false, false, false, false] rfl rfl (by kernel_rfl) (fun _ _ _ h => h) (Or.inl ⟨by rfl, ?_⟩) hHeld ?_ ?_
  rotate_left
  · intro w' hS_
    have q0_ : w'.cell? ⟨w.heap.size, 0, none⟩ = some (.int .i64 x0) := (blk_cell (blk_below HX3.out hS_) 0).trans rfl
    have q1_ : w'.cell? ⟨w.heap.size, 1, none⟩ = some (.int .i64 x1) := (blk_cell (blk_below HX3.out hS_) 1).trans rfl
    have q2_ : w'.cell? ⟨w.heap.size, 2, none⟩ = some (.int .i64 x2) := (blk_cell (blk_below HX3.out hS_) 2).trans rfl
    have q3_ : w'.cell? ⟨w.heap.size, 3, none⟩ = some (.slice A3 x3.length c3) := (blk_cell (blk_below HX3.out hS_) 3).trans rfl
    go_simp
    with_reducible rfl
  rotate_left
  · simp only [Act.put, List.setIfInBounds_toArray, List.set_cons_zero, List.set_cons_succ]
    rfl
  refine one_ (i := 7) (N := some 20) #[true, true, true, true, true, true, true, true, false, false, false, false, false, false, false, false] rfl rfl (by kernel_rfl) (by decide) (fun K_ hK_ => ?_)
  refine call_ 92 _ (by rfl) rfl (by go_simp; rfl) ?_
  refine (control_own.calls x0 x1 x2 A3 c3 x3 x0 x1 x2 x3 _ (Kd.C_below HC3.out hHeld) hc3 HOW.out).mono ?_
  rintro e_ w4 ⟨v4, rfl, hR4, hb4⟩
  refine ⟨_, rfl, ?_⟩
  obtain ⟨A4, c4, rfl, hc4, hC4⟩ := Kd.R_reads hR4
  have HF4 := Aside0.mk (Kd.R_F (Kd.R_mono (ok' := fun k => w2.heap.size ≤ k) (Kd.R_bound hR4) (fun k hk => hk.2.1)))
  have hB4 := below_step hHeld hb4
  have HS4 := Aside0.mk hB4
  have HZ4 := Aside0.mk hb4
  have HLO := Aside0.mk (Kd.R_base hR4)
  clear hR4 hb4 hC4 hHeld
  refine hK_.out _ _ (hB4) (fun hHeld => ?_)
  clear hK_
  refine norm_ (a' := ?_) ?_ ?_
  rotate_left
  · simp only [Act.put, List.setIfInBounds_toArray, List.set_cons_zero, List.set_cons_succ]
    rfl
  refine one_ (i := 8) (N := some 21) #[true, true, true, true, true, true, true, true, true, false, false, false, false, false, false, false] rfl rfl (by kernel_rfl) (by decide) (fun K_ hK_ => ?_)
  refine event_step (by rfl) (by go_simp; exact ⟨rfl, rfl⟩) ?_
  have hB5 := below_step HS4.out (below_alloc (Below.refl w4.heap.size w4) (.cells #[.int .i64 x0, .int .i64 x1, .int .i64 x2, .slice A4 x3.length c4] 67))
  clear hHeld
  refine hK_.out _ _ (hB5) (fun hHeld => ?_)
  clear hK_
  refine norm_ (a' := ?_) ?_ ?_
  rotate_left
  · simp only [Act.put, List.setIfInBounds_toArray, List.set_cons_zero, List.set_cons_succ]
    rfl
  refine last_ (i := 9) (N := some 22) #[true, true, true, true, true, true, true, true, true, true, false, false, false, false, false, false] rfl rfl (by kernel_rfl) (by decide) (fun K_ hK_ => ?_)
  clear hHeld
  have hI4 := HI3.out.below HS4.out
  refine Kd.N_append_step k67 (w0 := w4) (W := w4) 0 ?hw (.tmp 18) (.tmp 21) 56 67 (.agg #[(.int .i64 0), (.int .i64 0), (.int .i64 0), (.slice none 0 0)]) 48 rfl Try.underlying56 info67c rfl (by decide) (by decide) (.slice A l.length c) l (⟨x0, x1, x2, x3⟩ : S67) [.int .i64 x0, .int .i64 x1, .int .i64 x2, .slice A4 x3.length c4] (fun k => ok k ∨ w2.heap.size ≤ k) (fun k => w2.heap.size ≤ k ∧ k < w4.heap.size ∧ some k ≠ (Value.slice A l.length c).ownBlock) rfl rfl ?fk (fun k hk => ⟨.inr hk.1, hk.2.2⟩) (fun k hk => .inr (Nat.le_trans HS4.out.size hk)) (Kd.N_mono hI4.row (fun k hk => .inl hk)) ⟨rfl, rfl, rfl, Nat.le_refl _, fun _ h => absurd h (Nat.not_lt_zero _)⟩ (Nat.zero_le _) (by have := HL.out; omega) ?_
  case hw => rfl
  case fk => exact fk67_of hc4 HF4.out (fun k hk => ⟨hk.1, hk.2, fun e => by have h1 := hI4.lt k (hI4.row.1 k e.symm); have h2 := HI3.out.lt k (hI4.row.1 k e.symm); have := hk.1; omega⟩)
  intro v6 w6 hN6 _ hg6 hat6
  obtain ⟨l6, hl6⟩ : ∃ l6, l ++ [(⟨x0, x1, x2, x3⟩ : S67)] = l6 := ⟨_, rfl⟩
  rw [hl6] at hN6
  have HL6 := Aside0.mk hl6
  clear hl6
  refine hK_.out _ _ ?_
  clear hK_
  refine norm_ (a' := ?_) ?_ ?_
  rotate_left
  · simp only [Act.put, List.setIfInBounds_toArray, List.set_cons_zero, List.set_cons_succ]
    rfl
  refine pure_ (i := 10) (N := some 23) (v := ?_) (a' := ?_) #[true, true, true, true, true, true, true, true, true, true, true, false, false, false, false, false] rfl rfl (by kernel_rfl) (fun _ _ _ h => h) (Or.inl ⟨by rfl, ?_⟩) ?_ ?_
  rotate_left
  · intro w'
    go_simp
    with_reducible rfl
  rotate_left
  · simp only [Act.put, List.setIfInBounds_toArray, List.set_cons_zero, List.set_cons_succ]
    rfl
  refine pure_ (i := 11) (N := some 24) (v := ?_) (a' := ?_) #[true, true, true, true, true, true, true, true, true, true, true, true, false, false, false, false] rfl rfl (by kernel_rfl) (fun _ _ _ h => h) (Or.inl ⟨by rfl, ?_⟩) ?_ ?_
  rotate_left
  · intro w'
    go_simp
    with_reducible rfl
  rotate_left
  · simp only [Act.put, List.setIfInBounds_toArray, List.set_cons_zero, List.set_cons_succ]
    rfl
  refine last_ (i := 12) (N := none) #[true, true, true, true, true, true, true, true, true, true, true, true, true, false, false, false] rfl rfl (by kernel_rfl) (by decide) (fun K_ hK_ => ?_)
  have hk6 : Keeps w2 w6 (Fw g (.slice A l.length c)) := ((Keeps.of_below HS4.out _).grown hg6 (fun k e => .inl (.inr e)))
  have hb6 : w6.heap[g]? = some (.cells #[.int .i64 room, .slice A l.length c, .bool false] 141 (0, 0)) := blk_grown (blk_below HI3.out.blk HS4.out) hg6 (fun e => HI3.out.ng (HI3.out.row.1 g e.symm))
  have hp6 := HI3.out.put hN6 hb6 hk6 (at_own hat6 HS4.out.size) (fun k hk => hk)
  have hc6_ : w6.cell? ⟨g, 1, none⟩ = some (.slice A l.length c) := (blk_cell hb6 1).trans rfl
  have hf6_ := blk_frozen hb6 1
  obtain ⟨A6, c6, e6⟩ := Kd.N_slice hN6
  subst e6
  refine store_step (w1 := w6.setCell ⟨g, 1, none⟩ (.slice A6 l6.length c6)) (by rfl) rfl (by first | (go_simp; done) | (go_simp; rfl)) ?_
  have HP6 := Aside0.mk hp6
  clear hc6_ hf6_ hp6 hk6 hg6 hat6 hN6
  refine hK_.out _ _ ?_
  clear hK_
  refine pure_ (i := 13) (N := some 25) (v := ?_) (a' := ?_) #[true, true, true, true, true, true, true, true, true, true, true, true, true, true, false, false] rfl rfl (by kernel_rfl) (fun _ _ _ h => h) (Or.inl ⟨by rfl, ?_⟩) ?_ ?_
  rotate_left
  · intro w'
    go_simp
    with_reducible rfl
  rotate_left
  · simp only [Act.put, List.setIfInBounds_toArray, List.set_cons_zero, List.set_cons_succ]
    rfl
  refine pure_ (i := 14) (N := some 26) (v := ?_) (a' := ?_) #[true, true, true, true, true, true, true, true, true, true, true, true, true, true, true, false] rfl rfl (by kernel_rfl) (fun _ _ _ h => h) (Or.inl ⟨by rfl, ?_⟩) ?_ ?_
  rotate_left
  · intro w'
    go_simp
    with_reducible rfl
  rotate_left
  · simp only [Act.put, List.setIfInBounds_toArray, List.set_cons_zero, List.set_cons_succ]
    rfl
  refine last_ (i := 15) (N := none) #[true, true, true, true, true, true, true, true, true, true, true, true, true, true, true, true] rfl rfl (by kernel_rfl) (by decide) (fun K_ hK_ => ?_)
  have hc7_ : (w6.setCell ⟨g, 1, none⟩ (.slice A6 l6.length c6)).cell? ⟨g, 2, none⟩ = some (.bool false) := (blk_cell HP6.out.1.blk 2).trans rfl
  have hf7_ := blk_frozen HP6.out.1.blk 2
  refine store_step (w1 := (w6.setCell ⟨g, 1, none⟩ (.slice A6 l6.length c6)).setCell ⟨g, 2, none⟩ (.bool true)) (by rfl) rfl (by first | (go_simp; done) | (go_simp; rfl)) ?_
  clear hc7_ hf7_
  refine hK_.out _ _ ?_
  clear hK_
  refine done_ (by kernel_rfl) ?_
  go_wp2
  go_ret
  rw [HL6.out]
  exact ⟨rfl, _, _, HP6.out.1.end_, ((MvC.of_below HB3.out).trans HP6.out.2).end_⟩
end Go.Proofs.Ytbmnplojpeabmaa.QK
