/-
  INTAKE: Feed.
  Conditions: none of its own; lemmas that the claim's row rests on.
-/
import Derived.Test.YtbmnplojpeabmaaIt2
import Derived.WalkKit
import Derived.Lib.SlBytesConst
namespace Go.Proofs.Ytbmnplojpeabmaa.It
open Go.RowKit Go.Proofs.YtbmnplojpeabmaaW.PrintWords Go.Proofs.YtbmnplojpeabmaaW.PrintLast Go.Proofs.YtbmnplojpeabmaaW.PrintMore
attribute [local go_sem] max2_int min2_int max_two min_two max_three min_three max_four min_four
set_option linter.unusedVariables false
set_option linter.unusedSimpArgs false
open Go.Proofs.Ytbmnplojpeabmaa.Ob Go.Proofs.Ytbmnplojpeabmaa.QI Go.Proofs.Ytbmnplojpeabmaa.FramePure Go.Proofs.Ytbmnplojpeabmaa.WirePure Go.Proofs.Ytbmnplojpeabmaa.IntakePure
section
variable {w : World} {g : Nat} {most ov : Int} {v : Value} {l l3 : List Int} {bg : Bool} {A3 : Option Addr} {c3 : Nat}
set_option maxHeartbeats 8000000 in
set_option maxRecDepth 100000 in
theorem intake_Feed.fresh24 (eq : Bool) (B : List Int) (h : IsT w g most v l false 0) (hr3 : Kd.C (Kd.int .u8) w A3 l3.length l3) (hc3 : l3.length ≤ c3) (hl : l.length + l3.length ≤ 140737488355328) (hB : l ++ l3 = B) (hn : 24 < B.length) (heq : bytes_Equal.f (B.take 24) (PRE.take 24) = some eq) : Calls Try.prog 68 #[.pointer (some ⟨g, 0, none⟩), .slice A3 l3.length c3] w fun e w' => ∃ v0, e = .returned v0 ∧ ∃ v', IsT w' g most v' (if eq = false then [] else B.drop 24) (eq && true) (if eq = false then 3 else 0) ∧ Mt w g v w' v' := by
  have hcell : w.cell? ⟨g, 1, none⟩ = some v := (blk_cell h.1 1).trans rfl
  have hov : w.cell? ⟨g, 3, none⟩ = some (.int .i64 0) := (blk_cell h.1 3).trans rfl
  have HI := Aside0.mk h
  have HC := Aside0.mk hr3
  have HE := Aside0.mk heq
  have hm : ((24 : Int) < (B.length : Int)) = True := eq_true (by omega)
  clear h hr3 heq
  go_enter Try.func68, Try.ntmps68
  go_wp2_with (first | (at_builtin; go_loud (refine Gr.append (Value.int .u8) 0 (h1 := u8one) rfl (.tmp 18) (.tmp 19) 22 5 (.int .u8 0) 1 rfl Try.underlying22 info5 rfl (by decide) v l l3 _ _ _ rfl rfl HI.out.2.1 HC.out (by omega) ?_; intro v1 w2 hG hgr hat; have HT_ := HI.out.turn hG hgr hat; have hb2 := blk_grown HI.out.1 hgr (fun e => HI.out.2.2 e.symm); have hcell2 : w2.cell? ⟨g, 1, none⟩ = some v := (blk_cell hb2 1).trans rfl; have hfr2 := blk_frozen hb2 1; have hbg : (w2.setCell ⟨g, 1, none⟩ v1).cell? ⟨g, 2, none⟩ = some (.bool false) := (blk_cell HT_.1.1 2).trans rfl; have hl1 : (w2.setCell ⟨g, 1, none⟩ v1).cell? ⟨g, 1, none⟩ = some v1 := (blk_cell HT_.1.1 1).trans rfl; rw [hB] at HT_ hG; have HT := Aside0.mk HT_; have HA := Aside0.mk hat; obtain ⟨A1, c1, ev1, hc1, hC1⟩ := hG.reads 0; subst ev1; clear hcell hov hgr hb2 hG HT_ hat hC1)))
  clear hbg hl1 hcell2 hfr2
  obtain ⟨W, hW⟩ : ∃ W_, W_ = w2.setCell ⟨g, 1, none⟩ (.slice A1 B.length c1) := ⟨_, rfl⟩
  rw [← hW] at HT ⊢
  clear hW
  have hc1T : ((24 : Int) ≤ (c1 : Int)) = True := eq_true (by omega)
  obtain ⟨_, _, e1_, _, hC1⟩ := HT.out.1.reads
  obtain ⟨rfl, rfl⟩ : A1 = _ ∧ c1 = _ := by injection e1_ with h1 _ h3; exact ⟨h1, h3⟩
  clear e1_
  have HC1 := Aside0.mk hC1
  clear hC1
  refine start_ (n := 12) (S := fun w' => Below W.heap.size W w') (ds := []) #[false, false, false, false, false, false, false, false, false, false, false, false] (by kernel_rfl) rfl rfl (below_drew1 (Below.refl _ _)) (fun hHeld => ?_)
  refine pure_ (i := 0) (N := some 34) (v := ?_) (a' := ?_) #[true, false, false, false, false, false, false, false, false, false, false, false] rfl rfl (by kernel_rfl) (fun _ _ _ h => h) (Or.inl ⟨by rfl, ?_⟩) ?_ ?_
  rotate_left
  · intro w'
    go_simp
    with_reducible rfl
  rotate_left
  · simp only [Act.put, List.setIfInBounds_toArray, List.set_cons_zero, List.set_cons_succ]
    rfl
  refine pure_ (i := 1) (N := some 35) (v := ?_) (a' := ?_) #[true, true, false, false, false, false, false, false, false, false, false, false] rfl rfl (by kernel_rfl) (fun _ _ _ h => h) (Or.inl ⟨by rfl, ?_⟩) ?_ ?_
  rotate_left
  · intro w'
    go_simp
    with_reducible rfl
  rotate_left
  · simp only [Act.put, List.setIfInBounds_toArray, List.set_cons_zero, List.set_cons_succ]
    rfl
  refine pure_ (i := 2) (N := some 36) (v := ?_) (a' := ?_) #[true, true, true, false, false, false, false, false, false, false, false, false] rfl rfl (by kernel_rfl) (fun _ _ _ h => h) (Or.inl ⟨by rfl, ?_⟩) ?_ ?_
  rotate_left
  · intro w'
    go_simp
    with_reducible rfl
  rotate_left
  · simp only [Act.put, List.setIfInBounds_toArray, List.set_cons_zero, List.set_cons_succ]
    rfl
  refine take_ (i := 3) (N := some 37) (v := ?_) (a' := ?_) #[true, true, true, true, false, false, false, false, false, false, false, false] rfl rfl (by kernel_rfl) (fun _ _ _ h => h) (Or.inl ⟨by rfl, ?_⟩) hHeld ?_ ?_
  rotate_left
  · intro w' hS_
    have q0_ : w'.cell? ⟨g, 0, none⟩ = some (.int .i64 most) := (blk_cell (blk_below HT.out.1.1 hS_) 0).trans rfl
    have q1_ : w'.cell? ⟨g, 1, none⟩ = some (.slice A1 B.length c1) := (blk_cell (blk_below HT.out.1.1 hS_) 1).trans rfl
    have q2_ : w'.cell? ⟨g, 2, none⟩ = some (.bool false) := (blk_cell (blk_below HT.out.1.1 hS_) 2).trans rfl
    have q3_ : w'.cell? ⟨g, 3, none⟩ = some (.int .i64 0) := (blk_cell (blk_below HT.out.1.1 hS_) 3).trans rfl
    go_simp
    with_reducible rfl
  rotate_left
  · simp only [Act.put, List.setIfInBounds_toArray, List.set_cons_zero, List.set_cons_succ]
    rfl
  refine pure_ (i := 4) (N := some 38) (v := ?_) (a' := ?_) #[true, true, true, true, true, false, false, false, false, false, false, false] rfl rfl (by kernel_rfl) (fun _ _ _ h => h) (Or.inl ⟨by rfl, ?_⟩) ?_ ?_
  rotate_left
  · intro w'
    go_simp
    with_reducible rfl
  rotate_left
  · simp only [Act.put, List.setIfInBounds_toArray, List.set_cons_zero, List.set_cons_succ]
    rfl
  refine pure_ (i := 5) (N := some 39) (v := ?_) (a' := ?_) #[true, true, true, true, true, true, false, false, false, false, false, false] rfl rfl (by kernel_rfl) (fun _ _ _ h => h) (Or.inl ⟨by rfl, ?_⟩) ?_ ?_
  rotate_left
  · intro w'
    go_simp
    with_reducible rfl
  rotate_left
  · simp only [Act.put, List.setIfInBounds_toArray, List.set_cons_zero, List.set_cons_succ]
    rfl
  refine pure_ (i := 7) (N := some 41) (v := ?_) (a' := ?_) #[true, true, true, true, true, true, false, true, false, false, false, false] rfl rfl (by kernel_rfl) (fun _ _ _ h => h) (Or.inl ⟨by rfl, ?_⟩) ?_ ?_
  rotate_left
  · intro w'
    go_simp
    with_reducible rfl
  rotate_left
  · simp only [Act.put, List.setIfInBounds_toArray, List.set_cons_zero, List.set_cons_succ]
    rfl
  refine one_ (i := 6) (N := some 40) #[true, true, true, true, true, true, true, true, false, false, false, false] rfl rfl (by kernel_rfl) (by decide) (fun K_ hK_ => ?_)
  have HH_ := Aside0.mk hHeld
  clear hHeld
  refine goes_ Try.func77 (by kernel_rfl) rfl #[] (by rfl) rfl rfl (by (try simp only [List.map_toArray, List.map_cons, List.map_nil]); first | done | rfl | (simp only [List.length_drop, List.length_take]; rfl)) ?_
  refine (intake_Preface.is _).mono ?_
  rintro e_ w3 ⟨gp, rfl, hC_, hbe_⟩
  refine ⟨_, rfl, ?_⟩
  have HP := Aside0.mk hC_
  clear hC_
  have hgpT : True := trivial
  have hbn_ := below_step HH_.out hbe_
  clear HH_ hbe_
  refine hK_.out _ _ (hbn_) (fun hHeld => ?_)
  clear hK_
  refine norm_ (a' := ?_) ?_ ?_
  rotate_left
  · simp only [Act.put, List.setIfInBounds_toArray, List.set_cons_zero, List.set_cons_succ]
    rfl
  refine pure_ (i := 8) (N := some 42) (v := ?_) (a' := ?_) #[true, true, true, true, true, true, true, true, true, false, false, false] rfl rfl (by kernel_rfl) (fun _ _ _ h => h) (Or.inl ⟨by rfl, ?_⟩) ?_ ?_
  rotate_left
  · intro w'
    go_simp
    with_reducible rfl
  rotate_left
  · simp only [Act.put, List.setIfInBounds_toArray, List.set_cons_zero, List.set_cons_succ]
    rfl
  refine one_ (i := 9) (N := some 43) #[true, true, true, true, true, true, true, true, true, true, false, false] rfl rfl (by kernel_rfl) (by decide) (fun K_ hK_ => ?_)
  have HH_ := Aside0.mk hHeld
  clear hHeld
  have hE_ := bytes_Equal.calls A1 c1 (B.take 24) (some ⟨gp, 0, none⟩) 24 (PRE.take 24) eq w3 (Kd.C_take (Kd.C_below HC1.out HH_.out) (by omega)) (by rw [List.length_take]; omega) (Kd.C_take HP.out (by show _ ≤ 24; omega)) (by rw [List.length_take]; omega) HE.out
  rw [List.length_take, List.length_take, Nat.min_eq_left (show 24 ≤ B.length by omega), Nat.min_eq_left (show 24 ≤ PRE.length by show _ ≤ 24; omega)] at hE_
  refine goes_ Try.func95 (by kernel_rfl) rfl #[.slice A1 24 c1, .slice (some ⟨gp, 0, none⟩) 24 24] (by rfl) rfl rfl (by (try simp only [List.map_toArray, List.map_cons, List.map_nil]); first | done | rfl | (simp only [List.length_drop, List.length_take]; rfl)) ?_
  refine (hE_).mono ?_
  rintro e_ w4 ⟨rfl, hdr_⟩
  refine ⟨_, rfl, ?_⟩
  have hbe_ := hdr_.below
  clear hdr_ hE_
  have hbn_ := below_step HH_.out hbe_
  clear HH_ hbe_
  refine hK_.out _ _ (hbn_) (fun hHeld => ?_)
  clear hK_
  refine norm_ (a' := ?_) ?_ ?_
  rotate_left
  · simp only [Act.put, List.setIfInBounds_toArray, List.set_cons_zero, List.set_cons_succ]
    rfl
  refine pure_ (i := 10) (N := some 44) (v := ?_) (a' := ?_) #[true, true, true, true, true, true, true, true, true, true, true, false] rfl rfl (by kernel_rfl) (fun _ _ _ h => h) (Or.inl ⟨by rfl, ?_⟩) ?_ ?_
  rotate_left
  · intro w'
    go_simp
    with_reducible rfl
  rotate_left
  · simp only [Act.put, List.setIfInBounds_toArray, List.set_cons_zero, List.set_cons_succ]
    rfl
  refine pure_ (i := 11) (N := some 33) (v := ?_) (a' := ?_) #[true, true, true, true, true, true, true, true, true, true, true, true] rfl rfl (by kernel_rfl) (fun _ _ _ h => h) (Or.inl ⟨by rfl, ?_⟩) ?_ ?_
  rotate_left
  · intro w'
    go_simp
    with_reducible rfl
  rotate_left
  · simp only [Act.put, List.setIfInBounds_toArray, List.set_cons_zero, List.set_cons_succ]
    rfl
  refine done_ (by kernel_rfl) ?_
  have HB4 := Aside0.mk hHeld
  have HT4 := Aside0.mk (HT.out.1.below HB4.out)
  have HK4 := Aside0.mk (HT.out.2.below HB4.out)
  clear hHeld
  have q1_ : w4.cell? ⟨g, 1, none⟩ = some (.slice A1 B.length c1) := (blk_cell HT4.out.1 1).trans rfl
  have q2_ : w4.cell? ⟨g, 2, none⟩ = some (.bool false) := (blk_cell HT4.out.1 2).trans rfl
  have q3_ : w4.cell? ⟨g, 3, none⟩ = some (.int .i64 0) := (blk_cell HT4.out.1 3).trans rfl
  cases eq with
  | false =>
    have hf3_ := blk_frozen HT4.out.1 3
    have HT5 := Aside0.mk (HT4.out.set3 3)
    have r1_ : (w4.setCell ⟨g, 3, none⟩ (.int .i64 3)).cell? ⟨g, 1, none⟩ = some (.slice A1 B.length c1) := (blk_cell HT5.out.1 1).trans rfl
    have hf1_ := blk_frozen HT5.out.1 1
    go_wp2_with fail
    go_returns
    first | exact ⟨⟨_, rfl⟩, _, HT5.out.wipe, (HK4.out.set (.inl (.inl rfl)) 3 _).set (.inl (.inl rfl)) 1 _, fun k hk => by simp [Value.ownBlock] at hk⟩ | exact ⟨_, rfl, _, HT5.out.wipe, (HK4.out.set (.inl (.inl rfl)) 3 _).set (.inl (.inl rfl)) 1 _, fun k hk => by simp [Value.ownBlock] at hk⟩ | exact ⟨_, HT5.out.wipe, (HK4.out.set (.inl (.inl rfl)) 3 _).set (.inl (.inl rfl)) 1 _, fun k hk => by simp [Value.ownBlock] at hk⟩
  | true =>
    go_wp2_with fail
    clear q1_ q2_ q3_
    obtain ⟨A', hA'⟩ : ∃ A', (if B.length = 24 then A1 else Option.map (fun x => x.add 24) A1) = A' := ⟨_, rfl⟩
    have hA2 := hA'
    simp only [Addr.add_succ'] at hA2
    have hlT : ((24 : Int) ≤ (B.length : Int)) = True := eq_true (by omega)
    refine start_ (n := 24) (S := fun w' => Below w4.heap.size w4 w') (ds := [20, 23]) #[false, false, false, false, false, false, false, false, false, false, false, false, false, false, false, false, false, false, false, false, false, false, false, false] (by kernel_rfl) rfl rfl (below_drew1 (Below.refl _ _)) (fun hHeld => ?_)
    refine pure_ (i := 0) (N := some 54) (v := ?_) (a' := ?_) #[true, false, false, false, false, false, false, false, false, false, false, false, false, false, false, false, false, false, false, false, false, false, false, false] rfl rfl (by kernel_rfl) (fun _ _ _ h => h) (Or.inl ⟨by rfl, ?_⟩) ?_ ?_
    rotate_left
    · intro w'
      go_simp
      with_reducible rfl
    rotate_left
    · simp only [Act.put, List.setIfInBounds_toArray, List.set_cons_zero, List.set_cons_succ]
      rfl
    refine pure_ (i := 1) (N := some 55) (v := ?_) (a' := ?_) #[true, true, false, false, false, false, false, false, false, false, false, false, false, false, false, false, false, false, false, false, false, false, false, false] rfl rfl (by kernel_rfl) (fun _ _ _ h => h) (Or.inl ⟨by rfl, ?_⟩) ?_ ?_
    rotate_left
    · intro w'
      go_simp
      with_reducible rfl
    rotate_left
    · simp only [Act.put, List.setIfInBounds_toArray, List.set_cons_zero, List.set_cons_succ]
      rfl
    refine pure_ (i := 2) (N := some 56) (v := ?_) (a' := ?_) #[true, true, true, false, false, false, false, false, false, false, false, false, false, false, false, false, false, false, false, false, false, false, false, false] rfl rfl (by kernel_rfl) (fun _ _ _ h => h) (Or.inl ⟨by rfl, ?_⟩) ?_ ?_
    rotate_left
    · intro w'
      go_simp
      with_reducible rfl
    rotate_left
    · simp only [Act.put, List.setIfInBounds_toArray, List.set_cons_zero, List.set_cons_succ]
      rfl
    refine pure_ (i := 3) (N := some 57) (v := ?_) (a' := ?_) #[true, true, true, true, false, false, false, false, false, false, false, false, false, false, false, false, false, false, false, false, false, false, false, false] rfl rfl (by kernel_rfl) (fun _ _ _ h => h) (Or.inl ⟨by rfl, ?_⟩) ?_ ?_
    rotate_left
    · intro w'
      go_simp
      with_reducible rfl
    rotate_left
    · simp only [Act.put, List.setIfInBounds_toArray, List.set_cons_zero, List.set_cons_succ]
      rfl
    refine pure_ (i := 4) (N := some 58) (v := ?_) (a' := ?_) #[true, true, true, true, true, false, false, false, false, false, false, false, false, false, false, false, false, false, false, false, false, false, false, false] rfl rfl (by kernel_rfl) (fun _ _ _ h => h) (Or.inl ⟨by rfl, ?_⟩) ?_ ?_
    rotate_left
    · intro w'
      go_simp
      with_reducible rfl
    rotate_left
    · simp only [Act.put, List.setIfInBounds_toArray, List.set_cons_zero, List.set_cons_succ]
      rfl
    refine take_ (i := 5) (N := some 59) (v := ?_) (a' := ?_) #[true, true, true, true, true, true, false, false, false, false, false, false, false, false, false, false, false, false, false, false, false, false, false, false] rfl rfl (by kernel_rfl) (fun _ _ _ h => h) (Or.inl ⟨by rfl, ?_⟩) hHeld ?_ ?_
    rotate_left
    · intro w' hS_
      have q0_ : w'.cell? ⟨g, 0, none⟩ = some (.int .i64 most) := (blk_cell (blk_below HT4.out.1 hS_) 0).trans rfl
      have q1_ : w'.cell? ⟨g, 1, none⟩ = some (.slice A1 B.length c1) := (blk_cell (blk_below HT4.out.1 hS_) 1).trans rfl
      have q2_ : w'.cell? ⟨g, 2, none⟩ = some (.bool false) := (blk_cell (blk_below HT4.out.1 hS_) 2).trans rfl
      have q3_ : w'.cell? ⟨g, 3, none⟩ = some (.int .i64 0) := (blk_cell (blk_below HT4.out.1 hS_) 3).trans rfl
      go_simp
      with_reducible rfl
    rotate_left
    · simp only [Act.put, List.setIfInBounds_toArray, List.set_cons_zero, List.set_cons_succ]
      rfl
    refine pure_ (i := 6) (N := some 60) (v := ?_) (a' := ?_) #[true, true, true, true, true, true, true, false, false, false, false, false, false, false, false, false, false, false, false, false, false, false, false, false] rfl rfl (by kernel_rfl) (fun _ _ _ h => h) (Or.inl ⟨by rfl, ?_⟩) ?_ ?_
    rotate_left
    · intro w'
      go_simp
      with_reducible rfl
    rotate_left
    · simp only [Act.put, List.setIfInBounds_toArray, List.set_cons_zero, List.set_cons_succ]
      rfl
    refine pure_ (i := 7) (N := some 61) (v := ?_) (a' := ?_) #[true, true, true, true, true, true, true, true, false, false, false, false, false, false, false, false, false, false, false, false, false, false, false, false] rfl rfl (by kernel_rfl) (fun _ _ _ h => h) (Or.inl ⟨by rfl, ?_⟩) ?_ ?_
    rotate_left
    · intro w'
      go_simp
      with_reducible rfl
    rotate_left
    · simp only [Act.put, List.setIfInBounds_toArray, List.set_cons_zero, List.set_cons_succ]
      rfl
    refine pure_ (i := 8) (N := some 62) (v := ?_) (a' := ?_) #[true, true, true, true, true, true, true, true, true, false, false, false, false, false, false, false, false, false, false, false, false, false, false, false] rfl rfl (by kernel_rfl) (fun _ _ _ h => h) (Or.inl ⟨by rfl, ?_⟩) ?_ ?_
    rotate_left
    · intro w'
      go_simp
      with_reducible rfl
    rotate_left
    · simp only [Act.put, List.setIfInBounds_toArray, List.set_cons_zero, List.set_cons_succ]
      rfl
    refine pure_ (i := 9) (N := some 63) (v := ?_) (a' := ?_) #[true, true, true, true, true, true, true, true, true, true, false, false, false, false, false, false, false, false, false, false, false, false, false, false] rfl rfl (by kernel_rfl) (fun _ _ _ h => h) (Or.inl ⟨by rfl, ?_⟩) ?_ ?_
    rotate_left
    · intro w'
      go_simp
      with_reducible rfl
    rotate_left
    · simp only [Act.put, List.setIfInBounds_toArray, List.set_cons_zero, List.set_cons_succ]
      rfl
    refine take_ (i := 10) (N := some 64) (v := ?_) (a' := ?_) #[true, true, true, true, true, true, true, true, true, true, true, false, false, false, false, false, false, false, false, false, false, false, false, false] rfl rfl (by kernel_rfl) (fun _ _ _ h => h) (Or.inl ⟨by rfl, ?_⟩) hHeld ?_ ?_
    rotate_left
    · intro w' hS_
      have q0_ : w'.cell? ⟨g, 0, none⟩ = some (.int .i64 most) := (blk_cell (blk_below HT4.out.1 hS_) 0).trans rfl
      have q1_ : w'.cell? ⟨g, 1, none⟩ = some (.slice A1 B.length c1) := (blk_cell (blk_below HT4.out.1 hS_) 1).trans rfl
      have q2_ : w'.cell? ⟨g, 2, none⟩ = some (.bool false) := (blk_cell (blk_below HT4.out.1 hS_) 2).trans rfl
      have q3_ : w'.cell? ⟨g, 3, none⟩ = some (.int .i64 0) := (blk_cell (blk_below HT4.out.1 hS_) 3).trans rfl
      go_simp
      with_reducible rfl
    rotate_left
    · simp only [Act.put, List.setIfInBounds_toArray, List.set_cons_zero, List.set_cons_succ]
      rfl
    refine pure_ (i := 11) (N := some 65) (v := ?_) (a' := ?_) #[true, true, true, true, true, true, true, true, true, true, true, true, false, false, false, false, false, false, false, false, false, false, false, false] rfl rfl (by kernel_rfl) (fun _ _ _ h => h) (Or.inl ⟨by rfl, ?_⟩) ?_ ?_
    rotate_left
    · intro w'
      go_simp
      with_reducible rfl
    rotate_left
    · simp only [Act.put, List.setIfInBounds_toArray, List.set_cons_zero, List.set_cons_succ]
      rfl
    refine pure_ (i := 12) (N := some 66) (v := ?_) (a' := ?_) #[true, true, true, true, true, true, true, true, true, true, true, true, true, false, false, false, false, false, false, false, false, false, false, false] rfl rfl (by kernel_rfl) (fun _ _ _ h => h) (Or.inl ⟨by rfl, ?_⟩) ?_ ?_
    rotate_left
    · intro w'
      go_simp
      with_reducible rfl
    rotate_left
    · simp only [Act.put, List.setIfInBounds_toArray, List.set_cons_zero, List.set_cons_succ]
      rfl
    refine pure_ (i := 13) (N := some 67) (v := ?_) (a' := ?_) #[true, true, true, true, true, true, true, true, true, true, true, true, true, true, false, false, false, false, false, false, false, false, false, false] rfl rfl (by kernel_rfl) (fun _ _ _ h => h) (Or.inl ⟨by rfl, ?_⟩) ?_ ?_
    rotate_left
    · intro w'
      go_simp
      with_reducible rfl
    rotate_left
    · simp only [Act.put, List.setIfInBounds_toArray, List.set_cons_zero, List.set_cons_succ]
      rfl
    refine pure_ (i := 14) (N := some 68) (v := ?_) (a' := ?_) #[true, true, true, true, true, true, true, true, true, true, true, true, true, true, true, false, false, false, false, false, false, false, false, false] rfl rfl (by kernel_rfl) (fun _ _ _ h => h) (Or.inl ⟨by rfl, ?_⟩) ?_ ?_
    rotate_left
    · intro w'
      go_simp
      with_reducible rfl
    rotate_left
    · simp only [Act.put, List.setIfInBounds_toArray, List.set_cons_zero, List.set_cons_succ]
      rfl
    refine take_ (i := 15) (N := some 69) (v := ?_) (a' := ?_) #[true, true, true, true, true, true, true, true, true, true, true, true, true, true, true, true, false, false, false, false, false, false, false, false] rfl rfl (by kernel_rfl) (fun _ _ _ h => h) (Or.inl ⟨by rfl, ?_⟩) hHeld ?_ ?_
    rotate_left
    · intro w' hS_
      have q0_ : w'.cell? ⟨g, 0, none⟩ = some (.int .i64 most) := (blk_cell (blk_below HT4.out.1 hS_) 0).trans rfl
      have q1_ : w'.cell? ⟨g, 1, none⟩ = some (.slice A1 B.length c1) := (blk_cell (blk_below HT4.out.1 hS_) 1).trans rfl
      have q2_ : w'.cell? ⟨g, 2, none⟩ = some (.bool false) := (blk_cell (blk_below HT4.out.1 hS_) 2).trans rfl
      have q3_ : w'.cell? ⟨g, 3, none⟩ = some (.int .i64 0) := (blk_cell (blk_below HT4.out.1 hS_) 3).trans rfl
      go_simp
      with_reducible rfl
    rotate_left
    · simp only [Act.put, List.setIfInBounds_toArray, List.set_cons_zero, List.set_cons_succ]
      rfl
    refine pure_ (i := 16) (N := some 70) (v := ?_) (a' := ?_) #[true, true, true, true, true, true, true, true, true, true, true, true, true, true, true, true, true, false, false, false, false, false, false, false] rfl rfl (by kernel_rfl) (fun _ _ _ h => h) (Or.inl ⟨by rfl, ?_⟩) ?_ ?_
    rotate_left
    · intro w'
      go_simp
      with_reducible rfl
    rotate_left
    · simp only [Act.put, List.setIfInBounds_toArray, List.set_cons_zero, List.set_cons_succ]
      rfl
    refine pure_ (i := 17) (N := some 71) (v := ?_) (a' := ?_) #[true, true, true, true, true, true, true, true, true, true, true, true, true, true, true, true, true, true, false, false, false, false, false, false] rfl rfl (by kernel_rfl) (fun _ _ _ h => h) (Or.inl ⟨by rfl, ?_⟩) ?_ ?_
    rotate_left
    · intro w'
      (try simp only [hA', hA2])
      go_simp
      (try simp only [hA', hA2])
      with_reducible rfl
    rotate_left
    · simp only [Act.put, List.setIfInBounds_toArray, List.set_cons_zero, List.set_cons_succ]
      rfl
    refine pure_ (i := 18) (N := some 72) (v := ?_) (a' := ?_) #[true, true, true, true, true, true, true, true, true, true, true, true, true, true, true, true, true, true, true, false, false, false, false, false] rfl rfl (by kernel_rfl) (fun _ _ _ h => h) (Or.inl ⟨by rfl, ?_⟩) ?_ ?_
    rotate_left
    · intro w'
      go_simp
      with_reducible rfl
    rotate_left
    · simp only [Act.put, List.setIfInBounds_toArray, List.set_cons_zero, List.set_cons_succ]
      rfl
    refine pure_ (i := 19) (N := some 73) (v := ?_) (a' := ?_) #[true, true, true, true, true, true, true, true, true, true, true, true, true, true, true, true, true, true, true, true, false, false, false, false] rfl rfl (by kernel_rfl) (fun _ _ _ h => h) (Or.inl ⟨by rfl, ?_⟩) ?_ ?_
    rotate_left
    · intro w'
      go_simp
      with_reducible rfl
    rotate_left
    · simp only [Act.put, List.setIfInBounds_toArray, List.set_cons_zero, List.set_cons_succ]
      rfl
    have HD := Aside0.mk (HT4.out.below hHeld)
    have HKD := Aside0.mk (HK4.out.below hHeld)
    clear hHeld
    have s2_ : w4.drew.cell? ⟨g, 2, none⟩ = some (.bool false) := (blk_cell HD.out.1 2).trans rfl
    have f2_ := blk_frozen HD.out.1 2
    refine last_store (i := 20) (w1 := (w4.drew.setCell ⟨g, 2, none⟩ (.bool true))) #[true, true, true, true, true, true, true, true, true, true, true, true, true, true, true, true, true, true, true, true, true, false, false, false] rfl rfl (by kernel_rfl) (by decide) (by rfl) (by first | (go_simp; done) | (go_simp; rfl)) ?_
    clear s2_ f2_
    have HD2 := Aside0.mk (HD.out.set2 true)
    refine pure_ (i := 21) (N := some 74) (v := ?_) (a' := ?_) #[true, true, true, true, true, true, true, true, true, true, true, true, true, true, true, true, true, true, true, true, true, true, false, false] rfl rfl (by kernel_rfl) (fun _ _ _ h => h) (Or.inl ⟨by rfl, ?_⟩) ?_ ?_
    rotate_left
    · intro w'
      go_simp
      with_reducible rfl
    rotate_left
    · simp only [Act.put, List.setIfInBounds_toArray, List.set_cons_zero, List.set_cons_succ]
      rfl
    refine pure_ (i := 22) (N := some 75) (v := ?_) (a' := ?_) #[true, true, true, true, true, true, true, true, true, true, true, true, true, true, true, true, true, true, true, true, true, true, true, false] rfl rfl (by kernel_rfl) (fun _ _ _ h => h) (Or.inl ⟨by rfl, ?_⟩) ?_ ?_
    rotate_left
    · intro w'
      go_simp
      with_reducible rfl
    rotate_left
    · simp only [Act.put, List.setIfInBounds_toArray, List.set_cons_zero, List.set_cons_succ]
      rfl
    have s1_ : (w4.drew.setCell ⟨g, 2, none⟩ (.bool true)).cell? ⟨g, 1, none⟩ = some (.slice A1 B.length c1) := (blk_cell HD2.out.1 1).trans rfl
    have f1_ := blk_frozen HD2.out.1 1
    have t1_ : w4.cell? ⟨g, 1, none⟩ = some (.slice A1 B.length c1) := (blk_cell HT4.out.1 1).trans rfl
    have u1_ := blk_frozen HT4.out.1 1
    refine last_store (i := 23) (w1 := ((w4.drew.setCell ⟨g, 2, none⟩ (.bool true)).setCell ⟨g, 1, none⟩ (.slice A' (B.length - 24) (B.length - 24)))) #[true, true, true, true, true, true, true, true, true, true, true, true, true, true, true, true, true, true, true, true, true, true, true, true] rfl rfl (by kernel_rfl) (by decide) (by rfl) (by first | (go_simp; done) | (go_simp; rfl)) ?_
    clear s1_ f1_ t1_ u1_
    have HC_ := Aside0.mk (HD2.out.cut 24 (by omega) hA')
    refine done_ (by kernel_rfl) ?_
    go_wp2_with fail
    go_returns
    have HM_ : Mt w g v ((w4.drew.setCell ⟨g, 2, none⟩ (.bool true)).setCell ⟨g, 1, none⟩ (.slice A' (B.length - 24) (B.length - 24))) (.slice A' (B.length - 24) (B.length - 24)) := ⟨(HKD.out.set (.inl (.inl rfl)) 2 _).set (.inl (.inl rfl)) 1 _, fun k hk => by rw [HC_.out.2] at hk; rcases HA.out with e | ⟨b, e, hb⟩; exact .inl (by rw [← e]; exact hk); (rw [e] at hk; cases hk; exact .inr hb)⟩
    first | exact ⟨⟨_, rfl⟩, _, HC_.out.1, HM_⟩ | exact ⟨_, rfl, _, HC_.out.1, HM_⟩
  
set_option maxHeartbeats 8000000 in
set_option maxRecDepth 100000 in
theorem intake_Feed.freshE (eq : Bool) (B : List Int) (h : IsT w g most v l false 0) (hr3 : Kd.C (Kd.int .u8) w A3 l3.length l3) (hc3 : l3.length ≤ c3) (hl : l.length + l3.length ≤ 140737488355328) (hB : l ++ l3 = B) (hn : B.length = 24) (heq : bytes_Equal.f (B.take B.length) (PRE.take B.length) = some eq) : Calls Try.prog 68 #[.pointer (some ⟨g, 0, none⟩), .slice A3 l3.length c3] w fun e w' => ∃ v0, e = .returned v0 ∧ ∃ v', IsT w' g most v' (if eq = false then [] else []) (eq && true) (if eq = false then 3 else 0) ∧ Mt w g v w' v' := by
  have hcell : w.cell? ⟨g, 1, none⟩ = some v := (blk_cell h.1 1).trans rfl
  have hov : w.cell? ⟨g, 3, none⟩ = some (.int .i64 0) := (blk_cell h.1 3).trans rfl
  have HI := Aside0.mk h
  have HC := Aside0.mk hr3
  have HE := Aside0.mk heq
  have hm : ((24 : Int) < (B.length : Int)) = False := eq_false (by omega)
  have hlP : ((B.length : Int) ≤ 24) = True := eq_true (by omega)
  have hb24 : ((B.length : Int) == 24) = true := by rw [hn]; rfl
  have hn2 : B.length ≤ 24 := by omega
  clear hn
  clear h hr3 heq
  go_enter Try.func68, Try.ntmps68
  go_wp2_with (first | (at_builtin; go_loud (refine Gr.append (Value.int .u8) 0 (h1 := u8one) rfl (.tmp 18) (.tmp 19) 22 5 (.int .u8 0) 1 rfl Try.underlying22 info5 rfl (by decide) v l l3 _ _ _ rfl rfl HI.out.2.1 HC.out (by omega) ?_; intro v1 w2 hG hgr hat; have HT_ := HI.out.turn hG hgr hat; have hb2 := blk_grown HI.out.1 hgr (fun e => HI.out.2.2 e.symm); have hcell2 : w2.cell? ⟨g, 1, none⟩ = some v := (blk_cell hb2 1).trans rfl; have hfr2 := blk_frozen hb2 1; have hbg : (w2.setCell ⟨g, 1, none⟩ v1).cell? ⟨g, 2, none⟩ = some (.bool false) := (blk_cell HT_.1.1 2).trans rfl; have hl1 : (w2.setCell ⟨g, 1, none⟩ v1).cell? ⟨g, 1, none⟩ = some v1 := (blk_cell HT_.1.1 1).trans rfl; rw [hB] at HT_ hG; have HT := Aside0.mk HT_; have HA := Aside0.mk hat; obtain ⟨A1, c1, ev1, hc1, hC1⟩ := hG.reads 0; subst ev1; clear hcell hov hgr hb2 hG HT_ hat hC1)))
  clear hbg hl1 hcell2 hfr2
  obtain ⟨W, hW⟩ : ∃ W_, W_ = w2.setCell ⟨g, 1, none⟩ (.slice A1 B.length c1) := ⟨_, rfl⟩
  rw [← hW] at HT ⊢
  clear hW
  have hc1T : ((B.length : Int) ≤ (c1 : Int)) = True := eq_true (by omega)
  obtain ⟨_, _, e1_, _, hC1⟩ := HT.out.1.reads
  obtain ⟨rfl, rfl⟩ : A1 = _ ∧ c1 = _ := by injection e1_ with h1 _ h3; exact ⟨h1, h3⟩
  clear e1_
  have HC1 := Aside0.mk hC1
  clear hC1
  refine start_ (n := 12) (S := fun w' => Below W.heap.size W w') (ds := []) #[false, false, false, false, false, false, false, false, false, false, false, false] (by kernel_rfl) rfl rfl (below_drew1 (Below.refl _ _)) (fun hHeld => ?_)
  refine pure_ (i := 0) (N := some 34) (v := ?_) (a' := ?_) #[true, false, false, false, false, false, false, false, false, false, false, false] rfl rfl (by kernel_rfl) (fun _ _ _ h => h) (Or.inl ⟨by rfl, ?_⟩) ?_ ?_
  rotate_left
  · intro w'
    go_simp
    with_reducible rfl
  rotate_left
  · simp only [Act.put, List.setIfInBounds_toArray, List.set_cons_zero, List.set_cons_succ]
    rfl
  refine pure_ (i := 1) (N := some 35) (v := ?_) (a' := ?_) #[true, true, false, false, false, false, false, false, false, false, false, false] rfl rfl (by kernel_rfl) (fun _ _ _ h => h) (Or.inl ⟨by rfl, ?_⟩) ?_ ?_
  rotate_left
  · intro w'
    go_simp
    with_reducible rfl
  rotate_left
  · simp only [Act.put, List.setIfInBounds_toArray, List.set_cons_zero, List.set_cons_succ]
    rfl
  refine pure_ (i := 2) (N := some 36) (v := ?_) (a' := ?_) #[true, true, true, false, false, false, false, false, false, false, false, false] rfl rfl (by kernel_rfl) (fun _ _ _ h => h) (Or.inl ⟨by rfl, ?_⟩) ?_ ?_
  rotate_left
  · intro w'
    go_simp
    with_reducible rfl
  rotate_left
  · simp only [Act.put, List.setIfInBounds_toArray, List.set_cons_zero, List.set_cons_succ]
    rfl
  refine take_ (i := 3) (N := some 37) (v := ?_) (a' := ?_) #[true, true, true, true, false, false, false, false, false, false, false, false] rfl rfl (by kernel_rfl) (fun _ _ _ h => h) (Or.inl ⟨by rfl, ?_⟩) hHeld ?_ ?_
  rotate_left
  · intro w' hS_
    have q0_ : w'.cell? ⟨g, 0, none⟩ = some (.int .i64 most) := (blk_cell (blk_below HT.out.1.1 hS_) 0).trans rfl
    have q1_ : w'.cell? ⟨g, 1, none⟩ = some (.slice A1 B.length c1) := (blk_cell (blk_below HT.out.1.1 hS_) 1).trans rfl
    have q2_ : w'.cell? ⟨g, 2, none⟩ = some (.bool false) := (blk_cell (blk_below HT.out.1.1 hS_) 2).trans rfl
    have q3_ : w'.cell? ⟨g, 3, none⟩ = some (.int .i64 0) := (blk_cell (blk_below HT.out.1.1 hS_) 3).trans rfl
    go_simp
    with_reducible rfl
  rotate_left
  · simp only [Act.put, List.setIfInBounds_toArray, List.set_cons_zero, List.set_cons_succ]
    rfl
  refine pure_ (i := 4) (N := some 38) (v := ?_) (a' := ?_) #[true, true, true, true, true, false, false, false, false, false, false, false] rfl rfl (by kernel_rfl) (fun _ _ _ h => h) (Or.inl ⟨by rfl, ?_⟩) ?_ ?_
  rotate_left
  · intro w'
    go_simp
    with_reducible rfl
  rotate_left
  · simp only [Act.put, List.setIfInBounds_toArray, List.set_cons_zero, List.set_cons_succ]
    rfl
  refine pure_ (i := 5) (N := some 39) (v := ?_) (a' := ?_) #[true, true, true, true, true, true, false, false, false, false, false, false] rfl rfl (by kernel_rfl) (fun _ _ _ h => h) (Or.inl ⟨by rfl, ?_⟩) ?_ ?_
  rotate_left
  · intro w'
    go_simp
    with_reducible rfl
  rotate_left
  · simp only [Act.put, List.setIfInBounds_toArray, List.set_cons_zero, List.set_cons_succ]
    rfl
  refine pure_ (i := 7) (N := some 41) (v := ?_) (a' := ?_) #[true, true, true, true, true, true, false, true, false, false, false, false] rfl rfl (by kernel_rfl) (fun _ _ _ h => h) (Or.inl ⟨by rfl, ?_⟩) ?_ ?_
  rotate_left
  · intro w'
    go_simp
    with_reducible rfl
  rotate_left
  · simp only [Act.put, List.setIfInBounds_toArray, List.set_cons_zero, List.set_cons_succ]
    rfl
  refine one_ (i := 6) (N := some 40) #[true, true, true, true, true, true, true, true, false, false, false, false] rfl rfl (by kernel_rfl) (by decide) (fun K_ hK_ => ?_)
  have HH_ := Aside0.mk hHeld
  clear hHeld
  refine goes_ Try.func77 (by kernel_rfl) rfl #[] (by rfl) rfl rfl (by (try simp only [List.map_toArray, List.map_cons, List.map_nil]); first | done | rfl | (simp only [List.length_drop, List.length_take]; rfl)) ?_
  refine (intake_Preface.is _).mono ?_
  rintro e_ w3 ⟨gp, rfl, hC_, hbe_⟩
  refine ⟨_, rfl, ?_⟩
  have HP := Aside0.mk hC_
  clear hC_
  have hgpT : True := trivial
  have hbn_ := below_step HH_.out hbe_
  clear HH_ hbe_
  refine hK_.out _ _ (hbn_) (fun hHeld => ?_)
  clear hK_
  refine norm_ (a' := ?_) ?_ ?_
  rotate_left
  · simp only [Act.put, List.setIfInBounds_toArray, List.set_cons_zero, List.set_cons_succ]
    rfl
  refine pure_ (i := 8) (N := some 42) (v := ?_) (a' := ?_) #[true, true, true, true, true, true, true, true, true, false, false, false] rfl rfl (by kernel_rfl) (fun _ _ _ h => h) (Or.inl ⟨by rfl, ?_⟩) ?_ ?_
  rotate_left
  · intro w'
    go_simp
    with_reducible rfl
  rotate_left
  · simp only [Act.put, List.setIfInBounds_toArray, List.set_cons_zero, List.set_cons_succ]
    rfl
  refine one_ (i := 9) (N := some 43) #[true, true, true, true, true, true, true, true, true, true, false, false] rfl rfl (by kernel_rfl) (by decide) (fun K_ hK_ => ?_)
  have HH_ := Aside0.mk hHeld
  clear hHeld
  have hE_ := bytes_Equal.calls A1 c1 (B.take B.length) (some ⟨gp, 0, none⟩) 24 (PRE.take B.length) eq w3 (Kd.C_take (Kd.C_below HC1.out HH_.out) (by omega)) (by rw [List.length_take]; omega) (Kd.C_take HP.out (by show _ ≤ 24; omega)) (by rw [List.length_take]; omega) HE.out
  rw [List.length_take, List.length_take, Nat.min_eq_left (show B.length ≤ B.length by omega), Nat.min_eq_left (show B.length ≤ PRE.length by show _ ≤ 24; omega)] at hE_
  refine goes_ Try.func95 (by kernel_rfl) rfl #[.slice A1 B.length c1, .slice (some ⟨gp, 0, none⟩) B.length 24] (by rfl) rfl rfl (by (try simp only [List.map_toArray, List.map_cons, List.map_nil]); first | done | rfl | (simp only [List.length_drop, List.length_take]; rfl)) ?_
  refine (hE_).mono ?_
  rintro e_ w4 ⟨rfl, hdr_⟩
  refine ⟨_, rfl, ?_⟩
  have hbe_ := hdr_.below
  clear hdr_ hE_
  have hbn_ := below_step HH_.out hbe_
  clear HH_ hbe_
  refine hK_.out _ _ (hbn_) (fun hHeld => ?_)
  clear hK_
  refine norm_ (a' := ?_) ?_ ?_
  rotate_left
  · simp only [Act.put, List.setIfInBounds_toArray, List.set_cons_zero, List.set_cons_succ]
    rfl
  refine pure_ (i := 10) (N := some 44) (v := ?_) (a' := ?_) #[true, true, true, true, true, true, true, true, true, true, true, false] rfl rfl (by kernel_rfl) (fun _ _ _ h => h) (Or.inl ⟨by rfl, ?_⟩) ?_ ?_
  rotate_left
  · intro w'
    go_simp
    with_reducible rfl
  rotate_left
  · simp only [Act.put, List.setIfInBounds_toArray, List.set_cons_zero, List.set_cons_succ]
    rfl
  refine pure_ (i := 11) (N := some 33) (v := ?_) (a' := ?_) #[true, true, true, true, true, true, true, true, true, true, true, true] rfl rfl (by kernel_rfl) (fun _ _ _ h => h) (Or.inl ⟨by rfl, ?_⟩) ?_ ?_
  rotate_left
  · intro w'
    go_simp
    with_reducible rfl
  rotate_left
  · simp only [Act.put, List.setIfInBounds_toArray, List.set_cons_zero, List.set_cons_succ]
    rfl
  refine done_ (by kernel_rfl) ?_
  have HB4 := Aside0.mk hHeld
  have HT4 := Aside0.mk (HT.out.1.below HB4.out)
  have HK4 := Aside0.mk (HT.out.2.below HB4.out)
  clear hHeld
  have q1_ : w4.cell? ⟨g, 1, none⟩ = some (.slice A1 B.length c1) := (blk_cell HT4.out.1 1).trans rfl
  have q2_ : w4.cell? ⟨g, 2, none⟩ = some (.bool false) := (blk_cell HT4.out.1 2).trans rfl
  have q3_ : w4.cell? ⟨g, 3, none⟩ = some (.int .i64 0) := (blk_cell HT4.out.1 3).trans rfl
  cases eq with
  | false =>
    have hf3_ := blk_frozen HT4.out.1 3
    have HT5 := Aside0.mk (HT4.out.set3 3)
    have r1_ : (w4.setCell ⟨g, 3, none⟩ (.int .i64 3)).cell? ⟨g, 1, none⟩ = some (.slice A1 B.length c1) := (blk_cell HT5.out.1 1).trans rfl
    have hf1_ := blk_frozen HT5.out.1 1
    go_wp2_with fail
    go_returns
    first | exact ⟨⟨_, rfl⟩, _, HT5.out.wipe, (HK4.out.set (.inl (.inl rfl)) 3 _).set (.inl (.inl rfl)) 1 _, fun k hk => by simp [Value.ownBlock] at hk⟩ | exact ⟨_, rfl, _, HT5.out.wipe, (HK4.out.set (.inl (.inl rfl)) 3 _).set (.inl (.inl rfl)) 1 _, fun k hk => by simp [Value.ownBlock] at hk⟩ | exact ⟨_, HT5.out.wipe, (HK4.out.set (.inl (.inl rfl)) 3 _).set (.inl (.inl rfl)) 1 _, fun k hk => by simp [Value.ownBlock] at hk⟩
  | true =>
    go_wp2_with fail
    clear q1_ q2_ q3_
    refine start_ (n := 24) (S := fun w' => Below w4.heap.size w4 w') (ds := [20, 23]) #[false, false, false, false, false, false, false, false, false, false, false, false, false, false, false, false, false, false, false, false, false, false, false, false] (by kernel_rfl) rfl rfl (below_drew1 (Below.refl _ _)) (fun hHeld => ?_)
    refine pure_ (i := 0) (N := some 54) (v := ?_) (a' := ?_) #[true, false, false, false, false, false, false, false, false, false, false, false, false, false, false, false, false, false, false, false, false, false, false, false] rfl rfl (by kernel_rfl) (fun _ _ _ h => h) (Or.inl ⟨by rfl, ?_⟩) ?_ ?_
    rotate_left
    · intro w'
      go_simp
      with_reducible rfl
    rotate_left
    · simp only [Act.put, List.setIfInBounds_toArray, List.set_cons_zero, List.set_cons_succ]
      rfl
    refine pure_ (i := 1) (N := some 55) (v := ?_) (a' := ?_) #[true, true, false, false, false, false, false, false, false, false, false, false, false, false, false, false, false, false, false, false, false, false, false, false] rfl rfl (by kernel_rfl) (fun _ _ _ h => h) (Or.inl ⟨by rfl, ?_⟩) ?_ ?_
    rotate_left
    · intro w'
      go_simp
      with_reducible rfl
    rotate_left
    · simp only [Act.put, List.setIfInBounds_toArray, List.set_cons_zero, List.set_cons_succ]
      rfl
    refine pure_ (i := 2) (N := some 56) (v := ?_) (a' := ?_) #[true, true, true, false, false, false, false, false, false, false, false, false, false, false, false, false, false, false, false, false, false, false, false, false] rfl rfl (by kernel_rfl) (fun _ _ _ h => h) (Or.inl ⟨by rfl, ?_⟩) ?_ ?_
    rotate_left
    · intro w'
      go_simp
      with_reducible rfl
    rotate_left
    · simp only [Act.put, List.setIfInBounds_toArray, List.set_cons_zero, List.set_cons_succ]
      rfl
    refine pure_ (i := 3) (N := some 57) (v := ?_) (a' := ?_) #[true, true, true, true, false, false, false, false, false, false, false, false, false, false, false, false, false, false, false, false, false, false, false, false] rfl rfl (by kernel_rfl) (fun _ _ _ h => h) (Or.inl ⟨by rfl, ?_⟩) ?_ ?_
    rotate_left
    · intro w'
      go_simp
      with_reducible rfl
    rotate_left
    · simp only [Act.put, List.setIfInBounds_toArray, List.set_cons_zero, List.set_cons_succ]
      rfl
    refine pure_ (i := 4) (N := some 58) (v := ?_) (a' := ?_) #[true, true, true, true, true, false, false, false, false, false, false, false, false, false, false, false, false, false, false, false, false, false, false, false] rfl rfl (by kernel_rfl) (fun _ _ _ h => h) (Or.inl ⟨by rfl, ?_⟩) ?_ ?_
    rotate_left
    · intro w'
      go_simp
      with_reducible rfl
    rotate_left
    · simp only [Act.put, List.setIfInBounds_toArray, List.set_cons_zero, List.set_cons_succ]
      rfl
    refine take_ (i := 5) (N := some 59) (v := ?_) (a' := ?_) #[true, true, true, true, true, true, false, false, false, false, false, false, false, false, false, false, false, false, false, false, false, false, false, false] rfl rfl (by kernel_rfl) (fun _ _ _ h => h) (Or.inl ⟨by rfl, ?_⟩) hHeld ?_ ?_
    rotate_left
    · intro w' hS_
      have q0_ : w'.cell? ⟨g, 0, none⟩ = some (.int .i64 most) := (blk_cell (blk_below HT4.out.1 hS_) 0).trans rfl
      have q1_ : w'.cell? ⟨g, 1, none⟩ = some (.slice A1 B.length c1) := (blk_cell (blk_below HT4.out.1 hS_) 1).trans rfl
      have q2_ : w'.cell? ⟨g, 2, none⟩ = some (.bool false) := (blk_cell (blk_below HT4.out.1 hS_) 2).trans rfl
      have q3_ : w'.cell? ⟨g, 3, none⟩ = some (.int .i64 0) := (blk_cell (blk_below HT4.out.1 hS_) 3).trans rfl
      go_simp
      with_reducible rfl
    rotate_left
    · simp only [Act.put, List.setIfInBounds_toArray, List.set_cons_zero, List.set_cons_succ]
      rfl
    refine pure_ (i := 6) (N := some 60) (v := ?_) (a' := ?_) #[true, true, true, true, true, true, true, false, false, false, false, false, false, false, false, false, false, false, false, false, false, false, false, false] rfl rfl (by kernel_rfl) (fun _ _ _ h => h) (Or.inl ⟨by rfl, ?_⟩) ?_ ?_
    rotate_left
    · intro w'
      go_simp
      with_reducible rfl
    rotate_left
    · simp only [Act.put, List.setIfInBounds_toArray, List.set_cons_zero, List.set_cons_succ]
      rfl
    refine pure_ (i := 7) (N := some 61) (v := ?_) (a' := ?_) #[true, true, true, true, true, true, true, true, false, false, false, false, false, false, false, false, false, false, false, false, false, false, false, false] rfl rfl (by kernel_rfl) (fun _ _ _ h => h) (Or.inl ⟨by rfl, ?_⟩) ?_ ?_
    rotate_left
    · intro w'
      go_simp
      with_reducible rfl
    rotate_left
    · simp only [Act.put, List.setIfInBounds_toArray, List.set_cons_zero, List.set_cons_succ]
      rfl
    refine pure_ (i := 8) (N := some 62) (v := ?_) (a' := ?_) #[true, true, true, true, true, true, true, true, true, false, false, false, false, false, false, false, false, false, false, false, false, false, false, false] rfl rfl (by kernel_rfl) (fun _ _ _ h => h) (Or.inl ⟨by rfl, ?_⟩) ?_ ?_
    rotate_left
    · intro w'
      go_simp
      with_reducible rfl
    rotate_left
    · simp only [Act.put, List.setIfInBounds_toArray, List.set_cons_zero, List.set_cons_succ]
      rfl
    refine pure_ (i := 9) (N := some 63) (v := ?_) (a' := ?_) #[true, true, true, true, true, true, true, true, true, true, false, false, false, false, false, false, false, false, false, false, false, false, false, false] rfl rfl (by kernel_rfl) (fun _ _ _ h => h) (Or.inl ⟨by rfl, ?_⟩) ?_ ?_
    rotate_left
    · intro w'
      go_simp
      with_reducible rfl
    rotate_left
    · simp only [Act.put, List.setIfInBounds_toArray, List.set_cons_zero, List.set_cons_succ]
      rfl
    refine take_ (i := 10) (N := some 64) (v := ?_) (a' := ?_) #[true, true, true, true, true, true, true, true, true, true, true, false, false, false, false, false, false, false, false, false, false, false, false, false] rfl rfl (by kernel_rfl) (fun _ _ _ h => h) (Or.inl ⟨by rfl, ?_⟩) hHeld ?_ ?_
    rotate_left
    · intro w' hS_
      have q0_ : w'.cell? ⟨g, 0, none⟩ = some (.int .i64 most) := (blk_cell (blk_below HT4.out.1 hS_) 0).trans rfl
      have q1_ : w'.cell? ⟨g, 1, none⟩ = some (.slice A1 B.length c1) := (blk_cell (blk_below HT4.out.1 hS_) 1).trans rfl
      have q2_ : w'.cell? ⟨g, 2, none⟩ = some (.bool false) := (blk_cell (blk_below HT4.out.1 hS_) 2).trans rfl
      have q3_ : w'.cell? ⟨g, 3, none⟩ = some (.int .i64 0) := (blk_cell (blk_below HT4.out.1 hS_) 3).trans rfl
      go_simp
      with_reducible rfl
    rotate_left
    · simp only [Act.put, List.setIfInBounds_toArray, List.set_cons_zero, List.set_cons_succ]
      rfl
    refine pure_ (i := 11) (N := some 65) (v := ?_) (a' := ?_) #[true, true, true, true, true, true, true, true, true, true, true, true, false, false, false, false, false, false, false, false, false, false, false, false] rfl rfl (by kernel_rfl) (fun _ _ _ h => h) (Or.inl ⟨by rfl, ?_⟩) ?_ ?_
    rotate_left
    · intro w'
      go_simp
      with_reducible rfl
    rotate_left
    · simp only [Act.put, List.setIfInBounds_toArray, List.set_cons_zero, List.set_cons_succ]
      rfl
    refine pure_ (i := 12) (N := some 66) (v := ?_) (a' := ?_) #[true, true, true, true, true, true, true, true, true, true, true, true, true, false, false, false, false, false, false, false, false, false, false, false] rfl rfl (by kernel_rfl) (fun _ _ _ h => h) (Or.inl ⟨by rfl, ?_⟩) ?_ ?_
    rotate_left
    · intro w'
      go_simp
      with_reducible rfl
    rotate_left
    · simp only [Act.put, List.setIfInBounds_toArray, List.set_cons_zero, List.set_cons_succ]
      rfl
    refine pure_ (i := 13) (N := some 67) (v := ?_) (a' := ?_) #[true, true, true, true, true, true, true, true, true, true, true, true, true, true, false, false, false, false, false, false, false, false, false, false] rfl rfl (by kernel_rfl) (fun _ _ _ h => h) (Or.inl ⟨by rfl, ?_⟩) ?_ ?_
    rotate_left
    · intro w'
      go_simp
      with_reducible rfl
    rotate_left
    · simp only [Act.put, List.setIfInBounds_toArray, List.set_cons_zero, List.set_cons_succ]
      rfl
    refine pure_ (i := 14) (N := some 68) (v := ?_) (a' := ?_) #[true, true, true, true, true, true, true, true, true, true, true, true, true, true, true, false, false, false, false, false, false, false, false, false] rfl rfl (by kernel_rfl) (fun _ _ _ h => h) (Or.inl ⟨by rfl, ?_⟩) ?_ ?_
    rotate_left
    · intro w'
      go_simp
      with_reducible rfl
    rotate_left
    · simp only [Act.put, List.setIfInBounds_toArray, List.set_cons_zero, List.set_cons_succ]
      rfl
    refine take_ (i := 15) (N := some 69) (v := ?_) (a' := ?_) #[true, true, true, true, true, true, true, true, true, true, true, true, true, true, true, true, false, false, false, false, false, false, false, false] rfl rfl (by kernel_rfl) (fun _ _ _ h => h) (Or.inl ⟨by rfl, ?_⟩) hHeld ?_ ?_
    rotate_left
    · intro w' hS_
      have q0_ : w'.cell? ⟨g, 0, none⟩ = some (.int .i64 most) := (blk_cell (blk_below HT4.out.1 hS_) 0).trans rfl
      have q1_ : w'.cell? ⟨g, 1, none⟩ = some (.slice A1 B.length c1) := (blk_cell (blk_below HT4.out.1 hS_) 1).trans rfl
      have q2_ : w'.cell? ⟨g, 2, none⟩ = some (.bool false) := (blk_cell (blk_below HT4.out.1 hS_) 2).trans rfl
      have q3_ : w'.cell? ⟨g, 3, none⟩ = some (.int .i64 0) := (blk_cell (blk_below HT4.out.1 hS_) 3).trans rfl
      go_simp
      with_reducible rfl
    rotate_left
    · simp only [Act.put, List.setIfInBounds_toArray, List.set_cons_zero, List.set_cons_succ]
      rfl
    refine pure_ (i := 16) (N := some 70) (v := ?_) (a' := ?_) #[true, true, true, true, true, true, true, true, true, true, true, true, true, true, true, true, true, false, false, false, false, false, false, false] rfl rfl (by kernel_rfl) (fun _ _ _ h => h) (Or.inl ⟨by rfl, ?_⟩) ?_ ?_
    rotate_left
    · intro w'
      go_simp
      with_reducible rfl
    rotate_left
    · simp only [Act.put, List.setIfInBounds_toArray, List.set_cons_zero, List.set_cons_succ]
      rfl
    refine pure_ (i := 17) (N := some 71) (v := ?_) (a' := ?_) #[true, true, true, true, true, true, true, true, true, true, true, true, true, true, true, true, true, true, false, false, false, false, false, false] rfl rfl (by kernel_rfl) (fun _ _ _ h => h) (Or.inl ⟨by rfl, ?_⟩) ?_ ?_
    rotate_left
    · intro w'
      skip
      go_simp
      skip
      with_reducible rfl
    rotate_left
    · simp only [Act.put, List.setIfInBounds_toArray, List.set_cons_zero, List.set_cons_succ]
      rfl
    refine pure_ (i := 18) (N := some 72) (v := ?_) (a' := ?_) #[true, true, true, true, true, true, true, true, true, true, true, true, true, true, true, true, true, true, true, false, false, false, false, false] rfl rfl (by kernel_rfl) (fun _ _ _ h => h) (Or.inl ⟨by rfl, ?_⟩) ?_ ?_
    rotate_left
    · intro w'
      go_simp
      with_reducible rfl
    rotate_left
    · simp only [Act.put, List.setIfInBounds_toArray, List.set_cons_zero, List.set_cons_succ]
      rfl
    refine pure_ (i := 19) (N := some 73) (v := ?_) (a' := ?_) #[true, true, true, true, true, true, true, true, true, true, true, true, true, true, true, true, true, true, true, true, false, false, false, false] rfl rfl (by kernel_rfl) (fun _ _ _ h => h) (Or.inl ⟨by rfl, ?_⟩) ?_ ?_
    rotate_left
    · intro w'
      go_simp
      with_reducible rfl
    rotate_left
    · simp only [Act.put, List.setIfInBounds_toArray, List.set_cons_zero, List.set_cons_succ]
      rfl
    have HD := Aside0.mk (HT4.out.below hHeld)
    have HKD := Aside0.mk (HK4.out.below hHeld)
    clear hHeld
    have s2_ : w4.drew.cell? ⟨g, 2, none⟩ = some (.bool false) := (blk_cell HD.out.1 2).trans rfl
    have f2_ := blk_frozen HD.out.1 2
    refine last_store (i := 20) (w1 := (w4.drew.setCell ⟨g, 2, none⟩ (.bool true))) #[true, true, true, true, true, true, true, true, true, true, true, true, true, true, true, true, true, true, true, true, true, false, false, false] rfl rfl (by kernel_rfl) (by decide) (by rfl) (by first | (go_simp; done) | (go_simp; rfl)) ?_
    clear s2_ f2_
    have HD2 := Aside0.mk (HD.out.set2 true)
    refine pure_ (i := 21) (N := some 74) (v := ?_) (a' := ?_) #[true, true, true, true, true, true, true, true, true, true, true, true, true, true, true, true, true, true, true, true, true, true, false, false] rfl rfl (by kernel_rfl) (fun _ _ _ h => h) (Or.inl ⟨by rfl, ?_⟩) ?_ ?_
    rotate_left
    · intro w'
      go_simp
      with_reducible rfl
    rotate_left
    · simp only [Act.put, List.setIfInBounds_toArray, List.set_cons_zero, List.set_cons_succ]
      rfl
    refine pure_ (i := 22) (N := some 75) (v := ?_) (a' := ?_) #[true, true, true, true, true, true, true, true, true, true, true, true, true, true, true, true, true, true, true, true, true, true, true, false] rfl rfl (by kernel_rfl) (fun _ _ _ h => h) (Or.inl ⟨by rfl, ?_⟩) ?_ ?_
    rotate_left
    · intro w'
      go_simp
      with_reducible rfl
    rotate_left
    · simp only [Act.put, List.setIfInBounds_toArray, List.set_cons_zero, List.set_cons_succ]
      rfl
    have s1_ : (w4.drew.setCell ⟨g, 2, none⟩ (.bool true)).cell? ⟨g, 1, none⟩ = some (.slice A1 B.length c1) := (blk_cell HD2.out.1 1).trans rfl
    have f1_ := blk_frozen HD2.out.1 1
    have t1_ : w4.cell? ⟨g, 1, none⟩ = some (.slice A1 B.length c1) := (blk_cell HT4.out.1 1).trans rfl
    have u1_ := blk_frozen HT4.out.1 1
    refine last_store (i := 23) (w1 := ((w4.drew.setCell ⟨g, 2, none⟩ (.bool true)).setCell ⟨g, 1, none⟩ (.slice A1 0 0))) #[true, true, true, true, true, true, true, true, true, true, true, true, true, true, true, true, true, true, true, true, true, true, true, true] rfl rfl (by kernel_rfl) (by decide) (by rfl) (by first | (go_simp; done) | (go_simp; rfl)) ?_
    clear s1_ f1_ t1_ u1_
    have hc_ := HD2.out.cut B.length (Nat.le_refl _) (if_pos rfl)
    rw [Nat.sub_self, List.drop_length] at hc_
    have HC_ := Aside0.mk hc_
    refine done_ (by kernel_rfl) ?_
    go_wp2_with fail
    go_returns
    have HM_ : Mt w g v ((w4.drew.setCell ⟨g, 2, none⟩ (.bool true)).setCell ⟨g, 1, none⟩ (.slice A1 0 0)) (.slice A1 0 0) := ⟨(HKD.out.set (.inl (.inl rfl)) 2 _).set (.inl (.inl rfl)) 1 _, fun k hk => by rw [HC_.out.2] at hk; rcases HA.out with e | ⟨b, e, hb⟩; exact .inl (by rw [← e]; exact hk); (rw [e] at hk; cases hk; exact .inr hb)⟩
    first | exact ⟨⟨_, rfl⟩, _, HC_.out.1, HM_⟩ | exact ⟨_, rfl, _, HC_.out.1, HM_⟩
  
set_option maxHeartbeats 8000000 in
set_option maxRecDepth 100000 in
theorem intake_Feed.freshL (eq : Bool) (B : List Int) (h : IsT w g most v l false 0) (hr3 : Kd.C (Kd.int .u8) w A3 l3.length l3) (hc3 : l3.length ≤ c3) (hl : l.length + l3.length ≤ 140737488355328) (hB : l ++ l3 = B) (hn : B.length < 24) (heq : bytes_Equal.f (B.take B.length) (PRE.take B.length) = some eq) : Calls Try.prog 68 #[.pointer (some ⟨g, 0, none⟩), .slice A3 l3.length c3] w fun e w' => ∃ v0, e = .returned v0 ∧ ∃ v', IsT w' g most v' (if eq = false then [] else B) (eq && false) (if eq = false then 3 else 0) ∧ Mt w g v w' v' := by
  have hcell : w.cell? ⟨g, 1, none⟩ = some v := (blk_cell h.1 1).trans rfl
  have hov : w.cell? ⟨g, 3, none⟩ = some (.int .i64 0) := (blk_cell h.1 3).trans rfl
  have HI := Aside0.mk h
  have HC := Aside0.mk hr3
  have HE := Aside0.mk heq
  have hm : ((24 : Int) < (B.length : Int)) = False := eq_false (by omega)
  have hlP : ((B.length : Int) ≤ 24) = True := eq_true (by omega)
  have hb24 : ((B.length : Int) == 24) = false := beq_eq_false_iff_ne.2 (by omega)
  clear h hr3 heq
  go_enter Try.func68, Try.ntmps68
  go_wp2_with (first | (at_builtin; go_loud (refine Gr.append (Value.int .u8) 0 (h1 := u8one) rfl (.tmp 18) (.tmp 19) 22 5 (.int .u8 0) 1 rfl Try.underlying22 info5 rfl (by decide) v l l3 _ _ _ rfl rfl HI.out.2.1 HC.out (by omega) ?_; intro v1 w2 hG hgr hat; have HT_ := HI.out.turn hG hgr hat; have hb2 := blk_grown HI.out.1 hgr (fun e => HI.out.2.2 e.symm); have hcell2 : w2.cell? ⟨g, 1, none⟩ = some v := (blk_cell hb2 1).trans rfl; have hfr2 := blk_frozen hb2 1; have hbg : (w2.setCell ⟨g, 1, none⟩ v1).cell? ⟨g, 2, none⟩ = some (.bool false) := (blk_cell HT_.1.1 2).trans rfl; have hl1 : (w2.setCell ⟨g, 1, none⟩ v1).cell? ⟨g, 1, none⟩ = some v1 := (blk_cell HT_.1.1 1).trans rfl; rw [hB] at HT_ hG; have HT := Aside0.mk HT_; have HA := Aside0.mk hat; obtain ⟨A1, c1, ev1, hc1, hC1⟩ := hG.reads 0; subst ev1; clear hcell hov hgr hb2 hG HT_ hat hC1)))
  clear hbg hl1 hcell2 hfr2
  obtain ⟨W, hW⟩ : ∃ W_, W_ = w2.setCell ⟨g, 1, none⟩ (.slice A1 B.length c1) := ⟨_, rfl⟩
  rw [← hW] at HT ⊢
  clear hW
  have hc1T : ((B.length : Int) ≤ (c1 : Int)) = True := eq_true (by omega)
  obtain ⟨_, _, e1_, _, hC1⟩ := HT.out.1.reads
  obtain ⟨rfl, rfl⟩ : A1 = _ ∧ c1 = _ := by injection e1_ with h1 _ h3; exact ⟨h1, h3⟩
  clear e1_
  have HC1 := Aside0.mk hC1
  clear hC1
  refine start_ (n := 12) (S := fun w' => Below W.heap.size W w') (ds := []) #[false, false, false, false, false, false, false, false, false, false, false, false] (by kernel_rfl) rfl rfl (below_drew1 (Below.refl _ _)) (fun hHeld => ?_)
  refine pure_ (i := 0) (N := some 34) (v := ?_) (a' := ?_) #[true, false, false, false, false, false, false, false, false, false, false, false] rfl rfl (by kernel_rfl) (fun _ _ _ h => h) (Or.inl ⟨by rfl, ?_⟩) ?_ ?_
  rotate_left
  · intro w'
    go_simp
    with_reducible rfl
  rotate_left
  · simp only [Act.put, List.setIfInBounds_toArray, List.set_cons_zero, List.set_cons_succ]
    rfl
  refine pure_ (i := 1) (N := some 35) (v := ?_) (a' := ?_) #[true, true, false, false, false, false, false, false, false, false, false, false] rfl rfl (by kernel_rfl) (fun _ _ _ h => h) (Or.inl ⟨by rfl, ?_⟩) ?_ ?_
  rotate_left
  · intro w'
    go_simp
    with_reducible rfl
  rotate_left
  · simp only [Act.put, List.setIfInBounds_toArray, List.set_cons_zero, List.set_cons_succ]
    rfl
  refine pure_ (i := 2) (N := some 36) (v := ?_) (a' := ?_) #[true, true, true, false, false, false, false, false, false, false, false, false] rfl rfl (by kernel_rfl) (fun _ _ _ h => h) (Or.inl ⟨by rfl, ?_⟩) ?_ ?_
  rotate_left
  · intro w'
    go_simp
    with_reducible rfl
  rotate_left
  · simp only [Act.put, List.setIfInBounds_toArray, List.set_cons_zero, List.set_cons_succ]
    rfl
  refine take_ (i := 3) (N := some 37) (v := ?_) (a' := ?_) #[true, true, true, true, false, false, false, false, false, false, false, false] rfl rfl (by kernel_rfl) (fun _ _ _ h => h) (Or.inl ⟨by rfl, ?_⟩) hHeld ?_ ?_
  rotate_left
  · intro w' hS_
    have q0_ : w'.cell? ⟨g, 0, none⟩ = some (.int .i64 most) := (blk_cell (blk_below HT.out.1.1 hS_) 0).trans rfl
    have q1_ : w'.cell? ⟨g, 1, none⟩ = some (.slice A1 B.length c1) := (blk_cell (blk_below HT.out.1.1 hS_) 1).trans rfl
    have q2_ : w'.cell? ⟨g, 2, none⟩ = some (.bool false) := (blk_cell (blk_below HT.out.1.1 hS_) 2).trans rfl
    have q3_ : w'.cell? ⟨g, 3, none⟩ = some (.int .i64 0) := (blk_cell (blk_below HT.out.1.1 hS_) 3).trans rfl
    go_simp
    with_reducible rfl
  rotate_left
  · simp only [Act.put, List.setIfInBounds_toArray, List.set_cons_zero, List.set_cons_succ]
    rfl
  refine pure_ (i := 4) (N := some 38) (v := ?_) (a' := ?_) #[true, true, true, true, true, false, false, false, false, false, false, false] rfl rfl (by kernel_rfl) (fun _ _ _ h => h) (Or.inl ⟨by rfl, ?_⟩) ?_ ?_
  rotate_left
  · intro w'
    go_simp
    with_reducible rfl
  rotate_left
  · simp only [Act.put, List.setIfInBounds_toArray, List.set_cons_zero, List.set_cons_succ]
    rfl
  refine pure_ (i := 5) (N := some 39) (v := ?_) (a' := ?_) #[true, true, true, true, true, true, false, false, false, false, false, false] rfl rfl (by kernel_rfl) (fun _ _ _ h => h) (Or.inl ⟨by rfl, ?_⟩) ?_ ?_
  rotate_left
  · intro w'
    go_simp
    with_reducible rfl
  rotate_left
  · simp only [Act.put, List.setIfInBounds_toArray, List.set_cons_zero, List.set_cons_succ]
    rfl
  refine pure_ (i := 7) (N := some 41) (v := ?_) (a' := ?_) #[true, true, true, true, true, true, false, true, false, false, false, false] rfl rfl (by kernel_rfl) (fun _ _ _ h => h) (Or.inl ⟨by rfl, ?_⟩) ?_ ?_
  rotate_left
  · intro w'
    go_simp
    with_reducible rfl
  rotate_left
  · simp only [Act.put, List.setIfInBounds_toArray, List.set_cons_zero, List.set_cons_succ]
    rfl
  refine one_ (i := 6) (N := some 40) #[true, true, true, true, true, true, true, true, false, false, false, false] rfl rfl (by kernel_rfl) (by decide) (fun K_ hK_ => ?_)
  have HH_ := Aside0.mk hHeld
  clear hHeld
  refine goes_ Try.func77 (by kernel_rfl) rfl #[] (by rfl) rfl rfl (by (try simp only [List.map_toArray, List.map_cons, List.map_nil]); first | done | rfl | (simp only [List.length_drop, List.length_take]; rfl)) ?_
  refine (intake_Preface.is _).mono ?_
  rintro e_ w3 ⟨gp, rfl, hC_, hbe_⟩
  refine ⟨_, rfl, ?_⟩
  have HP := Aside0.mk hC_
  clear hC_
  have hgpT : True := trivial
  have hbn_ := below_step HH_.out hbe_
  clear HH_ hbe_
  refine hK_.out _ _ (hbn_) (fun hHeld => ?_)
  clear hK_
  refine norm_ (a' := ?_) ?_ ?_
  rotate_left
  · simp only [Act.put, List.setIfInBounds_toArray, List.set_cons_zero, List.set_cons_succ]
    rfl
  refine pure_ (i := 8) (N := some 42) (v := ?_) (a' := ?_) #[true, true, true, true, true, true, true, true, true, false, false, false] rfl rfl (by kernel_rfl) (fun _ _ _ h => h) (Or.inl ⟨by rfl, ?_⟩) ?_ ?_
  rotate_left
  · intro w'
    go_simp
    with_reducible rfl
  rotate_left
  · simp only [Act.put, List.setIfInBounds_toArray, List.set_cons_zero, List.set_cons_succ]
    rfl
  refine one_ (i := 9) (N := some 43) #[true, true, true, true, true, true, true, true, true, true, false, false] rfl rfl (by kernel_rfl) (by decide) (fun K_ hK_ => ?_)
  have HH_ := Aside0.mk hHeld
  clear hHeld
  have hE_ := bytes_Equal.calls A1 c1 (B.take B.length) (some ⟨gp, 0, none⟩) 24 (PRE.take B.length) eq w3 (Kd.C_take (Kd.C_below HC1.out HH_.out) (by omega)) (by rw [List.length_take]; omega) (Kd.C_take HP.out (by show _ ≤ 24; omega)) (by rw [List.length_take]; omega) HE.out
  rw [List.length_take, List.length_take, Nat.min_eq_left (show B.length ≤ B.length by omega), Nat.min_eq_left (show B.length ≤ PRE.length by show _ ≤ 24; omega)] at hE_
  refine goes_ Try.func95 (by kernel_rfl) rfl #[.slice A1 B.length c1, .slice (some ⟨gp, 0, none⟩) B.length 24] (by rfl) rfl rfl (by (try simp only [List.map_toArray, List.map_cons, List.map_nil]); first | done | rfl | (simp only [List.length_drop, List.length_take]; rfl)) ?_
  refine (hE_).mono ?_
  rintro e_ w4 ⟨rfl, hdr_⟩
  refine ⟨_, rfl, ?_⟩
  have hbe_ := hdr_.below
  clear hdr_ hE_
  have hbn_ := below_step HH_.out hbe_
  clear HH_ hbe_
  refine hK_.out _ _ (hbn_) (fun hHeld => ?_)
  clear hK_
  refine norm_ (a' := ?_) ?_ ?_
  rotate_left
  · simp only [Act.put, List.setIfInBounds_toArray, List.set_cons_zero, List.set_cons_succ]
    rfl
  refine pure_ (i := 10) (N := some 44) (v := ?_) (a' := ?_) #[true, true, true, true, true, true, true, true, true, true, true, false] rfl rfl (by kernel_rfl) (fun _ _ _ h => h) (Or.inl ⟨by rfl, ?_⟩) ?_ ?_
  rotate_left
  · intro w'
    go_simp
    with_reducible rfl
  rotate_left
  · simp only [Act.put, List.setIfInBounds_toArray, List.set_cons_zero, List.set_cons_succ]
    rfl
  refine pure_ (i := 11) (N := some 33) (v := ?_) (a' := ?_) #[true, true, true, true, true, true, true, true, true, true, true, true] rfl rfl (by kernel_rfl) (fun _ _ _ h => h) (Or.inl ⟨by rfl, ?_⟩) ?_ ?_
  rotate_left
  · intro w'
    go_simp
    with_reducible rfl
  rotate_left
  · simp only [Act.put, List.setIfInBounds_toArray, List.set_cons_zero, List.set_cons_succ]
    rfl
  refine done_ (by kernel_rfl) ?_
  have HB4 := Aside0.mk hHeld
  have HT4 := Aside0.mk (HT.out.1.below HB4.out)
  have HK4 := Aside0.mk (HT.out.2.below HB4.out)
  clear hHeld
  have q1_ : w4.cell? ⟨g, 1, none⟩ = some (.slice A1 B.length c1) := (blk_cell HT4.out.1 1).trans rfl
  have q2_ : w4.cell? ⟨g, 2, none⟩ = some (.bool false) := (blk_cell HT4.out.1 2).trans rfl
  have q3_ : w4.cell? ⟨g, 3, none⟩ = some (.int .i64 0) := (blk_cell HT4.out.1 3).trans rfl
  cases eq with
  | false =>
    have hf3_ := blk_frozen HT4.out.1 3
    have HT5 := Aside0.mk (HT4.out.set3 3)
    have r1_ : (w4.setCell ⟨g, 3, none⟩ (.int .i64 3)).cell? ⟨g, 1, none⟩ = some (.slice A1 B.length c1) := (blk_cell HT5.out.1 1).trans rfl
    have hf1_ := blk_frozen HT5.out.1 1
    go_wp2_with fail
    go_returns
    first | exact ⟨⟨_, rfl⟩, _, HT5.out.wipe, (HK4.out.set (.inl (.inl rfl)) 3 _).set (.inl (.inl rfl)) 1 _, fun k hk => by simp [Value.ownBlock] at hk⟩ | exact ⟨_, rfl, _, HT5.out.wipe, (HK4.out.set (.inl (.inl rfl)) 3 _).set (.inl (.inl rfl)) 1 _, fun k hk => by simp [Value.ownBlock] at hk⟩ | exact ⟨_, HT5.out.wipe, (HK4.out.set (.inl (.inl rfl)) 3 _).set (.inl (.inl rfl)) 1 _, fun k hk => by simp [Value.ownBlock] at hk⟩
  | true =>
    go_wp2_with fail
    go_returns
    have HM_ : Mt w g v w4 (.slice A1 B.length c1) := ⟨HK4.out, fun k hk => by rcases HA.out with e | ⟨b, e, hb⟩; exact .inl (by rw [← e]; exact hk); (rw [e] at hk; cases hk; exact .inr hb)⟩
    refine ⟨⟨_, rfl⟩, _, HT4.out, ?_⟩
    exact HM_
  
end
end Go.Proofs.Ytbmnplojpeabmaa.It
