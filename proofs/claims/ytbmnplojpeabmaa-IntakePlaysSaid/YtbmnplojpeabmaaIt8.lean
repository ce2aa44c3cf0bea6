/-
  INTAKE: the document's wrong, Begun, Len.
  Conditions: none of its own; lemmas that the claim's row rests on.
-/
import Derived.Test.YtbmnplojpeabmaaIt6
import Derived.WalkKit
namespace Go.Proofs.Ytbmnplojpeabmaa.It
open Go.RowKit Go.Proofs.YtbmnplojpeabmaaW.PrintWords Go.Proofs.YtbmnplojpeabmaaW.PrintLast Go.Proofs.YtbmnplojpeabmaaW.PrintMore
attribute [local go_sem] max2_int min2_int max_two min_two max_three min_three max_four min_four
set_option linter.unusedVariables false
set_option linter.unusedSimpArgs false
open Go.Proofs.Ytbmnplojpeabmaa.Ob Go.Proofs.Ytbmnplojpeabmaa.QI Go.Proofs.Ytbmnplojpeabmaa.FramePure Go.Proofs.Ytbmnplojpeabmaa.WirePure Go.Proofs.Ytbmnplojpeabmaa.IntakePure
section
variable {w : World} {g : Nat} {most T O : Int} {v : Value} {B : List Int}
theorem wr_false {i : Nat} (h1 : i ≤ 24) (h2 : i ≤ B.length) (h3 : i = 24 ∨ i = B.length) (he : PRE.take i = B.take i) : wr B = false := by
  unfold wr
  have e : PRE.take B.length = B.take 24 := by
    rcases h3 with rfl | rfl
    · rw [List.take_of_length_le (l := PRE) (show 24 ≤ B.length from h2), ← he, List.take_of_length_le (l := PRE) (Nat.le_refl 24)]
    · rw [he, List.take_of_length_le (Nat.le_refl _), List.take_of_length_le h1]
  rw [decide_eq_true e]
  rfl
theorem wr_true {i : Nat} (h1 : i < 24) (h2 : i < B.length) (hne : rd PRE (i : Int) ≠ rd B (i : Int)) : wr B = true := by
  unfold wr
  rw [decide_eq_false (p := PRE.take B.length = B.take 24) (fun e => hne ?_)]
  · rfl
  · have h3 : (PRE.take B.length)[i]? = (B.take 24)[i]? := by rw [e]
    rw [List.getElem?_take_of_lt h2, List.getElem?_take_of_lt h1] at h3
    unfold rd
    simp [h3]
theorem take_next {i : Nat} (h1 : i < 24) (h2 : i < B.length) (he : PRE.take i = B.take i) (hr : rd PRE (i : Int) = rd B (i : Int)) : PRE.take (i + 1) = B.take (i + 1) := by
  have e1 : PRE[i]? = B[i]? := by
    have hp : i < PRE.length := h1
    unfold rd at hr
    rw [List.getElem?_eq_getElem hp, List.getElem?_eq_getElem h2]
    simpa [List.getElem?_eq_getElem hp, List.getElem?_eq_getElem h2] using hr
  rw [List.take_add_one, List.take_add_one, he, e1]
set_option maxHeartbeats 8000000 in
set_option maxRecDepth 100000 in
theorem r13_wrong.is (h : IsR w g most v B T O) (hl : B.length ≤ 140737488350000) : Calls Try.prog 96 #[.pointer (some ⟨g, 0, none⟩)] w fun e w' => e = .returned (.bool (wr B)) ∧ Below w.heap.size w w' := by
  obtain ⟨A, c, rfl, hc, hC⟩ := h.reads
  have HI := Aside0.mk h
  have HC := Aside0.mk hC
  clear h hC
  go_enter Try.func96, Try.ntmps96
  go_wp2_with (first | (go_at_call 102; refine (r13_preface.is _).mono ?_; rintro e_ w1 ⟨gp, rfl, hP, hb⟩; have HP := Aside0.mk hP; have HB1 := Aside0.mk hb; clear hP hb))
  have HI1 := Aside0.mk (HI.out.below HB1.out)
  have HC1 := Aside0.mk (Kd.C_below HC.out HB1.out)
  go_loopg [4] 25 (fun kq v4 w' => ∃ (i : Nat), v4 = .int .i64 (i : Int) ∧ Aside0 (i + kq = 25 ∧ i ≤ 24 ∧ i ≤ B.length ∧ PRE.take i = B.take i) ∧ Aside0 (Below w1.heap.size w1 w'))
  case atStart => exact ⟨0, rfl, ⟨by omega, by omega, by omega, rfl⟩, ⟨Below.refl _ _⟩⟩
  case round =>
    obtain ⟨i, rfl, HK, HB⟩ := hrel
    have HI2 := Aside0.mk (HI1.out.below HB.out)
    have hcB : wr.cell? ⟨g, 1, none⟩ = some (.slice A B.length c) := (blk_cell HI2.out.1 1).trans rfl
    by_cases h1 : i < 24
    · have c1 : decide ((i : Int) < 24) = true := decide_eq_true (by omega)
      by_cases h2 : i < B.length
      · have c2 : decide ((i : Int) < (B.length : Int)) = true := decide_eq_true (by omega)
        obtain ⟨ad1, e1, hx1⟩ := Kd.at_int (Kd.C_below HP.out HB.out) (i : Int) (by omega) (by show (i : Int) < ((24 : Nat) : Int); omega)
        cases e1
        obtain ⟨ad2, e2, hx2⟩ := Kd.at_int (Kd.C_below HC1.out HB.out) (i : Int) (by omega) (by omega)
        cases e2
        have hi_ : ((i : Int)).toNat = i := Int.toNat_natCast i
        rw [hi_] at hx1 hx2
        rw [Addr.add_lit, Nat.zero_add] at hx1
        clear hi_
        have p1 : ((0 : Int) ≤ (i : Int)) = True := eq_true (by omega)
        have p2 : ((i : Int) < 24) = True := eq_true (by omega)
        have p3 : ((i : Int) < (B.length : Int)) = True := eq_true (by omega)
        by_cases he : rd PRE (i : Int) = rd B (i : Int)
        · have b1 : (rd PRE (i : Int) != rd B (i : Int)) = false := bne_eq_false_iff_eq.mpr he
          obtain ⟨k1, hk1⟩ : ∃ j, gk = j + 1 := ⟨gk - 1, by have := HK.out; omega⟩
          subst hk1
          have HE := Aside0.mk he
          clear he
          go_wp2_with fail
          refine start_ (n := 12) (S := fun w' => Below wr.heap.size wr w') (ds := []) #[false, false, false, false, false, false, false, false, false, false, false, false] (by kernel_rfl) rfl rfl (below_drew1 (Below.refl _ _)) (fun hHeld => ?_)
          refine pure_ (i := 0) (N := some 21) (v := ?_) (a' := ?_) #[true, false, false, false, false, false, false, false, false, false, false, false] rfl rfl (by kernel_rfl) (fun _ _ _ h => h) (Or.inl ⟨by rfl, ?_⟩) ?_ ?_
          rotate_left
          · intro w'
            go_simp
            with_reducible rfl
          rotate_left
          · simp only [Act.put, List.setIfInBounds_toArray, List.set_cons_zero, List.set_cons_succ]
            rfl
          refine pure_ (i := 1) (N := some 22) (v := ?_) (a' := ?_) #[true, true, false, false, false, false, false, false, false, false, false, false] rfl rfl (by kernel_rfl) (fun _ _ _ h => h) (Or.inl ⟨by rfl, ?_⟩) ?_ ?_
          rotate_left
          · intro w'
            go_simp
            with_reducible rfl
          rotate_left
          · simp only [Act.put, List.setIfInBounds_toArray, List.set_cons_zero, List.set_cons_succ]
            rfl
          refine pure_ (i := 2) (N := some 23) (v := ?_) (a' := ?_) #[true, true, true, false, false, false, false, false, false, false, false, false] rfl rfl (by kernel_rfl) (fun _ _ _ h => h) (Or.inl ⟨by rfl, ?_⟩) ?_ ?_
          rotate_left
          · intro w'
            go_simp
            with_reducible rfl
          rotate_left
          · simp only [Act.put, List.setIfInBounds_toArray, List.set_cons_zero, List.set_cons_succ]
            rfl
          refine take_ (i := 3) (N := some 24) (v := ?_) (a' := ?_) #[true, true, true, true, false, false, false, false, false, false, false, false] rfl rfl (by kernel_rfl) (fun _ _ _ h => h) (Or.inl ⟨by rfl, ?_⟩) hHeld ?_ ?_
          rotate_left
          · intro w' hS_
            have s1_ := (hS_.cell (World.block_lt_of_cell? _ _ hx1)).trans hx1
            have s2_ := (hS_.cell (World.block_lt_of_cell? _ _ hx2)).trans hx2
            have s3_ := (hS_.cell (World.block_lt_of_cell? _ _ hcB)).trans hcB
            go_simp
            with_reducible rfl
          rotate_left
          · simp only [Act.put, List.setIfInBounds_toArray, List.set_cons_zero, List.set_cons_succ]
            rfl
          refine pure_ (i := 4) (N := some 25) (v := ?_) (a' := ?_) #[true, true, true, true, true, false, false, false, false, false, false, false] rfl rfl (by kernel_rfl) (fun _ _ _ h => h) (Or.inl ⟨by rfl, ?_⟩) ?_ ?_
          rotate_left
          · intro w'
            go_simp
            with_reducible rfl
          rotate_left
          · simp only [Act.put, List.setIfInBounds_toArray, List.set_cons_zero, List.set_cons_succ]
            rfl
          refine pure_ (i := 5) (N := some 26) (v := ?_) (a' := ?_) #[true, true, true, true, true, true, false, false, false, false, false, false] rfl rfl (by kernel_rfl) (fun _ _ _ h => h) (Or.inl ⟨by rfl, ?_⟩) ?_ ?_
          rotate_left
          · intro w'
            go_simp
            with_reducible rfl
          rotate_left
          · simp only [Act.put, List.setIfInBounds_toArray, List.set_cons_zero, List.set_cons_succ]
            rfl
          refine pure_ (i := 6) (N := some 27) (v := ?_) (a' := ?_) #[true, true, true, true, true, true, true, false, false, false, false, false] rfl rfl (by kernel_rfl) (fun _ _ _ h => h) (Or.inl ⟨by rfl, ?_⟩) ?_ ?_
          rotate_left
          · intro w'
            go_simp
            with_reducible rfl
          rotate_left
          · simp only [Act.put, List.setIfInBounds_toArray, List.set_cons_zero, List.set_cons_succ]
            rfl
          refine take_ (i := 7) (N := some 28) (v := ?_) (a' := ?_) #[true, true, true, true, true, true, true, true, false, false, false, false] rfl rfl (by kernel_rfl) (fun _ _ _ h => h) (Or.inl ⟨by rfl, ?_⟩) hHeld ?_ ?_
          rotate_left
          · intro w' hS_
            have s1_ := (hS_.cell (World.block_lt_of_cell? _ _ hx1)).trans hx1
            have s2_ := (hS_.cell (World.block_lt_of_cell? _ _ hx2)).trans hx2
            have s3_ := (hS_.cell (World.block_lt_of_cell? _ _ hcB)).trans hcB
            go_simp
            with_reducible rfl
          rotate_left
          · simp only [Act.put, List.setIfInBounds_toArray, List.set_cons_zero, List.set_cons_succ]
            rfl
          refine pure_ (i := 8) (N := some 29) (v := ?_) (a' := ?_) #[true, true, true, true, true, true, true, true, true, false, false, false] rfl rfl (by kernel_rfl) (fun _ _ _ h => h) (Or.inl ⟨by rfl, ?_⟩) ?_ ?_
          rotate_left
          · intro w'
            go_simp
            with_reducible rfl
          rotate_left
          · simp only [Act.put, List.setIfInBounds_toArray, List.set_cons_zero, List.set_cons_succ]
            rfl
          refine pure_ (i := 9) (N := some 30) (v := ?_) (a' := ?_) #[true, true, true, true, true, true, true, true, true, true, false, false] rfl rfl (by kernel_rfl) (fun _ _ _ h => h) (Or.inl ⟨by rfl, ?_⟩) ?_ ?_
          rotate_left
          · intro w'
            go_simp
            with_reducible rfl
          rotate_left
          · simp only [Act.put, List.setIfInBounds_toArray, List.set_cons_zero, List.set_cons_succ]
            rfl
          refine take_ (i := 10) (N := some 31) (v := ?_) (a' := ?_) #[true, true, true, true, true, true, true, true, true, true, true, false] rfl rfl (by kernel_rfl) (fun _ _ _ h => h) (Or.inl ⟨by rfl, ?_⟩) hHeld ?_ ?_
          rotate_left
          · intro w' hS_
            have s1_ := (hS_.cell (World.block_lt_of_cell? _ _ hx1)).trans hx1
            have s2_ := (hS_.cell (World.block_lt_of_cell? _ _ hx2)).trans hx2
            have s3_ := (hS_.cell (World.block_lt_of_cell? _ _ hcB)).trans hcB
            go_simp
            with_reducible rfl
          rotate_left
          · simp only [Act.put, List.setIfInBounds_toArray, List.set_cons_zero, List.set_cons_succ]
            rfl
          refine pure_ (i := 11) (N := some 32) (v := ?_) (a' := ?_) #[true, true, true, true, true, true, true, true, true, true, true, true] rfl rfl (by kernel_rfl) (fun _ _ _ h => h) (Or.inl ⟨by rfl, ?_⟩) ?_ ?_
          rotate_left
          · intro w'
            go_simp
            with_reducible rfl
          rotate_left
          · simp only [Act.put, List.setIfInBounds_toArray, List.set_cons_zero, List.set_cons_succ]
            rfl
          refine done_ (by kernel_rfl) ?_
          have HBD := Aside0.mk hHeld
          clear hHeld
          go_wp2_with fail
          go_roundg k1
          case measure => omega
          case rel =>
            refine ⟨i + 1, ?_, ⟨by have := HK.out; omega, by omega, by omega, take_next h1 h2 HK.out.2.2.2 HE.out⟩, ⟨?_⟩⟩
            · first | rfl | (rw [wr_in (by omega) (by omega)]; rfl)
            · exact below_step HB.out HBD.out
        · have b1 : (rd PRE (i : Int) != rd B (i : Int)) = true := bne_iff_ne.mpr he
          have hw := wr_true h1 h2 he
          clear he
          go_wp2_with fail
          refine start_ (n := 12) (S := fun w' => Below wr.heap.size wr w') (ds := []) #[false, false, false, false, false, false, false, false, false, false, false, false] (by kernel_rfl) rfl rfl (below_drew1 (Below.refl _ _)) (fun hHeld => ?_)
          refine pure_ (i := 0) (N := some 21) (v := ?_) (a' := ?_) #[true, false, false, false, false, false, false, false, false, false, false, false] rfl rfl (by kernel_rfl) (fun _ _ _ h => h) (Or.inl ⟨by rfl, ?_⟩) ?_ ?_
          rotate_left
          · intro w'
            go_simp
            with_reducible rfl
          rotate_left
          · simp only [Act.put, List.setIfInBounds_toArray, List.set_cons_zero, List.set_cons_succ]
            rfl
          refine pure_ (i := 1) (N := some 22) (v := ?_) (a' := ?_) #[true, true, false, false, false, false, false, false, false, false, false, false] rfl rfl (by kernel_rfl) (fun _ _ _ h => h) (Or.inl ⟨by rfl, ?_⟩) ?_ ?_
          rotate_left
          · intro w'
            go_simp
            with_reducible rfl
          rotate_left
          · simp only [Act.put, List.setIfInBounds_toArray, List.set_cons_zero, List.set_cons_succ]
            rfl
          refine pure_ (i := 2) (N := some 23) (v := ?_) (a' := ?_) #[true, true, true, false, false, false, false, false, false, false, false, false] rfl rfl (by kernel_rfl) (fun _ _ _ h => h) (Or.inl ⟨by rfl, ?_⟩) ?_ ?_
          rotate_left
          · intro w'
            go_simp
            with_reducible rfl
          rotate_left
          · simp only [Act.put, List.setIfInBounds_toArray, List.set_cons_zero, List.set_cons_succ]
            rfl
          refine take_ (i := 3) (N := some 24) (v := ?_) (a' := ?_) #[true, true, true, true, false, false, false, false, false, false, false, false] rfl rfl (by kernel_rfl) (fun _ _ _ h => h) (Or.inl ⟨by rfl, ?_⟩) hHeld ?_ ?_
          rotate_left
          · intro w' hS_
            have s1_ := (hS_.cell (World.block_lt_of_cell? _ _ hx1)).trans hx1
            have s2_ := (hS_.cell (World.block_lt_of_cell? _ _ hx2)).trans hx2
            have s3_ := (hS_.cell (World.block_lt_of_cell? _ _ hcB)).trans hcB
            go_simp
            with_reducible rfl
          rotate_left
          · simp only [Act.put, List.setIfInBounds_toArray, List.set_cons_zero, List.set_cons_succ]
            rfl
          refine pure_ (i := 4) (N := some 25) (v := ?_) (a' := ?_) #[true, true, true, true, true, false, false, false, false, false, false, false] rfl rfl (by kernel_rfl) (fun _ _ _ h => h) (Or.inl ⟨by rfl, ?_⟩) ?_ ?_
          rotate_left
          · intro w'
            go_simp
            with_reducible rfl
          rotate_left
          · simp only [Act.put, List.setIfInBounds_toArray, List.set_cons_zero, List.set_cons_succ]
            rfl
          refine pure_ (i := 5) (N := some 26) (v := ?_) (a' := ?_) #[true, true, true, true, true, true, false, false, false, false, false, false] rfl rfl (by kernel_rfl) (fun _ _ _ h => h) (Or.inl ⟨by rfl, ?_⟩) ?_ ?_
          rotate_left
          · intro w'
            go_simp
            with_reducible rfl
          rotate_left
          · simp only [Act.put, List.setIfInBounds_toArray, List.set_cons_zero, List.set_cons_succ]
            rfl
          refine pure_ (i := 6) (N := some 27) (v := ?_) (a' := ?_) #[true, true, true, true, true, true, true, false, false, false, false, false] rfl rfl (by kernel_rfl) (fun _ _ _ h => h) (Or.inl ⟨by rfl, ?_⟩) ?_ ?_
          rotate_left
          · intro w'
            go_simp
            with_reducible rfl
          rotate_left
          · simp only [Act.put, List.setIfInBounds_toArray, List.set_cons_zero, List.set_cons_succ]
            rfl
          refine take_ (i := 7) (N := some 28) (v := ?_) (a' := ?_) #[true, true, true, true, true, true, true, true, false, false, false, false] rfl rfl (by kernel_rfl) (fun _ _ _ h => h) (Or.inl ⟨by rfl, ?_⟩) hHeld ?_ ?_
          rotate_left
          · intro w' hS_
            have s1_ := (hS_.cell (World.block_lt_of_cell? _ _ hx1)).trans hx1
            have s2_ := (hS_.cell (World.block_lt_of_cell? _ _ hx2)).trans hx2
            have s3_ := (hS_.cell (World.block_lt_of_cell? _ _ hcB)).trans hcB
            go_simp
            with_reducible rfl
          rotate_left
          · simp only [Act.put, List.setIfInBounds_toArray, List.set_cons_zero, List.set_cons_succ]
            rfl
          refine pure_ (i := 8) (N := some 29) (v := ?_) (a' := ?_) #[true, true, true, true, true, true, true, true, true, false, false, false] rfl rfl (by kernel_rfl) (fun _ _ _ h => h) (Or.inl ⟨by rfl, ?_⟩) ?_ ?_
          rotate_left
          · intro w'
            go_simp
            with_reducible rfl
          rotate_left
          · simp only [Act.put, List.setIfInBounds_toArray, List.set_cons_zero, List.set_cons_succ]
            rfl
          refine pure_ (i := 9) (N := some 30) (v := ?_) (a' := ?_) #[true, true, true, true, true, true, true, true, true, true, false, false] rfl rfl (by kernel_rfl) (fun _ _ _ h => h) (Or.inl ⟨by rfl, ?_⟩) ?_ ?_
          rotate_left
          · intro w'
            go_simp
            with_reducible rfl
          rotate_left
          · simp only [Act.put, List.setIfInBounds_toArray, List.set_cons_zero, List.set_cons_succ]
            rfl
          refine take_ (i := 10) (N := some 31) (v := ?_) (a' := ?_) #[true, true, true, true, true, true, true, true, true, true, true, false] rfl rfl (by kernel_rfl) (fun _ _ _ h => h) (Or.inl ⟨by rfl, ?_⟩) hHeld ?_ ?_
          rotate_left
          · intro w' hS_
            have s1_ := (hS_.cell (World.block_lt_of_cell? _ _ hx1)).trans hx1
            have s2_ := (hS_.cell (World.block_lt_of_cell? _ _ hx2)).trans hx2
            have s3_ := (hS_.cell (World.block_lt_of_cell? _ _ hcB)).trans hcB
            go_simp
            with_reducible rfl
          rotate_left
          · simp only [Act.put, List.setIfInBounds_toArray, List.set_cons_zero, List.set_cons_succ]
            rfl
          refine pure_ (i := 11) (N := some 32) (v := ?_) (a' := ?_) #[true, true, true, true, true, true, true, true, true, true, true, true] rfl rfl (by kernel_rfl) (fun _ _ _ h => h) (Or.inl ⟨by rfl, ?_⟩) ?_ ?_
          rotate_left
          · intro w'
            go_simp
            with_reducible rfl
          rotate_left
          · simp only [Act.put, List.setIfInBounds_toArray, List.set_cons_zero, List.set_cons_succ]
            rfl
          refine done_ (by kernel_rfl) ?_
          have HBD := Aside0.mk hHeld
          clear hHeld
          go_wp2_with fail
          go_ret
          rw [hw]
          exact ⟨rfl, below_step HB1.out (below_step HB.out HBD.out)⟩
      · have c2 : decide ((i : Int) < (B.length : Int)) = false := decide_eq_false (by omega)
        have hw := wr_false HK.out.2.1 HK.out.2.2.1 (.inr (by have := HK.out; omega)) HK.out.2.2.2
        go_wp2
        go_ret
        rw [hw]
        exact ⟨rfl, below_step HB1.out HB.out⟩
    · have c1 : decide ((i : Int) < 24) = false := decide_eq_false (by omega)
      have hw := wr_false HK.out.2.1 HK.out.2.2.1 (.inl (by have := HK.out; omega)) HK.out.2.2.2
      go_wp2
      go_ret
      rw [hw]
      exact ⟨rfl, below_step HB1.out HB.out⟩
theorem r13_Begin.is (n : Int) (w : World) : Calls Try.prog 67 #[.int .i64 n] w fun e w' => ∃ g, e = .returned (.pointer (some ⟨g, 0, none⟩)) ∧ IsR w' g n (.slice none 0 0) [] 0 0 ∧ w.heap.size ≤ g ∧ Below w.heap.size w w' := by
  go_enter Try.func67, Try.ntmps67
  go_wp2
  go_ret
  exact ⟨_, rfl, ⟨blk_new _ _, Gr.nil _ _ _ _, by simp [Value.ownBlock]⟩, Nat.le_refl _, below_alloc (Below.refl _ _) _⟩
theorem r13_Begun.is (h : IsR w g most v B T O) (hl : B.length ≤ 140737488350000) : Calls Try.prog 73 #[.pointer (some ⟨g, 0, none⟩)] w fun e w' => e = .returned (.bool (decide (24 ≤ B.length ∧ wr B = false))) ∧ Below w.heap.size w w' := by
  have HI := Aside0.mk h
  have HL := Aside0.mk hl
  clear h
  obtain ⟨A, c, rfl, _, _⟩ := HI.out.reads
  by_cases h24 : 24 ≤ B.length
  · have b1 : decide ((24 : Int) ≤ (B.length : Int)) = true := decide_eq_true (by omega)
    go_enter Try.func73, Try.ntmps73
    go_wp2_with (first | (go_at_call 96; refine (r13_wrong.is HI.out HL.out).mono ?_; rintro e_ w1 ⟨rfl, hb⟩; have HB1 := Aside0.mk hb; have hcB : w1.cell? ⟨g, 1, none⟩ = some (.slice A B.length c) := (blk_cell (HI.out.below hb).1 1).trans rfl; clear hb))
    go_ret
    refine ⟨?_, HB1.out⟩
    cases hw : wr B <;> simp [h24]
  · have b1 : decide ((24 : Int) ≤ (B.length : Int)) = false := decide_eq_false (by omega)
    go_enter Try.func73, Try.ntmps73
    go_wp2_with (first | (go_at_call 96; refine (r13_wrong.is HI.out HL.out).mono ?_; rintro e_ w1 ⟨rfl, hb⟩; have HB1 := Aside0.mk hb; have hcB : w1.cell? ⟨g, 1, none⟩ = some (.slice A B.length c) := (blk_cell (HI.out.below hb).1 1).trans rfl; clear hb))
    go_ret
    refine ⟨?_, HB1.out⟩
    rw [decide_eq_false (p := 24 ≤ B.length ∧ wr B = false) (fun h => h24 h.1)]
    rfl
theorem r13_Len.is {t : Nat} (h : IsR w g most v B T O) (hT : T = (t : Int)) (htb : t ≤ 1000000) (hby : Bytes B) (hl : B.length ≤ 140737488350000) (ht : O = 0 → 24 ≤ B.length → IntakePure.Told B most t) : Calls Try.prog 75 #[.pointer (some ⟨g, 0, none⟩)] w fun e w' => e = .returned (.int .i64 (lenR most B t O : Int)) ∧ Below w.heap.size w w' := by
  have HI := Aside0.mk h
  have HL := Aside0.mk hl
  obtain ⟨A, c, rfl, _, _⟩ := HI.out.reads
  have hcO : w.cell? ⟨g, 3, none⟩ = some (.int .i64 O) := (blk_cell h.1 3).trans rfl
  have hcB : w.cell? ⟨g, 1, none⟩ = some (.slice A B.length c) := (blk_cell h.1 1).trans rfl
  clear h
  unfold lenR
  by_cases ho : O ≠ 0
  · have b0 : (O == 0) = false := beq_eq_false_iff_ne.mpr ho
    have b1 : (O != 0) = true := bne_iff_ne.mpr ho
    rw [if_pos ho]
    clear ho
    go_enter Try.func75, Try.ntmps75
    go_wp2
    go_ret
    exact ⟨rfl, Below.refl _ _⟩
  · rw [if_neg ho]
    have ho : O = 0 := by omega
    subst ho
    by_cases h24 : B.length < 24
    · have b2 : decide ((B.length : Int) < 24) = true := decide_eq_true (by omega)
      rw [if_pos h24]
      clear h24
      go_enter Try.func75, Try.ntmps75
      go_wp2
      go_ret
      exact ⟨rfl, Below.refl _ _⟩
    · have b2 : decide ((B.length : Int) < 24) = false := decide_eq_false (by omega)
      rw [if_neg h24]
      have HT := Aside0.mk (ht rfl (by omega))
      go_enter Try.func75, Try.ntmps75
      go_wp2_with (first | (go_at_call 97; refine (r13_rest.is HI.out hT htb hby (by omega) HL.out HT.out).mono ?_; rintro e_ w1 ⟨Aq, cq, rfl, _, _, hb⟩; have HB1 := Aside0.mk hb; clear hb))
      go_ret
      exact ⟨by rw [List.length_drop]; rfl, HB1.out⟩
end
end Go.Proofs.Ytbmnplojpeabmaa.It
