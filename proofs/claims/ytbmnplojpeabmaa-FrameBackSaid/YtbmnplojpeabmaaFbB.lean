/-
  The walk of FrameBack.
  Conditions: none of its own; lemmas that the claim's row rests on.
-/
import Derived.Test.YtbmnplojpeabmaaFbA
import Derived.Test.YtbmnplojpeabmaaPureBack
import Derived.WalkKit
namespace Go.Proofs.Ytbmnplojpeabmaa.QB
open Go.RowKit Go.Proofs.YtbmnplojpeabmaaW.PrintWords Go.Proofs.YtbmnplojpeabmaaW.PrintLast Go.Proofs.YtbmnplojpeabmaaW.PrintMore
attribute [local go_sem] max2_int min2_int max_two min_two max_three min_three max_four min_four
set_option linter.unusedVariables false
set_option linter.unusedSimpArgs false
open Go.Proofs.Ytbmnplojpeabmaa.Ob Go.Proofs.Ytbmnplojpeabmaa.FramePure
set_option maxHeartbeats 16000000 in
set_option maxRecDepth 100000 in
theorem gantletlaw02_FrameBack.main (A0 : Option Addr) (c0 : Nat) (l0 : List S67) (A1 : Option Addr) (c1 : Nat) (l1 : List Int) (a2 : Int) (w : World) (hr0 : Kd.C k67 w A0 l0.length l0) (hc0 : l0.length ≤ c0) (hr1 : Kd.C (Kd.int .u8) w A1 l1.length l1) (hc1 : l1.length ≤ c1)
    (hby : ∀ x ∈ l0, WirePure.Bytes x.f3) (hbb : WirePure.Bytes l1) (h20 : 0 ≤ a2) (h21 : a2 < 65536) :
    Calls Try.prog 10 #[.slice A0 l0.length c0, .slice A1 l1.length c1, .int .u16 a2] w fun e w' => e = .returned (.bool true) ∧ Below w.heap.size w w' := by
  have hu67 := Try.underlying67
  have HAL : Aside0 (gantletlaw02_alive.f 60 = some true) := ⟨alive02 (Nat.le_refl _)⟩
  have HR0 := Aside0.mk hr0
  have HR1 := Aside0.mk hr1
  have HY := Aside0.mk hby
  have HBB := Aside0.mk hbb
  clear hr0 hr1 hby hbb
  by_cases h1 : 20 < l0.length
  · have b1 : decide ((20 : Int) < (l0.length : Int)) = true := decide_eq_true (by omega)
    go_enter Try.func10, Try.ntmps10
    go_wp2_with (go_at_call 60; refine (gantletlaw02_alive.calls 60 true _ HAL.out).mono ?_; rintro e_ w2 ⟨rfl, hb⟩; have HB2 := Aside0.mk hb; clear hb)
    go_ret
    exact ⟨rfl, HB2.out⟩
  have b1 : decide ((20 : Int) < (l0.length : Int)) = false := decide_eq_false (by omega)
  by_cases h2 : 2000 < l1.length
  · have b2 : decide ((2000 : Int) < (l1.length : Int)) = true := decide_eq_true (by omega)
    go_enter Try.func10, Try.ntmps10
    go_wp2_with (go_at_call 60; refine (gantletlaw02_alive.calls 60 true _ HAL.out).mono ?_; rintro e_ w2 ⟨rfl, hb⟩; have HB2 := Aside0.mk hb; clear hb)
    go_ret
    exact ⟨rfl, HB2.out⟩
  have b2 : decide ((2000 : Int) < (l1.length : Int)) = false := decide_eq_false (by omega)
  have hl0 : l0.length ≤ 20 := by omega
  have hl1 : l1.length ≤ 2000 := by omega
  clear h1 h2
  go_enter Try.func10, Try.ntmps10
  go_wp2
  go_loopg [7, 8, 9, 10] (l0.length + 1) (fun kq v7 v8 v9 v10 w' => ∃ (i : Int) (ks : List S67), v10 = .int .i64 i ∧ Aside0 (0 ≤ i ∧ i + kq = l0.length + 1) ∧ Aside0 (Stb w w' v7 v8 v9 (Bs ks) ks (endsF ks)) ∧ Aside0 (∀ x ∈ ks, Fine 2000 x) ∧ Aside0 (ks.length ≤ i.toNat))
  case atStart => exact ⟨0, [], rfl, ⟨by omega⟩, ⟨Stb.start (Below.refl _ _)⟩, ⟨fun x hx => by cases hx⟩, ⟨by simp⟩⟩
  case round =>
    clear b1 b2
    obtain ⟨i, ks, rfl, HK, HS, HFI, HL⟩ := hrel
    by_cases c5 : i < (l0.length : Int)
    · have h0 := HK.out.1
      have c5b0 : decide (i < (l0.length : Int)) = true := decide_eq_true c5
      have c6b0 : decide (0 ≤ i) = true := decide_eq_true h0
      obtain ⟨ad, A3, c3, e1, hy0, hy1, hy2, hy3, hc3, hrp⟩ := at_T67 HR0.out i h0 c5
      cases e1
      have p1 : (0 ≤ i) = True := eq_true h0
      have q1 : (i < (l0.length : Int)) = True := eq_true c5
      have hm0 : rd_T67 l0 i ∈ l0 := by
        have hi : i.toNat < l0.length := by omega
        rw [show rd_T67 l0 i = l0[i.toNat] by simp [rd_T67, hi]]
        exact List.getElem_mem hi
      have hxb := HY.out _ hm0
      have HY0w := Aside0.mk hy0
      have HY1w := Aside0.mk hy1
      have HY2w := Aside0.mk hy2
      have HY3w := Aside0.mk hy3
      replace hy0 := (HS.out.be.cell (World.block_lt_of_cell? w _ hy0)).trans hy0
      replace hy1 := (HS.out.be.cell (World.block_lt_of_cell? w _ hy1)).trans hy1
      replace hy2 := (HS.out.be.cell (World.block_lt_of_cell? w _ hy2)).trans hy2
      replace hy3 := (HS.out.be.cell (World.block_lt_of_cell? w _ hy3)).trans hy3
      have hwr : wrap64 (i + 1) = i + 1 := by unfold wrap64; omega
      have HW := Aside0.mk hwr
      clear hwr
      obtain ⟨k1, hk1⟩ : ∃ q, gk = q + 1 := ⟨gk - 1, by have := HK.out; omega⟩
      subst hk1
      generalize hX : rd_T67 l0 i = X at *
      obtain ⟨x0, x1, x2, x3⟩ := X
      simp only [] at hy0 hy1 hy2 hy3 hc3 hrp hxb
      have HRP := Aside0.mk hrp
      have HXB := Aside0.mk hxb
      clear hrp hX hm0 hxb
      by_cases c6 : 2000 < x3.length
      · have c6b : decide ((2000 : Int) < (x3.length : Int)) = true := decide_eq_true (by omega)
        go_wp2_with (go_at_call 60; refine (gantletlaw02_alive.calls 60 true _ HAL.out).mono ?_; rintro e_ w2 ⟨rfl, hb⟩; have HB2 := Aside0.mk (below_step HS.out.be hb); clear hb)
        go_ret
        exact ⟨rfl, HB2.out⟩
      have c6b : decide ((2000 : Int) < (x3.length : Int)) = false := decide_eq_false (by omega)
      by_cases c7 : right x0 x1 x2 x3
      · have hfx : Fine 2000 ⟨x0, x1, x2, x3⟩ := ⟨c7, by simp only []; omega, HXB.out⟩
        have HFX := Aside0.mk hfx
        have HE : Aside0 (frame_Encode.f 20 x0 x1 x2 x3 = some (enc x0 x1 x2 x3, 0)) := ⟨encE (by decide) c7⟩
        have HRT : Aside0 (frame_Right.f x0 x1 x2 x3 = some true) := ⟨by rw [right_eq, decide_eq_true c7]⟩
        have HBS : Aside0 (Bs (ks ++ [⟨x0, x1, x2, x3⟩]) = Bs ks ++ enc x0 x1 x2 x3) := ⟨by rw [Bs_append, Bs_one]⟩
        have hel := enc_length x0 x1 x2 x3
        have HNX : Aside0 (frame_Next.f 20 (enc x0 x1 x2 x3 ++ l1) 2000 = some (x0, x1, x2, x3, 9 + (x3.length : Int), 0)) := ⟨(nextE (by decide) _ 2000 (bytes_app (enc_bytes HXB.out) HBB.out) (by rw [List.length_append]; omega)).trans (congrArg some (nx_enc hfx l1))⟩
        obtain ⟨q, hq⟩ : ∃ q, enc x0 x1 x2 x3 = q := ⟨_, rfl⟩
        rw [hq] at HE HBS HNX hel
        have HQL : Aside0 (q.length = 9 + x3.length) := ⟨hel⟩
        have HSAME : Aside0 (gantletref02_Same.f 3000 x0 x1 x2 x3 x0 x1 x2 x3 = some true) := ⟨by rw [rsameE (by omega) (by omega)]; simp⟩
        have hbk : (Bs ks).length ≤ 100000 := by
          have h1 : ∀ ks : List S67, (∀ x ∈ ks, Fine 2000 x) → (Bs ks).length ≤ 2009 * ks.length := fun ks => by
            induction ks with
            | nil => intro _; simp [Bs_nil]
            | cons x fs ih =>
              intro h
              have h1 := (h x List.mem_cons_self).2.1
              have h2 := ih (fun y hy => h y (List.mem_cons_of_mem _ hy))
              rw [Bs_cons, List.length_append, enc_length, List.length_cons]
              omega
          have h2 := h1 ks HFI.out
          have h3 := HL.out
          omega
        have HBK := Aside0.mk hbk
        have HBE : Aside0 (endsF (ks ++ [⟨x0, x1, x2, x3⟩]) = endsF ks ++ [(((Bs ks ++ q).length : Nat) : Int)]) := ⟨by rw [endsF_snoc, HBS.out]⟩
        have HEL : Aside0 ((endsF ks).length ≤ 100) := ⟨by rw [endsF_length]; have := HL.out; omega⟩
        obtain ⟨bk, hbk2⟩ : ∃ bk, Bs ks = bk := ⟨_, rfl⟩
        rw [hbk2] at HBS HBK HBE HS
        obtain ⟨es, hes⟩ : ∃ es, endsF ks = es := ⟨_, rfl⟩
        rw [hes] at HBE HEL HS
        have hx3 : x3.length ≤ 2000 := by omega
        have hne : ((9 + (x3.length : Int)) != (q.length : Int)) = false := by have := HQL.out; rw [bne_eq_false_iff_eq]; omega
        obtain ⟨b2, hb2⟩ : ∃ b2, bk ++ q = b2 := ⟨_, rfl⟩
        rw [hb2] at HBS HBE
        have HB2 := Aside0.mk hb2
        clear hb2
        obtain ⟨z, hz⟩ : ∃ z, q ++ l1 = z := ⟨_, rfl⟩
        rw [hz] at HNX
        have HZ := Aside0.mk hz
        clear hz
        clear hfx hel hbk c7 hq hbk2 hes c6
        go_wp2_with (first | (go_at_call 61; refine (frame_Encode.calls 20 x0 x1 x2 A3 c3 x3 q 0 _ (Kd.C_below HRP.out HS.out.be) hc3 HE.out).mono ?_; rintro e_ w3 ⟨vx, rfl, hR, hb⟩; have HS3 := Aside0.mk (HS.out.below hb); obtain ⟨Ax, cx, rfl, hcx, hCx⟩ := Kd.R_reads hR; have HCX3 := Aside0.mk hCx; clear hb hR hCx hy0 hy1 hy2 hy3 HS; have hy0_ := (HS3.out.be.cell (World.block_lt_of_cell? w _ HY0w.out)).trans HY0w.out; have hy1_ := (HS3.out.be.cell (World.block_lt_of_cell? w _ HY1w.out)).trans HY1w.out; have hy2_ := (HS3.out.be.cell (World.block_lt_of_cell? w _ HY2w.out)).trans HY2w.out; have hy3_ := (HS3.out.be.cell (World.block_lt_of_cell? w _ HY3w.out)).trans HY3w.out) | (go_at_call 62; refine (frame_Right.calls x0 x1 x2 A3 c3 x3 true _ (Kd.C_below HRP.out HS3.out.be) hc3 HRT.out).mono ?_; rintro e_ w4 ⟨rfl, hb⟩; have HS4 := Aside0.mk (HS3.out.below hb); have HCX4 := Aside0.mk (Kd.C_below HCX3.out hb); clear hb HS3 HCX3 hy0_ hy1_ hy2_ hy3_; have hy0_ := (HS4.out.be.cell (World.block_lt_of_cell? w _ HY0w.out)).trans HY0w.out; have hy1_ := (HS4.out.be.cell (World.block_lt_of_cell? w _ HY1w.out)).trans HY1w.out; have hy2_ := (HS4.out.be.cell (World.block_lt_of_cell? w _ HY2w.out)).trans HY2w.out; have hy3_ := (HS4.out.be.cell (World.block_lt_of_cell? w _ HY3w.out)).trans HY3w.out) | (at_builtin; refine Gr.append (Value.int .u8) 0 (h1 := u8one) rfl (.tmp 71) (.tmp 72) 22 5 (.int .u8 0) 1 rfl Try.underlying22 info5 rfl (by decide) (.slice (some ⟨w4.heap.size, 0, none⟩) 0 0) [] q _ _ _ rfl rfl ?gO ?gR (by have := HQL.out; simp; omega) ?_; (case gO => exact .inl ⟨some ⟨w4.heap.size, 0, none⟩, rfl, by simp, C_nil _ _, fun k hk => by have h_ : some w4.heap.size = some k := hk; cases h_; simp⟩); (case gR => exact Kd.C_below HCX4.out (below_alloc (Below.refl _ _) _)); intro v5 w5 hG5 hg5 hat5; have hb5 : Below w4.heap.size w4 w5 := Below.grown (below_alloc (Below.refl _ _) _) hg5 (by simp) (fun k_ e_ => by simp [Value.ownBlock] at e_; omega); have HO5 : Aside0 (∀ k, v5.ownBlock = some k → w4.heap.size ≤ k) := ⟨by intro k hk; rcases hat5 with e | ⟨b, e, hb⟩; (rw [e] at hk; simp [Value.ownBlock] at hk; omega); (rw [e] at hk; cases hk; simp at hb; omega)⟩; have HB5 := Aside0.mk hb5; have HG5 := Aside0.mk hG5; have HS5 := Aside0.mk (HS4.out.below hb5); have HCX5 := Aside0.mk (Kd.C_below HCX4.out hb5); clear hb5 hG5 hg5 hat5 hy0_ hy1_ hy2_ hy3_) | (at_builtin; refine Gr.append (Value.int .u8) 0 (h1 := u8one) rfl (.tmp 73) (.tmp 74) 22 5 (.int .u8 0) 1 rfl Try.underlying22 info5 rfl (by decide) v5 q l1 _ _ _ rfl rfl HG5.out (Kd.C_below HR1.out HS5.out.be) (by have := HQL.out; omega) ?_; intro v6 w6 hG6 hg6 hat6; rw [HZ.out] at hG6; have hb6 : Below w4.heap.size w4 w6 := Below.grown HB5.out hg6 HB5.out.size (fun k_ e_ => HO5.out k_ e_); have HS6 := Aside0.mk (HS4.out.below hb6); have HCX6 := Aside0.mk (Kd.C_below HCX4.out hb6); obtain ⟨A6, c6, e6, hc6, hC6⟩ := hG6.reads 0; subst e6; have HG6 := Aside0.mk hC6; clear hb6 hG6 hg6 hat6 hC6 HS5 HCX5 HS4 HCX4 HG5 HB5 HO5) | (go_at_call 63; refine (frame_Next.calls 20 A6 c6 z 2000 x0 x1 x2 x3 (9 + (x3.length : Int)) 0 _ HG6.out hc6 HNX.out).mono ?_; rintro e_ w7 ⟨v7, rfl, hR7, hb7⟩; have HS7 := Aside0.mk (HS6.out.below hb7); have HCX7 := Aside0.mk (Kd.C_below HCX6.out hb7); obtain ⟨A7, c7, rfl, hc7, hC7⟩ := Kd.R_reads hR7; have HC7 := Aside0.mk hC7; clear hR7 hb7 hC7 HS6 HCX6 HG6; have hb8 := below_alloc (Below.refl w7.heap.size w7) (.cells #[.int .i64 x0, .int .i64 x1, .int .i64 x2, .slice A7 x3.length c7] 67); have HS8 := Aside0.mk (HS7.out.below hb8); have HC8 := Aside0.mk (Kd.C_below HC7.out hb8); have HCX8 := Aside0.mk (Kd.C_below HCX7.out hb8); clear hb8; have hy0_ := (HS8.out.be.cell (World.block_lt_of_cell? w _ HY0w.out)).trans HY0w.out; have hy1_ := (HS8.out.be.cell (World.block_lt_of_cell? w _ HY1w.out)).trans HY1w.out; have hy2_ := (HS8.out.be.cell (World.block_lt_of_cell? w _ HY2w.out)).trans HY2w.out; have hy3_ := (HS8.out.be.cell (World.block_lt_of_cell? w _ HY3w.out)).trans HY3w.out))
        have HBX := Aside0.mk (blk_new w7 (.cells #[.int .i64 x0, .int .i64 x1, .int .i64 x2, .slice A7 x3.length c7] 67))
        clear hy0_ hy1_ hy2_ hy3_
        generalize hw8 : w7.alloc (.cells #[.int .i64 x0, .int .i64 x1, .int .i64 x2, .slice A7 x3.length c7] 67) = w8 at *
        have HC := Aside0.mk (fun {a : Addr} {u : Value} (h : w.cell? a = some u) {W1 : World} (hb : Below w8.heap.size w8 W1) => ((below_step HS8.out.be hb).cell (World.block_lt_of_cell? w _ h)).trans h)
        clear hw8
        refine start_ (n := 7) (S := fun w' => Below w8.heap.size w8 w') (ds := []) #[false, false, false, false, false, false, false] (by kernel_rfl) rfl rfl (below_drew1 (Below.refl _ _)) (fun hHeld => ?_)
        refine take_ (i := 0) (N := some 80) (v := ?_) (a' := ?_) #[true, false, false, false, false, false, false] rfl rfl (by kernel_rfl) (fun _ _ _ h => h) (Or.inl ⟨by rfl, ?_⟩) hHeld ?_ ?_
        rotate_left
        · intro w' hS_
          have q0_ : w'.cell? ⟨w7.heap.size, 0, none⟩ = some (.int .i64 x0) := (blk_cell (blk_below HBX.out hS_) 0).trans rfl
          have q1_ : w'.cell? ⟨w7.heap.size, 1, none⟩ = some (.int .i64 x1) := (blk_cell (blk_below HBX.out hS_) 1).trans rfl
          have q2_ : w'.cell? ⟨w7.heap.size, 2, none⟩ = some (.int .i64 x2) := (blk_cell (blk_below HBX.out hS_) 2).trans rfl
          have q3_ : w'.cell? ⟨w7.heap.size, 3, none⟩ = some (.slice A7 x3.length c7) := (blk_cell (blk_below HBX.out hS_) 3).trans rfl
          go_simp
          with_reducible rfl
        rotate_left
        · simp only [Act.put, List.setIfInBounds_toArray, List.set_cons_zero, List.set_cons_succ]
          rfl
        refine pure_ (i := 1) (N := some 81) (v := ?_) (a' := ?_) #[true, true, false, false, false, false, false] rfl rfl (by kernel_rfl) (fun _ _ _ h => h) (Or.inl ⟨by rfl, ?_⟩) ?_ ?_
        rotate_left
        · intro w'
          go_simp
          with_reducible rfl
        rotate_left
        · simp only [Act.put, List.setIfInBounds_toArray, List.set_cons_zero, List.set_cons_succ]
          rfl
        refine pure_ (i := 2) (N := some 82) (v := ?_) (a' := ?_) #[true, true, true, false, false, false, false] rfl rfl (by kernel_rfl) (fun _ _ _ h => h) (Or.inl ⟨by rfl, ?_⟩) ?_ ?_
        rotate_left
        · intro w'
          go_simp
          with_reducible rfl
        rotate_left
        · simp only [Act.put, List.setIfInBounds_toArray, List.set_cons_zero, List.set_cons_succ]
          rfl
        refine pure_ (i := 3) (N := some 83) (v := ?_) (a' := ?_) #[true, true, true, true, false, false, false] rfl rfl (by kernel_rfl) (fun _ _ _ h => h) (Or.inl ⟨by rfl, ?_⟩) ?_ ?_
        rotate_left
        · intro w'
          go_simp
          with_reducible rfl
        rotate_left
        · simp only [Act.put, List.setIfInBounds_toArray, List.set_cons_zero, List.set_cons_succ]
          rfl
        refine take_ (i := 4) (N := some 84) (v := ?_) (a' := ?_) #[true, true, true, true, true, false, false] rfl rfl (by kernel_rfl) (fun _ _ _ h => h) (Or.inl ⟨by rfl, ?_⟩) hHeld ?_ ?_
        rotate_left
        · intro w' hS_
          have q0_ := HC.out HY0w.out hS_
          have q1_ := HC.out HY1w.out hS_
          have q2_ := HC.out HY2w.out hS_
          have q3_ := HC.out HY3w.out hS_
          go_simp
          with_reducible rfl
        rotate_left
        · simp only [Act.put, List.setIfInBounds_toArray, List.set_cons_zero, List.set_cons_succ]
          rfl
        refine one_ (i := 5) (N := some 85) #[true, true, true, true, true, true, false] rfl rfl (by kernel_rfl) (by decide) (fun K_ hK_ => ?_)
        refine call_ 51 _ (by rfl) rfl (by go_simp; rfl) ?_
        refine (gantletref02_Same.calls 3000 x0 x1 x2 A7 c7 x3 x0 x1 x2 A3 c3 x3 true _ (Kd.C_below HC8.out hHeld) hc7 (Kd.C_below HRP.out (below_step HS8.out.be hHeld)) hc3 HSAME.out).mono ?_
        rintro e_ wy ⟨rfl, hb_⟩
        refine ⟨_, rfl, ?_⟩
        have hHeld2 := below_step hHeld hb_
        refine hK_.out _ _ (hHeld2) (fun hHeld => ?_)
        clear hK_
        refine norm_ (a' := ?_) ?_ ?_
        rotate_left
        · simp only [Act.put, List.setIfInBounds_toArray, List.set_cons_zero, List.set_cons_succ]
          rfl
        refine pure_ (i := 6) (N := some 16) (v := ?_) (a' := ?_) #[true, true, true, true, true, true, true] rfl rfl (by kernel_rfl) (fun _ _ _ h => h) (Or.inl ⟨by rfl, ?_⟩) ?_ ?_
        rotate_left
        · intro w'
          go_simp
          with_reducible rfl
        rotate_left
        · simp only [Act.put, List.setIfInBounds_toArray, List.set_cons_zero, List.set_cons_succ]
          rfl
        refine done_ (by kernel_rfl) ?_
        have HS9 := Aside0.mk (HS8.out.below hHeld)
        have HCX9 := Aside0.mk (Kd.C_below HCX8.out hHeld)
        have hy0_ := HC.out HY0w.out hHeld
        have hy1_ := HC.out HY1w.out hHeld
        have hy2_ := HC.out HY2w.out hHeld
        have hy3_ := HC.out HY3w.out hHeld
        clear HS8 HC8 HCX8 HBX hHeld HC
        go_wp2_with (first | (at_builtin; refine print_append_row_of (w0 := w) (Value.int .u8) 0 w.heap.size rfl (.tmp 98) (.tmp 99) 22 5 (.int .u8 0) 1 rfl Try.underlying22 info5 rfl (by decide) u8one _ bk q _ _ _ rfl rfl HS9.out.rb (Kd.reads_of_C (d := (0 : Int)) HCX9.out) HS9.out.be HS9.out.be.size (by have := HBK.out; have := HQL.out; omega) ?_; intro v10 w10 ho10 _ hg10 hat10; rw [HB2.out] at ho10; have HS10 := Aside0.mk (HS9.out.growB ho10 hg10); obtain ⟨Ab, cb, e10, hcb, _⟩ := HS10.out.readB; subst e10; clear ho10 hg10 hat10 HS9 HCX9 hy0_ hy1_ hy2_ hy3_; have hy0_ := (HS10.out.be.cell (World.block_lt_of_cell? w _ HY0w.out)).trans HY0w.out; have hy1_ := (HS10.out.be.cell (World.block_lt_of_cell? w _ HY1w.out)).trans HY1w.out; have hy2_ := (HS10.out.be.cell (World.block_lt_of_cell? w _ HY2w.out)).trans HY2w.out; have hy3_ := (HS10.out.be.cell (World.block_lt_of_cell? w _ HY3w.out)).trans HY3w.out) | (at_builtin; refine RowF.append k67 w.heap.size rfl (.tmp 101) (.tmp 106) 56 67 (.agg #[(.int .i64 0), (.int .i64 0), (.int .i64 0), (.slice none 0 0)]) 48 rfl Try.underlying56 info67 rfl (by decide) (by decide) _ ks ⟨x0, x1, x2, x3⟩ [.int .i64 x0, .int .i64 x1, .int .i64 x2, .slice A3 x3.length c3] rfl rfl (FK67_of HRP.out hc3 HS10.out.be) HS10.out.rk HS10.out.be.size (by have := HL.out; omega) ?_; intro v11 w11 hR11 hg11 hat11; have HS11 := Aside0.mk (HS10.out.growK hR11 hg11); clear hR11 hg11 hat11 HS10 hy0_ hy1_ hy2_ hy3_) | (at_builtin; refine print_append_row_of (w0 := w) (Value.int .i64) 0 w.heap.size rfl (.tmp 108) (.tmp 111) 91 3 (.int .i64 0) 8 rfl Try.underlying91 info3i rfl (by decide) i64one _ es [(b2.length : Int)] _ _ _ rfl rfl (HS11.out.below (below_alloc (Below.refl _ _) _)).re (Kd.reads_of_C (d := (0 : Int)) (C_one_int (blk_new w11 _))) (HS11.out.below (below_alloc (Below.refl _ _) _)).be (HS11.out.below (below_alloc (Below.refl _ _) _)).be.size (by have := HEL.out; omega) ?_; intro v12 w12 ho12 _ hg12 hat12; have HS12 := Aside0.mk ((HS11.out.below (below_alloc (Below.refl _ _) _)).growE ho12 hg12); clear ho12 hg12 hat12 HS11))
        go_roundg k1
        case measure => omega
        case rel => exact ⟨i + 1, ks ++ [⟨x0, x1, x2, x3⟩], (by first | rfl | rw [HW.out]), ⟨by have := HK.out; omega⟩, ⟨by rw [HBS.out, HBE.out]; exact HS12.out⟩, ⟨fun x hx => by rcases List.mem_append.1 hx with h | h; exact HFI.out x h; (rw [List.mem_singleton.1 h]; exact HFX.out)⟩, ⟨by have := HL.out; have := HK.out; simp; omega⟩⟩
      · have HE : Aside0 (frame_Encode.f 20 x0 x1 x2 x3 = some ([], 1)) := ⟨encN c7⟩
        have HRT : Aside0 (frame_Right.f x0 x1 x2 x3 = some false) := ⟨by rw [right_eq, decide_eq_false c7]⟩
        clear c7
        go_wp2_with (first | (go_at_call 61; refine (frame_Encode.calls 20 x0 x1 x2 A3 c3 x3 [] 1 _ (Kd.C_below HRP.out HS.out.be) hc3 HE.out).mono ?_; rintro e_ w3 ⟨vx, rfl, _, hb⟩; have HS3 := Aside0.mk (HS.out.below hb); clear hb hy0 hy1 hy2 hy3 HS; have hy0_ := (HS3.out.be.cell (World.block_lt_of_cell? w _ HY0w.out)).trans HY0w.out; have hy1_ := (HS3.out.be.cell (World.block_lt_of_cell? w _ HY1w.out)).trans HY1w.out; have hy2_ := (HS3.out.be.cell (World.block_lt_of_cell? w _ HY2w.out)).trans HY2w.out; have hy3_ := (HS3.out.be.cell (World.block_lt_of_cell? w _ HY3w.out)).trans HY3w.out) | (go_at_call 62; refine (frame_Right.calls x0 x1 x2 A3 c3 x3 false _ (Kd.C_below HRP.out HS3.out.be) hc3 HRT.out).mono ?_; rintro e_ w4 ⟨rfl, hb⟩; have HS4 := Aside0.mk (HS3.out.below hb); clear hb HS3 hy0_ hy1_ hy2_ hy3_))
        go_roundg k1
        case measure => omega
        case rel => exact ⟨i + 1, ks, (by first | rfl | rw [HW.out]), ⟨by have := HK.out; omega⟩, HS4, HFI, ⟨by have := HL.out; have := HK.out; omega⟩⟩
    · have c5b0 : decide (i < (l0.length : Int)) = false := decide_eq_false c5
      have hn : ks.length ≤ 21 := by have := HL.out; have := HK.out; omega
      have hbl : (Bs ks).length ≤ 100000 := by
        have h1 : ∀ ks : List S67, (∀ x ∈ ks, Fine 2000 x) → (Bs ks).length ≤ 2009 * ks.length := fun ks => by
          induction ks with
          | nil => intro _; simp [Bs_nil]
          | cons x fs ih =>
            intro h
            have h1 := (h x List.mem_cons_self).2.1
            have h2 := ih (fun y hy => h y (List.mem_cons_of_mem _ hy))
            rw [Bs_cons, List.length_append, enc_length, List.length_cons]
            omega
        have h2 := h1 ks HFI.out
        omega
      have HALL : Aside0 (frame_All.f 5000 (Bs ks) 2000 = some (ks, (((Bs ks).length : Nat) : Int), 0)) := ⟨rallE HFI.out (by omega) (by omega) (by omega)⟩
      have HLI : Aside0 (gantletref02_List.f 5000 ks ks = some true) := ⟨listE (B := 2000) (fun x hx => by have := (HFI.out x hx).2.1; omega) (by omega) (by omega) (by omega)⟩
      obtain ⟨s, hs⟩ : ∃ s : Nat, a2 % (((Bs ks).length : Int) + 1) = (s : Int) := ⟨(a2 % (((Bs ks).length : Int) + 1)).toNat, by rw [Int.toNat_of_nonneg (Int.emod_nonneg _ (by omega))]⟩
      have hsl : s ≤ (Bs ks).length := by have := Int.emod_lt_of_pos a2 (show (0 : Int) < ((Bs ks).length : Int) + 1 by omega); omega
      obtain ⟨at_, hcut⟩ := cut_all HFI.out s hsl (by omega) (by omega) (show ks.length + 10 < 5000 by omega)
      have hwa := (wh_all ks s hsl).1
      have hwl := wh_le (endsF ks) s ks.length
      have HRD : Aside0 (∀ j : Nat, j < ks.length → rd (endsF ks) (j : Int) = ((off ks (j + 1) : Nat) : Int)) := ⟨rd_endsF ks⟩
      have hel := endsF_length ks
      obtain ⟨bk, hbk⟩ : ∃ bk, Bs ks = bk := ⟨_, rfl⟩
      obtain ⟨es, hes⟩ : ∃ es, endsF ks = es := ⟨_, rfl⟩
      rw [hbk] at HALL hs hsl hcut hbl HS
      rw [hes] at HRD hel hcut hwa hwl HS
      rw [← hel] at hcut hwa hwl
      have HCUT := Aside0.mk hcut
      have HWA := Aside0.mk hwa
      have HEL := Aside0.mk hel
      clear hbk hes hcut hwa hel c5
      obtain ⟨Ab, cb, e0, hcb, hCb⟩ := HS.out.readB
      subst e0
      obtain ⟨Ak, ck, e0, hck, hCk⟩ := HS.out.rk.reads
      subst e0
      obtain ⟨Ae, ce, e0, hce, hCe⟩ := HS.out.readE
      subst e0
      have HCB := Aside0.mk hCb
      have HCK := Aside0.mk hCk
      have HCE := Aside0.mk hCe
      clear hCb hCk hCe
      go_wp2_with (first | (go_at_call 64; refine (frame_All.calls 5000 Ab cb bk 2000 ks (bk.length : Int) 0 _ HCB.out hcb HALL.out).mono ?_; rintro e_ w2 ⟨v2, rfl, hS2, hb2⟩; obtain ⟨A2, c2, rfl, hc2, hC2⟩ := Kd.S_reads hS2; have HB2 := Aside0.mk hb2; have HC2 := Aside0.mk hC2; clear hS2 hb2 hC2) | (go_at_call 44; refine (gantletref02_List.calls 5000 A2 c2 ks Ak ck ks true _ HC2.out hc2 (Kd.C_below HCK.out HB2.out) hck HLI.out).mono ?_; rintro e_ w3 ⟨rfl, hb3⟩; have HB3 := Aside0.mk (below_step HB2.out hb3); clear hb3 HB2 HC2))
      have HS3 := Aside0.mk (HS.out.below HB3.out)
      have HCB3 := Aside0.mk (Kd.C_below HCB.out HB3.out)
      have HCK3 := Aside0.mk (Kd.C_below HCK.out HB3.out)
      have HCE3 := Aside0.mk (Kd.C_below HCE.out HB3.out)
      clear HS HCB HCK HCE HB3
      rw [hs]
      clear hs
      have HWL := Aside0.mk hwl
      clear hwl
      go_loopg [22, 23] (es.length + 1) (fun kq v22 v23 w' => ∃ j : Nat, v23 = .int .i64 (j : Int) ∧ v22 = .int .i64 ((wh es s j : Nat) : Int) ∧ Aside0 (j + kq = es.length + 1 ∧ j ≤ es.length) ∧ w' = w3)
      case atStart => exact ⟨0, rfl, rfl, ⟨by omega⟩, rfl⟩
      case round =>
        obtain ⟨j, rfl, rfl, HJ, rfl⟩ := hrel
        by_cases c8 : j < es.length
        · obtain ⟨ad, e0, hx⟩ := Kd.at_int HCE3.out (j : Int) (by omega) (by omega)
          subst e0
          rw [Int.toNat_natCast] at hx
          have hwr : wrap64 ((j : Int) + 1) = (j : Int) + 1 := by have := HEL.out; unfold wrap64; omega
          have HW2 := Aside0.mk hwr
          clear hwr
          obtain ⟨k2, hk2⟩ : ∃ q, gk = q + 1 := ⟨gk - 1, by have := HJ.out; omega⟩
          subst hk2
          have hj25 : j ≤ 25 := by have := HEL.out; omega
          have HWH : Aside0 (wh es s (j + 1) = if rd es (j : Int) ≤ s then j + 1 else wh es s j) := ⟨rfl⟩
          obtain ⟨x, hx2⟩ : ∃ x, rd es (j : Int) = x := ⟨_, rfl⟩
          rw [hx2] at hx HWH
          clear hx2
          by_cases c9 : x ≤ (s : Int)
          · have c9b : decide (x ≤ (s : Int)) = true := decide_eq_true c9
            go_wp2
            go_roundg k2
            case measure => omega
            case rel => exact ⟨j + 1, (by first | rfl | (rw [HW2.out]; rfl) | (push_cast; rfl)), (by rw [HWH.out, if_pos c9]; first | rfl | (rw [HW2.out]; rfl)), ⟨by have := HJ.out; omega⟩, rfl⟩
          · have c9b : decide (x ≤ (s : Int)) = false := decide_eq_false c9
            go_wp2
            go_roundg k2
            case measure => omega
            case rel => exact ⟨j + 1, (by first | rfl | (rw [HW2.out]; rfl) | (push_cast; rfl)), (by rw [HWH.out, if_neg (by omega)]), ⟨by have := HJ.out; omega⟩, rfl⟩
        · obtain rfl : j = es.length := by have := HJ.out; omega
          obtain ⟨tk, htk⟩ : ∃ tk, ks.take (wh es (s : Int) es.length) = tk := ⟨_, rfl⟩
          have htl : tk.length = wh es (s : Int) es.length := by rw [← htk, List.length_take]; have := HWL.out; have := HEL.out; omega
          have HLT : Aside0 (gantletref02_List.f 5000 tk tk = some true) := ⟨listE (B := 2000) (fun x hx => by have := (HFI.out x (by rw [← htk] at hx; exact List.mem_of_mem_take hx)).2.1; omega) (by have := HWL.out; have := HEL.out; omega) (by omega) (by have := HWL.out; have := HEL.out; omega)⟩
          have hkt : k67.C wr Ak tk.length tk := by
            have h := Kd.C_take HCK3.out (show wh es (s : Int) es.length ≤ ks.length by have := HWL.out; have := HEL.out; omega)
            rw [htk] at h
            exact h
          have hbt : (bk.take s).length = s := by rw [List.length_take]; omega
          have hct : Kd.C (Kd.int .u8) wr Ab (bk.take s).length (bk.take s) := Kd.C_take HCB3.out hsl
          have hcut := HCUT.out
          rw [htk] at hcut
          have hcl : Calls Try.prog 64 #[.slice Ab s cb, .int .i64 2000] wr fun e w' => ∃ A c, e = .returned (.tuple #[.slice A tk.length c, .int .i64 at_, .int .i64 (if s = off ks (wh es (s : Int) es.length) then 0 else 2)]) ∧ tk.length ≤ c ∧ Kd.C k67 w' A tk.length tk ∧ Below wr.heap.size wr w' := by
            have h := frame_All.calls 5000 Ab cb (bk.take s) 2000 tk at_ _ wr hct (by omega) hcut
            rw [hbt] at h
            refine h.mono ?_
            rintro e w' ⟨v, rfl, hS, hB⟩
            obtain ⟨A, c, rfl, hc, hC⟩ := Kd.S_reads hS
            exact ⟨A, c, rfl, hc, hC, hB⟩
          have HCL := Aside0.mk hcl
          have HKT := Aside0.mk hkt
          have hl44 : ∀ (W1 : World) (A : Option Addr) (c : Nat), tk.length ≤ c → Kd.C k67 W1 A tk.length tk → Below wr.heap.size wr W1 → Calls Try.prog 44 #[.slice A tk.length c, .slice Ak (wh es (s : Int) es.length) ck] W1 fun e w' => e = .returned (.bool true) ∧ Below W1.heap.size W1 w' := fun W1 A c hc hC hB => by
            rw [← htl]
            exact gantletref02_List.calls 5000 A c tk Ak ck tk true W1 hC hc (Kd.C_below hkt hB) (by rw [htl]; have := HWL.out; have := HEL.out; omega) HLT.out
          have HL44 := Aside0.mk hl44
          have HWO := HWA
          have hwk : wh es (s : Int) es.length ≤ ks.length := by have := HWL.out; have := HEL.out; omega
          have hek : es.length = ks.length := HEL.out
          clear hcut hct hbt htl hcl hkt hl44 htk HCUT HWA HWL HCK3
          generalize hWW : wh es (s : Int) es.length = W at *
          clear hWW
          have hwe : W ≤ es.length := by omega
          by_cases d0 : s = 0
          · subst d0
            have ho : off ks W = 0 := by have := HWO.out; omega
            have HIF : Aside0 ((if 0 = off ks W then (0 : Int) else 2) = 0) := ⟨by rw [ho]; rfl⟩
            clear hek
            go_wp2_with (first | (go_at_call 64; refine HCL.out.mono ?_; rintro e_ w4 ⟨A4, c4, he, hc4, hC4, hB4⟩; rw [HIF.out] at he; subst he; have HB4 := Aside0.mk hB4; have HC4 := Aside0.mk hC4; clear hB4 hC4 HCL) | (go_at_call 44; refine (HL44.out _ A4 c4 hc4 HC4.out HB4.out).mono ?_; rintro e_ w5 ⟨rfl, hB5⟩; have HB5 := Aside0.mk (below_step (below_step HS3.out.be HB4.out) hB5); clear hB5 HL44 HB4 HC4) | (go_at_call 60; refine (gantletlaw02_alive.calls 60 true _ HAL.out).mono ?_; rintro e_ w6 ⟨rfl, hb⟩; have HB6 := Aside0.mk (below_step HB5.out hb); clear hb HB5))
            go_ret
            exact ⟨rfl, HB6.out⟩
          · have d0b : ((s : Int) == 0) = false := beq_eq_false_iff_ne.mpr (by omega)
            cases W with
            | zero =>
              have HIF : Aside0 ((if s = off ks 0 then (0 : Int) else 2) = 2) := ⟨if_neg (by rw [off_zero]; exact d0)⟩
              clear hek
              go_wp2_with (first | (go_at_call 64; refine HCL.out.mono ?_; rintro e_ w4 ⟨A4, c4, he, hc4, hC4, hB4⟩; rw [HIF.out] at he; subst he; have HB4 := Aside0.mk hB4; have HC4 := Aside0.mk hC4; clear hB4 hC4 HCL) | (go_at_call 44; refine (HL44.out _ A4 c4 hc4 HC4.out HB4.out).mono ?_; rintro e_ w5 ⟨rfl, hB5⟩; have HB5 := Aside0.mk (below_step (below_step HS3.out.be HB4.out) hB5); clear hB5 HL44 HB4 HC4) | (go_at_call 60; refine (gantletlaw02_alive.calls 60 true _ HAL.out).mono ?_; rintro e_ w6 ⟨rfl, hb⟩; have HB6 := Aside0.mk (below_step HB5.out hb); clear hb HB5))
              go_ret
              exact ⟨rfl, HB6.out⟩
            | succ V =>
              have hro : rd es (V : Int) = ((off ks (V + 1) : Nat) : Int) := HRD.out V (by omega)
              obtain ⟨ad, e0, hx⟩ := Kd.at_int HCE3.out (V : Int) (by omega) (by omega)
              subst e0
              rw [Int.toNat_natCast, hro] at hx
              have hve : V < es.length := by omega
              have hve2 : (V : Int) < (es.length : Int) := by omega
              have q3 : ((V : Int) < (es.length : Int)) = True := eq_true hve2
              have q4 : (0 ≤ (V : Int)) = True := eq_true (by omega)
              have d1b : decide ((0 : Int) < (V : Int) + 1) = true := decide_eq_true (by omega)
              clear hek hro
              by_cases d2 : s = off ks (V + 1)
              · have HIF : Aside0 ((if s = off ks (V + 1) then (0 : Int) else 2) = 0) := ⟨if_pos d2⟩
                rw [← d2] at hx
                clear d2 d0
                go_wp2_with (first | (go_at_call 64; refine HCL.out.mono ?_; rintro e_ w4 ⟨A4, c4, he, hc4, hC4, hB4⟩; rw [HIF.out] at he; subst he; have HB4 := Aside0.mk hB4; have HC4 := Aside0.mk hC4; clear hB4 hC4 HCL) | (go_at_call 44; refine (HL44.out _ A4 c4 hc4 HC4.out HB4.out).mono ?_; rintro e_ w5 ⟨rfl, hB5⟩; have HB5 := Aside0.mk (below_step (below_step HS3.out.be HB4.out) hB5); clear hB5 HL44 HB4 HC4) | (go_at_call 60; refine (gantletlaw02_alive.calls 60 true _ HAL.out).mono ?_; rintro e_ w6 ⟨rfl, hb⟩; have HB6 := Aside0.mk (below_step HB5.out hb); clear hb HB5))
                go_ret
                exact ⟨rfl, HB6.out⟩
              · have HIF : Aside0 ((if s = off ks (V + 1) then (0 : Int) else 2) = 2) := ⟨if_neg d2⟩
                have d2b : (((off ks (V + 1) : Nat) : Int) == (s : Int)) = false := beq_eq_false_iff_ne.mpr (by omega)
                clear d2 d0
                go_wp2_with (first | (go_at_call 64; refine HCL.out.mono ?_; rintro e_ w4 ⟨A4, c4, he, hc4, hC4, hB4⟩; rw [HIF.out] at he; subst he; have HB4 := Aside0.mk hB4; have HC4 := Aside0.mk hC4; clear hB4 hC4 HCL) | (go_at_call 44; refine (HL44.out _ A4 c4 hc4 HC4.out HB4.out).mono ?_; rintro e_ w5 ⟨rfl, hB5⟩; have HB5 := Aside0.mk (below_step (below_step HS3.out.be HB4.out) hB5); clear hB5 HL44 HB4 HC4) | (go_at_call 60; refine (gantletlaw02_alive.calls 60 true _ HAL.out).mono ?_; rintro e_ w6 ⟨rfl, hb⟩; have HB6 := Aside0.mk (below_step HB5.out hb); clear hb HB5))
                go_ret
                exact ⟨rfl, HB6.out⟩
def byteB (x : Int) : Bool := decide (0 ≤ x ∧ x < 256)
def gantletlaw02_FrameBack.f (l0 : List S67) (l1 : List Int) (a2 : Int) : Option Bool := if (l0.all (fun y => y.f3.all byteB) && l1.all byteB && decide (0 ≤ a2 ∧ a2 < 65536)) = true then some true else none
theorem gantletlaw02_FrameBack.calls (A0 : Option Addr) (c0 : Nat) (l0 : List S67) (A1 : Option Addr) (c1 : Nat) (l1 : List Int) (a2 : Int) (r : Bool) (w : World) (hr0 : Kd.C k67 w A0 l0.length l0) (hc0 : l0.length ≤ c0) (hr1 : Kd.C (Kd.int .u8) w A1 l1.length l1) (hc1 : l1.length ≤ c1) (h : gantletlaw02_FrameBack.f l0 l1 a2 = some r) :
    Calls Try.prog 10 #[.slice A0 l0.length c0, .slice A1 l1.length c1, .int .u16 a2] w fun e w' => e = .returned (.bool r) ∧ Below w.heap.size w w' := by
  unfold gantletlaw02_FrameBack.f at h
  by_cases hall : (l0.all (fun y => y.f3.all byteB) && l1.all byteB && decide (0 ≤ a2 ∧ a2 < 65536)) = true
  · rw [if_pos hall] at h
    obtain rfl := Option.some.inj h
    simp only [Bool.and_eq_true] at hall
    obtain ⟨⟨g0, g1⟩, g2⟩ := hall
    have g2 := of_decide_eq_true g2
    exact gantletlaw02_FrameBack.main A0 c0 l0 A1 c1 l1 a2 w hr0 hc0 hr1 hc1 (fun y hy z hz => of_decide_eq_true (List.all_eq_true.1 (List.all_eq_true.1 g0 y hy) z hz)) (fun z hz => of_decide_eq_true (List.all_eq_true.1 g1 z hz)) g2.1 g2.2
  · rw [if_neg hall] at h; cases h
end Go.Proofs.Ytbmnplojpeabmaa.QB
