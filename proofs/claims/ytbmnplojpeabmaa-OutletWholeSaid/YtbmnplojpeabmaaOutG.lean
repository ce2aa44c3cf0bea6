/-
  The walk of OutletWhole.
  Conditions: none of its own; lemmas that the claim's row rests on.
-/
import Derived.Test.YtbmnplojpeabmaaOutF
import Derived.WalkKit
namespace Go.Proofs.Ytbmnplojpeabmaa.QO
open Go.RowKit Go.Proofs.YtbmnplojpeabmaaW.PrintWords Go.Proofs.YtbmnplojpeabmaaW.PrintLast Go.Proofs.YtbmnplojpeabmaaW.PrintMore
attribute [local go_sem] max2_int min2_int max_two min_two max_three min_three max_four min_four
set_option linter.unusedVariables false
set_option linter.unusedSimpArgs false
open Go.Proofs.Ytbmnplojpeabmaa.Ob Go.Proofs.Ytbmnplojpeabmaa.FramePure
theorem fine_of {x : S67} (h : (Ef x).2 = 0) (hl : x.f3.length ≤ 500) (hb : WirePure.Bytes x.f3) : Fine 500 x ∧ (Ef x).1 = Bs [x] := by
  rw [Bs_one]
  unfold Ef at h ⊢
  by_cases hr : right x.f0 x.f1 x.f2 x.f3
  · rw [if_pos hr]
    exact ⟨⟨hr, by omega, hb⟩, rfl⟩
  · rw [if_neg hr] at h; cases h
theorem fine_no {x : S67} (h : (Ef x).2 ≠ 0) : (Ef x).1 = [] := by
  rcases Ef_two x with h2 | h2
  · exact absurd h2 h
  · exact h2.2
theorem Bs_len {fs : List S67} (h : ∀ x ∈ fs, Fine 500 x) : (Bs fs).length ≤ 509 * fs.length := by
  induction fs with
  | nil => simp [Bs_nil]
  | cons x fs ih =>
    have h1 := (h x List.mem_cons_self).2.1
    have h2 := ih (fun y hy => h y (List.mem_cons_of_mem _ hy))
    rw [Bs_cons, List.length_append, enc_length, List.length_cons]
    omega
set_option maxHeartbeats 16000000 in
set_option maxRecDepth 100000 in
theorem gantletlaw14_OutletWhole.main (A0 : Option Addr) (c0 : Nat) (l0 : List S58) (w : World) (hr0 : Kd.C k58 w A0 l0.length l0) (hc0 : l0.length ≤ c0) (hby : ∀ i : Int, 0 ≤ i → i < (l0.length : Int) → ∀ y ∈ (rd_T58 l0 i).f2, WirePure.Bytes y.f3) :
    Calls Try.prog 7 #[.slice A0 l0.length c0] w fun e w' => e = .returned (.bool true) ∧ Below w.heap.size w w' := by
  have hu67 := Try.underlying67
  have hu58 := Try.underlying58
  have HR0 := Aside0.mk hr0
  have HC0 := Aside0.mk hc0
  have HY := Aside0.mk hby
  clear hr0 hc0 hby
  rcases fits_eq l0 with hf | ⟨hf, hl, hact⟩
  · have HF := Aside0.mk hf
    clear hf
    go_enter Try.func7, Try.ntmps7
    go_wp2_with (first | (go_at_call 33; refine (gantletlaw14_fits.calls 2000 A0 c0 l0 false _ HR0.out HC0.out HF.out).mono ?_; rintro e_ w1 ⟨rfl, hd⟩; have HB1 := Aside0.mk hd.below; clear hd) | (go_at_call 34; refine (gantletlaw14_alive.calls _).mono ?_; rintro e_ w2 ⟨rfl, hb⟩; have HB2 := Aside0.mk (below_step HB1.out hb); clear hb HB1))
    go_ret
    exact ⟨rfl, HB2.out⟩
  · have HF := Aside0.mk hf
    have HA := Aside0.mk hact
    clear hf hact
    go_enter Try.func7, Try.ntmps7
    go_wp2_with (first | (go_at_call 33; refine (gantletlaw14_fits.calls 2000 A0 c0 l0 true _ HR0.out HC0.out HF.out).mono ?_; rintro e_ w1 ⟨rfl, hd⟩; have HB1 := Aside0.mk hd.below; clear hd) | (go_at_call 35; refine (outlet_New.is _).mono ?_; rintro e_ w2 ⟨g, rfl, hI, hg, hb⟩; have HS2 := Aside0.mk (Stw.start hI (below_step HB1.out hb) (Nat.le_trans HB1.out.size hg)); clear hI hg hb HB1))
    go_loopg [5, 6, 7] (l0.length + 1) (fun kq v5 v6 v7 w' => ∃ (i : Int) (v : Value) (b o : List Int) (fs : List S67), v7 = .int .i64 i ∧ Aside0 (0 ≤ i ∧ i + kq = l0.length + 1) ∧ Aside0 (Stw w w' g v v6 v5 b o fs) ∧ Aside0 (o ++ b = Bs fs) ∧ Aside0 (∀ x ∈ fs, Fine 500 x) ∧ Aside0 (fs.length ≤ 30 * i.toNat))
    case atStart => exact ⟨0, _, [], [], [], rfl, ⟨by omega⟩, HS2, ⟨rfl⟩, ⟨fun x hx => by cases hx⟩, ⟨by simp⟩⟩
    case round =>
      clear HS2
      obtain ⟨i, v, b, o, fs, rfl, HK, HS, HE, HFI, HL⟩ := hrel
      by_cases c5 : i < (l0.length : Int)
      · have h0 := HK.out.1
        have c5b0 : decide (i < (l0.length : Int)) = true := decide_eq_true c5
        have c6b0 : decide (0 ≤ i) = true := decide_eq_true h0
        obtain ⟨ad, A2, c2, e1, hx0, hx1, hx2, hc2, hrf⟩ := at_T58 HR0.out i h0 c5
        cases e1
        have HX1w := Aside0.mk hx1
        have HX2w := Aside0.mk hx2
        have HRF := Aside0.mk hrf
        have hy := HY.out i h0 c5
        have ha := HA.out i h0 c5
        have hfl := rd67_mem (P := fun x => x.f3.length ≤ 500) ha.2
        have HFL := Aside0.mk hfl
        have HYY := Aside0.mk hy
        have hfn := ha.1
        have p1 : (0 ≤ i) = True := eq_true h0
        have q1 : (i < (l0.length : Int)) = True := eq_true c5
        have hwr : wrap64 (i + 1) = i + 1 := by unfold wrap64; omega
        have HW := Aside0.mk hwr
        clear hwr hrf ha hfl hy hx0 hx1 hx2
        obtain ⟨k1, hk1⟩ : ∃ j, gk = j + 1 := ⟨gk - 1, by have := HK.out; omega⟩
        subst hk1
        generalize (rd_T58 l0 i).f0 = z at *
        generalize (rd_T58 l0 i).f1 = n at *
        generalize (rd_T58 l0 i).f2 = fl at *
        go_wp2
        obtain ⟨wo, rfl⟩ : ∃ wo : World, wo = wr := ⟨_, rfl⟩
        have HSW := Aside0.mk HS.out.be
        go_loopg [5, 8] (fl.length + 1) (fun kq v5 v8 w' => ∃ (j : Int) (v' : Value) (b' : List Int) (fs' : List S67), v8 = .int .i64 j ∧ Aside0 (0 ≤ j ∧ j + kq = fl.length + 1 ∧ j ≤ fl.length) ∧ Aside0 (Stw w w' g v' u6 v5 b' o fs') ∧ Aside0 (o ++ b' = Bs fs') ∧ Aside0 (∀ x ∈ fs', Fine 500 x) ∧ Aside0 (fs'.length ≤ 30 * i.toNat + j.toNat))
        case atStart => exact ⟨0, v, b, fs, rfl, ⟨by omega⟩, HS, HE, HFI, ⟨by have := HL.out; omega⟩⟩
        case round =>
          clear HS HE HFI HL
          obtain ⟨j, v', b', fs', rfl, HK2, HS, HE, HFI, HL⟩ := hrel
          have hx1 := (HS.out.be.cell (World.block_lt_of_cell? w _ HX1w.out)).trans HX1w.out
          have hx2 := (HS.out.be.cell (World.block_lt_of_cell? w _ HX2w.out)).trans HX2w.out
          have hb1 : b'.length ≤ 1000000 := by
            have h1 := congrArg List.length HE.out
            have h2 := Bs_len HFI.out
            have h3 := HL.out
            have h4 := HK2.out
            rw [List.length_append] at h1
            omega
          have HB1 := Aside0.mk hb1
          have hn1 : fs'.length ≤ 100000 := by have h3 := HL.out; have h4 := HK2.out; omega
          have HN1 := Aside0.mk hn1
          clear hb1 hn1
          by_cases c7 : j < (fl.length : Int)
          · have c7b0 : decide (j < (fl.length : Int)) = true := decide_eq_true c7
            have g0 := HK2.out.1
            have g0b : decide (0 ≤ j) = true := decide_eq_true g0
            obtain ⟨adx, A3, c3, e1, hy0, hy1, hy2, hy3, hc3, hrp⟩ := at_T67 HRF.out j g0 c7
            cases e1
            have p2 : (0 ≤ j) = True := eq_true g0
            have q2 : (j < (fl.length : Int)) = True := eq_true c7
            have hm0 : rd_T67 fl j ∈ fl := (drop_rd (fl := fl) (i := j) g0 c7).2
            have hxl := HFL.out _ hm0
            have hxb := HYY.out _ hm0
            have HY0w := Aside0.mk hy0
            have HY1w := Aside0.mk hy1
            have HY2w := Aside0.mk hy2
            have HY3w := Aside0.mk hy3
            have HBW := Aside0.mk HS.out.be
            replace hy0 := (HBW.out.cell (World.block_lt_of_cell? w _ hy0)).trans hy0
            replace hy1 := (HBW.out.cell (World.block_lt_of_cell? w _ hy1)).trans hy1
            replace hy2 := (HBW.out.cell (World.block_lt_of_cell? w _ hy2)).trans hy2
            replace hy3 := (HBW.out.cell (World.block_lt_of_cell? w _ hy3)).trans hy3
            have hwr2 : wrap64 (j + 1) = j + 1 := by unfold wrap64; omega
            have HW2 := Aside0.mk hwr2
            clear hwr2
            obtain ⟨k2, hk2⟩ : ∃ q, gk = q + 1 := ⟨gk - 1, by have := HK2.out; omega⟩
            subst hk2
            generalize hX : rd_T67 fl j = X at *
            obtain ⟨x0, x1, x2, x3⟩ := X
            simp only [] at hy0 hy1 hy2 hy3 hc3 hrp hxl hxb
            have HRP := Aside0.mk hrp
            have HXB := Aside0.mk hxb
            clear hrp hX hm0 hxb
            obtain ⟨⟨r1, r2⟩, hEq⟩ : ∃ y, Ef ⟨x0, x1, x2, x3⟩ = y := ⟨_, rfl⟩
            have HEQ := Aside0.mk hEq
            clear hEq
            have hef := Aside0.mk (fun h => fine_of (x := ⟨x0, x1, x2, x3⟩) h hxl HXB.out)
            by_cases c8 : r2 = 0
            · subst c8
              have HFX : Aside0 (Fine 500 ⟨x0, x1, x2, x3⟩ ∧ r1 = Bs [⟨x0, x1, x2, x3⟩]) := ⟨by have h_ := hef.out (by rw [HEQ.out]); rw [HEQ.out] at h_; exact h_⟩
              clear hef
              go_wp2_with (first | (go_at_call 40; refine (HS.out.push x0 x1 x2 A3 c3 x3 (Kd.C_below HRP.out HS.out.be) hc3 hxl (by have := HB1.out; omega)).mono ?_; rintro e_ w3 ⟨he, v3, hS⟩; rw [HEQ.out] at he hS; subst he; have HS3 := Aside0.mk hS; clear hx1 hx2 hy0 hy1 hy2 hy3 HS hS; have hx2_ := (HS3.out.be.cell (World.block_lt_of_cell? w _ HX2w.out)).trans HX2w.out; have hy0_ := (HS3.out.be.cell (World.block_lt_of_cell? w _ HY0w.out)).trans HY0w.out; have hy1_ := (HS3.out.be.cell (World.block_lt_of_cell? w _ HY1w.out)).trans HY1w.out; have hy2_ := (HS3.out.be.cell (World.block_lt_of_cell? w _ HY2w.out)).trans HY2w.out; have hy3_ := (HS3.out.be.cell (World.block_lt_of_cell? w _ HY3w.out)).trans HY3w.out) | (at_builtin; refine RowF.append k67 w.heap.size rfl (.tmp 50) (.tmp 59) 56 67 (.agg #[(.int .i64 0), (.int .i64 0), (.int .i64 0), (.slice none 0 0)]) 48 rfl Try.underlying56 info67 rfl (by decide) (by decide) _ fs' ⟨x0, x1, x2, x3⟩ [.int .i64 x0, .int .i64 x1, .int .i64 x2, .slice A3 x3.length c3] rfl rfl (FK67_of HRP.out hc3 HS3.out.be) HS3.out.row HS3.out.be.size (by have := HN1.out; omega) ?_; intro v1 w4 hR hg hat; have HS4 := Aside0.mk (HS3.out.rowGrow hR hg hat); clear hR hg hat HS3 hx2_ hy0_ hy1_ hy2_ hy3_))
              go_roundg k2
              case measure => omega
              case rel => exact ⟨j + 1, v3, b' ++ r1, fs' ++ [⟨x0, x1, x2, x3⟩], (by first | rfl | rw [HW2.out]), ⟨by have := HK2.out; omega⟩, HS4, ⟨by rw [Bs_append, ← HFX.out.2, ← HE.out, List.append_assoc]⟩, ⟨fun x hx => by rcases List.mem_append.1 hx with h | h; exact HFI.out x h; (rw [List.mem_singleton.1 h]; exact HFX.out.1)⟩, ⟨by have := HL.out; have := HK2.out; simp; omega⟩⟩
            · have HR1 : Aside0 (r1 = []) := ⟨by have h_ := fine_no (x := ⟨x0, x1, x2, x3⟩) (by rw [HEQ.out]; exact c8); rw [HEQ.out] at h_; exact h_⟩
              have c8b : (r2 == 0) = false := beq_eq_false_iff_ne.mpr c8
              clear hef c8
              go_wp2_with (first | (go_at_call 40; refine (HS.out.push x0 x1 x2 A3 c3 x3 (Kd.C_below HRP.out HS.out.be) hc3 hxl (by have := HB1.out; omega)).mono ?_; rintro e_ w3 ⟨he, v3, hS⟩; rw [HEQ.out] at he hS; subst he; have HS3 := Aside0.mk hS; clear hx1 hx2 hy0 hy1 hy2 hy3 HS hS))
              go_roundg k2
              case measure => omega
              case rel => exact ⟨j + 1, v3, b', fs', (by first | rfl | rw [HW2.out]), ⟨by have := HK2.out; omega⟩, ⟨by have h_ := HS3.out; rw [HR1.out, List.append_nil] at h_; exact h_⟩, HE, HFI, ⟨by have := HL.out; have := HK2.out; omega⟩⟩
          · have c7b0 : decide (j < (fl.length : Int)) = false := decide_eq_false c7
            obtain ⟨q, hq⟩ : ∃ q, b'.take n.toNat = q := ⟨_, rfl⟩
            obtain ⟨d, hd⟩ : ∃ d, b'.drop n.toNat = d := ⟨_, rfl⟩
            have HQ := Aside0.mk hq
            have HD := Aside0.mk hd
            have HQD : Aside0 (q ++ d = b') := ⟨by rw [← hq, ← hd, List.take_append_drop]⟩
            have hql : q.length ≤ n.toNat := by rw [← hq, List.length_take]; omega
            have hlen := congrArg List.length HQD.out
            rw [List.length_append] at hlen
            have hne : (((d.length : Int) + (q.length : Int)) != (b'.length : Int)) = false := by rw [bne_eq_false_iff_eq]; omega
            have hd1 : d.length ≤ 1000000 := by have := HB1.out; omega
            have hq1 : q.length ≤ 1000000 := by have := HB1.out; omega
            have HO1 : Aside0 (o.length ≤ 1000000) := ⟨by have h1 := congrArg List.length HE.out; have h2 := Bs_len HFI.out; have h3 := HL.out; have h4 := HK2.out; rw [List.length_append] at h1; omega⟩
            clear hq hd hlen hx1
            by_cases c9 : 0 < q.length
            · have c9b : decide ((0 : Int) < (q.length : Int)) = true := decide_eq_true (by omega)
              have c9c : decide (n < (q.length : Int)) = false := decide_eq_false (by omega)
              clear hql
              go_wp2_with (first | (have h_ := HS; clear h_; go_at_call 42; refine (outlet_Len.is _ g v' b' HS.out.io).mono ?_; rintro e_ w3 ⟨rfl, nd_, hw_⟩; have hb3 : Below wr.heap.size wr w3 := (by subst hw_; exact pw_below_drewN (Below.refl _ _) nd_); have HS3 := Aside0.mk (HS.out.below hb3); have hx1_ := (HS3.out.be.cell (World.block_lt_of_cell? w _ HX1w.out)).trans HX1w.out; clear hw_ hb3 HS) | (go_at_call 36; refine (HS3.out.drain n (by have := HB1.out; omega)).mono ?_; rintro e_ w4 ⟨v4, Aq, cq, he, hcq, hCq, hS⟩; rw [HQ.out] at he hcq hCq; rw [HD.out] at hS; subst he; have HS4 := Aside0.mk hS; have HCQ := Aside0.mk hCq; clear hx1_ hS hCq HS3; have hx1_ := (HS4.out.be.cell (World.block_lt_of_cell? w _ HX1w.out)).trans HX1w.out) | (at_builtin; refine Gr.append (Value.int .u8) 0 (h1 := u8one) rfl (.tmp 70) (.tmp 71) 22 5 (.int .u8 0) 1 rfl Try.underlying22 info5 rfl (by decide) _ o q _ _ _ rfl rfl HS4.out.out HCQ.out (by have := HO1.out; omega) ?_; intro vo1 w5 hG hg hat; have HS5 := Aside0.mk (HS4.out.outGrow hG hg hat); clear hG hg hat hx1_ HS4; have hx1_ := (HS5.out.be.cell (World.block_lt_of_cell? w _ HX1w.out)).trans HX1w.out) | (have h_ := HS5; clear h_; go_at_call 42; refine (outlet_Len.is _ g v4 d HS5.out.io).mono ?_; rintro e_ w6 ⟨rfl, nd_, hw_⟩; have hb6 : Below w5.heap.size w5 w6 := (by subst hw_; exact pw_below_drewN (Below.refl _ _) nd_); have HS6 := Aside0.mk (HS5.out.below hb6); clear hx1_ hw_ hb6 HS5; have hx1_ := (HS6.out.be.cell (World.block_lt_of_cell? w _ HX1w.out)).trans HX1w.out))
              go_roundg k1
              case measure => omega
              case rel => exact ⟨i + 1, v4, d, o ++ q, fs', (by first | rfl | rw [HW.out]), ⟨by have := HK.out; omega⟩, HS6, ⟨by rw [List.append_assoc, HQD.out]; exact HE.out⟩, HFI, ⟨by have := HL.out; have := HK2.out; have := HK.out; omega⟩⟩
            · have c9b : decide ((0 : Int) < (q.length : Int)) = false := decide_eq_false (by omega)
              clear hql
              go_wp2_with (first | (have h_ := HS; clear h_; go_at_call 42; refine (outlet_Len.is _ g v' b' HS.out.io).mono ?_; rintro e_ w3 ⟨rfl, nd_, hw_⟩; have hb3 : Below wr.heap.size wr w3 := (by subst hw_; exact pw_below_drewN (Below.refl _ _) nd_); have HS3 := Aside0.mk (HS.out.below hb3); have hx1_ := (HS3.out.be.cell (World.block_lt_of_cell? w _ HX1w.out)).trans HX1w.out; clear hw_ hb3 HS) | (go_at_call 36; refine (HS3.out.drain n (by have := HB1.out; omega)).mono ?_; rintro e_ w4 ⟨v4, Aq, cq, he, hcq, hCq, hS⟩; rw [HQ.out] at he hcq hCq; rw [HD.out] at hS; subst he; have HS4 := Aside0.mk hS; have HCQ := Aside0.mk hCq; clear hx1_ hS hCq HS3; have hx1_ := (HS4.out.be.cell (World.block_lt_of_cell? w _ HX1w.out)).trans HX1w.out) | (at_builtin; refine Gr.append (Value.int .u8) 0 (h1 := u8one) rfl (.tmp 70) (.tmp 71) 22 5 (.int .u8 0) 1 rfl Try.underlying22 info5 rfl (by decide) _ o q _ _ _ rfl rfl HS4.out.out HCQ.out (by have := HO1.out; omega) ?_; intro vo1 w5 hG hg hat; have HS5 := Aside0.mk (HS4.out.outGrow hG hg hat); clear hG hg hat hx1_ HS4; have hx1_ := (HS5.out.be.cell (World.block_lt_of_cell? w _ HX1w.out)).trans HX1w.out) | (have h_ := HS5; clear h_; go_at_call 42; refine (outlet_Len.is _ g v4 d HS5.out.io).mono ?_; rintro e_ w6 ⟨rfl, nd_, hw_⟩; have hb6 : Below w5.heap.size w5 w6 := (by subst hw_; exact pw_below_drewN (Below.refl _ _) nd_); have HS6 := Aside0.mk (HS5.out.below hb6); clear hx1_ hw_ hb6 HS5; have hx1_ := (HS6.out.be.cell (World.block_lt_of_cell? w _ HX1w.out)).trans HX1w.out))
              go_roundg k1
              case measure => omega
              case rel => exact ⟨i + 1, v4, d, o ++ q, fs', (by first | rfl | rw [HW.out]), ⟨by have := HK.out; omega⟩, HS6, ⟨by rw [List.append_assoc, HQD.out]; exact HE.out⟩, HFI, ⟨by have := HL.out; have := HK2.out; have := HK.out; omega⟩⟩
      · have c5b0 : decide (i < (l0.length : Int)) = false := decide_eq_false c5
        have hbl : b.length ≤ 1000000 := by
          have h1 := congrArg List.length HE.out
          have h2 := Bs_len HFI.out
          have h3 := HL.out
          have h4 := HK.out
          rw [List.length_append] at h1
          omega
        have HBL := Aside0.mk hbl
        have hol : o.length ≤ 1000000 := by
          have h1 := congrArg List.length HE.out
          have h2 := Bs_len HFI.out
          have h3 := HL.out
          have h4 := HK.out
          rw [List.length_append] at h1
          omega
        have HOL := Aside0.mk hol
        have hns : fs.length ≤ 930 := by have h3 := HL.out; have h4 := HK.out; omega
        have hBl : (Bs fs).length ≤ 500000 := by have h2 := Bs_len HFI.out; omega
        have HALL : Aside0 (gantletref02_All.f 1000 (Bs fs) 500 = some (fs, (((Bs fs).length : Nat) : Int), 0)) := ⟨rallE HFI.out (by omega) (by omega) (by omega)⟩
        have HLI : Aside0 (gantletref02_List.f 2000 fs fs = some true) := ⟨listE (B := 500) (fun x hx => by have := (HFI.out x hx).2.1; omega) (by omega) (by omega) (by omega)⟩
        obtain ⟨q, hq⟩ : ∃ q, Bs fs = q := ⟨_, rfl⟩
        rw [hq] at HE HALL hBl
        have HTK : Aside0 (b.take ((b.length : Int)).toNat = b) := ⟨by rw [Int.toNat_natCast, List.take_length]⟩
        have HDP : Aside0 (b.drop ((b.length : Int)).toNat = []) := ⟨by rw [Int.toNat_natCast, List.drop_length]⟩
        have HQL := Aside0.mk hBl
        clear hbl hol hBl hq hns
        go_wp2_with (first | (have h_ := HS; clear h_; go_at_call 42; refine (outlet_Len.is _ g v b HS.out.io).mono ?_; rintro e_ w3 ⟨rfl, nd_, hw_⟩; have hb3 : Below wr.heap.size wr w3 := (by subst hw_; exact pw_below_drewN (Below.refl _ _) nd_); have HS3 := Aside0.mk (HS.out.below hb3); clear hw_ hb3 HS) | (go_at_call 36; refine (HS3.out.drain (b.length : Int) (by have := HBL.out; omega)).mono ?_; rintro e_ w4 ⟨v4, Aq, cq, he, hcq, hCq, hS⟩; rw [HTK.out] at he hcq hCq; rw [HDP.out] at hS; subst he; have HS4 := Aside0.mk hS; have HCQ := Aside0.mk hCq; clear hS hCq HS3) | (at_builtin; refine Gr.append (Value.int .u8) 0 (h1 := u8one) rfl (.tmp 95) (.tmp 99) 22 5 (.int .u8 0) 1 rfl Try.underlying22 info5 rfl (by decide) _ o b _ _ _ rfl rfl HS4.out.out HCQ.out (by have := HOL.out; have := HBL.out; omega) ?_; intro vo1 w5 hG hg hat; rw [HE.out] at hG; have HS5 := Aside0.mk (HS4.out.outGrow hG hg hat); clear hG hg hat HS4; obtain ⟨Ao, co, e0, hco, hCo⟩ := HS5.out.out.reads 0; subst e0; obtain ⟨Aw, cw, e0, hcw, hCw⟩ := HS5.out.row.reads; have HEW := Aside0.mk e0; have HCO := Aside0.mk hCo; clear hCo hCw e0) | (go_at_call 43; refine (gantletref02_All.calls 1000 Ao co q 500 fs (q.length : Int) 0 _ HCO.out hco HALL.out).mono ?_; rintro e_ w6 ⟨va, rfl, hSa, hb6⟩; have HS6 := Aside0.mk (HS5.out.below hb6); obtain ⟨Aa, ca, rfl, hca, hCa⟩ := Kd.S_reads hSa; obtain ⟨Aw2, cw2, e0, hcw2, hCw2⟩ := HS6.out.row.reads; subst e0; have HCA := Aside0.mk hCa; have HCW := Aside0.mk hCw2; clear hSa hb6 HS5 hCa hCw2) | (go_at_call 44; refine (gantletref02_List.calls 2000 Aa ca fs Aw2 cw2 fs true _ HCA.out hca HCW.out hcw2 HLI.out).mono ?_; rintro e_ w7 ⟨rfl, hb7⟩; have HS7 := Aside0.mk (HS6.out.below hb7); clear hb7 HS6) | (go_at_call 34; refine (gantletlaw14_alive.calls _).mono ?_; rintro e_ w8 ⟨rfl, hb⟩; have HS8 := Aside0.mk (HS7.out.below hb); clear hb HS7) | (have h_ := HS8; clear h_; go_at_call 42; refine (outlet_Len.is _ g v4 [] HS8.out.io).mono ?_; rintro e_ w9 ⟨rfl, nd_, hw_⟩; have hb9 : Below w8.heap.size w8 w9 := (by subst hw_; exact pw_below_drewN (Below.refl _ _) nd_); have HS9 := Aside0.mk (HS8.out.below hb9); clear hw_ hb9 HS8))
        go_ret
        exact ⟨rfl, HS9.out.be⟩
def byteB (x : Int) : Bool := decide (0 ≤ x ∧ x < 256)
def gantletlaw14_OutletWhole.f (l : List S58) : Option Bool := if l.all (fun x => x.f2.all fun y => y.f3.all byteB) = true then some true else none
theorem rd58_mem (l : List S58) (i : Int) (h0 : 0 ≤ i) (h1 : i < l.length) : rd_T58 l i ∈ l := by
  have hi : i.toNat < l.length := by omega
  have e : rd_T58 l i = l[i.toNat] := by simp [rd_T58, hi]
  rw [e]
  exact List.getElem_mem hi
theorem gantletlaw14_OutletWhole.calls (A0 : Option Addr) (c0 : Nat) (l0 : List S58) (r : Bool) (w : World) (hr0 : Kd.C k58 w A0 l0.length l0) (hc0 : l0.length ≤ c0) (h : gantletlaw14_OutletWhole.f l0 = some r) :
    Calls Try.prog 7 #[.slice A0 l0.length c0] w fun e w' => e = .returned (.bool r) ∧ Below w.heap.size w w' := by
  unfold gantletlaw14_OutletWhole.f at h
  by_cases hall : l0.all (fun x => x.f2.all fun y => y.f3.all byteB) = true
  · rw [if_pos hall] at h
    obtain rfl := Option.some.inj h
    refine gantletlaw14_OutletWhole.main A0 c0 l0 w hr0 hc0 (fun i h0 h1 y hy z hz => ?_)
    exact of_decide_eq_true (List.all_eq_true.1 (List.all_eq_true.1 (List.all_eq_true.1 hall _ (rd58_mem l0 i h0 h1)) y hy) z hz)
  · rw [if_neg hall] at h; cases h
end Go.Proofs.Ytbmnplojpeabmaa.QO
