/-
  The walk of OutletPlays.
  Conditions: none of its own; lemmas that the claim's row rests on.
-/
import Derived.Test.YtbmnplojpeabmaaOutD
import Derived.WalkKit
namespace Go.Proofs.Ytbmnplojpeabmaa.QO
open Go.RowKit Go.Proofs.YtbmnplojpeabmaaW.PrintWords Go.Proofs.YtbmnplojpeabmaaW.PrintLast Go.Proofs.YtbmnplojpeabmaaW.PrintMore
attribute [local go_sem] max2_int min2_int max_two min_two max_three min_three max_four min_four
set_option linter.unusedVariables false
set_option linter.unusedSimpArgs false
open Go.Proofs.Ytbmnplojpeabmaa.Ob Go.Proofs.Ytbmnplojpeabmaa.FramePure
theorem same_true {k : Nat} (l : List Int) (h : l.length ≤ 9223372036854775806) (hk : l.length < k) : gantletref01_Same.f k l l = some true := (WirePure.same_eq k l l h hk).trans (by simp)
set_option maxHeartbeats 16000000 in
set_option maxRecDepth 100000 in
theorem gantletlaw14_OutletPlays.main (A0 : Option Addr) (c0 : Nat) (l0 : List S58) (w : World) (hr0 : Kd.C k58 w A0 l0.length l0) (hc0 : l0.length ≤ c0) (hby : ∀ i : Int, 0 ≤ i → i < (l0.length : Int) → 0 ≤ (rd_T58 l0 i).f0 ∧ (rd_T58 l0 i).f0 < 256) :
    Calls Try.prog 6 #[.slice A0 l0.length c0] w fun e w' => e = .returned (.bool true) ∧ Below w.heap.size w w' := by
  have hu67 := Try.underlying67
  have hu58 := Try.underlying58
  have HR0 := Aside0.mk hr0
  have HC0 := Aside0.mk hc0
  have HY := Aside0.mk hby
  clear hr0 hc0 hby
  rcases fits_eq l0 with hf | ⟨hf, hl, hact⟩
  · have HF := Aside0.mk hf
    clear hf
    go_enter Try.func6, Try.ntmps6
    go_wp2_with (first | (go_at_call 33; refine (gantletlaw14_fits.calls 2000 A0 c0 l0 false _ HR0.out HC0.out HF.out).mono ?_; rintro e_ w1 ⟨rfl, hd⟩; have HB1 := Aside0.mk hd.below; clear hd) | (go_at_call 34; refine (gantletlaw14_alive.calls _).mono ?_; rintro e_ w2 ⟨rfl, hb⟩; have HB2 := Aside0.mk (below_step HB1.out hb); clear hb HB1))
    go_ret
    exact ⟨rfl, HB2.out⟩
  · have HF := Aside0.mk hf
    have HA := Aside0.mk hact
    clear hf hact
    go_enter Try.func6, Try.ntmps6
    go_wp2_with (first | (go_at_call 33; refine (gantletlaw14_fits.calls 2000 A0 c0 l0 true _ HR0.out HC0.out HF.out).mono ?_; rintro e_ w1 ⟨rfl, hd⟩; have HB1 := Aside0.mk hd.below; clear hd) | (go_at_call 35; refine (outlet_New.is _).mono ?_; rintro e_ w2 ⟨g, rfl, hI, hg, hb⟩; have HI2 := Aside0.mk hI; have HG := Aside0.mk (Nat.le_trans HB1.out.size hg); have HB2 := Aside0.mk (below_step HB1.out hb); clear hI hg hb HB1))
    go_loopg [5, 6] (l0.length + 1) (fun kq v5 v6 w' => ∃ (i : Int) (v : Value) (b : List Int), v6 = .int .i64 i ∧ Aside0 (0 ≤ i ∧ i + kq = l0.length + 1) ∧ Aside0 (Stt w w' g v v5 b b) ∧ Aside0 (b.length ≤ 31000 * i.toNat))
    case atStart => exact ⟨0, _, _, rfl, ⟨by omega⟩, ⟨⟨HI2.out, ⟨none, 0, rfl, Nat.le_refl 0, C_nil _ _, (fun k hk => by cases hk)⟩, (fun k hk => by cases hk), HB2.out, (fun k hk => by cases hk), HG.out⟩⟩, ⟨by simp⟩⟩
    case round =>
      clear HI2 HB2 HG
      obtain ⟨i, v, b, rfl, HK, HS, HL⟩ := hrel
      by_cases c5 : i < (l0.length : Int)
      · have h0 := HK.out.1
        have c5b0 : decide (i < (l0.length : Int)) = true := decide_eq_true c5
        have c6b0 : decide (0 ≤ i) = true := decide_eq_true h0
        obtain ⟨ad, A2, c2, e1, hx0, hx1, hx2, hc2, hrf⟩ := at_T58 HR0.out i h0 c5
        cases e1
        replace hx0 := (HS.out.be.cell (World.block_lt_of_cell? w _ hx0)).trans hx0
        replace hx1 := (HS.out.be.cell (World.block_lt_of_cell? w _ hx1)).trans hx1
        replace hx2 := (HS.out.be.cell (World.block_lt_of_cell? w _ hx2)).trans hx2
        have HRF := Aside0.mk hrf
        have hy := HY.out i h0 c5
        have ha := HA.out i h0 c5
        have hfl := rd67_mem (P := fun x => x.f3.length ≤ 500) ha.2
        have HFL := Aside0.mk hfl
        have hfn := ha.1
        have hbn : b.length ≤ 31000 * 30 := by have := HL.out; omega
        have p1 : (0 ≤ i) = True := eq_true h0
        have q1 : (i < (l0.length : Int)) = True := eq_true c5
        have hwr : wrap64 (i + 1) = i + 1 := by unfold wrap64; omega
        have HW := Aside0.mk hwr
        clear hwr hrf ha hfl
        obtain ⟨k1, hk1⟩ : ∃ j, gk = j + 1 := ⟨gk - 1, by have := HK.out; omega⟩
        subst hk1
        generalize (rd_T58 l0 i).f0 = z at *
        generalize (rd_T58 l0 i).f1 = n at *
        generalize (rd_T58 l0 i).f2 = fl at *
        have HS1 := Aside0.mk (HS.out.below (below_alloc (Below.refl _ _) (.cells #[.int .u8 z, .int .i64 n, .slice A2 fl.length c2] 58)))
        have HX1 := Aside0.mk (blk_new wr (.cells #[.int .u8 z, .int .i64 n, .slice A2 fl.length c2] 58))
        have HG1 : Aside0 (wr.heap.size ≠ g ∧ ∀ k, v.ownBlock = some k → k ≠ wr.heap.size) := ⟨⟨by have := blk_lt HS.out.io.1; omega, fun k hk => by have := HS.out.io.2.1.lt k hk; omega⟩⟩
        have HBW := Aside0.mk HS.out.be
        clear HS
        cases cz2 : (z % 4 == 2)
        · cases cz3 : (z % 4 == 3)
          · have hBA : ∀ cs : Array Value, Below wr.heap.size wr ((wr.alloc (.cells #[.int .u8 z, .int .i64 n, .slice A2 fl.length c2] 58)).alloc (.cells cs 67)) := fun cs => below_alloc (below_alloc (Below.refl _ _) _) _
            have HBA := Aside0.mk hBA
            clear hBA
            by_cases c7 : 0 < fl.length
            · have c7b : decide ((0 : Int) < (fl.length : Int)) = true := decide_eq_true (by omega)
              obtain ⟨adx, A3, c3, e1, hy0, hy1, hy2, hy3, hc3, hrp⟩ := at_T67 HRF.out 0 (by omega) (by omega)
              cases e1
              simp only [Int.toNat_zero, Nat.zero_mul, Addr.add_zero'] at hy0 hy1 hy2 hy3
              have hm0 : rd_T67 fl 0 ∈ fl := (drop_rd (fl := fl) (i := 0) (by omega) (by omega)).2
              have hxl := HFL.out _ hm0
              generalize hX : rd_T67 fl 0 = X at *
              obtain ⟨x0, x1, x2, x3⟩ := X
              simp only [] at hy0 hy1 hy2 hy3 hc3 hrp hxl
              replace hy0 := (HBW.out.cell (World.block_lt_of_cell? w _ hy0)).trans hy0
              replace hy1 := (HBW.out.cell (World.block_lt_of_cell? w _ hy1)).trans hy1
              replace hy2 := (HBW.out.cell (World.block_lt_of_cell? w _ hy2)).trans hy2
              replace hy3 := (HBW.out.cell (World.block_lt_of_cell? w _ hy3)).trans hy3
              replace hy0 := ((HBA.out #[.int .i64 0, .int .i64 0, .int .i64 0, .slice none 0 0]).cell (World.block_lt_of_cell? wr _ hy0)).trans hy0
              replace hy1 := ((HBA.out #[.int .i64 0, .int .i64 0, .int .i64 0, .slice none 0 0]).cell (World.block_lt_of_cell? wr _ hy1)).trans hy1
              replace hy2 := ((HBA.out #[.int .i64 0, .int .i64 0, .int .i64 0, .slice none 0 0]).cell (World.block_lt_of_cell? wr _ hy2)).trans hy2
              replace hy3 := ((HBA.out #[.int .i64 0, .int .i64 0, .int .i64 0, .slice none 0 0]).cell (World.block_lt_of_cell? wr _ hy3)).trans hy3
              have HRP := Aside0.mk hrp
              clear hrp hX hm0
              obtain ⟨⟨r1, r2⟩, hEq⟩ : ∃ y, Ef ⟨x0, x1, x2, x3⟩ = y := ⟨_, rfl⟩
              have HR1 : Aside0 (r1.length ≤ 1000) := ⟨by have h_ := Ef_len ⟨x0, x1, x2, x3⟩ hxl; rw [hEq] at h_; exact h_⟩
              have HEQ := Aside0.mk hEq
              clear hEq
              have HSx := Aside0.mk (HS1.out.below (below_alloc (Below.refl _ _) (.cells #[.int .i64 x0, .int .i64 x1, .int .i64 x2, .slice A3 x3.length c3] 67)))
              have HXx := Aside0.mk (blk_new (wr.alloc (.cells #[.int .u8 z, .int .i64 n, .slice (some adx) fl.length c2] 58)) (.cells #[.int .i64 x0, .int .i64 x1, .int .i64 x2, .slice A3 x3.length c3] 67))
              have HGx : Aside0 ((wr.alloc (.cells #[.int .u8 z, .int .i64 n, .slice (some adx) fl.length c2] 58)).heap.size ≠ g ∧ ∀ k, v.ownBlock = some k → k ≠ (wr.alloc (.cells #[.int .u8 z, .int .i64 n, .slice (some adx) fl.length c2] 58)).heap.size) := ⟨by have := blk_lt HS1.out.io.1; omega, fun k hk => by have := HS1.out.io.2.1.lt k hk; omega⟩
              go_wp2_with (first | (go_at_call 40; refine (HSx.out.push x0 x1 x2 A3 c3 x3 (Kd.C_below HRP.out (below_step HBW.out (HBA.out _))) hc3 hxl (by omega)).mono ?_; rintro e_ w3 ⟨he, v3, hS, hm⟩; rw [HEQ.out] at he hS; subst he; have HS3 := Aside0.mk hS; have hbx := HSx.out.blk hm HXx.out HGx.out; rw [World.size_alloc] at hbx; have hz0 : w3.cell? ⟨wr.heap.size + 1, 0, none⟩ = some (.int .i64 x0) := (blk_cell hbx 0).trans rfl; have hz1 : w3.cell? ⟨wr.heap.size + 1, 1, none⟩ = some (.int .i64 x1) := (blk_cell hbx 1).trans rfl; have hz2 : w3.cell? ⟨wr.heap.size + 1, 2, none⟩ = some (.int .i64 x2) := (blk_cell hbx 2).trans rfl; have hz3 : w3.cell? ⟨wr.heap.size + 1, 3, none⟩ = some (.slice A3 x3.length c3) := (blk_cell hbx 3).trans rfl; have HP3 := Aside0.mk (Kd.C_below HRP.out hS.be); clear hS hm hbx HSx HXx) | (go_at_call 41; refine (HS3.out.pushDoc x0 x1 x2 A3 c3 x3 HP3.out hc3 hxl (by omega)).mono ?_; rintro e_ w4 ⟨m4, he, hS, hb4⟩; rw [HEQ.out] at he hS; subst he; have HS4 := Aside0.mk hS; clear hS HS3; obtain ⟨Am, cm, rfl, _, _, _⟩ := HS4.out.rd) | (go_at_call 42; refine (outlet_Len.is _ g v3 (b ++ r1) HS4.out.io).mono ?_; rintro e_ w6 ⟨rfl, nd_, hw_⟩; have hb6 : Below w4.heap.size w4 w6 := (by subst hw_; exact pw_below_drewN (Below.refl _ _) nd_); have HS6 := Aside0.mk (HS4.out.below hb6); clear hw_ hb6 HS4))
              go_roundg k1
              case measure => omega
              case rel => exact ⟨i + 1, v3, b ++ r1, (by first | rfl | rw [HW.out]), ⟨by have := HK.out; omega⟩, ⟨by have h_ := HS6.out; rw [List.length_append] at h_; exact h_⟩, ⟨by have := HL.out; have := HR1.out; have := HK.out; simp; omega⟩⟩
            · have c7b : decide ((0 : Int) < (fl.length : Int)) = false := decide_eq_false (by omega)
              obtain ⟨⟨r1, r2⟩, hEq⟩ : ∃ y, Ef ⟨0, 0, 0, []⟩ = y := ⟨_, rfl⟩
              have HR1 : Aside0 (r1.length ≤ 1000) := ⟨by have h_ := Ef_len ⟨0, 0, 0, []⟩ (by decide); rw [hEq] at h_; exact h_⟩
              have HEQ := Aside0.mk hEq
              clear hEq
              have HSx := Aside0.mk (HS1.out.below (below_alloc (Below.refl _ _) (.cells #[.int .i64 0, .int .i64 0, .int .i64 0, .slice none 0 0] 67)))
              have HXx := Aside0.mk (blk_new (wr.alloc (.cells #[.int .u8 z, .int .i64 n, .slice A2 fl.length c2] 58)) (.cells #[.int .i64 0, .int .i64 0, .int .i64 0, .slice none 0 0] 67))
              have HGx : Aside0 ((wr.alloc (.cells #[.int .u8 z, .int .i64 n, .slice A2 fl.length c2] 58)).heap.size ≠ g ∧ ∀ k, v.ownBlock = some k → k ≠ (wr.alloc (.cells #[.int .u8 z, .int .i64 n, .slice A2 fl.length c2] 58)).heap.size) := ⟨by have := blk_lt HS1.out.io.1; omega, fun k hk => by have := HS1.out.io.2.1.lt k hk; omega⟩
              go_wp2_with (first | (go_at_call 40; refine (HSx.out.push 0 0 0 none 0 [] (C_nil _ _) (Nat.le_refl 0) (by decide) (by omega)).mono ?_; rintro e_ w3 ⟨he, v3, hS, hm⟩; rw [HEQ.out] at he hS; subst he; have HS3 := Aside0.mk hS; have hbx := HSx.out.blk hm HXx.out HGx.out; rw [World.size_alloc] at hbx; have hz0 : w3.cell? ⟨wr.heap.size + 1, 0, none⟩ = some (.int .i64 0) := (blk_cell hbx 0).trans rfl; have hz1 : w3.cell? ⟨wr.heap.size + 1, 1, none⟩ = some (.int .i64 0) := (blk_cell hbx 1).trans rfl; have hz2 : w3.cell? ⟨wr.heap.size + 1, 2, none⟩ = some (.int .i64 0) := (blk_cell hbx 2).trans rfl; have hz3 : w3.cell? ⟨wr.heap.size + 1, 3, none⟩ = some (.slice none 0 0) := (blk_cell hbx 3).trans rfl; clear hS hm hbx HSx HXx) | (go_at_call 41; refine (HS3.out.pushDoc 0 0 0 none 0 [] (C_nil _ _) (Nat.le_refl 0) (by decide) (by omega)).mono ?_; rintro e_ w4 ⟨m4, he, hS, hb4⟩; rw [HEQ.out] at he hS; subst he; have HS4 := Aside0.mk hS; clear hS HS3; obtain ⟨Am, cm, rfl, _, _, _⟩ := HS4.out.rd) | (go_at_call 42; refine (outlet_Len.is _ g v3 (b ++ r1) HS4.out.io).mono ?_; rintro e_ w6 ⟨rfl, nd_, hw_⟩; have hb6 : Below w4.heap.size w4 w6 := (by subst hw_; exact pw_below_drewN (Below.refl _ _) nd_); have HS6 := Aside0.mk (HS4.out.below hb6); clear hw_ hb6 HS4))
              go_roundg k1
              case measure => omega
              case rel => exact ⟨i + 1, v3, b ++ r1, (by first | rfl | rw [HW.out]), ⟨by have := HK.out; omega⟩, ⟨by have h_ := HS6.out; rw [List.length_append] at h_; exact h_⟩, ⟨by have := HL.out; have := HR1.out; have := HK.out; simp; omega⟩⟩
          · obtain ⟨⟨b2, d2⟩, hb2⟩ : ∃ bd, fillL Ef n fl b 0 = bd := ⟨_, rfl⟩
            have HL2 : Aside0 (b2.length ≤ b.length + 31000) := ⟨by have h_ := fillL_len Ef n fl b 0 (fun x hx => Ef_len x (HFL.out x hx)); rw [hb2] at h_; simp only [] at h_; omega⟩
            go_wp2_with (first | (go_at_call 38; refine (outlet_Fill.calls Ef 20 n A2 c2 fl _ g v b HS1.out.io (fun w_ v_ hm => Kd.C_below HRF.out (hm.under HS1.out.be HS1.out.ge HS1.out.own)) (fun x _ => Ef_prog x) (fun x hx => Ef_len x (HFL.out x hx)) (by omega)).mono ?_; rintro e_ w3 ⟨he, v3, hI, hm⟩; rw [hb2] at he hI; subst he; have HS3 := Aside0.mk (HS1.out.move hI hm); have hbx := HS1.out.blk hm HX1.out HG1.out; have hbx1 : w3.cell? ⟨wr.heap.size, 1, none⟩ = some (.int .i64 n) := (blk_cell hbx 1).trans rfl; have hbx2 : w3.cell? ⟨wr.heap.size, 2, none⟩ = some (.slice A2 fl.length c2) := (blk_cell hbx 2).trans rfl; clear hI hm hbx HS1 HX1) | (go_at_call 39; refine (r14_Fill.calls Ef 20 n A2 c2 fl w _ _ b HS3.out.be HS3.out.rd HRF.out (fun x _ => Ef_ref x) (fun x hx => Ef_len x (HFL.out x hx)) (by omega)).mono ?_; rintro e_ w4 ⟨m4, he, hm, hom, hb4⟩; rw [hb2] at he hm; subst he; have HS5 := Aside0.mk (HS3.out.doc hm hom hb4); clear hm hom hb4 HS3; obtain ⟨Am, cm, rfl, _, _, _⟩ := HS5.out.rd) | (go_at_call 42; refine (outlet_Len.is _ g v3 b2 HS5.out.io).mono ?_; rintro e_ w6 ⟨rfl, nd_, hw_⟩; have hb6 : Below w4.heap.size w4 w6 := (by subst hw_; exact pw_below_drewN (Below.refl _ _) nd_); have HS6 := Aside0.mk (HS5.out.below hb6); clear hw_ hb6 HS5))
            go_roundg k1
            case measure => omega
            case rel => exact ⟨i + 1, v3, b2, (by first | rfl | rw [HW.out]), ⟨by have := HK.out; omega⟩, HS6, ⟨by have := HL.out; have := HL2.out; have := HK.out; omega⟩⟩

        · obtain ⟨b2, hb2⟩ : ∃ b2, b.drop n.toNat = b2 := ⟨_, rfl⟩
          obtain ⟨q, hq⟩ : ∃ q, b.take n.toNat = q := ⟨_, rfl⟩
          have HQL : Aside0 (q.length ≤ b.length) := ⟨by rw [← hq, List.length_take]; omega⟩
          have HL2 : Aside0 (b2.length ≤ b.length) := ⟨by rw [← hb2, List.length_drop]; omega⟩
          go_wp2_with (first | (go_at_call 36; refine (outlet_Drain.is _ g v b n HS1.out.io (by omega)).mono ?_; rintro e_ w3 ⟨x, v3, rfl, hO, hI, hk, ho⟩; rw [hb2] at hI; rw [hq] at hO; have hm : Mv _ g v w3 v3 := ⟨hk, .inl ho⟩; have HS3 := Aside0.mk (HS1.out.move hI hm); have HX3 := Aside0.mk (Rd.of_R hO); have hbx := HS1.out.blk hm HX1.out HG1.out; have hbx1 : w3.cell? ⟨wr.heap.size, 1, none⟩ = some (.int .i64 n) := (blk_cell hbx 1).trans rfl; clear hO hI hk ho hm hbx HS1 HX1) | (go_at_call 37; refine (r14_Drain.is _ _ b n HS3.out.rd).mono ?_; rintro e_ w4 ⟨u, m4, rfl, hu, hm, hom, nd, hw⟩; rw [hb2] at hm; rw [hq] at hu; have hb4 : Below w3.heap.size w3 w4 := (by subst hw; exact pw_below_drewN (Below.refl _ _) nd); have HS4 := Aside0.mk (HS3.out.doc hm (fun k hk => .inl (by rw [← hom]; exact hk)) hb4); have HX4 := Aside0.mk (HX3.out.below hb4); have HU4 := Aside0.mk hu; clear hu hm hom hw hb4 HS3 HX3; obtain ⟨Ax, cx, rfl, hcx, hCx, _⟩ := HX4.out; obtain ⟨Au, cu, rfl, hcu, hCu, _⟩ := HU4.out; obtain ⟨Am, cm, rfl, _, _, _⟩ := HS4.out.rd) | (go_at_call 18; refine (gantletref01_Same.calls (b.length + 1) Ax cx q Au cu q true _ hCx hcx hCu hcu (same_true _ (by have := HQL.out; omega) (by have := HQL.out; omega))).mono ?_; rintro e_ w5 ⟨rfl, hd⟩; have HS5 := Aside0.mk (HS4.out.below hd.below); clear hd HS4 hCx hCu HX4 HU4) | (go_at_call 42; refine (outlet_Len.is _ g v3 b2 HS5.out.io).mono ?_; rintro e_ w6 ⟨rfl, nd_, hw_⟩; have hb6 : Below w5.heap.size w5 w6 := (by subst hw_; exact pw_below_drewN (Below.refl _ _) nd_); have HS6 := Aside0.mk (HS5.out.below hb6); clear hw_ hb6 HS5))
          go_roundg k1
          case measure => omega
          case rel => exact ⟨i + 1, v3, b2, (by first | rfl | rw [HW.out]), ⟨by have := HK.out; omega⟩, HS6, ⟨by have := HL.out; have := HL2.out; have := HK.out; omega⟩⟩

      · have c5b0 : decide (i < (l0.length : Int)) = false := decide_eq_false c5
        go_wp2_with (first | (go_at_call 34; refine (gantletlaw14_alive.calls _).mono ?_; rintro e_ w2 ⟨rfl, hb⟩; have HB2 := Aside0.mk (below_step HS.out.be hb); clear hb HS) | (go_at_call 40; refine (outlet_Push.bad 20 _ none 0 0 0 none 0 [] [0, 0, 0, 0, 0, 0, 0, 0, 0] 0 (C_nil _ _) (Nat.le_refl 0) ((Ef_prog ⟨0, 0, 0, []⟩).trans (congrArg some Ef_zero)) (.inl rfl)).mono ?_; rintro e_ w3 ⟨rfl, hb⟩; have HB3 := Aside0.mk (below_step HB2.out hb); clear hb HB2) | (go_at_call 36; refine (outlet_Drain.none_ _ 9).mono ?_; rintro e_ w4 ⟨rfl, nd4, hw⟩; have hb : Below w3.heap.size w3 w4 := (by subst hw; exact pw_below_drewN (Below.refl _ _) _); have HB4 := Aside0.mk (below_step HB3.out hb); clear hb hw HB3) | (go_at_call 38; refine (outlet_Fill.none_ _ w4.heap.size (blk_new w4 _)).mono ?_; rintro e_ w5 ⟨rfl, hb⟩; have HB5 := Aside0.mk (below_step HB4.out (below_step (below_alloc (Below.refl _ _) _) hb)); clear hb HB4) | (go_at_call 42; refine (outlet_Len.none_ _).mono ?_; rintro e_ w6 ⟨rfl, nd6, hw⟩; have hb : Below w5.heap.size w5 w6 := (by subst hw; exact pw_below_drewN (Below.refl _ _) _); have HB6 := Aside0.mk (below_step HB5.out hb); clear hb hw HB5))
        go_ret
        exact ⟨rfl, HB6.out⟩
def gantletlaw14_OutletPlays.f (l : List S58) : Option Bool := if l.all (fun x => decide (0 ≤ x.f0 ∧ x.f0 < 256)) = true then some true else none
theorem rd58_mem (l : List S58) (i : Int) (h0 : 0 ≤ i) (h1 : i < l.length) : rd_T58 l i ∈ l := by
  have hi : i.toNat < l.length := by omega
  have e : rd_T58 l i = l[i.toNat] := by simp [rd_T58, hi]
  rw [e]
  exact List.getElem_mem hi
theorem gantletlaw14_OutletPlays.calls (A0 : Option Addr) (c0 : Nat) (l0 : List S58) (r : Bool) (w : World) (hr0 : Kd.C k58 w A0 l0.length l0) (hc0 : l0.length ≤ c0) (h : gantletlaw14_OutletPlays.f l0 = some r) :
    Calls Try.prog 6 #[.slice A0 l0.length c0] w fun e w' => e = .returned (.bool r) ∧ Below w.heap.size w w' := by
  unfold gantletlaw14_OutletPlays.f at h
  by_cases hall : l0.all (fun x => decide (0 ≤ x.f0 ∧ x.f0 < 256)) = true
  · rw [if_pos hall] at h
    obtain rfl := Option.some.inj h
    refine gantletlaw14_OutletPlays.main A0 c0 l0 w hr0 hc0 (fun i h0 h1 => ?_)
    exact of_decide_eq_true (List.all_eq_true.1 hall _ (rd58_mem l0 i h0 h1))
  · rw [if_neg hall] at h; cases h
end Go.Proofs.Ytbmnplojpeabmaa.QO
