/-
  INTAKE: IntakePlays.
  Conditions: none of its own; lemmas that the claim's row rests on.
-/
import Derived.Test.YtbmnplojpeabmaaIt13
import Derived.Test.YtbmnplojpeabmaaQI4
import Derived.WalkKit
namespace Go.Proofs.Ytbmnplojpeabmaa.It
open Go.RowKit Go.Proofs.YtbmnplojpeabmaaW.PrintWords Go.Proofs.YtbmnplojpeabmaaW.PrintLast Go.Proofs.YtbmnplojpeabmaaW.PrintMore
attribute [local go_sem] max2_int min2_int max_two min_two max_three min_three max_four min_four
set_option linter.unusedVariables false
set_option linter.unusedSimpArgs false
open Go.Proofs.Ytbmnplojpeabmaa.Ob Go.Proofs.Ytbmnplojpeabmaa.QI Go.Proofs.Ytbmnplojpeabmaa.FramePure Go.Proofs.Ytbmnplojpeabmaa.WirePure Go.Proofs.Ytbmnplojpeabmaa.IntakePure
set_option maxHeartbeats 16000000 in
set_option maxRecDepth 100000 in
theorem gantletlaw13_IntakePlays.main (a0 : Int) (A1 : Option Addr) (c1 : Nat) (l1 : List S104) (w : World) (hr1 : Kd.C k104 w A1 l1.length l1) (hc1 : l1.length ≤ c1) (hby : ∀ x ∈ l1, Bytes x.f0 ∧ 0 ≤ x.f1 ∧ x.f1 < 256) :
    Calls Try.prog 11 #[.int .i64 a0, .slice A1 l1.length c1] w fun e w' => e = .returned (.bool true) ∧ Below w.heap.size w w' := by
  have hu67 := Try.underlying67
  have hu104 := Try.underlying104
  have HR1 := Aside0.mk hr1
  have HC1 := Aside0.mk hc1
  have HY := Aside0.mk hby
  clear hr1 hc1 hby
  by_cases h40 : 40 < l1.length
  · have b40 : decide ((40 : Int) < (l1.length : Int)) = true := decide_eq_true (by omega)
    go_enter Try.func11, Try.ntmps11
    go_wp2_with fail
    refine (gantletlaw13_alive.is _).mono ?_
    rintro e_ w1 ⟨rfl, hb⟩
    have HB := Aside0.mk hb
    clear hb
    go_wp2_with fail
    go_ret
    exact ⟨rfl, HB.out⟩
  · have b40 : decide ((40 : Int) < (l1.length : Int)) = false := decide_eq_false (by omega)
    by_cases hbad : a0 < 16384 ∨ 16777215 < a0
    · go_enter Try.func11, Try.ntmps11
      go_wp2_with fail
      refine (intake_New.bad a0 _ hbad).mono ?_
      rintro e_ w1 ⟨rfl, hw1⟩
      rw [hw1]
      clear hw1
      have hb1 : (decide (a0 < 16384) = true) ∨ (decide (a0 < 16384) = false ∧ decide (16777215 < a0) = true) := by
        rcases hbad with h | h
        · exact .inl (decide_eq_true h)
        · by_cases h2 : a0 < 16384
          · exact .inl (decide_eq_true h2)
          · exact .inr ⟨decide_eq_false h2, decide_eq_true h⟩
      rcases hb1 with hb1 | ⟨hb1, hb2⟩
      · go_wp2_with fail
        refine (gantletlaw13_alive.is _).mono ?_
        rintro e_ w1 ⟨rfl, hb⟩
        have HB := Aside0.mk hb
        clear hb
        go_wp2_with fail
        go_ret
        exact ⟨rfl, HB.out⟩
      · go_wp2_with fail
        refine (gantletlaw13_alive.is _).mono ?_
        rintro e_ w1 ⟨rfl, hb⟩
        have HB := Aside0.mk hb
        clear hb
        go_wp2_with fail
        go_ret
        exact ⟨rfl, HB.out⟩
    · have hg1 : decide (a0 < 16384) = false := decide_eq_false (by omega)
      have hg2 : decide (16777215 < a0) = false := decide_eq_false (by omega)
      go_enter Try.func11, Try.ntmps11
      go_wp2_with fail
      refine (intake_New.ok a0 _ (by omega) (by omega)).mono ?_
      rintro e_ w1 ⟨gt, rfl, hT1, hgt1, hb1⟩
      have HT1 := Aside0.mk hT1
      have HB1 := Aside0.mk hb1
      have HG1 := Aside0.mk hgt1
      clear hT1 hb1 hgt1
      go_wp2_with fail
      refine (r13_Begin.is a0 _).mono ?_
      rintro e_ w2 ⟨gm, rfl, hU2, hgu2, hb2⟩
      have HS2 : Aside0 (Tr w w2 a0 gt (.slice none 0 0) [] false 0 gm (.slice none 0 0) [] 0 0) := ⟨⟨HT1.out.below hb2, hU2, ⟨fun k hk h2 => by rcases hk with rfl | hk; (rcases h2 with rfl | h2; (have := blk_lt HT1.out.1; omega); (simp [Value.ownBlock] at h2)); (simp [Value.ownBlock] at hk), (HT1.out.below hb2).foot, hU2.foot, below_step HB1.out hb2, fun k hk => by rcases hk with rfl | hk; exact HG1.out; (simp [Value.ownBlock] at hk), fun k hk => by rcases hk with rfl | hk; exact Nat.le_trans HB1.out.size hgu2; (simp [Value.ownBlock] at hk)⟩⟩⟩
      clear hU2 hgu2 hb2 HT1 HB1 HG1
      go_wp2_with fail
      go_loopg [8] (l1.length + 1) (fun kq v8 w' => ∃ (i : Nat) (vt : Value) (l : List Int) (bg : Bool) (ov : Int) (vm : Value) (B : List Int) (T : Nat) (O : Int), v8 = .int .i64 (i : Int) ∧ Aside0 (i + kq = l1.length + 1 ∧ i ≤ l1.length) ∧ Aside0 (Tr w w' a0 gt vt l bg ov gm vm B T O) ∧ Aside0 (Rel a0 l bg ov B T O) ∧ Aside0 (B.length ≤ 2000 * i ∧ T ≤ 8 * i))
      case atStart => exact ⟨0, _, _, _, _, _, _, _, _, rfl, ⟨by omega⟩, HS2, ⟨Rel.first a0⟩, ⟨by simp⟩⟩
      case round =>
        clear HS2
        obtain ⟨i, vt, l, bg, ov, vm, B, T, O, rfl, HK, HS, HR, HN⟩ := hrel
        by_cases hi : i < l1.length
        · have bi : decide ((i : Int) < (l1.length : Int)) = true := decide_eq_true (by omega)
          have p1 : ((0 : Int) ≤ (i : Int)) = True := eq_true (by omega)
          have p2 : ((i : Int) < (l1.length : Int)) = True := eq_true (by omega)
          obtain ⟨ad, A3, c3, e1, hx0, hx1, hc3, hrp⟩ := at_T104 HR1.out (i : Int) (by omega) (by omega)
          cases e1
          have hm := rd104_mem HY.out (i : Int) (by omega) (by omega)
          generalize rd_T104 l1 (i : Int) = X at *
          obtain ⟨x0, x1⟩ := X
          simp only [] at hx0 hx1 hc3 hrp hm
          rw [Int.toNat_natCast] at hx0 hx1
          have HX0 := Aside0.mk hx0
          have HX1 := Aside0.mk hx1
          have HRP := Aside0.mk hrp
          have HM := Aside0.mk hm
          clear hrp hm
          obtain ⟨k1, hk1⟩ : ∃ j, gk = j + 1 := ⟨gk - 1, by have := HK.out; omega⟩
          subst hk1
          replace hx0 := (HS.out.p.be.cell (World.block_lt_of_cell? w _ hx0)).trans hx0
          replace hx1 := (HS.out.p.be.cell (World.block_lt_of_cell? w _ hx1)).trans hx1
          by_cases hlong : 2000 < x0.length
          · have bl : decide ((2000 : Int) < (x0.length : Int)) = true := decide_eq_true (by omega)
            go_wp2_with fail
            refine (gantletlaw13_alive.is _).mono ?_
            rintro e_ w3 ⟨rfl, hb⟩
            have HB := Aside0.mk (below_step HS.out.p.be hb)
            clear hb
            go_wp2_with fail
            go_ret
            exact ⟨rfl, HB.out⟩
          · have bl : decide ((2000 : Int) < (x0.length : Int)) = false := decide_eq_false (by omega)
            have hlen := HR.out.short
            have hBn := HN.out.1
            go_wp2_with fail
            refine (HS.out.feed A3 c3 x0 (Kd.C_below HRP.out HS.out.p.be) hc3 (by omega) HR.out.bytes HM.out.1).mono ?_
            rintro e_ w3 ⟨v0_, rfl, vt3, hS3⟩
            have HS3 := Aside0.mk hS3
            have y0_ := (hS3.p.be.cell (World.block_lt_of_cell? w _ HX0.out)).trans HX0.out
            have y1_ := (hS3.p.be.cell (World.block_lt_of_cell? w _ HX1.out)).trans HX1.out
            clear hS3 hx0 hx1
            go_wp2_with fail
            refine (HS3.out.feedR A3 c3 x0 (Kd.C_below HRP.out HS3.out.p.be) hc3 (by omega)).mono ?_
            rintro e_ w4 ⟨v1_, rfl, vm4, hS4⟩
            have HS4 := Aside0.mk hS4
            have HR4 := Aside0.mk (HR.out.feed HM.out.1)
            have hbl4 := feedR_len B O x0
            clear hS4 y0_ y1_ HS HR HS3
            generalize (feedI l bg ov x0).1 = l4 at *
            generalize (feedI l bg ov x0).2.1 = bg4 at *
            generalize (feedI l bg ov x0).2.2 = ov4 at *
            generalize (feedR B O x0).1 = B4 at *
            generalize (feedR B O x0).2 = O4 at *
            have HN4 : Aside0 (B4.length ≤ 2000 * (i + 1) ∧ T ≤ 8 * i) := ⟨by have := HN.out; omega⟩
            clear HN hBn hbl4 hlen
            obtain ⟨q, hq, hq8⟩ : ∃ q : Nat, (q : Int) = x1.tmod 8 ∧ q ≤ 7 := ⟨(x1 % 8).toNat, by rw [Int.tmod_eq_emod_of_nonneg HM.out.2.1]; omega, by omega⟩
            go_wp2_with fail
            go_loopg [9] 9 (fun kq v9 w' => ∃ (j : Nat) (vt : Value) (l : List Int) (ov : Int) (vm : Value) (T : Nat) (O : Int), v9 = .int .i64 (j : Int) ∧ Aside0 (j + kq = 9 ∧ j ≤ 8) ∧ Aside0 (Tr w w' a0 gt vt l bg4 ov gm vm B4 T O) ∧ Aside0 (Rel a0 l bg4 ov B4 T O) ∧ Aside0 (T ≤ 8 * i + j))
            case atStart => exact ⟨0, _, _, _, _, _, _, rfl, ⟨by omega⟩, HS4, HR4, ⟨HN4.out.2⟩⟩
            case round =>
              clear HS4 HR4
              obtain ⟨j, vt, l, ov, vm, T, O, rfl, HJ, HS, HR, HT⟩ := hrel
              have y1_ := (HS.out.p.be.cell (World.block_lt_of_cell? w _ HX1.out)).trans HX1.out
              by_cases hj : j < q
              · have bj : decide ((j : Int) < x1.tmod 8) = true := decide_eq_true (by omega)
                obtain ⟨k2, hk2⟩ : ∃ m, gk = m + 1 := ⟨gk - 1, by have := HJ.out; omega⟩
                subst hk2
                go_wp2_with fail
                rcases ha : ansI a0 l bg4 ov with ⟨⟨f0, f1, f2, f3⟩, er⟩
                have har := HR.out.ans
                rw [ha] at har
                have c1_ := HS.out.next HR.out.bytes (by have := HR.out.short; have := HN4.out; omega)
                have c2_ := fun (W' : World) (v' : Value) (l' : List Int) (o' : Int) (hS : Tr w W' a0 gt v' l' bg4 o' gm vm B4 T O) => hS.nextR (by have := HT.out; have := HK.out; omega) HR.out.by_ (by have := HN4.out; omega) (rel_told HR.out)
                have hf3 : f3.length ≤ l.length := by have h_ := ansI_len a0 (l := l) (bg := bg4) (ov := ov) HR.out.bytes; rw [ha] at h_; exact h_
                have hf3b : f3.length ≤ 100000 := by have := HR.out.short; have := HN4.out; omega
                clear hf3
                rw [ha] at c1_
                rw [har] at c2_
                have HC2 := Aside0.mk c2_
                have HRN := Aside0.mk HR.out.next
                have HTN := Aside0.mk (nextR_le a0 B4 T O)
                clear c2_ ha har
                generalize (nextI a0 l bg4 ov).1 = l5 at *
                generalize (nextI a0 l bg4 ov).2 = ov5 at *
                generalize (nextR a0 B4 T O).1 = T5 at *
                generalize (nextR a0 B4 T O).2 = O5 at *
                refine c1_.mono ?_
                clear c1_
                rintro e_ w5 ⟨hH5, vt5, hS5⟩
                obtain ⟨A5, c5, rfl, h5, hF5⟩ : ∃ A5 c5, e_ = .returned (.tuple #[.agg #[.int .i64 f0, .int .i64 f1, .int .i64 f2, .slice A5 f3.length c5], .int .i64 er]) ∧ f3.length ≤ c5 ∧ Kd.F (Kd.int .u8) w5 (fun k => wr.heap.size ≤ k ∧ k < w5.heap.size) A5 f3.length f3 := hH5
                have hLU := hS5.p.lu
                have hRU := HS.out.p.lu
                have hS6 := hS5.below (below_alloc (Below.refl _ _) (.cells #[.int .i64 f0, .int .i64 f1, .int .i64 f2, .slice A5 f3.length c5] 67))
                have HS6 := Aside0.mk hS6
                have HB6 := Aside0.mk (blk_new w5 (.cells #[.int .i64 f0, .int .i64 f1, .int .i64 f2, .slice A5 f3.length c5] 67))
                have HF6 := Aside0.mk (Kd.F_alloc hF5 (.cells #[.int .i64 f0, .int .i64 f1, .int .i64 f2, .slice A5 f3.length c5] 67))
                have HLU := Aside0.mk hLU
                have HRU := Aside0.mk hRU
                clear hF5 hS5 hS6 hLU hRU y1_ bj
                go_wp2_with fail
                refine (HC2.out _ _ _ _ HS6.out).mono ?_
                rintro e_ w7 ⟨hH7, hS7, hk7⟩
                obtain ⟨A7, c7, rfl, h7, hF7⟩ : ∃ A7 c7, e_ = .returned (.tuple #[.agg #[.int .i64 f0, .int .i64 f1, .int .i64 f2, .slice A7 f3.length c7], .int .i64 er]) ∧ f3.length ≤ c7 ∧ Kd.F (Kd.int .u8) w7 (fun k => (w5.alloc (.cells #[.int .i64 f0, .int .i64 f1, .int .i64 f2, .slice A5 f3.length c5] 67)).heap.size ≤ k ∧ k < w7.heap.size) A7 f3.length f3 := hH7
                have hb7 : w7.heap[w5.heap.size]? = some (.cells #[.int .i64 f0, .int .i64 f1, .int .i64 f2, .slice A5 f3.length c5] 67 (0, 0)) := (hk7.block _ (by rw [World.size_alloc]; omega) (fun hk => by have := HLU.out _ hk; omega)).trans HB6.out
                have hC5 := Kd.F_now (Kd.F_step HF6.out (fun k hk hlt => hk7.block k hlt (fun h2 => by have := HRU.out k h2; omega)))
                have hb8 := below_alloc (Below.refl w7.heap.size w7) (.cells #[.int .i64 f0, .int .i64 f1, .int .i64 f2, .slice A7 f3.length c7] 67)
                have HC5 := Aside0.mk (Kd.C_below hC5 hb8)
                have HC7 := Aside0.mk (Kd.C_below (Kd.F_now hF7) hb8)
                have HS8 := Aside0.mk (hS7.below hb8)
                have hb8_ := blk_below hb7 hb8
                have k0_ : (w7.alloc (.cells #[.int .i64 f0, .int .i64 f1, .int .i64 f2, .slice A7 f3.length c7] 67)).cell? ⟨w5.heap.size, 0, none⟩ = some (.int .i64 f0) := (blk_cell hb8_ 0).trans rfl
                have k1_ : (w7.alloc (.cells #[.int .i64 f0, .int .i64 f1, .int .i64 f2, .slice A7 f3.length c7] 67)).cell? ⟨w5.heap.size, 1, none⟩ = some (.int .i64 f1) := (blk_cell hb8_ 1).trans rfl
                have k2_ : (w7.alloc (.cells #[.int .i64 f0, .int .i64 f1, .int .i64 f2, .slice A7 f3.length c7] 67)).cell? ⟨w5.heap.size, 2, none⟩ = some (.int .i64 f2) := (blk_cell hb8_ 2).trans rfl
                have k3_ : (w7.alloc (.cells #[.int .i64 f0, .int .i64 f1, .int .i64 f2, .slice A7 f3.length c7] 67)).cell? ⟨w5.heap.size, 3, none⟩ = some (.slice A5 f3.length c5) := (blk_cell hb8_ 3).trans rfl
                clear hF7 hS7 hk7 hb7 hC5 hb8 hb8_ HF6 HB6 HS6 HC2
                go_wp2_with fail
                refine (gantletref02_Same.calls (f3.length + 1) f0 f1 f2 A5 c5 f3 f0 f1 f2 A7 c7 f3 true _ HC5.out h5 HC7.out h7 ((rsameE (by omega) (by omega)).trans (by simp))).mono ?_
                rintro e_ w9 ⟨rfl, hb9⟩
                have HS9 := Aside0.mk (HS8.out.below hb9)
                clear hb9 k0_ k1_ k2_ k3_ HC5 HC7 HS8
                have ber : (er != er) = false := bne_self_eq_false er
                go_wp2_with fail
                go_roundg k2
                case measure => omega
                case rel => exact ⟨j + 1, _, _, _, _, _, _, (by first | rfl | (rw [wr_in (by have := HJ.out; omega) (by have := HJ.out; omega)]; rfl)), ⟨by have := HJ.out; omega⟩, HS9, HRN, ⟨by have := HT.out; have := HTN.out; omega⟩⟩
              · have bj : decide ((j : Int) < x1.tmod 8) = false := decide_eq_false (by omega)
                go_wp2_with fail
                refine (intake_Begun.is HS.out.t).mono ?_
                rintro e_ w5 ⟨rfl, hw_⟩
                rw [hw_]
                clear hw_ w5
                go_wp2_with fail
                refine (r13_Begun.is HS.out.m (by have := HN4.out; omega)).mono ?_
                rintro e_ w6 ⟨rfl, hb6⟩
                have HS6 := Aside0.mk (HS.out.below hb6)
                rw [← HR.out.bgE]
                have hbb : (bg4 != bg4) = false := bne_self_eq_false bg4
                clear hb6 HS
                go_wp2_with fail
                refine (intake_Len.is HS6.out.t).mono ?_
                rintro e_ w7 ⟨rfl, hw_⟩
                rw [hw_]
                clear hw_ w7
                go_wp2_with fail
                refine (r13_Len.is HS6.out.m rfl (by have := HT.out; have := HJ.out; have := HK.out; omega) HR.out.by_ (by have := HN4.out; omega) (fun ho _ => rel_told HR.out ho)).mono ?_
                rintro e_ w8 ⟨rfl, hb8⟩
                rw [HR.out.len]
                have HS8 := Aside0.mk (HS6.out.below hb8)
                clear hb8 HS6
                go_wp2_with fail
                go_roundg k1
                case measure => omega
                case rel => exact ⟨i + 1, _, _, _, _, _, _, _, _, (by first | rfl | (rw [wr_in (by have := HK.out; omega) (by have := HK.out; omega)]; rfl)), ⟨by have := HK.out; omega⟩, HS8, HR, ⟨by have := HN4.out; have := HT.out; have := HJ.out; omega⟩⟩
        · have bi : decide ((i : Int) < (l1.length : Int)) = false := decide_eq_false (by omega)
          go_wp2_with fail
          refine (intake_Feed.none_ (.slice none 0 0)).mono ?_
          rintro e_ w3 ⟨v0_, rfl, hw_⟩
          rw [hw_]
          clear hw_ w3
          go_wp2_with fail
          refine (intake_Next.none_ _).mono ?_
          rintro e_ w4 ⟨rfl, hb4⟩
          have HB4 := Aside0.mk (below_step HS.out.p.be (below_step hb4 (below_alloc (Below.refl _ _) (.cells #[.int .i64 0, .int .i64 0, .int .i64 0, .slice none 0 0] 67))))
          clear hb4
          go_wp2_with fail
          refine (gantletlaw13_alive.is _).mono ?_
          rintro e_ w5 ⟨rfl, hb5⟩
          have HB5 := Aside0.mk (below_step HB4.out hb5)
          clear hb5 HB4
          go_wp2_with fail
          refine (intake_Begun.none_ _).mono ?_
          rintro e_ w6 ⟨rfl, hw_⟩
          rw [hw_]
          clear hw_ w6
          go_wp2_with fail
          refine (intake_Len.none_ _).mono ?_
          rintro e_ w6 ⟨rfl, hw_⟩
          rw [hw_]
          clear hw_ w6
          go_wp2_with fail
          go_ret
          exact ⟨rfl, HB5.out⟩
def gantletlaw13_IntakePlays.f (a0 : Int) (l : List S104) : Option Bool := if l.all (fun x => x.f0.all (fun y => decide (0 ≤ y ∧ y < 256)) && decide (0 ≤ x.f1 ∧ x.f1 < 256)) = true then some true else none
theorem gantletlaw13_IntakePlays.calls (a0 : Int) (A1 : Option Addr) (c1 : Nat) (l1 : List S104) (r : Bool) (w : World) (hr1 : Kd.C k104 w A1 l1.length l1) (hc1 : l1.length ≤ c1) (h : gantletlaw13_IntakePlays.f a0 l1 = some r) :
    Calls Try.prog 11 #[.int .i64 a0, .slice A1 l1.length c1] w fun e w' => e = .returned (.bool r) ∧ Below w.heap.size w w' := by
  unfold gantletlaw13_IntakePlays.f at h
  by_cases hall : l1.all (fun x => x.f0.all (fun y => decide (0 ≤ y ∧ y < 256)) && decide (0 ≤ x.f1 ∧ x.f1 < 256)) = true
  · rw [if_pos hall] at h
    obtain rfl := Option.some.inj h
    refine gantletlaw13_IntakePlays.main a0 A1 c1 l1 w hr1 hc1 (fun x hx => ?_)
    have h1 := List.all_eq_true.1 hall x hx
    rw [Bool.and_eq_true] at h1
    exact ⟨bytes_dec h1.1, of_decide_eq_true h1.2⟩
  · rw [if_neg hall] at h; cases h
end Go.Proofs.Ytbmnplojpeabmaa.It
