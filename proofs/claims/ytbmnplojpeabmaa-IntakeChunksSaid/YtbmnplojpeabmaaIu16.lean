/-
  INTAKE: IntakeChunks.
  Conditions: none of its own; lemmas that the claim's row rests on.
-/
import Derived.Test.YtbmnplojpeabmaaIu15
import Derived.Test.YtbmnplojpeabmaaQI4
import Derived.WalkKit
namespace Go.Proofs.Ytbmnplojpeabmaa.It
open Go.RowKit Go.Proofs.YtbmnplojpeabmaaW.PrintWords Go.Proofs.YtbmnplojpeabmaaW.PrintLast Go.Proofs.YtbmnplojpeabmaaW.PrintMore
attribute [local go_sem] max2_int min2_int max_two min_two max_three min_three max_four min_four
set_option linter.unusedVariables false
set_option linter.unusedSimpArgs false
open Go.Proofs.Ytbmnplojpeabmaa.Ob Go.Proofs.Ytbmnplojpeabmaa.QI Go.Proofs.Ytbmnplojpeabmaa.FramePure Go.Proofs.Ytbmnplojpeabmaa.WirePure Go.Proofs.Ytbmnplojpeabmaa.IntakePure
theorem wr_ge {B : List Int} (h : 24 ≤ B.length) : wr B = !decide (B.take 24 = PRE) := by
  unfold wr
  rw [List.take_of_length_le (l := PRE) h]
  congr 1
  exact decide_eq_decide.2 ⟨Eq.symm, Eq.symm⟩
theorem tl_f3 {all : List Int} {most : Int} {T : Nat} (hb : Bytes all) : ∀ x ∈ tl all most T, x.f3.length ≤ all.length := by
  intro x hx
  unfold tl at hx
  obtain ⟨j, _, rfl⟩ := List.mem_map.1 hx
  rcases nx_ways most (hb.drop (at_ all most j)) with e | ⟨_, _, e⟩ | ⟨v, _, _, hl, e⟩ <;> rw [e]
  · exact Nat.zero_le _
  · exact Nat.zero_le _
  · show (((all.drop (at_ all most j)).take (9 + v)).drop 9).length ≤ _
    rw [List.length_drop, List.length_take, List.length_drop]
    omega
theorem fin_f3 {most : Int} {all : List Int} {fs : List S67} {e : Int} {n : Nat} (h : Fin most all fs e n) (hb : Bytes all) : ∀ x ∈ fs, x.f3.length ≤ all.length := by
  rcases h with ⟨_, rfl, _⟩ | ⟨_, _, rfl, _⟩ | ⟨_, _, T, _, rfl, _⟩
  · intro x hx; cases hx
  · intro x hx; cases hx
  · exact tl_f3 hb
theorem fin_none {most : Int} {all : List Int} {fs : List S67} {e : Int} {n : Nat} (h : Fin most all fs e n) (hn : ¬ (24 ≤ all.length ∧ wr all = false)) : fs = [] := by
  rcases h with ⟨_, rfl, _⟩ | ⟨_, _, rfl, _⟩ | ⟨h1, h2, _⟩
  · rfl
  · rfl
  · exact absurd ⟨h2, h1⟩ hn
theorem fin_begun {most : Int} {all : List Int} {fs : List S67} {e : Int} {n : Nat} (h : Fin most all fs e n) (hb : Bytes all) (hl : all.length ≤ 1000000) (h24 : 24 ≤ all.length) (hw : wr all = false) :
    e ≠ 0 ∧ ∃ (k : Nat) (p : Int) (i : Int), gantletref02_All.f k (all.drop 24) most = some (fs, p, i) ∧ (i = e ∨ (i = 0 ∧ e = 2)) := by
  rcases h with ⟨h1, _⟩ | ⟨_, h1, _⟩ | ⟨_, _, T, hT, rfl, he, he0, _⟩
  · rw [hw] at h1; cases h1
  · omega
  · refine ⟨he0, ?_⟩
    obtain ⟨p, hp⟩ := all_tl hb h24 hl hT (by rw [← he]; exact he0) T 0 (T + 2) (by omega) (by omega)
    refine ⟨T + 2, p, _, hp, ?_⟩
    by_cases ha : at_ all most T = all.length
    · rw [if_pos ha]
      refine .inr ⟨rfl, ?_⟩
      rw [he, ha, List.drop_length]
      rfl
    · rw [if_neg ha]
      exact .inl he.symm
set_option maxHeartbeats 16000000 in
set_option maxRecDepth 100000 in
theorem gantletlaw13_IntakeChunks.main (A1 : Option Addr) (c1 : Nat) (l1 : List S104) (w : World) (hr1 : Kd.C k104 w A1 l1.length l1) (hc1 : l1.length ≤ c1) (hby : ∀ x ∈ l1, Bytes x.f0 ∧ 0 ≤ x.f1 ∧ x.f1 < 256) :
    Calls Try.prog 12 #[.slice A1 l1.length c1] w fun e w' => e = .returned (.bool true) ∧ Below w.heap.size w w' := by
  have hu67 := Try.underlying67
  have hu104 := Try.underlying104
  have HR1 := Aside0.mk hr1
  have HC1 := Aside0.mk hc1
  have HY := Aside0.mk hby
  clear hr1 hc1 hby
  by_cases h40 : 40 < l1.length
  · have b40 : decide ((40 : Int) < (l1.length : Int)) = true := decide_eq_true (by omega)
    go_enter Try.func12, Try.ntmps12
    go_wp2_with fail
    refine (gantletlaw13_alive.is _).mono ?_
    rintro e_ w1 ⟨rfl, hb⟩
    have HB := Aside0.mk hb
    clear hb
    go_wp2_with fail
    go_ret
    exact ⟨rfl, HB.out⟩
  · have b40 : decide ((40 : Int) < (l1.length : Int)) = false := decide_eq_false (by omega)
    go_enter Try.func12, Try.ntmps12
    go_wp2_with fail
    refine (intake_New.ok 16384 _ (by decide) (by decide)).mono ?_
    rintro e_ w1 ⟨gt, rfl, hT1, hgt1, hb1⟩
    have HT1 := Aside0.mk hT1
    have HB1 := Aside0.mk hb1
    have HG1 := Aside0.mk hgt1
    clear hT1 hb1 hgt1
    go_wp2_with fail
    refine (intake_New.ok 16384 _ (by decide) (by decide)).mono ?_
    rintro e_ w2 ⟨gu, rfl, hU2, hgu2, hb2⟩
    have HS2 : Aside0 (Ch w w2 gt (.slice none 0 0) [] false 0 gu (.slice none 0 0) [] false 0 (.slice none 0 0) [] (.slice none 0 0) []) := ⟨⟨HT1.out.below hb2, hU2, ⟨fun k hk h2 => by rcases hk with rfl | hk; (rcases h2 with rfl | h2; (have := blk_lt HT1.out.1; omega); (simp [Value.ownBlock] at h2)); (simp [Value.ownBlock] at hk), (HT1.out.below hb2).foot, hU2.foot, below_step HB1.out hb2, fun k hk => by rcases hk with rfl | hk; exact HG1.out; (simp [Value.ownBlock] at hk), fun k hk => by rcases hk with rfl | hk; exact Nat.le_trans HB1.out.size hgu2; (simp [Value.ownBlock] at hk)⟩, Gr.nil _ _ _ _, fun k hk => by simp [Value.ownBlock] at hk, Kd.N_nil _ _ _ _ _⟩⟩
    clear hU2 hgu2 hb2 HT1 HB1 HG1
    go_wp2_with fail
    go_loopg [7, 8, 9] (l1.length + 1) (fun kq v7 v8 v9 w' => ∃ (i : Nat) (vt : Value) (lt : List Int) (bt : Bool) (ot : Int) (all : List Int) (told : List S67), v9 = .int .i64 (i : Int) ∧ Aside0 (i + kq = l1.length + 1 ∧ i ≤ l1.length) ∧ Aside0 (Ch w w' gt vt lt bt ot gu (.slice none 0 0) [] false 0 v7 all v8 told) ∧ Aside0 (Qs 16384 told lt bt ot all) ∧ Aside0 (all.length ≤ 2000 * i ∧ told.length ≤ 8889 * i))
    case atStart => exact ⟨0, _, _, _, _, _, _, rfl, ⟨by omega⟩, HS2, ⟨Qs.first 16384⟩, ⟨by simp⟩⟩
    case round =>
      clear HS2
      obtain ⟨i, vt, lt, bt, ot, all, told, rfl, HK, HS, HQ, HN⟩ := hrel
      obtain ⟨Aa, ca, ea, hca, hCa⟩ := HS.out.al.reads 0
      subst ea
      obtain ⟨Ao, co, eo⟩ := Kd.N_slice HS.out.tl
      subst eo
      have HCA := Aside0.mk hCa
      clear hCa
      by_cases hi : i < l1.length
      · have bi : decide ((i : Int) < (l1.length : Int)) = true := decide_eq_true (by omega)
        have p1 : ((0 : Int) ≤ (i : Int)) = True := eq_true (by omega)
        have p2 : ((i : Int) < (l1.length : Int)) = True := eq_true (by omega)
        obtain ⟨ad, A3, c3, e1, hx0, hx1, hc3, hrp⟩ := at_T104 HR1.out (i : Int) (by omega) (by omega)
        cases e1
        have hm := rd104_mem HY.out (i : Int) (by omega) (by omega)
        generalize rd_T104 l1 (i : Int) = X at *
        obtain ⟨x0, x1⟩ := X
        simp only [] at hx0 hx1 hc3 hrp hm
        rw [Int.toNat_natCast] at hx0 hx1
        have HX0 := Aside0.mk hx0
        have HX1 := Aside0.mk hx1
        have HRP := Aside0.mk hrp
        have HM := Aside0.mk hm
        clear hrp hm
        obtain ⟨k1, hk1⟩ : ∃ j, gk = j + 1 := ⟨gk - 1, by have := HK.out; omega⟩
        subst hk1
        replace hx0 := (HS.out.p.be.cell (World.block_lt_of_cell? w _ hx0)).trans hx0
        replace hx1 := (HS.out.p.be.cell (World.block_lt_of_cell? w _ hx1)).trans hx1
        by_cases hlong : 2000 < x0.length
        · have bl : decide ((2000 : Int) < (x0.length : Int)) = true := decide_eq_true (by omega)
          go_wp2_with fail
          refine (gantletlaw13_alive.is _).mono ?_
          rintro e_ w3 ⟨rfl, hb⟩
          have HB := Aside0.mk (below_step HS.out.p.be hb)
          clear hb
          go_wp2_with fail
          go_ret
          exact ⟨rfl, HB.out⟩
        · have bl : decide ((2000 : Int) < (x0.length : Int)) = false := decide_eq_false (by omega)
          have hlb := HQ.out.bytes
          have hab := HQ.out.all_bytes
          have hBn := HN.out.1
          have hQ4 := HQ.out.feed HM.out.1
          obtain ⟨all4, h4⟩ : ∃ q_, all ++ x0 = q_ := ⟨_, rfl⟩
          rw [h4] at hQ4
          have HQ4 := Aside0.mk hQ4
          clear hQ4
          go_wp2_with (first | (at_builtin; go_loud (refine Gr.append (Value.int .u8) 0 (h1 := u8one) rfl (.tmp 62) (.tmp 67) 22 5 (.int .u8 0) 1 rfl Try.underlying22 info5 rfl (by decide) (.slice Aa all.length ca) all x0 _ _ _ rfl rfl HS.out.al (Kd.C_below HRP.out HS.out.p.be) (by omega) ?_; intro va3 w3 hG3 hg3 hat3; rw [h4] at hG3; have hS3 := HS.out.grow hG3 hg3 hat3; have HS3 := Aside0.mk hS3; obtain ⟨Ab, cb, eb, hcb, _⟩ := hG3.reads 0; subst eb; replace hx0 := (hS3.p.be.cell (World.block_lt_of_cell? w _ HX0.out)).trans HX0.out; replace hx1 := (hS3.p.be.cell (World.block_lt_of_cell? w _ HX1.out)).trans HX1.out; clear hS3 hG3 hg3 hat3)))
          refine (HS3.out.feed A3 c3 x0 (Kd.C_below HRP.out HS3.out.p.be) hc3 (by omega) hlb.1 HM.out.1).mono ?_
          rintro e_ w4 ⟨v0_, rfl, vt4, hS4⟩
          have HS4 := Aside0.mk hS4
          have y1_ := (hS4.p.be.cell (World.block_lt_of_cell? w _ HX1.out)).trans HX1.out
          have HNN : Aside0 (all4.length ≤ 2000 * (i + 1)) := ⟨by rw [← h4, List.length_append]; omega⟩
          clear hS4 hx0 hx1 HS HQ HS3 hlb hab hBn h4 HCA
          generalize (feedI lt bt ot x0).1 = l4 at *
          generalize (feedI lt bt ot x0).2.1 = b4 at *
          generalize (feedI lt bt ot x0).2.2 = o4 at *
          by_cases hodd : x1.tmod 2 = 1
          · have bo : (x1.tmod 2 == 1) = true := beq_iff_eq.mpr hodd
            go_wp2_with fail
            obtain ⟨F, hF⟩ : ∃ F, frs 16384 8889 l4 b4 o4 = F := ⟨_, rfl⟩
            have he_ := Qs.ends 8889 told l4 o4 HQ4.out (by have := (HQ4.out).bytes.2; have := HNN.out; omega)
            have hfl_ := frs_len 16384 8889 (l := l4) (bg := b4) (ov := o4)
            rw [hF] at he_ hfl_
            have HFL := Aside0.mk hfl_
            have HEN := Aside0.mk he_
            refine (HS4.out.frames (HQ4.out).bytes.1 (by have := (HQ4.out).bytes.2; have := HNN.out; omega) F hF).mono ?_
            clear he_ hfl_ hF
            rintro e_ w5 ⟨vs, rfl, hN5, vt5, hS5, hfr, hlo⟩
            obtain ⟨As, cs, es⟩ := Kd.N_slice hN5
            subst es
            have HN5 := Aside0.mk hN5
            have HS5 := Aside0.mk hS5
            have HFR := Aside0.mk hfr
            have HLO := Aside0.mk hlo
            clear hN5 hS5 hfr hlo
            go_wp2_with (first | (at_builtin; go_loud (refine Kd.N_append_rows k67 (w0 := w5) w.heap.size rfl (.tmp 88) (.tmp 89) 56 67 (.agg #[(.int .i64 0), (.int .i64 0), (.int .i64 0), (.slice none 0 0)]) 48 rfl Try.underlying56 info67c rfl (by decide) (by decide) (.slice Ao told.length co) told F.1 _ _ _ (okT w gt vt5 gu (.slice none 0 0) (.slice Ab all4.length cb)) (fun k => w4.heap.size ≤ k) rfl rfl HS5.out.tl (Kd.N_F HN5.out) (fun k hk => ⟨HFR.out k hk, fun e => by have := HLO.out k e.symm; omega⟩) HS5.out.fresh (Below.refl _ _) HS5.out.p.be.size (by have := HFL.out; have := HN.out; have := HK.out; omega) ?_; intro vo6 w6 hN6 _ hg6 hat6; have HS6 := Aside0.mk (HS5.out.tell hN6 hg6); clear hN6 hg6 hat6)))
            go_roundg k1
            case measure => omega
            case rel => exact ⟨i + 1, vt5, F.2.1.1, b4, F.2.1.2, all4, told ++ F.1, (by first | rfl | (rw [wr_in (by have := HK.out; omega) (by have := HK.out; omega)]; rfl)), ⟨by have := HK.out; omega⟩, HS6, ⟨HEN.out.2⟩, ⟨HNN.out, by have := HN.out; have := HFL.out; rw [List.length_append]; omega⟩⟩
          · have bo : (x1.tmod 2 == 1) = false := beq_eq_false_iff_ne.mpr hodd
            go_wp2_with fail
            go_roundg k1
            case measure => omega
            case rel => exact ⟨i + 1, vt4, l4, b4, o4, all4, told, (by first | rfl | (rw [wr_in (by have := HK.out; omega) (by have := HK.out; omega)]; rfl)), ⟨by have := HK.out; omega⟩, HS4, HQ4, ⟨HNN.out, by have := HN.out; omega⟩⟩
      · have bi : decide ((i : Int) < (l1.length : Int)) = false := decide_eq_false (by omega)
        have hn80 : all.length ≤ 80000 := by have := HN.out.1; have := HK.out; omega
        go_wp2_with fail
        refine (HS.out.swap.feed Aa ca all HCA.out hca (by show 0 + _ ≤ _; omega) (fun x hx => by cases hx) HQ.out.all_bytes).mono ?_
        rintro e_ w4 ⟨v0_, rfl, vu4, hS4⟩
        have HS4 := Aside0.mk hS4.swap
        have HQU := Aside0.mk ((Qs.first 16384).feed HQ.out.all_bytes)
        clear hS4
        rw [List.nil_append] at HQU
        generalize (feedI [] false 0 all).1 = lu4 at *
        generalize (feedI [] false 0 all).2.1 = bu4 at *
        generalize (feedI [] false 0 all).2.2 = ou4 at *
        go_wp2_with fail
        obtain ⟨F, hF⟩ : ∃ F, frs 16384 8889 lt bt ot = F := ⟨_, rfl⟩
        have he_ := Qs.ends 8889 told lt ot HQ.out (by have := (HQ.out).bytes.2; have := hn80; omega)
        have hfl_ := frs_len 16384 8889 (l := lt) (bg := bt) (ov := ot)
        rw [hF] at he_ hfl_
        have HFL := Aside0.mk hfl_
        have HEN := Aside0.mk he_
        refine (HS4.out.frames (HQ.out).bytes.1 (by have := (HQ.out).bytes.2; have := hn80; omega) F hF).mono ?_
        clear he_ hfl_ hF
        rintro e_ w5 ⟨vs, rfl, hN5, vt5, hS5, hfr, hlo⟩
        obtain ⟨As, cs, es⟩ := Kd.N_slice hN5
        subst es
        have HN5 := Aside0.mk hN5
        have HS5 := Aside0.mk hS5
        have HFR := Aside0.mk hfr
        have HLO := Aside0.mk hlo
        clear hN5 hS5 hfr hlo

        go_wp2_with (first | (at_builtin; go_loud (refine Kd.N_append_rows k67 (w0 := w5) w.heap.size rfl (.tmp 99) (.tmp 100) 56 67 (.agg #[(.int .i64 0), (.int .i64 0), (.int .i64 0), (.slice none 0 0)]) 48 rfl Try.underlying56 info67c rfl (by decide) (by decide) (.slice Ao told.length co) told F.1 _ _ _ (okT w gt vt5 gu vu4 (.slice Aa all.length ca)) (fun k => w4.heap.size ≤ k) rfl rfl HS5.out.tl (Kd.N_F HN5.out) (fun k hk => ⟨HFR.out k hk, fun e => by have := HLO.out k e.symm; omega⟩) HS5.out.fresh (Below.refl _ _) HS5.out.p.be.size (by have := HFL.out; have := HN.out; have := HK.out; omega) ?_; intro vo6 w6 hN6 _ hg6 hat6; have HS6 := Aside0.mk (HS5.out.tell hN6 hg6); clear hN6 hg6 hat6)))
        obtain ⟨told6, h6⟩ : ∃ q_, told ++ F.1 = q_ := ⟨_, rfl⟩
        rw [h6] at HS6
        have hEN := HEN.out
        rw [h6] at hEN
        have HEA := Aside0.mk hEN
        have HTL : Aside0 (told6.length ≤ 1000000) := ⟨by rw [← h6, List.length_append]; have := HFL.out; have := HN.out; have := HK.out; omega⟩
        have HQA := Aside0.mk HQ.out.all_bytes
        have HBG := Aside0.mk HQ.out.begun
        clear hEN h6 HEN HQ
        obtain ⟨Ao6, co6, eo6⟩ := Kd.N_slice HS6.out.tl
        subst eo6
        obtain ⟨G, hG⟩ : ∃ G, frs 16384 8889 lu4 bu4 ou4 = G := ⟨_, rfl⟩
        have he_ := Qs.ends 8889 [] lu4 ou4 HQU.out (by have := HQU.out.bytes.2; omega)
        rw [hG, List.nil_append] at he_
        have HEB := Aside0.mk he_
        refine (HS6.out.swap.frames HQU.out.bytes.1 (by have := HQU.out.bytes.2; omega) G hG).mono ?_
        clear he_ hG
        rintro e_ w7 ⟨vw, rfl, hN7, vu7, hS7, _, _⟩
        have HS7 := Aside0.mk hS7.swap
        obtain ⟨hu1, hu2, hu3⟩ := HEA.out.1.unique HEB.out.1
        have HU1 := Aside0.mk hu1
        have HU2 := Aside0.mk hu2
        have HU3 := Aside0.mk hu3
        clear hu1 hu2 hu3
        obtain ⟨Aw, cw, ew, hcw, hCw⟩ := Kd.N_reads hN7
        subst ew
        obtain ⟨_, _, e6_, hc6, hC6⟩ := Kd.N_reads HS7.out.tl
        obtain ⟨rfl, rfl⟩ : Ao6 = _ ∧ co6 = _ := by injection e6_ with h1 _ h3; exact ⟨h1, h3⟩
        clear e6_ hN7 hS7
        have HCW := Aside0.mk hCw
        have HC6 := Aside0.mk hC6
        clear hCw hC6
        have hf3_ := fin_f3 HEA.out.1 HQA.out
        have htl_ : told6.length ≤ 1000000 := HTL.out
        go_wp2_with fail
        obtain ⟨kk, hkk⟩ : ∃ kk, told6.length + 80000 < kk := ⟨_, Nat.lt_succ_self _⟩
        refine (gantletref02_List.calls kk Ao6 co6 told6 Aw cw G.1 true _ HC6.out hc6 HCW.out hcw (by rw [← HU1.out]; exact listE (B := 80000) (fun x hx => Nat.le_trans (hf3_ x hx) hn80) (by omega) (by omega) (by omega))).mono ?_
        rintro e_ w8 ⟨rfl, hb8⟩
        have HS8 := Aside0.mk (HS7.out.below hb8)
        have bgh : (F.2.2 != G.2.2) = false := by rw [HU2.out]; exact bne_self_eq_false _
        have bln : ((F.2.1.1.length : Int) != (G.2.1.1.length : Int)) = false := by rw [HU3.out]; exact bne_self_eq_false _
        have bln2 : (F.2.1.1.length != G.2.1.1.length) = false := by rw [HU3.out]; exact bne_self_eq_false _
        clear hb8 HS7 HC6 HCW hf3_ htl_ HEB HU1 HU2 HU3
        go_wp2_with fail
        refine (intake_Len.is HS8.out.t).mono ?_
        rintro e_ w_ ⟨rfl, hw_⟩
        rw [hw_]
        clear hw_ w_
        go_wp2_with fail
        refine (intake_Len.is HS8.out.u).mono ?_
        rintro e_ w_ ⟨rfl, hw_⟩
        rw [hw_]
        clear hw_ w_
        go_wp2_with fail
        clear bln bln2 bgh
        obtain ⟨_, _, e8_, _, hA8⟩ := HS8.out.al.reads 0
        obtain ⟨rfl, rfl⟩ : Aa = _ ∧ ca = _ := by injection e8_ with h1 _ h3; exact ⟨h1, h3⟩
        clear e8_
        have HA8 := Aside0.mk hA8
        clear hA8
        obtain ⟨eg, heg⟩ : ∃ q_, F.2.2 = q_ := ⟨_, rfl⟩
        have hEA1 := HEA.out.1
        rw [heg] at hEA1 ⊢
        have HFA := Aside0.mk hEA1
        clear heg hEA1 HEA
        by_cases h24 : 24 ≤ all.length
        · have b24 : decide ((24 : Int) ≤ (all.length : Int)) = true := decide_eq_true (by omega)
          have hca24 : ((24 : Int) ≤ (ca : Int)) = True := eq_true (by omega)
          have hwr := wr_ge h24
          generalize hbq : decide (all.take 24 = PRE) = bq at hwr
          have HBQ := Aside0.mk hbq
          clear hbq
          refine start_ (n := 10) (S := fun w' => Below w8.heap.size w8 w') (ds := []) #[false, false, false, false, false, false, false, false, false, false] (by kernel_rfl) rfl rfl (below_drew1 (Below.refl _ _)) (fun hHeld => ?_)
          refine pure_ (i := 0) (N := some 124) (v := ?_) (a' := ?_) #[true, false, false, false, false, false, false, false, false, false] rfl rfl (by kernel_rfl) (fun _ _ _ h => h) (Or.inl ⟨by rfl, ?_⟩) ?_ ?_
          rotate_left
          · intro w'
            go_simp
            with_reducible rfl
          rotate_left
          · simp only [Act.put, List.setIfInBounds_toArray, List.set_cons_zero, List.set_cons_succ]
            rfl
          refine pure_ (i := 1) (N := some 125) (v := ?_) (a' := ?_) #[true, true, false, false, false, false, false, false, false, false] rfl rfl (by kernel_rfl) (fun _ _ _ h => h) (Or.inl ⟨by rfl, ?_⟩) ?_ ?_
          rotate_left
          · intro w'
            go_simp
            with_reducible rfl
          rotate_left
          · simp only [Act.put, List.setIfInBounds_toArray, List.set_cons_zero, List.set_cons_succ]
            rfl
          refine pure_ (i := 2) (N := some 126) (v := ?_) (a' := ?_) #[true, true, true, false, false, false, false, false, false, false] rfl rfl (by kernel_rfl) (fun _ _ _ h => h) (Or.inl ⟨by rfl, ?_⟩) ?_ ?_
          rotate_left
          · intro w'
            go_simp
            with_reducible rfl
          rotate_left
          · simp only [Act.put, List.setIfInBounds_toArray, List.set_cons_zero, List.set_cons_succ]
            rfl
          refine pure_ (i := 3) (N := some 127) (v := ?_) (a' := ?_) #[true, true, true, true, false, false, false, false, false, false] rfl rfl (by kernel_rfl) (fun _ _ _ h => h) (Or.inl ⟨by rfl, ?_⟩) ?_ ?_
          rotate_left
          · intro w'
            go_simp
            with_reducible rfl
          rotate_left
          · simp only [Act.put, List.setIfInBounds_toArray, List.set_cons_zero, List.set_cons_succ]
            rfl
          refine pure_ (i := 4) (N := some 128) (v := ?_) (a' := ?_) #[true, true, true, true, true, false, false, false, false, false] rfl rfl (by kernel_rfl) (fun _ _ _ h => h) (Or.inl ⟨by rfl, ?_⟩) ?_ ?_
          rotate_left
          · intro w'
            go_simp
            with_reducible rfl
          rotate_left
          · simp only [Act.put, List.setIfInBounds_toArray, List.set_cons_zero, List.set_cons_succ]
            rfl
          refine pure_ (i := 5) (N := some 129) (v := ?_) (a' := ?_) #[true, true, true, true, true, true, false, false, false, false] rfl rfl (by kernel_rfl) (fun _ _ _ h => h) (Or.inl ⟨by rfl, ?_⟩) ?_ ?_
          rotate_left
          · intro w'
            go_simp
            with_reducible rfl
          rotate_left
          · simp only [Act.put, List.setIfInBounds_toArray, List.set_cons_zero, List.set_cons_succ]
            rfl
          refine one_ (i := 6) (N := some 130) #[true, true, true, true, true, true, true, false, false, false] rfl rfl (by kernel_rfl) (by decide) (fun K_ hK_ => ?_)
          have HH_ := Aside0.mk hHeld
          clear hHeld
          refine goes_ Try.func77 (by kernel_rfl) rfl #[] (by rfl) rfl rfl (by (try simp only [List.map_toArray, List.map_cons, List.map_nil]); first | done | rfl | (simp only [List.length_drop, List.length_take]; rfl)) ?_
          refine (intake_Preface.is _).mono ?_
          rintro e_ w9 ⟨gp, rfl, hC_, hbe_⟩
          refine ⟨_, rfl, ?_⟩
          have HP := Aside0.mk hC_
          clear hC_
          have hbn_ := below_step HH_.out hbe_
          clear HH_ hbe_
          refine hK_.out _ _ (hbn_) (fun hHeld => ?_)
          clear hK_
          refine norm_ (a' := ?_) ?_ ?_
          rotate_left
          · simp only [Act.put, List.setIfInBounds_toArray, List.set_cons_zero, List.set_cons_succ]
            rfl
          refine one_ (i := 7) (N := some 131) #[true, true, true, true, true, true, true, true, false, false] rfl rfl (by kernel_rfl) (by decide) (fun K_ hK_ => ?_)
          have HH_ := Aside0.mk hHeld
          clear hHeld
          have hE_ := gantletref01_Same.calls 25 Aa ca (all.take 24) (some ⟨gp, 0, none⟩) 24 PRE bq w9 (Kd.C_take (Kd.C_below HA8.out HH_.out) h24) (by rw [List.length_take]; omega) HP.out (Nat.le_refl _) (by rw [same_eq _ _ _ (by rw [List.length_take]; omega) (by rw [List.length_take]; omega), HBQ.out])
          rw [List.length_take, Nat.min_eq_left h24] at hE_
          have hE2_ : Calls Try.prog 18 #[.slice Aa 24 ca, .slice (some ⟨gp, 0, none⟩) 24 24] w9 fun e w' => e = .returned (.bool bq) ∧ Drawn0 w9 w' := hE_
          refine goes_ Try.func18 (by kernel_rfl) rfl #[.slice Aa 24 ca, .slice (some ⟨gp, 0, none⟩) 24 24] (by rfl) rfl rfl (by (try simp only [List.map_toArray, List.map_cons, List.map_nil]); first | done | rfl | (simp only [List.length_drop, List.length_take]; rfl)) ?_
          refine (hE2_).mono ?_
          rintro e_ w10 ⟨rfl, hdr_⟩
          refine ⟨_, rfl, ?_⟩
          have hbe_ := hdr_.below
          clear hdr_ hE_ hE2_
          have hbn_ := below_step HH_.out hbe_
          clear HH_ hbe_
          refine hK_.out _ _ (hbn_) (fun hHeld => ?_)
          clear hK_
          refine norm_ (a' := ?_) ?_ ?_
          rotate_left
          · simp only [Act.put, List.setIfInBounds_toArray, List.set_cons_zero, List.set_cons_succ]
            rfl
          refine pure_ (i := 8) (N := some 132) (v := ?_) (a' := ?_) #[true, true, true, true, true, true, true, true, true, false] rfl rfl (by kernel_rfl) (fun _ _ _ h => h) (Or.inl ⟨by rfl, ?_⟩) ?_ ?_
          rotate_left
          · intro w'
            go_simp
            with_reducible rfl
          rotate_left
          · simp only [Act.put, List.setIfInBounds_toArray, List.set_cons_zero, List.set_cons_succ]
            rfl
          refine pure_ (i := 9) (N := some 17) (v := ?_) (a' := ?_) #[true, true, true, true, true, true, true, true, true, true] rfl rfl (by kernel_rfl) (fun _ _ _ h => h) (Or.inl ⟨by rfl, ?_⟩) ?_ ?_
          rotate_left
          · intro w'
            go_simp
            with_reducible rfl
          rotate_left
          · simp only [Act.put, List.setIfInBounds_toArray, List.set_cons_zero, List.set_cons_succ]
            rfl
          refine done_ (by kernel_rfl) ?_
          have HS10 := Aside0.mk (HS8.out.below hHeld)
          have HA10 := Aside0.mk (Kd.C_below HA8.out hHeld)
          clear hHeld HS8 HA8
          cases bq with
          | false =>
            have hnb : ¬ (24 ≤ all.length ∧ IntakePure.wr all = false) := fun h => by rw [hwr] at h; cases h.2
            have ht0 := fin_none HFA.out hnb
            have b0_ : ((told6.length : Int) == 0) = true := by rw [ht0]; rfl
            have b1_ : (told6.length == 0) = true := by rw [ht0]; rfl
            have hbt : bt = false := by rw [HBG.out]; exact decide_eq_false hnb
            go_wp2_with fail
            refine (gantletlaw13_alive.is _).mono ?_
            rintro e_ w12 ⟨rfl, hb12⟩
            have HS12 := Aside0.mk (HS10.out.below hb12)
            clear hb12 HS10
            go_wp2_with fail
            refine (intake_Begun.is HS12.out.t).mono ?_
            rintro e_ w_ ⟨rfl, hw_⟩
            rw [hw_, hbt]
            clear hw_ w_
            go_wp2_with fail
            go_ret
            exact ⟨rfl, HS12.out.p.be⟩
          | true =>
            have hw0 : IntakePure.wr all = false := by rw [hwr]; rfl
            obtain ⟨he0, kA, pA, iA, hAf, hiA⟩ := fin_begun HFA.out HQA.out (by omega) h24 hw0
            have hbt : bt = true := by rw [HBG.out]; exact decide_eq_true ⟨h24, hw0⟩
            obtain ⟨A', hA'⟩ : ∃ A', (if ca = 24 then Aa else Option.map (fun x => x.add 24) Aa) = A' := ⟨_, rfl⟩
            have hA2 := hA'
            simp only [Addr.add_succ'] at hA2
            have hd_ := Kd.C_drop HA10.out h24 hca
            rw [show (Kd.scalar (Value.int .u8) u8one).sz = 1 from rfl, Nat.mul_one, hA'] at hd_
            have HD := Aside0.mk hd_
            clear hd_
            have hlT : ((24 : Int) ≤ (all.length : Int)) = True := eq_true (by omega)
            have hlC : ((all.length : Int) ≤ (ca : Int)) = True := eq_true (by omega)
            have hle : (all.drop 24).length ≤ ca - 24 := by rw [List.length_drop]; omega
            have hAll_ := gantletref02_All.calls kA A' (ca - 24) (all.drop 24) 16384 told6 pA iA _ HD.out hle hAf
            rw [List.length_drop] at hAll_
            have HALL := Aside0.mk hAll_
            clear hAll_
            go_wp2_with fail
            (try simp only [hA', hA2])
            refine HALL.out.mono ?_
            rintro e_ w11 ⟨vA, rfl, hS11, hb11⟩
            have HS11 := Aside0.mk (HS10.out.below hb11)
            obtain ⟨Am, cm, em, hcm, hCm⟩ := Kd.R_reads (Kd.S_R hS11)
            subst em
            obtain ⟨_, _, e6_, hcq, hCq⟩ := Kd.N_reads HS11.out.tl
            obtain ⟨rfl, rfl⟩ : Ao6 = _ ∧ co6 = _ := by injection e6_ with h1 _ h3; exact ⟨h1, h3⟩
            clear e6_ hS11 hb11 HALL HS10
            have HCM := Aside0.mk hCm
            have HCQ := Aside0.mk hCq
            clear hCm hCq
            have hf3_ := fin_f3 HFA.out HQA.out
            have htl_ : told6.length ≤ 1000000 := HTL.out
            go_wp2_with fail
            obtain ⟨kk, hkk⟩ : ∃ kk, told6.length + 80000 < kk := ⟨_, Nat.lt_succ_self _⟩
            refine (gantletref02_List.calls kk Ao6 co6 told6 Am cm told6 true _ HCQ.out hcq HCM.out hcm (listE (B := 80000) (fun x hx => Nat.le_trans (hf3_ x hx) hn80) (by omega) (by omega) (by omega))).mono ?_
            rintro e_ w12 ⟨rfl, hb12⟩
            have HS12 := Aside0.mk (HS11.out.below hb12)
            clear hb12 HS11 HCM HCQ
            go_wp2_with fail
            refine (gantletlaw13_alive.is _).mono ?_
            rintro e_ w13 ⟨rfl, hb13⟩
            have HS13 := Aside0.mk (HS12.out.below hb13)
            clear hb13 HS12
            go_wp2_with fail
            refine (intake_Begun.is HS13.out.t).mono ?_
            rintro e_ w_ ⟨rfl, hw_⟩
            rw [hw_, hbt]
            clear hw_ w_
            have HE0 := Aside0.mk he0
            clear he0
            rcases hiA with hi1 | ⟨hi1, hi2⟩
            · subst hi1
              have bs : (iA == iA) = true := beq_self_eq_true iA
              go_wp2_with fail
              go_ret
              exact ⟨rfl, HS13.out.p.be⟩
            · subst hi1 hi2
              go_wp2_with fail
              go_ret
              exact ⟨rfl, HS13.out.p.be⟩

        · have b24 : decide ((24 : Int) ≤ (all.length : Int)) = false := decide_eq_false (by omega)
          have hnb : ¬ (24 ≤ all.length ∧ IntakePure.wr all = false) := fun h => h24 h.1
          refine start_ (n := 10) (S := fun w' => Below w8.heap.size w8 w') (ds := []) #[false, false, false, false, false, false, false, false, false, false] (by kernel_rfl) rfl rfl (below_drew1 (Below.refl _ _)) (fun hHeld => ?_)
          refine pure_ (i := 0) (N := some 124) (v := ?_) (a' := ?_) #[true, false, false, false, false, false, false, false, false, false] rfl rfl (by kernel_rfl) (fun _ _ _ h => h) (Or.inl ⟨by rfl, ?_⟩) ?_ ?_
          rotate_left
          · intro w'
            go_simp
            with_reducible rfl
          rotate_left
          · simp only [Act.put, List.setIfInBounds_toArray, List.set_cons_zero, List.set_cons_succ]
            rfl
          refine pure_ (i := 1) (N := some 125) (v := ?_) (a' := ?_) #[true, true, false, false, false, false, false, false, false, false] rfl rfl (by kernel_rfl) (fun _ _ _ h => h) (Or.inl ⟨by rfl, ?_⟩) ?_ ?_
          rotate_left
          · intro w'
            go_simp
            with_reducible rfl
          rotate_left
          · simp only [Act.put, List.setIfInBounds_toArray, List.set_cons_zero, List.set_cons_succ]
            rfl
          refine pure_ (i := 2) (N := some 126) (v := ?_) (a' := ?_) #[true, true, true, false, false, false, false, false, false, false] rfl rfl (by kernel_rfl) (fun _ _ _ h => h) (Or.inl ⟨by rfl, ?_⟩) ?_ ?_
          rotate_left
          · intro w'
            go_simp
            with_reducible rfl
          rotate_left
          · simp only [Act.put, List.setIfInBounds_toArray, List.set_cons_zero, List.set_cons_succ]
            rfl
          refine pure_ (i := 3) (N := some 127) (v := ?_) (a' := ?_) #[true, true, true, true, false, false, false, false, false, false] rfl rfl (by kernel_rfl) (fun _ _ _ h => h) (Or.inl ⟨by rfl, ?_⟩) ?_ ?_
          rotate_left
          · intro w'
            go_simp
            with_reducible rfl
          rotate_left
          · simp only [Act.put, List.setIfInBounds_toArray, List.set_cons_zero, List.set_cons_succ]
            rfl
          refine pure_ (i := 4) (N := some 128) (v := undef) (a' := ?_) #[true, true, true, true, true, false, false, false, false, false] rfl rfl (by kernel_rfl) (fun _ _ _ h => h) (Or.inr ⟨by rfl, rfl⟩) ?_ ?_
          rotate_left
          · simp only [Act.put, List.setIfInBounds_toArray, List.set_cons_zero, List.set_cons_succ]
            rfl
          refine pure_ (i := 5) (N := some 129) (v := undef) (a' := ?_) #[true, true, true, true, true, true, false, false, false, false] rfl rfl (by kernel_rfl) (fun _ _ _ h => h) (Or.inr ⟨by rfl, rfl⟩) ?_ ?_
          rotate_left
          · simp only [Act.put, List.setIfInBounds_toArray, List.set_cons_zero, List.set_cons_succ]
            rfl
          refine pure_ (i := 6) (N := some 130) (v := undef) (a' := ?_) #[true, true, true, true, true, true, true, false, false, false] rfl rfl (by kernel_rfl) (fun _ _ _ h => h) (Or.inr ⟨by rfl, rfl⟩) ?_ ?_
          rotate_left
          · simp only [Act.put, List.setIfInBounds_toArray, List.set_cons_zero, List.set_cons_succ]
            rfl
          refine pure_ (i := 7) (N := some 131) (v := undef) (a' := ?_) #[true, true, true, true, true, true, true, true, false, false] rfl rfl (by kernel_rfl) (fun _ _ _ h => h) (Or.inr ⟨by rfl, rfl⟩) ?_ ?_
          rotate_left
          · simp only [Act.put, List.setIfInBounds_toArray, List.set_cons_zero, List.set_cons_succ]
            rfl
          refine pure_ (i := 8) (N := some 132) (v := ?_) (a' := ?_) #[true, true, true, true, true, true, true, true, true, false] rfl rfl (by kernel_rfl) (fun _ _ _ h => h) (Or.inl ⟨by rfl, ?_⟩) ?_ ?_
          rotate_left
          · intro w'
            go_simp
            with_reducible rfl
          rotate_left
          · simp only [Act.put, List.setIfInBounds_toArray, List.set_cons_zero, List.set_cons_succ]
            rfl
          refine pure_ (i := 9) (N := some 17) (v := ?_) (a' := ?_) #[true, true, true, true, true, true, true, true, true, true] rfl rfl (by kernel_rfl) (fun _ _ _ h => h) (Or.inl ⟨by rfl, ?_⟩) ?_ ?_
          rotate_left
          · intro w'
            go_simp
            with_reducible rfl
          rotate_left
          · simp only [Act.put, List.setIfInBounds_toArray, List.set_cons_zero, List.set_cons_succ]
            rfl
          refine done_ (by kernel_rfl) ?_
          have HS10 := Aside0.mk (HS8.out.below hHeld)
          clear hHeld HS8 HA8
          have ht0 := fin_none HFA.out hnb
          have b0_ : ((told6.length : Int) == 0) = true := by rw [ht0]; rfl
          have b1_ : (told6.length == 0) = true := by rw [ht0]; rfl
          have hbt : bt = false := by rw [HBG.out]; exact decide_eq_false hnb
          go_wp2_with fail
          refine (gantletlaw13_alive.is _).mono ?_
          rintro e_ w12 ⟨rfl, hb12⟩
          have HS12 := Aside0.mk (HS10.out.below hb12)
          clear hb12 HS10
          go_wp2_with fail
          refine (intake_Begun.is HS12.out.t).mono ?_
          rintro e_ w_ ⟨rfl, hw_⟩
          rw [hw_, hbt]
          clear hw_ w_
          go_wp2_with fail
          go_ret
          exact ⟨rfl, HS12.out.p.be⟩

def gantletlaw13_IntakeChunks.f (l : List S104) : Option Bool := if l.all (fun x => x.f0.all (fun y => decide (0 ≤ y ∧ y < 256)) && decide (0 ≤ x.f1 ∧ x.f1 < 256)) = true then some true else none
theorem gantletlaw13_IntakeChunks.calls (A1 : Option Addr) (c1 : Nat) (l1 : List S104) (r : Bool) (w : World) (hr1 : Kd.C k104 w A1 l1.length l1) (hc1 : l1.length ≤ c1) (h : gantletlaw13_IntakeChunks.f l1 = some r) :
    Calls Try.prog 12 #[.slice A1 l1.length c1] w fun e w' => e = .returned (.bool r) ∧ Below w.heap.size w w' := by
  unfold gantletlaw13_IntakeChunks.f at h
  by_cases hall : l1.all (fun x => x.f0.all (fun y => decide (0 ≤ y ∧ y < 256)) && decide (0 ≤ x.f1 ∧ x.f1 < 256)) = true
  · rw [if_pos hall] at h
    obtain rfl := Option.some.inj h
    refine gantletlaw13_IntakeChunks.main A1 c1 l1 w hr1 hc1 (fun x hx => ?_)
    have h1 := List.all_eq_true.1 hall x hx
    rw [Bool.and_eq_true] at h1
    exact ⟨bytes_dec h1.1, of_decide_eq_true h1.2⟩
  · rw [if_neg hall] at h; cases h
end Go.Proofs.Ytbmnplojpeabmaa.It
