/-
  CONTROL: the law ControlOrder.
  Conditions: none of its own; lemmas that the claim's row rests on.
-/
import Derived.Test.YtbmnplojpeabmaaCtK
import Derived.WalkKit
namespace Go.Proofs.Ytbmnplojpeabmaa.QK
open Go.RowKit Go.Proofs.YtbmnplojpeabmaaW.PrintWords Go.Proofs.YtbmnplojpeabmaaW.PrintLast Go.Proofs.YtbmnplojpeabmaaW.PrintMore
attribute [local go_sem] max2_int min2_int max_two min_two max_three min_three max_four min_four
set_option linter.unusedVariables false
set_option linter.unusedSimpArgs false
open Go.Proofs.Ytbmnplojpeabmaa.Ob
theorem sumF_at (l : List S67) (j : Nat) (hj : j < l.length) : (rd_T67 l (j : Int)).f3.length ≤ sumF l := by
  have h1 := sumF_take l j hj
  have h2 := sumF_le l (j + 1)
  omega
theorem list02_l (xs : List S67) (hx : xs.length ≤ 300) (hs : sumF xs ≤ 90000) : ∀ (d k : Nat) (i : Int), 0 ≤ i → i ≤ (xs.length : Int) → (xs.length : Int) - i = (d : Int) → d + 100000 < k → gantletref02_List.l0 k xs xs i = some true := by
  intro d
  induction d with
  | zero =>
    intro k i h0 h1 hd hk
    obtain ⟨k, rfl⟩ : ∃ m, k = m + 1 := ⟨k - 1, by omega⟩
    simp only [gantletref02_List.l0]
    rw [if_neg (by omega)]
  | succ d ih =>
    intro k i h0 h1 hd hk
    obtain ⟨k, rfl⟩ : ∃ m, k = m + 1 := ⟨k - 1, by omega⟩
    have h2 := sumF_at xs i.toNat (by omega)
    rw [Int.toNat_of_nonneg h0] at h2
    simp only [gantletref02_List.l0]
    rw [if_pos (by omega), if_pos h0, if_pos (by omega), same02_selfR (rd_T67 xs i) (by omega) (by omega)]
    simp only [Option.bind_some, if_true]
    rw [wr_in' h0 (by omega), ih k (i + 1) (by omega) (by omega) (by omega) (by omega)]
theorem list02_self (xs : List S67) (hx : xs.length ≤ 300) (hs : sumF xs ≤ 90000) : gantletref02_List.f 200000 xs xs = some true := by
  unfold gantletref02_List.f
  rw [if_pos rfl, list02_l xs hx hs xs.length 200000 0 (by omega) (by omega) (by omega) (by omega)]
set_option maxHeartbeats 8000000 in
set_option maxRecDepth 100000 in
theorem gantletlaw19_ControlOrder.main (room : Int) (A0 : Option Addr) (c0 : Nat) (l0 : List S82) (w : World) (hr0 : Kd.C k82 w A0 l0.length l0) (hc0 : l0.length ≤ c0) (hby : ∀ i : Int, 0 ≤ i → i < (l0.length : Int) → 0 ≤ (rd_T82 l0 i).f0 ∧ (rd_T82 l0 i).f0 < 256) (hm0 : 0 ≤ room) (hm1 : room < 256) :
    Calls Try.prog 9 #[.int .u8 room, .slice A0 l0.length c0] w fun e w' => e = .returned (.bool true) ∧ Below w.heap.size w w' := by
  have hu67 := Try.underlying67
  have hu82 := Try.underlying82
  have HR0 := Aside0.mk hr0
  have HC0 := Aside0.mk hc0
  have HY := Aside0.mk hby
  clear hr0 hc0 hby
  rcases fits_eq l0 with hf | ⟨hf, hl, hact⟩
  · have HF := Aside0.mk hf
    clear hf
    go_enter Try.func9, Try.ntmps9
    go_wp2_with (first | (go_at_call 45; refine (gantletlaw19_fits.calls 2000 A0 c0 l0 false _ HR0.out HC0.out HF.out).mono ?_; rintro e_ w1 ⟨rfl, hd⟩; have HB1 := Aside0.mk hd.below; clear hd) | (go_at_call 46; refine (gantletlaw19_alive.calls _).mono ?_; rintro e_ w2 ⟨rfl, hb⟩; have HB2 := Aside0.mk (below_step HB1.out hb); clear hb HB1))
    go_ret
    exact ⟨rfl, HB2.out⟩
  · have HF := Aside0.mk hf
    have HA := Aside0.mk hact
    have HL := Aside0.mk hl
    clear hf hact hl
    have p0 : 0 ≤ room % 64 := by omega
    have p1 : room % 64 < 64 := by omega
    obtain ⟨n, hn⟩ : ∃ n : Nat, (n : Int) = room % 64 + 1 := ⟨(room % 64 + 1).toNat, by omega⟩
    have HN := Aside0.mk hn
    have HNB : Aside0 (1 ≤ n ∧ n ≤ 64) := ⟨by omega⟩
    clear hn
    have hm2 : room ≤ 255 := by omega
    go_enter Try.func9, Try.ntmps9
    go_wp2_with (first | (go_at_call 45; refine (gantletlaw19_fits.calls 2000 A0 c0 l0 true _ HR0.out HC0.out HF.out).mono ?_; rintro e_ w1 ⟨rfl, hd⟩; have HB1 := Aside0.mk hd.below; clear hd) | (rw [← HN.out]; go_at_call 47; refine (control_New.ok n _ (by have := HNB.out; omega) (by have := HNB.out; omega)).mono ?_; rintro e_ w2 ⟨g, rfl, hI, hg, hb⟩; have HS2 : Aside0 (Ord w w2 g n [] false (.slice none 0 0) [] (.slice none 0 0) []) := ⟨⟨_, _, fun _ => False, ⟨hI, below_step HB1.out hb, Nat.le_trans HB1.out.size hg, (fun k hk => by cases hk), RowF.nil _ _ _ _, Kd.N_nil _ _ _ _ _, (fun k hk => by cases hk), (fun k hk => hk.elim), (fun k hk => by cases hk)⟩⟩⟩; clear hI hg hb HB1))
    clear p0 p1 hm0 hm1 hm2
    go_loopg [9, 10, 11, 12] (l0.length + 1) (fun kq v9 v10 v11 v12 w' => ∃ (i : Int) (l : List S67) (ended : Bool) (Ac : Option Addr) (cc : Nat) (Aw : Option Addr) (cw : Nat) (came went : List S67), v9 = .slice Ac came.length cc ∧ v10 = .slice Aw went.length cw ∧ v11 = .bool ended ∧ v12 = .int .i64 i ∧ Aside0 (0 ≤ i ∧ i + kq = l0.length + 1) ∧ Aside0 (Ord w w' g n l ended (.slice Ac came.length cc) came (.slice Aw went.length cw) went) ∧ Aside0 (came = went ++ l ∧ (l.length ≤ n + 1 ∧ (ended = false → l.length ≤ n)) ∧ came.length ≤ i.toNat ∧ sumF came ≤ 300 * i.toNat))
    case atStart => exact ⟨0, [], false, none, 0, none, 0, [], [], rfl, rfl, rfl, rfl, ⟨by omega⟩, HS2, ⟨rfl, by simp, by simp, by simp [sumF]⟩⟩
    case round =>
      clear HS2
      obtain ⟨i, l, ended, Ac, cc, Aw, cw, came, went, rfl, rfl, rfl, rfl, HK, HS, HI⟩ := hrel
      by_cases c5 : i < (l0.length : Int)
      · obtain ⟨v, ok, okw, hst⟩ := HS.out
        have HS0 := Aside0.mk hst
        have hbe := hst.be
        clear hst HS
        have h0 := HK.out.1
        have c5b : decide (i < (l0.length : Int)) = true := decide_eq_true c5
        have c6b : decide (0 ≤ i) = true := decide_eq_true h0
        obtain ⟨ad, A4, c4, e1, hx0, hx1, hx2, hx3, hx4, hc4, hC4⟩ := at_T82 HR0.out i h0 c5
        cases e1
        have HX1 := Aside0.mk hx1
        have HX2 := Aside0.mk hx2
        have HX3 := Aside0.mk hx3
        have HX4 := Aside0.mk hx4
        have HX0 := Aside0.mk hx0
        replace hx0 := (hbe.cell (World.block_lt_of_cell? w _ hx0)).trans hx0
        replace hx1 := (hbe.cell (World.block_lt_of_cell? w _ hx1)).trans hx1
        replace hx2 := (hbe.cell (World.block_lt_of_cell? w _ hx2)).trans hx2
        replace hx3 := (hbe.cell (World.block_lt_of_cell? w _ hx3)).trans hx3
        replace hx4 := (hbe.cell (World.block_lt_of_cell? w _ hx4)).trans hx4
        have HC4 := Aside0.mk hC4
        have HCC := Aside0.mk hc4
        have hy := HY.out i h0 c5
        have ha := HA.out i h0 c5
        have p1 : (0 ≤ i) = True := eq_true h0
        have q1 : (i < (l0.length : Int)) = True := eq_true c5
        have hwr : wrap64 (i + 1) = i + 1 := by unfold wrap64; have := HL.out; omega
        have HW := Aside0.mk hwr
        obtain ⟨k1, hk1⟩ : ∃ j, gk = j + 1 := ⟨gk - 1, by have := HK.out; omega⟩
        subst hk1
        clear hwr hC4 hc4 hbe
        generalize (rd_T82 l0 i).f0 = z at *
        generalize (rd_T82 l0 i).f1 = xx at *
        obtain ⟨x0, x1, x2, x3⟩ := xx
        simp only [] at HX1 HX2 HX3 HX4 HC4 HCC ha hx1 hx2 hx3 hx4
        have HAx := Aside0.mk ha
        clear ha
        have HLL : Aside0 (l.length ≤ 100000) := ⟨by have h1 := HI.out.2.1.1; have h2 := HNB.out; omega⟩
        by_cases cz3 : z % 6 < 3
        · have cz3b : decide (z % 6 < 3) = true := decide_eq_true cz3
          have cz5 : (z % 6 == 5) = false := beq_eq_false_iff_ne.mpr (by omega)
          clear cz3
          rcases pushR_cases false n l ended ⟨x0, x1, x2, x3⟩ with ⟨hq, rfl⟩ | ⟨hq, _, rfl⟩ | ⟨hq, rfl, hlt⟩
          · have HQ := Aside0.mk hq
            clear hq
            have HNZ : Aside0 (came = went ++ l ∧ (l.length ≤ n + 1 ∧ (true = false → l.length ≤ n)) ∧ came.length ≤ (i + 1).toNat ∧ sumF came ≤ 300 * (i + 1).toNat) := ⟨by have h := HI.out; exact ⟨h.1, h.2.1, by omega, by omega⟩⟩
            have t1 : decide (n + 1 < l.length) = false := decide_eq_false (by have := HNZ.out.2.1.1; omega)
            have t1i : decide ((n : Int) + 1 < (l.length : Int)) = false := decide_eq_false (by have := HNZ.out.2.1.1; omega)
            have u1 : wrap64 ((n : Int) + 1) = (n : Int) + 1 := by unfold wrap64; have := HNB.out; omega
            have u2 : wrap64 ((came.length : Int) - (went.length : Int)) = (l.length : Int) := by have h1 := congrArg List.length HNZ.out.1; rw [List.length_append] at h1; have h2 := HNZ.out.2.2.1; have h3 := HL.out; unfold wrap64; omega
            by_cases hq0 : n < l.length
            · have t0 : decide (n < l.length) = true := decide_eq_true hq0
              clear hq0
              go_wp2_with (first | (go_at_call 54; refine (StO.push false HS0.out x0 x1 x2 A4 c4 x3 HC4.out HCC.out (by have := HAx.out; omega) HLL.out).mono ?_; rintro e_ wz ⟨he, v1, ok1, hSb⟩; rw [HQ.out] at he hSb; subst he; have HSZ := Aside0.mk hSb; clear hSb HS0) | (go_at_call 56; refine (control_Len.is HSZ.out.io).mono ?_; rintro e_ wl ⟨rfl, hwl⟩; rw [hwl]; clear hwl wl) | (go_at_call 59; refine (control_Ended.is HSZ.out.io).mono ?_; rintro e_ wl ⟨rfl, hwl⟩; rw [hwl]; clear hwl wl))
              go_roundg k1
              case measure => omega
              case rel => exact ⟨i + 1, l, true, Ac, cc, Aw, cw, came, went, rfl, rfl, rfl, (by rw [HW.out]), ⟨by have := HK.out; omega⟩, ⟨⟨_, _, _, HSZ.out⟩⟩, ⟨by simpa using HNZ.out⟩⟩
            · have t0 : decide (n < l.length) = false := decide_eq_false hq0
              clear hq0
              go_wp2_with (first | (go_at_call 54; refine (StO.push false HS0.out x0 x1 x2 A4 c4 x3 HC4.out HCC.out (by have := HAx.out; omega) HLL.out).mono ?_; rintro e_ wz ⟨he, v1, ok1, hSb⟩; rw [HQ.out] at he hSb; subst he; have HSZ := Aside0.mk hSb; clear hSb HS0) | (go_at_call 56; refine (control_Len.is HSZ.out.io).mono ?_; rintro e_ wl ⟨rfl, hwl⟩; rw [hwl]; clear hwl wl) | (go_at_call 59; refine (control_Ended.is HSZ.out.io).mono ?_; rintro e_ wl ⟨rfl, hwl⟩; rw [hwl]; clear hwl wl))
              go_roundg k1
              case measure => omega
              case rel => exact ⟨i + 1, l, true, Ac, cc, Aw, cw, came, went, rfl, rfl, rfl, (by rw [HW.out]), ⟨by have := HK.out; omega⟩, ⟨⟨_, _, _, HSZ.out⟩⟩, ⟨by simpa using HNZ.out⟩⟩
          · have HQ := Aside0.mk hq
            clear hq
            have HNZ : Aside0 (came = went ++ l ∧ (l.length ≤ n + 1 ∧ (false = false → l.length ≤ n)) ∧ came.length ≤ (i + 1).toNat ∧ sumF came ≤ 300 * (i + 1).toNat) := ⟨by have h := HI.out; exact ⟨h.1, h.2.1, by omega, by omega⟩⟩
            have t1 : decide (n + 1 < l.length) = false := decide_eq_false (by have := HNZ.out.2.1.1; omega)
            have t1i : decide ((n : Int) + 1 < (l.length : Int)) = false := decide_eq_false (by have := HNZ.out.2.1.1; omega)
            have u1 : wrap64 ((n : Int) + 1) = (n : Int) + 1 := by unfold wrap64; have := HNB.out; omega
            have u2 : wrap64 ((came.length : Int) - (went.length : Int)) = (l.length : Int) := by have h1 := congrArg List.length HNZ.out.1; rw [List.length_append] at h1; have h2 := HNZ.out.2.2.1; have h3 := HL.out; unfold wrap64; omega
            have t0 : decide (n < l.length) = false := decide_eq_false (by have := HNZ.out.2.1.2 rfl; omega)
            go_wp2_with (first | (go_at_call 54; refine (StO.push false HS0.out x0 x1 x2 A4 c4 x3 HC4.out HCC.out (by have := HAx.out; omega) HLL.out).mono ?_; rintro e_ wz ⟨he, v1, ok1, hSb⟩; rw [HQ.out] at he hSb; subst he; have HSZ := Aside0.mk hSb; clear hSb HS0) | (go_at_call 56; refine (control_Len.is HSZ.out.io).mono ?_; rintro e_ wl ⟨rfl, hwl⟩; rw [hwl]; clear hwl wl) | (go_at_call 59; refine (control_Ended.is HSZ.out.io).mono ?_; rintro e_ wl ⟨rfl, hwl⟩; rw [hwl]; clear hwl wl))
            go_roundg k1
            case measure => omega
            case rel => exact ⟨i + 1, l, false, Ac, cc, Aw, cw, came, went, rfl, rfl, rfl, (by rw [HW.out]), ⟨by have := HK.out; omega⟩, ⟨⟨_, _, _, HSZ.out⟩⟩, ⟨by simpa using HNZ.out⟩⟩
          · have hcm : came.length ≤ 200 := by have h1 := HI.out.2.2.1; have h2 := HL.out; have h3 := c5; omega
            have HCM := Aside0.mk hcm
            clear hcm
            obtain ⟨L, hL⟩ : ∃ L, l ++ [(⟨x0, x1, x2, x3⟩ : S67)] = L := ⟨_, rfl⟩
            obtain ⟨C, hC⟩ : ∃ C, came ++ [(⟨x0, x1, x2, x3⟩ : S67)] = C := ⟨_, rfl⟩
            have HCE := Aside0.mk hC
            rw [hL] at hq
            have HQ := Aside0.mk hq
            clear hq
            have HNZ : Aside0 (C = went ++ L ∧ (L.length ≤ n + 1 ∧ (false = false → L.length ≤ n)) ∧ C.length ≤ (i + 1).toNat ∧ sumF C ≤ 300 * (i + 1).toNat) := ⟨by have h := HI.out; subst hL; subst hC; simp only [List.length_append, List.length_cons, List.length_nil, sumF_append, sumF]; have ha := HAx.out; refine ⟨by rw [h.1, List.append_assoc], ⟨?_, ?_⟩, by omega, by omega⟩ <;> (try intro hh) <;> (try cases hh) <;> rcases hlt with hlt | hlt <;> (try cases hlt) <;> (try (have := h.2.1.2 rfl)) <;> omega⟩
            have t1 : decide (n + 1 < L.length) = false := decide_eq_false (by have := HNZ.out.2.1.1; omega)
            have t1i : decide ((n : Int) + 1 < (L.length : Int)) = false := decide_eq_false (by have := HNZ.out.2.1.1; omega)
            have u1 : wrap64 ((n : Int) + 1) = (n : Int) + 1 := by unfold wrap64; have := HNB.out; omega
            have u2 : wrap64 ((C.length : Int) - (went.length : Int)) = (L.length : Int) := by have h1 := congrArg List.length HNZ.out.1; rw [List.length_append] at h1; have h2 := HNZ.out.2.2.1; have h3 := HL.out; unfold wrap64; omega
            clear hL hC hlt
            have t0 : decide (n < L.length) = false := decide_eq_false (by have := HNZ.out.2.1.2 rfl; omega)
            go_wp2_with (first | (go_at_call 54; refine (StO.push false HS0.out x0 x1 x2 A4 c4 x3 HC4.out HCC.out (by have := HAx.out; omega) HLL.out).mono ?_; rintro e_ wy ⟨he, v1, ok1, hSb⟩; rw [HQ.out] at he hSb; subst he; have HSY := Aside0.mk hSb; clear hSb HS0 hx0 hx1 hx2 hx3 hx4; have hx1_ := (HSY.out.be.cell (World.block_lt_of_cell? w _ HX1.out)).trans HX1.out; have hx2_ := (HSY.out.be.cell (World.block_lt_of_cell? w _ HX2.out)).trans HX2.out; have hx3_ := (HSY.out.be.cell (World.block_lt_of_cell? w _ HX3.out)).trans HX3.out; have hx4_ := (HSY.out.be.cell (World.block_lt_of_cell? w _ HX4.out)).trans HX4.out) | (at_builtin; refine RowF.append k67 w.heap.size rfl (.tmp 91) (.tmp 97) 56 67 (.agg #[(.int .i64 0), (.int .i64 0), (.int .i64 0), (.slice none 0 0)]) 48 rfl Try.underlying56 info67c rfl (by decide) (by decide) _ came ⟨x0, x1, x2, x3⟩ [.int .i64 x0, .int .i64 x1, .int .i64 x2, .slice A4 x3.length c4] rfl rfl (FK67_of HC4.out HCC.out HSY.out.be) HSY.out.cm HSY.out.be.size (by have := HCM.out; omega) ?_; intro vcn wz hRz hgz hatz; rw [HCE.out] at hRz; obtain ⟨Acz, ccz, ez, _⟩ := hRz.reads; subst ez; have HSZ := Aside0.mk (HSY.out.cameApp hRz hgz hatz); clear hRz hgz hatz HSY hx1_ hx2_ hx3_ hx4_; have hx0_ := (HSZ.out.be.cell (World.block_lt_of_cell? w _ HX0.out)).trans HX0.out) | (go_at_call 56; refine (control_Len.is HSZ.out.io).mono ?_; rintro e_ wl ⟨rfl, hwl⟩; rw [hwl]; clear hwl wl) | (go_at_call 59; refine (control_Ended.is HSZ.out.io).mono ?_; rintro e_ wl ⟨rfl, hwl⟩; rw [hwl]; clear hwl wl))
            go_roundg k1
            case measure => omega
            case rel => exact ⟨i + 1, L, false, Acz, ccz, Aw, cw, C, went, rfl, rfl, rfl, (by rw [HW.out]), ⟨by have := HK.out; omega⟩, ⟨⟨_, _, _, HSZ.out⟩⟩, ⟨by simpa using HNZ.out⟩⟩
        · have cz3b : decide (z % 6 < 3) = false := decide_eq_false cz3
          clear cz3
          cases cz5 : (z % 6 == 5)
          · cases l with
            | nil =>
              obtain ⟨L, hL⟩ : ∃ L, ([] : List S67) = L := ⟨_, rfl⟩
              have HLE := Aside0.mk hL
              have HNZ : Aside0 (came = went ++ L ∧ (L.length ≤ n + 1 ∧ (ended = false → L.length ≤ n)) ∧ came.length ≤ (i + 1).toNat ∧ sumF came ≤ 300 * (i + 1).toNat) := ⟨by subst hL; have h := HI.out; exact ⟨h.1, ⟨by simp, by simp⟩, by omega, by omega⟩⟩
              have t1 : decide (n + 1 < L.length) = false := decide_eq_false (by have := HNZ.out.2.1.1; omega)
              have t1i : decide ((n : Int) + 1 < (L.length : Int)) = false := decide_eq_false (by have := HNZ.out.2.1.1; omega)
              have u1 : wrap64 ((n : Int) + 1) = (n : Int) + 1 := by unfold wrap64; have := HNB.out; omega
              have u2 : wrap64 ((came.length : Int) - (went.length : Int)) = (L.length : Int) := by have h1 := congrArg List.length HNZ.out.1; rw [List.length_append] at h1; have h2 := HNZ.out.2.2.1; have h3 := HL.out; unfold wrap64; omega
              have t0 : decide (n < L.length) = false := by subst hL; rfl
              clear hL
              go_wp2_with (first | (go_at_call 49; refine (control_Pop.empty _ g n _ _ _ HS0.out.io).mono ?_; rintro e_ wy ⟨rfl, hb⟩; have hSb := (HS0.out.below hb).below (below_alloc (Below.refl _ _) (.cells #[.int .i64 0, .int .i64 0, .int .i64 0, .slice none 0 0] 67)); rw [HLE.out] at hSb; have HSZ := Aside0.mk hSb; clear hSb hb HS0) | (go_at_call 56; refine (control_Len.is HSZ.out.io).mono ?_; rintro e_ wl ⟨rfl, hwl⟩; rw [hwl]; clear hwl wl) | (go_at_call 59; refine (control_Ended.is HSZ.out.io).mono ?_; rintro e_ wl ⟨rfl, hwl⟩; rw [hwl]; clear hwl wl))
              go_roundg k1
              case measure => omega
              case rel => exact ⟨i + 1, L, ended, Ac, cc, Aw, cw, came, went, rfl, rfl, rfl, (by rw [HW.out]), ⟨by have := HK.out; omega⟩, ⟨⟨_, _, _, HSZ.out⟩⟩, ⟨by simpa using HNZ.out⟩⟩
            | cons y l =>
              obtain ⟨y0, y1, y2, y3⟩ := y
              have hwl : went.length ≤ 200 := by have h1 := congrArg List.length HI.out.1; rw [List.length_append] at h1; have h2 := HI.out.2.2.1; have h3 := HL.out; omega
              have HWL := Aside0.mk hwl
              clear hwl
              obtain ⟨Wn, hW⟩ : ∃ Wn, went ++ [(⟨y0, y1, y2, y3⟩ : S67)] = Wn := ⟨_, rfl⟩
              have HWE := Aside0.mk hW
              have HNZ : Aside0 (came = Wn ++ l ∧ (l.length ≤ n + 1 ∧ (ended = false → l.length ≤ n)) ∧ came.length ≤ (i + 1).toNat ∧ sumF came ≤ 300 * (i + 1).toNat) := ⟨by subst hW; have h := HI.out; simp only [List.length_cons] at h; exact ⟨by rw [h.1, List.append_assoc]; rfl, ⟨by omega, fun hh => by have := h.2.1.2 hh; omega⟩, by omega, by omega⟩⟩
              have t1 : decide (n + 1 < l.length) = false := decide_eq_false (by have := HNZ.out.2.1.1; omega)
              have t1i : decide ((n : Int) + 1 < (l.length : Int)) = false := decide_eq_false (by have := HNZ.out.2.1.1; omega)
              have u1 : wrap64 ((n : Int) + 1) = (n : Int) + 1 := by unfold wrap64; have := HNB.out; omega
              have u2 : wrap64 ((came.length : Int) - (Wn.length : Int)) = (l.length : Int) := by have h1 := congrArg List.length HNZ.out.1; rw [List.length_append] at h1; have h2 := HNZ.out.2.2.1; have h3 := HL.out; unfold wrap64; omega
              have t0 : decide (n < l.length) = false := decide_eq_false (by have h := HI.out.2.1.1; simp only [List.length_cons] at h; omega)
              have HLL2 := Aside0.mk (show l.length ≤ 10000 by have h := HLL.out; simp only [List.length_cons] at h; have h1 := HI.out.2.1.1; simp only [List.length_cons] at h1; have h2 := HNB.out; omega)
              clear hW
              go_wp2_with (first | (go_at_call 49; refine (control_Pop.is _ l _ g n _ _ _ HS0.out.io HLL2.out).mono ?_; rintro e_ wy ⟨Aa, ca, va, oka, rfl, hc, hF, hI, hm, hown⟩; have hbw := hm.1.size; have HP : Aside0 (∀ k, (ok k ∧ k < wr.heap.size) → k ≠ g ∧ va.ownBlock ≠ some k ∧ k < (wy.alloc (.cells #[.int .i64 y0, .int .i64 y1, .int .i64 y2, .slice Aa y3.length ca] 67)).heap.size ∧ (Value.slice Ac came.length cc).ownBlock ≠ some k) := ⟨fun k hk => ⟨fun e => HS0.out.io.ng (e ▸ hk.1), fun e => by have h1 := hown k e; have h2 := hk.2; omega, by have h2 := hk.2; rw [World.size_alloc]; omega, fun e => (HS0.out.dc k e).2.2.1 hk.1⟩⟩; have HDI := Aside0.mk HS0.out.di; have HFK : Aside0 (Kd.FK k67 (wy.alloc (.cells #[.int .i64 y0, .int .i64 y1, .int .i64 y2, .slice Aa y3.length ca] 67)) (fun k => ok k ∧ k < wr.heap.size) (⟨y0, y1, y2, y3⟩ : S67) [.int .i64 y0, .int .i64 y1, .int .i64 y2, .slice Aa y3.length ca]) := ⟨Kd.FK_mono (Kd.FK_below (FK67_pop hc hF) (below_alloc (Below.refl _ _) _)) (fun k hk => ⟨hk, HS0.out.io.lt k hk⟩)⟩; have HSY := Aside0.mk ((HS0.out.moveC hI hm).below (below_alloc (Below.refl _ _) (.cells #[.int .i64 y0, .int .i64 y1, .int .i64 y2, .slice Aa y3.length ca] 67))); clear hc hF hI hm hown hbw HS0) | (at_builtin; refine Kd.N_append k67 (w0 := w) w.heap.size rfl (.tmp 80) (.tmp 82) 56 67 (.agg #[(.int .i64 0), (.int .i64 0), (.int .i64 0), (.slice none 0 0)]) 48 rfl Try.underlying56 info67c rfl (by decide) (by decide) _ went (⟨y0, y1, y2, y3⟩ : S67) [.int .i64 y0, .int .i64 y1, .int .i64 y2, .slice Aa y3.length ca] (fun k => okw k ∨ (ok k ∧ k < wr.heap.size) ∨ (wy.alloc (.cells #[.int .i64 y0, .int .i64 y1, .int .i64 y2, .slice Aa y3.length ca] 67)).heap.size ≤ k) (fun k => ok k ∧ k < wr.heap.size) rfl (by rw [World.size_alloc]; rfl) HFK.out (fun k hk => ⟨.inr (.inl hk), fun e => HDI.out k e.symm hk.1⟩) (fun k hk => .inr (.inr hk)) (Kd.N_mono HSY.out.wt (fun k hk => .inl hk)) HSY.out.be HSY.out.be.size (by have := HWL.out; omega) ?_; intro vwn wz hRz _ hgz hatz; rw [HWE.out] at hRz; obtain ⟨Awz, cwz, ez⟩ := Kd.N_slice hRz; subst ez; have HSZ := Aside0.mk (HSY.out.wentApp hRz hgz hatz HP.out); clear hRz hgz hatz HSY HFK HP HDI) | (go_at_call 56; refine (control_Len.is HSZ.out.io).mono ?_; rintro e_ wl ⟨rfl, hwl⟩; rw [hwl]; clear hwl wl) | (go_at_call 59; refine (control_Ended.is HSZ.out.io).mono ?_; rintro e_ wl ⟨rfl, hwl⟩; rw [hwl]; clear hwl wl))
              go_roundg k1
              case measure => omega
              case rel => exact ⟨i + 1, l, ended, Ac, cc, Awz, cwz, came, Wn, rfl, rfl, rfl, (by rw [HW.out]), ⟨by have := HK.out; omega⟩, ⟨⟨_, _, _, HSZ.out⟩⟩, ⟨by simpa using HNZ.out⟩⟩
          · rcases pushR_cases true n l ended ⟨x0, x1, x2, x3⟩ with ⟨hq, rfl⟩ | ⟨_, hq, _⟩ | ⟨hq, rfl, hlt⟩
            · have HQ := Aside0.mk hq
              clear hq
              have HNZ : Aside0 (came = went ++ l ∧ (l.length ≤ n + 1 ∧ (true = false → l.length ≤ n)) ∧ came.length ≤ (i + 1).toNat ∧ sumF came ≤ 300 * (i + 1).toNat) := ⟨by have h := HI.out; exact ⟨h.1, h.2.1, by omega, by omega⟩⟩
              have t1 : decide (n + 1 < l.length) = false := decide_eq_false (by have := HNZ.out.2.1.1; omega)
              have t1i : decide ((n : Int) + 1 < (l.length : Int)) = false := decide_eq_false (by have := HNZ.out.2.1.1; omega)
              have u1 : wrap64 ((n : Int) + 1) = (n : Int) + 1 := by unfold wrap64; have := HNB.out; omega
              have u2 : wrap64 ((came.length : Int) - (went.length : Int)) = (l.length : Int) := by have h1 := congrArg List.length HNZ.out.1; rw [List.length_append] at h1; have h2 := HNZ.out.2.2.1; have h3 := HL.out; unfold wrap64; omega
              by_cases hq0 : n < l.length
              · have t0 : decide (n < l.length) = true := decide_eq_true hq0
                clear hq0
                go_wp2_with (first | (go_at_call 52; refine (StO.push true HS0.out x0 x1 x2 A4 c4 x3 HC4.out HCC.out (by have := HAx.out; omega) HLL.out).mono ?_; rintro e_ wz ⟨he, v1, ok1, hSb⟩; rw [HQ.out] at he hSb; subst he; have HSZ := Aside0.mk hSb; clear hSb HS0) | (go_at_call 56; refine (control_Len.is HSZ.out.io).mono ?_; rintro e_ wl ⟨rfl, hwl⟩; rw [hwl]; clear hwl wl) | (go_at_call 59; refine (control_Ended.is HSZ.out.io).mono ?_; rintro e_ wl ⟨rfl, hwl⟩; rw [hwl]; clear hwl wl))
                go_roundg k1
                case measure => omega
                case rel => exact ⟨i + 1, l, true, Ac, cc, Aw, cw, came, went, rfl, rfl, rfl, (by rw [HW.out]), ⟨by have := HK.out; omega⟩, ⟨⟨_, _, _, HSZ.out⟩⟩, ⟨by simpa using HNZ.out⟩⟩
              · have t0 : decide (n < l.length) = false := decide_eq_false hq0
                clear hq0
                go_wp2_with (first | (go_at_call 52; refine (StO.push true HS0.out x0 x1 x2 A4 c4 x3 HC4.out HCC.out (by have := HAx.out; omega) HLL.out).mono ?_; rintro e_ wz ⟨he, v1, ok1, hSb⟩; rw [HQ.out] at he hSb; subst he; have HSZ := Aside0.mk hSb; clear hSb HS0) | (go_at_call 56; refine (control_Len.is HSZ.out.io).mono ?_; rintro e_ wl ⟨rfl, hwl⟩; rw [hwl]; clear hwl wl) | (go_at_call 59; refine (control_Ended.is HSZ.out.io).mono ?_; rintro e_ wl ⟨rfl, hwl⟩; rw [hwl]; clear hwl wl))
                go_roundg k1
                case measure => omega
                case rel => exact ⟨i + 1, l, true, Ac, cc, Aw, cw, came, went, rfl, rfl, rfl, (by rw [HW.out]), ⟨by have := HK.out; omega⟩, ⟨⟨_, _, _, HSZ.out⟩⟩, ⟨by simpa using HNZ.out⟩⟩
            · cases hq
            · have hcm : came.length ≤ 200 := by have h1 := HI.out.2.2.1; have h2 := HL.out; have h3 := c5; omega
              have HCM := Aside0.mk hcm
              clear hcm
              obtain ⟨L, hL⟩ : ∃ L, l ++ [(⟨x0, x1, x2, x3⟩ : S67)] = L := ⟨_, rfl⟩
              obtain ⟨C, hC⟩ : ∃ C, came ++ [(⟨x0, x1, x2, x3⟩ : S67)] = C := ⟨_, rfl⟩
              have HCE := Aside0.mk hC
              rw [hL] at hq
              have HQ := Aside0.mk hq
              clear hq
              have HNZ : Aside0 (C = went ++ L ∧ (L.length ≤ n + 1 ∧ (true = false → L.length ≤ n)) ∧ C.length ≤ (i + 1).toNat ∧ sumF C ≤ 300 * (i + 1).toNat) := ⟨by have h := HI.out; subst hL; subst hC; simp only [List.length_append, List.length_cons, List.length_nil, sumF_append, sumF]; have ha := HAx.out; refine ⟨by rw [h.1, List.append_assoc], ⟨?_, ?_⟩, by omega, by omega⟩ <;> (try intro hh) <;> (try cases hh) <;> rcases hlt with hlt | hlt <;> (try cases hlt) <;> (try (have := h.2.1.2 rfl)) <;> omega⟩
              have t1 : decide (n + 1 < L.length) = false := decide_eq_false (by have := HNZ.out.2.1.1; omega)
              have t1i : decide ((n : Int) + 1 < (L.length : Int)) = false := decide_eq_false (by have := HNZ.out.2.1.1; omega)
              have u1 : wrap64 ((n : Int) + 1) = (n : Int) + 1 := by unfold wrap64; have := HNB.out; omega
              have u2 : wrap64 ((C.length : Int) - (went.length : Int)) = (L.length : Int) := by have h1 := congrArg List.length HNZ.out.1; rw [List.length_append] at h1; have h2 := HNZ.out.2.2.1; have h3 := HL.out; unfold wrap64; omega
              clear hL hC hlt
              by_cases hq0 : n < L.length
              · have t0 : decide (n < L.length) = true := decide_eq_true hq0
                clear hq0
                go_wp2_with (first | (go_at_call 52; refine (StO.push true HS0.out x0 x1 x2 A4 c4 x3 HC4.out HCC.out (by have := HAx.out; omega) HLL.out).mono ?_; rintro e_ wy ⟨he, v1, ok1, hSb⟩; rw [HQ.out] at he hSb; subst he; have HSY := Aside0.mk hSb; clear hSb HS0 hx0 hx1 hx2 hx3 hx4; have hx1_ := (HSY.out.be.cell (World.block_lt_of_cell? w _ HX1.out)).trans HX1.out; have hx2_ := (HSY.out.be.cell (World.block_lt_of_cell? w _ HX2.out)).trans HX2.out; have hx3_ := (HSY.out.be.cell (World.block_lt_of_cell? w _ HX3.out)).trans HX3.out; have hx4_ := (HSY.out.be.cell (World.block_lt_of_cell? w _ HX4.out)).trans HX4.out) | (at_builtin; refine RowF.append k67 w.heap.size rfl (.tmp 91) (.tmp 97) 56 67 (.agg #[(.int .i64 0), (.int .i64 0), (.int .i64 0), (.slice none 0 0)]) 48 rfl Try.underlying56 info67c rfl (by decide) (by decide) _ came ⟨x0, x1, x2, x3⟩ [.int .i64 x0, .int .i64 x1, .int .i64 x2, .slice A4 x3.length c4] rfl rfl (FK67_of HC4.out HCC.out HSY.out.be) HSY.out.cm HSY.out.be.size (by have := HCM.out; omega) ?_; intro vcn wz hRz hgz hatz; rw [HCE.out] at hRz; obtain ⟨Acz, ccz, ez, _⟩ := hRz.reads; subst ez; have HSZ := Aside0.mk (HSY.out.cameApp hRz hgz hatz); clear hRz hgz hatz HSY hx1_ hx2_ hx3_ hx4_; have hx0_ := (HSZ.out.be.cell (World.block_lt_of_cell? w _ HX0.out)).trans HX0.out) | (go_at_call 56; refine (control_Len.is HSZ.out.io).mono ?_; rintro e_ wl ⟨rfl, hwl⟩; rw [hwl]; clear hwl wl) | (go_at_call 59; refine (control_Ended.is HSZ.out.io).mono ?_; rintro e_ wl ⟨rfl, hwl⟩; rw [hwl]; clear hwl wl))
                go_roundg k1
                case measure => omega
                case rel => exact ⟨i + 1, L, true, Acz, ccz, Aw, cw, C, went, rfl, rfl, rfl, (by rw [HW.out]), ⟨by have := HK.out; omega⟩, ⟨⟨_, _, _, HSZ.out⟩⟩, ⟨by simpa using HNZ.out⟩⟩
              · have t0 : decide (n < L.length) = false := decide_eq_false hq0
                clear hq0
                go_wp2_with (first | (go_at_call 52; refine (StO.push true HS0.out x0 x1 x2 A4 c4 x3 HC4.out HCC.out (by have := HAx.out; omega) HLL.out).mono ?_; rintro e_ wy ⟨he, v1, ok1, hSb⟩; rw [HQ.out] at he hSb; subst he; have HSY := Aside0.mk hSb; clear hSb HS0 hx0 hx1 hx2 hx3 hx4; have hx1_ := (HSY.out.be.cell (World.block_lt_of_cell? w _ HX1.out)).trans HX1.out; have hx2_ := (HSY.out.be.cell (World.block_lt_of_cell? w _ HX2.out)).trans HX2.out; have hx3_ := (HSY.out.be.cell (World.block_lt_of_cell? w _ HX3.out)).trans HX3.out; have hx4_ := (HSY.out.be.cell (World.block_lt_of_cell? w _ HX4.out)).trans HX4.out) | (at_builtin; refine RowF.append k67 w.heap.size rfl (.tmp 91) (.tmp 97) 56 67 (.agg #[(.int .i64 0), (.int .i64 0), (.int .i64 0), (.slice none 0 0)]) 48 rfl Try.underlying56 info67c rfl (by decide) (by decide) _ came ⟨x0, x1, x2, x3⟩ [.int .i64 x0, .int .i64 x1, .int .i64 x2, .slice A4 x3.length c4] rfl rfl (FK67_of HC4.out HCC.out HSY.out.be) HSY.out.cm HSY.out.be.size (by have := HCM.out; omega) ?_; intro vcn wz hRz hgz hatz; rw [HCE.out] at hRz; obtain ⟨Acz, ccz, ez, _⟩ := hRz.reads; subst ez; have HSZ := Aside0.mk (HSY.out.cameApp hRz hgz hatz); clear hRz hgz hatz HSY hx1_ hx2_ hx3_ hx4_; have hx0_ := (HSZ.out.be.cell (World.block_lt_of_cell? w _ HX0.out)).trans HX0.out) | (go_at_call 56; refine (control_Len.is HSZ.out.io).mono ?_; rintro e_ wl ⟨rfl, hwl⟩; rw [hwl]; clear hwl wl) | (go_at_call 59; refine (control_Ended.is HSZ.out.io).mono ?_; rintro e_ wl ⟨rfl, hwl⟩; rw [hwl]; clear hwl wl))
                go_roundg k1
                case measure => omega
                case rel => exact ⟨i + 1, L, true, Acz, ccz, Aw, cw, C, went, rfl, rfl, rfl, (by rw [HW.out]), ⟨by have := HK.out; omega⟩, ⟨⟨_, _, _, HSZ.out⟩⟩, ⟨by simpa using HNZ.out⟩⟩
      · have c5b : decide (i < (l0.length : Int)) = false := decide_eq_false c5
        have u1 : wrap64 ((n : Int) + 1) = (n : Int) + 1 := by unfold wrap64; have := HNB.out; omega
        have HU1 := Aside0.mk u1
        clear c5
        have HCL : Aside0 (came.length ≤ 300 ∧ sumF came ≤ 90000) := ⟨by have h := HI.out; have h1 := HL.out; have h2 := HK.out; omega⟩
        go_wp2
        go_loopg [10, 16] (n + 3) (fun kq v10 v16 w' => ∃ (j : Nat) (l : List S67) (Aw : Option Addr) (cw : Nat) (went : List S67), v10 = .slice Aw went.length cw ∧ v16 = .int .i64 (j : Int) ∧ Aside0 (j + kq = n + 3) ∧ Aside0 (Ord w w' g n l ended (.slice Ac came.length cc) came (.slice Aw went.length cw) went) ∧ Aside0 (came = went ++ l ∧ l.length + j ≤ n + 2))
        case atStart => exact ⟨0, l, Aw, cw, went, rfl, rfl, ⟨by omega⟩, HS, ⟨HI.out.1, by have := HI.out.2.1.1; omega⟩⟩
        case round =>
          clear HS HI HK u1
          have u1 := HU1.out
          obtain ⟨j, l, Aw, cw, went, rfl, rfl, HK, HS, HI⟩ := hrel
          by_cases c6 : j ≤ n + 1
          · obtain ⟨v, ok, okw, hst⟩ := HS.out
            have HS0 := Aside0.mk hst
            clear hst HS
            obtain ⟨k1, hk1⟩ : ∃ j, gk = j + 1 := ⟨gk - 1, by have := HK.out; omega⟩
            subst hk1
            have c6b : decide (j ≤ n + 1) = true := decide_eq_true c6
            have c6c : decide ((j : Int) ≤ (n : Int) + 1) = true := decide_eq_true (by omega)
            have c6d : ((j : Int) ≤ (n : Int) + 1) = True := eq_true (by omega)
            have hwr : wrap64 ((j : Int) + 1) = (j : Int) + 1 := by unfold wrap64; have := HNB.out; omega
            have HW := Aside0.mk hwr
            have HLL : Aside0 (l.length ≤ 10000) := ⟨by have := HI.out.2; have := HNB.out; omega⟩
            have HC6 := Aside0.mk c6
            clear c6 hwr
            cases l with
            | nil =>
              obtain ⟨L, hL⟩ : ∃ L, ([] : List S67) = L := ⟨_, rfl⟩
              have HLE := Aside0.mk hL
              have HNZ : Aside0 (came = went ++ L ∧ L.length + (j + 1) ≤ n + 2) := ⟨by subst hL; have h := HI.out; have h1 := HC6.out; exact ⟨h.1, by simp; omega⟩⟩
              clear hL
              go_wp2_with (first | (go_at_call 49; refine (control_Pop.empty _ g n _ _ _ HS0.out.io).mono ?_; rintro e_ wy ⟨rfl, hb⟩; have hSb := (HS0.out.below hb).below (below_alloc (Below.refl _ _) (.cells #[.int .i64 0, .int .i64 0, .int .i64 0, .slice none 0 0] 67)); rw [HLE.out] at hSb; have HSZ := Aside0.mk hSb; clear hSb hb HS0))
              go_roundg k1
              case measure => omega
              case rel => exact ⟨j + 1, L, Aw, cw, went, rfl, (by rw [HW.out]; rfl), ⟨by have := HK.out; omega⟩, ⟨⟨_, _, _, HSZ.out⟩⟩, HNZ⟩
            | cons y l =>
              obtain ⟨y0, y1, y2, y3⟩ := y
              have HWL : Aside0 (went.length ≤ 300) := ⟨by have h1 := congrArg List.length HI.out.1; rw [List.length_append] at h1; have h2 := HCL.out.1; omega⟩
              obtain ⟨Wn, hW⟩ : ∃ Wn, went ++ [(⟨y0, y1, y2, y3⟩ : S67)] = Wn := ⟨_, rfl⟩
              have HWE := Aside0.mk hW
              have HNZ : Aside0 (came = Wn ++ l ∧ l.length + (j + 1) ≤ n + 2) := ⟨by subst hW; have h := HI.out; simp only [List.length_cons] at h; exact ⟨by rw [h.1, List.append_assoc]; rfl, by omega⟩⟩
              have HLL2 := Aside0.mk (show l.length ≤ 10000 by have h := HLL.out; simp only [List.length_cons] at h; omega)
              clear hW
              go_wp2_with (first | (go_at_call 49; refine (control_Pop.is _ l _ g n _ _ _ HS0.out.io HLL2.out).mono ?_; rintro e_ wy ⟨Aa, ca, va, oka, rfl, hc, hF, hI, hm, hown⟩; have hbw := hm.1.size; have HP : Aside0 (∀ k, (ok k ∧ k < wr.heap.size) → k ≠ g ∧ va.ownBlock ≠ some k ∧ k < (wy.alloc (.cells #[.int .i64 y0, .int .i64 y1, .int .i64 y2, .slice Aa y3.length ca] 67)).heap.size ∧ (Value.slice Ac came.length cc).ownBlock ≠ some k) := ⟨fun k hk => ⟨fun e => HS0.out.io.ng (e ▸ hk.1), fun e => by have h1 := hown k e; have h2 := hk.2; omega, by have h2 := hk.2; rw [World.size_alloc]; omega, fun e => (HS0.out.dc k e).2.2.1 hk.1⟩⟩; have HDI := Aside0.mk HS0.out.di; have HFK : Aside0 (Kd.FK k67 (wy.alloc (.cells #[.int .i64 y0, .int .i64 y1, .int .i64 y2, .slice Aa y3.length ca] 67)) (fun k => ok k ∧ k < wr.heap.size) (⟨y0, y1, y2, y3⟩ : S67) [.int .i64 y0, .int .i64 y1, .int .i64 y2, .slice Aa y3.length ca]) := ⟨Kd.FK_mono (Kd.FK_below (FK67_pop hc hF) (below_alloc (Below.refl _ _) _)) (fun k hk => ⟨hk, HS0.out.io.lt k hk⟩)⟩; have HSY := Aside0.mk ((HS0.out.moveC hI hm).below (below_alloc (Below.refl _ _) (.cells #[.int .i64 y0, .int .i64 y1, .int .i64 y2, .slice Aa y3.length ca] 67))); clear hc hF hI hm hown hbw HS0) | (at_builtin; refine Kd.N_append k67 (w0 := w) w.heap.size rfl (.tmp 152) (.tmp 154) 56 67 (.agg #[(.int .i64 0), (.int .i64 0), (.int .i64 0), (.slice none 0 0)]) 48 rfl Try.underlying56 info67c rfl (by decide) (by decide) _ went (⟨y0, y1, y2, y3⟩ : S67) [.int .i64 y0, .int .i64 y1, .int .i64 y2, .slice Aa y3.length ca] (fun k => okw k ∨ (ok k ∧ k < wr.heap.size) ∨ (wy.alloc (.cells #[.int .i64 y0, .int .i64 y1, .int .i64 y2, .slice Aa y3.length ca] 67)).heap.size ≤ k) (fun k => ok k ∧ k < wr.heap.size) rfl (by rw [World.size_alloc]; rfl) HFK.out (fun k hk => ⟨.inr (.inl hk), fun e => HDI.out k e.symm hk.1⟩) (fun k hk => .inr (.inr hk)) (Kd.N_mono HSY.out.wt (fun k hk => .inl hk)) HSY.out.be HSY.out.be.size (by have := HWL.out; omega) ?_; intro vwn wz hRz _ hgz hatz; rw [HWE.out] at hRz; obtain ⟨Awz, cwz, ez⟩ := Kd.N_slice hRz; subst ez; have HSZ := Aside0.mk (HSY.out.wentApp hRz hgz hatz HP.out); clear hRz hgz hatz HSY HFK HP HDI))
              go_roundg k1
              case measure => omega
              case rel => exact ⟨j + 1, l, Awz, cwz, Wn, rfl, (by rw [HW.out]; rfl), ⟨by have := HK.out; omega⟩, ⟨⟨_, _, _, HSZ.out⟩⟩, HNZ⟩
          · have c6b : decide (j ≤ n + 1) = false := decide_eq_false c6
            have c6c : decide ((j : Int) ≤ (n : Int) + 1) = false := decide_eq_false (by omega)
            have c6d : ((j : Int) ≤ (n : Int) + 1) = False := eq_false (by omega)
            obtain ⟨v, ok, okw, hst⟩ := HS.out
            have hl0 : l = [] := List.eq_nil_of_length_eq_zero (by have := HI.out.2; omega)
            subst hl0
            have hce := HI.out.1
            rw [List.append_nil] at hce
            subst hce
            have HS0 := Aside0.mk hst
            have HCW := Aside0.mk (Kd.N_reads' hst.wt).2
            have HCC2 : Aside0 (came.length ≤ cc ∧ Kd.C k67 wr Ac came.length came) := ⟨by obtain ⟨A, c, he, h1, h2⟩ := hst.cm.reads; cases he; exact ⟨h1, h2⟩⟩
            clear hst HS c6 HI
            go_wp2_with (first | (go_at_call 44; refine (gantletref02_List.calls 200000 Aw cw came Ac cc came true _ HCW.out.2 HCW.out.1 HCC2.out.2 HCC2.out.1 (list02_self came HCL.out.1 HCL.out.2)).mono ?_; rintro e_ wa ⟨rfl, hd⟩; have HBa := Aside0.mk (below_step HS0.out.be hd); clear hd) | (go_at_call 46; refine (gantletlaw19_alive.calls _).mono ?_; rintro e_ wb ⟨rfl, hb⟩; have HBb := Aside0.mk (below_step HBa.out hb); clear hb HBa))
            go_ret
            exact ⟨rfl, HBb.out⟩
end Go.Proofs.Ytbmnplojpeabmaa.QK
