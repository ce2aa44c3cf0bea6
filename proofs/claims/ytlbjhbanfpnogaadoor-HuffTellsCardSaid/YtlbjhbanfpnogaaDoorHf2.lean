/-
  HUFF: Length, Code, Size; the document's lengths, Codes.
  Conditions: none of its own; lemmas that the claim's row rests on.
-/
import Derived.Test.YtlbjhbanfpnogaaDoorHf1
import Derived.WalkKit
namespace Go.Proofs.YtlbjhbanfpnogaaDoor.QH
open Go.RowKit Go.Proofs.YtlbjhbanfpnogaaDoorW.PrintWords Go.Proofs.YtlbjhbanfpnogaaDoorW.PrintLast Go.Proofs.YtlbjhbanfpnogaaDoorW.PrintMore
attribute [local go_sem] max2_int min2_int max_two min_two max_three min_three max_four min_four
set_option linter.unusedVariables false
set_option linter.unusedSimpArgs false
def huff_Length.f (c : Int) : Option Int := some (if c < 0 then 0 else if c > 256 then 0 else (ln c.toNat : Int))
def huff_Code.f (c : Int) : Option Int := some (if c < 0 then 0 else if c > 256 then 0 else (cd c.toNat : Int))
set_option maxHeartbeats 1000000 in
theorem huff_Length.calls (a0 : Int) (r : Int) (w : World) (hG : GB w) (h : huff_Length.f a0 = some r) :
    Calls Tryd.prog 11 #[.int .i64 a0] w fun e w' => e = .returned (.int .i64 r) ∧ Drawn0 w w' := by
  have h := Option.some.inj h
  have hu57 := Tryd.underlying57
  by_cases h0 : a0 < 0
  · rw [if_pos h0] at h
    subst h
    have b0 : decide (a0 < 0) = true := decide_eq_true h0
    go_enter Tryd.func11, Tryd.ntmps11
    go_wp2
    go_ret
    exact ⟨rfl, Drawn0.refl _⟩
  · rw [if_neg h0] at h
    have b0 : decide (a0 < 0) = false := decide_eq_false h0
    by_cases h1 : a0 > 256
    · rw [if_pos h1] at h
      subst h
      have b1 : decide (256 < a0) = true := decide_eq_true h1
      go_enter Tryd.func11, Tryd.ntmps11
      go_wp2
      go_ret
      exact ⟨rfl, Drawn0.refl _⟩
    · rw [if_neg h1] at h
      have b1 : decide (256 < a0) = false := decide_eq_false h1
      obtain ⟨c, rfl⟩ : ∃ c : Nat, a0 = (c : Int) := ⟨a0.toNat, by omega⟩
      rw [Int.toNat_natCast] at h
      have hg0 := hG.cell c (by omega)
      rw [h] at hg0
      have hc : (c : Int) < 257 := by omega
      have hc0 : (0 : Int) ≤ (c : Int) := by omega
      have hcn : c < 257 := by omega
      clear h h1 h0
      go_enter Tryd.func11, Tryd.ntmps11
      go_wp2
      go_ret
      exact ⟨rfl, Drawn0.refl _⟩
set_option maxHeartbeats 1000000 in
theorem huff_Code.calls (a0 : Int) (r : Int) (w : World) (hG : GB w) (h : huff_Code.f a0 = some r) :
    Calls Tryd.prog 13 #[.int .i64 a0] w fun e w' => e = .returned (.int .i64 r) ∧ Below w.heap.size w w' := by
  have h := Option.some.inj h
  have hu57 := Tryd.underlying57
  by_cases h0 : a0 < 0
  · rw [if_pos h0] at h
    subst h
    have b0 : decide (a0 < 0) = true := decide_eq_true h0
    go_enter Tryd.func13, Tryd.ntmps13
    go_wp2
    go_ret
    exact ⟨rfl, Below.refl _ _⟩
  · rw [if_neg h0] at h
    have b0 : decide (a0 < 0) = false := decide_eq_false h0
    by_cases h1 : a0 > 256
    · rw [if_pos h1] at h
      subst h
      have b1 : decide (256 < a0) = true := decide_eq_true h1
      go_enter Tryd.func13, Tryd.ntmps13
      go_wp2
      go_ret
      exact ⟨rfl, Below.refl _ _⟩
    · rw [if_neg h1] at h
      have b1 : decide (256 < a0) = false := decide_eq_false h1
      obtain ⟨c, rfl⟩ : ∃ c : Nat, a0 = (c : Int) := ⟨a0.toNat, by omega⟩
      rw [Int.toNat_natCast] at h
      have hix : ∀ W, (Instr.index 57 (.agg codesV) (.int .i64 (c : Int))).run Tryd.prog W = .ok (.int .i64 r) W := fun W => by
        rw [← h]
        exact index_arr W codesV _ c .i64 (by omega) (by omega) (by rw [Int.toNat_natCast]; exact codesV_get c (by omega))
      have HG := Aside0.mk hG
      clear h h1 h0 hG
      go_enter Tryd.func13, Tryd.ntmps13
      go_wp2_with (go_at_call 38; refine (huff_codes.is _ HG.out).mono ?_; rintro e_ w1 ⟨rfl, hb1⟩; have HB1 := Aside0.mk hb1; clear hb1)
      go_ret
      exact ⟨rfl, HB1.out⟩
/-- How many bits a text's codes have. -/
def sumLn : List Int → Nat
  | [] => 0
  | c :: b => ln c.toNat + sumLn b
def huff_Size.f (b : List Int) : Option Int := if bytesB b = true then some (((sumLn b + 7) / 8 : Nat) : Int) else none
theorem sumLn_append (a b : List Int) : sumLn (a ++ b) = sumLn a + sumLn b := by
  induction a with
  | nil => simp [sumLn]
  | cons c a ih => simp only [List.cons_append, sumLn, ih]; omega
set_option maxHeartbeats 4000000 in
set_option maxRecDepth 100000 in
theorem huff_Size.calls (A0 : Option Addr) (c0 : Nat) (l0 : List Int) (r : Int) (w : World) (hG : GB w) (hr0 : Kd.C (Kd.int .u8) w A0 l0.length l0) (hc0 : l0.length ≤ c0) (h : huff_Size.f l0 = some r) :
    Calls Tryd.prog 20 #[.slice A0 l0.length c0] w fun e w' => e = .returned (.int .i64 r) ∧ Drawn0 w w' := by
  unfold huff_Size.f at h
  by_cases hb : bytesB l0 = true
  · rw [if_pos hb] at h
    have h := Option.some.inj h
    have HE := Aside0.mk h
    have HY := Aside0.mk hb
    have HL : Aside0 (l0.length ≤ 1000000) := ⟨by unfold bytesB at hb; rw [Bool.and_eq_true] at hb; exact of_decide_eq_true hb.1⟩
    have HG := Aside0.mk hG
    have HR := Aside0.mk hr0
    clear h hb hr0 hG
    have hu57 := Tryd.underlying57
    go_enter Tryd.func20, Tryd.ntmps20
    go_wp2
    go_loopg [3, 8] (l0.length + 1) (fun kq v3 v8 w' => ∃ (j s : Nat), v3 = .int .i64 (s : Int) ∧ v8 = .int .i64 (j : Int) ∧ Aside0 (j + kq = l0.length + 1 ∧ j ≤ l0.length ∧ s ≤ 30 * j ∧ s + sumLn (l0.drop j) = sumLn l0) ∧ w' = w)
    case atStart => exact ⟨0, 0, rfl, rfl, ⟨by simp⟩, rfl⟩
    case round =>
      obtain ⟨j, s, rfl, rfl, HK, rfl⟩ := hrel
      by_cases cj : j < l0.length
      · obtain ⟨k1, hk1⟩ : ∃ q, gk = q + 1 := ⟨gk - 1, by have := HK.out; omega⟩
        subst hk1
        have cjb : decide ((j : Int) < (l0.length : Int)) = true := decide_eq_true (by omega)
        have cjn : decide (j < l0.length) = true := decide_eq_true cj
        obtain ⟨ad, e0, hx0⟩ := Kd.at_int HR.out (j : Int) (by omega) (by omega)
        subst e0
        rw [Int.toNat_natCast] at hx0
        have hy := bytes_at HY.out j cj
        obtain ⟨c, hc⟩ : ∃ c : Nat, rd l0 (j : Int) = (c : Int) := ⟨(rd l0 (j : Int)).toNat, by omega⟩
        have hdr : l0.drop j = (c : Int) :: l0.drop (j + 1) := by rw [List.drop_eq_getElem_cons cj, ← hc]; congr 1; simp [rd, cj]
        rw [hc] at hx0 hy
        have hc256 : c < 257 := by omega
        have hg0 := HG.out.cell c hc256
        have hl := ln_le c hc256
        have HS : Aside0 (s + ln c + sumLn (l0.drop (j + 1)) = sumLn l0) := ⟨by have h1 := HK.out.2.2.2; rw [hdr] at h1; simp only [sumLn, Int.toNat_natCast] at h1; omega⟩
        clear hdr hc
        obtain ⟨L, hL⟩ : ∃ L, ln c = L := ⟨_, rfl⟩
        rw [hL] at hg0 hl HS
        clear hL
        have hs := HK.out.2.2.1
        have hll := HL.out
        have hw1 : wrap64 ((j : Int) + 1) = (j : Int) + 1 := by unfold wrap64; omega
        have hw2 : wrap64 ((s : Int) + (L : Int)) = ((s + L : Nat) : Int) := by unfold wrap64; omega
        have HW2 := Aside0.mk hw2
        have HW1 := Aside0.mk hw1
        have HN : Aside0 (j + 1 + k1 = l0.length + 1 ∧ j + 1 ≤ l0.length ∧ s + L ≤ 30 * (j + 1) ∧ s + L + sumLn (l0.drop (j + 1)) = sumLn l0) := ⟨by have h1 := HK.out; have h2 := HS.out; omega⟩
        clear hs hll hw2
        go_wp2
        go_roundg k1
        case measure => omega
        case rel => exact ⟨j + 1, s + L, (by first | rfl | (rw [HW2.out]) | simp), (by first | rfl | (rw [HW1.out]; rfl)), HN, rfl⟩
      · obtain rfl : j = l0.length := by have := HK.out; omega
        have hs := HK.out.2.2.2
        rw [List.drop_length] at hs
        obtain rfl : s = sumLn l0 := by simpa [sumLn] using hs
        have hs2 := HK.out.2.2.1
        have hll := HL.out
        generalize sumLn l0 = s at *
        have hd : ((s : Int) + 8 - 1).tdiv 8 = r := by rw [← HE.out, Int.tdiv_eq_ediv_of_nonneg (by omega)]; omega
        have hd2 : ((s : Int) + 7).tdiv 8 = r := by rw [← HE.out, Int.tdiv_eq_ediv_of_nonneg (by omega)]; omega
        have hd3 : ((s : Int) + 7) / 8 = r := by rw [← HE.out]; omega
        have hd4 : ((s : Int) + 8 - 1) / 8 = r := by rw [← HE.out]; omega
        clear hs cj
        go_wp2
        go_ret
        exact ⟨rfl, Drawn0.refl _⟩
  · rw [if_neg hb] at h; cases h
def lensI : List Int := lensN.map fun x : Nat => (x : Int)
def codesI : List Int := codesN.map fun x : Nat => (x : Int)
theorem lensI_encs : encs (Value.int .i64) lensI = lensV.toList := by simp [encs, lensI, lensV]
theorem lensI_len : lensI.length = 257 := by simp [lensI, lensN_len]
def gantletref04_lengths.f : Option (List Int) := some lensI
set_option maxHeartbeats 4000000 in
set_option maxRecDepth 100000 in
theorem gantletref04_lengths.calls (r : List Int) (w : World) (h : gantletref04_lengths.f = some r) :
    Calls Tryd.prog 37 #[] w fun e w' => ∃ v0_ : Value, e = .returned (v0_) ∧ Kd.R (Kd.int .i64) 3 w' w.heap.size (fun _ => True) v0_ r ∧ Below w.heap.size w w' := by
  obtain rfl := Option.some.inj h
  clear h
  go_enter Tryd.func37, Tryd.ntmps37
  go_wp2_with ((with_reducible refine gate_dst (N := 1) rfl ?_); refine Kd.R_lit (Kd.int .i64) (w0 := w) w.heap.size 3 ?hg (N := 1) ?hd (xs := lensI) (inner := lensV.toList) (ok := fun _ => True) (okp := fun _ => True) ?hr ?hp (fun _ hk => hk) trivial (Below.refl _ _) (Nat.le_refl _) (by rw [lensI_len]; decide) ?_; (case hd => rfl); (case hg => rfl); (case hr => kernel_rfl); (case hp => rw [← lensI_encs]; exact Kd.reps_scalar lensI); intro v1 w1 ho1 hb1 hg1 hn1; have HO := Aside0.mk ho1; have HB := Aside0.mk hb1; clear ho1 hb1 hg1 hn1)
  go_ret
  exact ⟨_, rfl, HO.out, HB.out⟩
def gantletref04_Codes.f : Option (List Int) := some codesI
theorem codesI_encs : encs (Value.int .i64) codesI = codesV.toList := by simp [encs, codesI, codesV]
theorem codesI_len : codesI.length = 257 := by simp [codesI, codesN_len]
theorem rd_lensI (c : Nat) (h : c < 257) : rd lensI (c : Int) = (ln c : Int) := by
  have hl := lensN_len
  simp [rd, lensI, ln, List.getElem?_eq_getElem (show c < lensN.length by omega)]
theorem rd_codesI (c : Nat) (h : c < 257) : rd codesI (c : Int) = (cd c : Int) := by
  have hl := codesN_len
  simp [rd, codesI, cd, List.getElem?_eq_getElem (show c < codesN.length by omega)]
theorem outV_one : outV 1 0 = zerosV := outV_eq 1 0 _ (by unfold zerosV; exact Array.size_replicate) (fun i hi => by
  have := ln_le i hi
  unfold zerosV outN
  rw [Array.getElem?_replicate, if_pos hi, if_neg (by omega)]
  rfl)
theorem nx_one : nxN 1 0 = 0 := by decide +kernel
/-- Where Codes stands: the lengths' row, the codes' block b. -/
def CoS (w : World) (v : Value) (b : Nat) (cs : Array Value) (W : World) : Prop := W.heap[b]? = some (.cells cs 3 (0, 0)) ∧ Kd.R (Kd.int .i64) 3 W w.heap.size (fun k => k ≠ b) v lensI ∧ Below w.heap.size w W
theorem CoS.set {w W : World} {v : Value} {b : Nat} {cs : Array Value} (h : CoS w v b cs W) (hb : w.heap.size ≤ b) (c : Nat) (u : Value) : CoS w v b (cs.setIfInBounds c u) (W.setCell ⟨b, c, none⟩ u) :=
  ⟨blk_set h.1 c u, Kd.R_far h.2.1 (p := ⟨b, c, none⟩) (fun _ hk => hk) u, h.2.2.setCell (p := ⟨b, c, none⟩) hb u⟩
theorem make257 (W : World) : (Instr.makeSlice 58 (.int .i64 257) (.int .i64 257)).run Tryd.prog W = .ok (.slice (some ⟨W.heap.size, 0, none⟩) 257 257) (W.alloc (.cells zerosV 3)) := by kernel_rfl
set_option maxHeartbeats 4000000 in
set_option maxRecDepth 100000 in
theorem gantletref04_Codes.calls (r : List Int) (w : World) (h : gantletref04_Codes.f = some r) :
    Calls Tryd.prog 39 #[] w fun e w' => ∃ v0_ : Value, e = .returned (v0_) ∧ Kd.R (Kd.int .i64) 3 w' w.heap.size (fun _ => True) v0_ r ∧ Below w.heap.size w w' := by
  obtain rfl := Option.some.inj h
  clear h
  have hmk := make257
  go_enter Tryd.func39, Tryd.ntmps39
  go_wp2_with (go_at_call 37; refine (gantletref04_lengths.calls lensI _ rfl).mono ?_; rintro e_ w1 ⟨v, rfl, hR, hb1⟩; have HR1 := Aside0.mk (Kd.R_mono (ok' := fun k => k ≠ w1.heap.size) (Kd.R_bound hR) (fun k hk => by have := hk.2.2.1; omega)); have HB1 := Aside0.mk hb1; clear hR hb1)
  obtain ⟨Al, cl, rfl⟩ := Kd.R_slice HR1.out
  obtain ⟨b, hb⟩ : ∃ b, w1.heap.size = b := ⟨_, rfl⟩
  have HS : Aside0 (CoS w (.slice Al lensI.length cl) b (outV 1 0) (w1.alloc (.cells zerosV 3))) := ⟨by rw [outV_one, ← hb]; exact ⟨blk_new _ _, Kd.R_alloc HR1.out _, below_alloc HB1.out _⟩⟩
  have HBW : Aside0 (w.heap.size ≤ b) := ⟨by rw [← hb]; exact HB1.out.size⟩
  rw [hb]
  clear HR1 HB1 hb
  rw [lensI_len] at HS ⊢
  generalize w1.alloc (.cells zerosV 3) = w2 at *
  go_loopg [3, 4, 5] 32 (fun kq v3 v4 v5 w' => ∃ n : Nat, v3 = .int .i64 (nxN n 0 : Int) ∧ v4 = .int .i64 (n : Int) ∧ Aside0 (n + kq = 33 ∧ n ≤ 31) ∧ Aside0 (CoS w (.slice Al 257 cl) b (outV n 0) w'))
  case atStart => exact ⟨1, (by rw [nx_one]; rfl), rfl, ⟨by omega⟩, HS⟩
  case round =>
    clear HS
    obtain ⟨n, rfl, rfl, HK, HS⟩ := hrel
    by_cases cn : n ≤ 30
    · have cnb : decide ((n : Int) ≤ 30) = true := decide_eq_true (by omega)
      have HN := Aside0.mk (show n < 31 by omega)
      obtain ⟨k1, hk1⟩ : ∃ j, gk = j + 1 := ⟨gk - 1, by have := HK.out; omega⟩
      subst hk1
      clear cn
      go_wp2
      obtain ⟨wo, rfl⟩ : ∃ wo : World, wo = wr := ⟨_, rfl⟩
      go_loopg [3, 5] 258 (fun kq v3 v5 w' => ∃ c : Nat, v3 = .int .i64 (nxN n c : Int) ∧ v5 = .int .i64 (c : Int) ∧ Aside0 (c + kq = 258 ∧ c ≤ 257) ∧ Aside0 (CoS w (.slice Al 257 cl) b (outV n c) w'))
      case atStart => exact ⟨0, rfl, rfl, ⟨by omega⟩, HS⟩
      case round =>
        clear HS
        obtain ⟨c, rfl, rfl, HC, HS⟩ := hrel
        by_cases cc : c ≤ 256
        · have ccb : decide ((c : Int) ≤ 256) = true := decide_eq_true (by omega)
          obtain ⟨k2, hk2⟩ : ∃ j, gk = j + 1 := ⟨gk - 1, by have := HC.out; omega⟩
          subst hk2
          have hc7 : c < 257 := by omega
          obtain ⟨hlen, hlc, hCr⟩ := Kd.R_reads' HS.out.2.1
          obtain ⟨ad, e0, hx⟩ := Kd.at_int hCr (c : Int) (by omega) (by omega)
          subst e0
          rw [Int.toNat_natCast, rd_lensI c hc7] at hx
          have hnx := nx_step n c hc7
          have hcd := cd_nx c hc7
          have hle := Nat.le_trans (nx_mono n c (by omega)) (nx_next n HN.out).2
          have hcl := (blk_cell HS.out.1 c).trans (outV_get n c c hc7)
          have hfr := blk_frozen HS.out.1 c
          have HCC := Aside0.mk hc7
          have hw1 : wrap64 ((c : Int) + 1) = (c : Int) + 1 := by unfold wrap64; omega
          have HW1 := Aside0.mk hw1
          have hc0 : (0 : Int) ≤ (c : Int) := by omega
          have hc1 : (c : Int) < 257 := by omega
          clear hw1 hlen hlc hCr cc
          by_cases hl : ln c = n
          · rw [if_pos hl] at hnx
            have HP := Aside0.mk (outV_put n c HCC.out hl)
            rw [hl] at hcd hx
            rw [hcd] at HP
            obtain ⟨x, hxe⟩ : ∃ x, nxN n c = x := ⟨_, rfl⟩
            rw [hxe] at hnx hle HP ⊢
            have HNX := Aside0.mk hnx
            have hw2 : wrap64 ((x : Int) + 1) = (x : Int) + 1 := by unfold wrap64; omega
            have HW2 := Aside0.mk hw2
            have hne : ((n : Int) == (n : Int)) = true := by simp
            clear hl hcd hnx hw2 hxe
            go_wp2
            go_roundg k2
            case measure => omega
            case rel => exact ⟨c + 1, (by rw [HNX.out]; first | rfl | (rw [HW2.out]; rfl)), (by first | rfl | (rw [HW1.out]; rfl)), ⟨by have := HC.out; have := HCC.out; omega⟩, ⟨by rw [← HP.out]; exact HS.out.set HBW.out c _⟩⟩
          · rw [if_neg hl] at hnx
            have HP := Aside0.mk (outV_skip n c hl)
            have HNX := Aside0.mk hnx
            obtain ⟨m, hm⟩ : ∃ m, ln c = m := ⟨_, rfl⟩
            rw [hm] at hl hx
            have hne2 : ((m : Int) == (n : Int)) = false := beq_eq_false_iff_ne.mpr (by omega)
            clear hl hm hnx hcd
            go_wp2
            go_roundg k2
            case measure => omega
            case rel => exact ⟨c + 1, (by rw [HNX.out]; rfl), (by first | rfl | (rw [HW1.out]; rfl)), ⟨by have := HC.out; have := HCC.out; omega⟩, ⟨by rw [HP.out]; exact HS.out⟩⟩
        · have ccb : decide ((c : Int) ≤ 256) = false := decide_eq_false (by omega)
          obtain rfl : c = 257 := by have := HC.out; omega
          have hnx := nx_next n HN.out
          have HNX := Aside0.mk hnx.1
          have hle := hnx.2
          have hnle := HN.out
          have hn0 : (0 : Int) ≤ (n : Int) := by omega
          obtain ⟨x, hxe⟩ : ∃ x, nxN n 257 = x := ⟨_, rfl⟩
          rw [hxe] at hle HNX ⊢
          clear hnx cc hxe
          go_wp2
          go_roundg k1
          case measure => omega
          case rel => exact ⟨n + 1, (by rw [HNX.out]; first | rfl | (rw [Int.natCast_mul]; rfl)), (by rfl), ⟨by have := HK.out; have := HN.out; omega⟩, ⟨by rw [outV_next]; exact HS.out⟩⟩
    · have cnb : decide ((n : Int) ≤ 30) = false := decide_eq_false (by omega)
      obtain rfl : n = 31 := by have := HK.out; omega
      have h31 := HS.out
      rw [outV_end] at h31
      clear cn HS
      go_wp2
      go_ret
      refine ⟨_, rfl, Kd.R_of_own ?_ (fun _ _ => trivial), h31.2.2⟩
      rw [codesI_len, codesI_encs]
      exact ⟨by rw [Array.length_toList, codesV_size], .inr ⟨b, 257, codesV, rfl, HBW.out, h31.1, Nat.le_refl _, by decide, by rw [codesV_size], by rw [List.take_of_length_le (by rw [Array.length_toList, codesV_size]; exact Nat.le_refl _)]⟩⟩
end Go.Proofs.YtlbjhbanfpnogaaDoor.QH
