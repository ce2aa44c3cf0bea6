/-
  HUFF: the lengths, the codes; codes' contract.
  Conditions: none of its own; lemmas that the claim's row rests on.
-/
import Derived.Test.YtlbjhbanfpnogaaDoorHw
import Derived.Test.YtlbjhbanfpnogaaDoorObj
import Derived.WalkKit
namespace Go.Proofs.YtlbjhbanfpnogaaDoor.QH
open Go.RowKit Go.Proofs.YtlbjhbanfpnogaaDoorW.PrintWords Go.Proofs.YtlbjhbanfpnogaaDoorW.PrintLast Go.Proofs.YtlbjhbanfpnogaaDoorW.PrintMore
attribute [local go_sem] max2_int min2_int max_two min_two max_three min_three max_four min_four
set_option linter.unusedVariables false
set_option linter.unusedSimpArgs false
/-- The lengths of all bytes' codes, and the end's; the codes. -/
def lensN : List Nat := [13, 23, 28, 28, 28, 28, 28, 28, 28, 24, 30, 28, 28, 30, 28, 28, 28, 28, 28, 28, 28, 28, 30, 28, 28, 28, 28, 28, 28, 28, 28, 28, 6, 10, 10, 12, 13, 6, 8, 11, 10, 10, 8, 11, 8, 6, 6, 6, 5, 5, 5, 6, 6, 6, 6, 6, 6, 6, 7, 8, 15, 6, 12, 10, 13, 6, 7, 7, 7, 7, 7, 7, 7, 7, 7, 7, 7, 7, 7, 7, 7, 7, 7, 7, 7, 7, 7, 7, 8, 7, 8, 13, 19, 13, 14, 6, 15, 5, 6, 5, 6, 5, 6, 6, 6, 5, 7, 7, 6, 6, 6, 5, 6, 7, 6, 5, 5, 6, 7, 7, 7, 7, 7, 15, 11, 14, 13, 28, 20, 22, 20, 20, 22, 22, 22, 23, 22, 23, 23, 23, 23, 23, 24, 23, 24, 24, 22, 23, 24, 23, 23, 23, 23, 21, 22, 23, 22, 23, 23, 24, 22, 21, 20, 22, 22, 23, 23, 21, 23, 22, 22, 24, 21, 22, 23, 23, 21, 21, 22, 21, 23, 22, 23, 23, 20, 22, 22, 22, 23, 22, 22, 23, 26, 26, 20, 19, 22, 23, 22, 25, 26, 26, 26, 27, 27, 26, 24, 25, 19, 21, 26, 27, 27, 26, 27, 24, 21, 21, 26, 26, 28, 27, 27, 27, 20, 24, 20, 21, 22, 21, 21, 23, 22, 22, 25, 25, 24, 24, 26, 23, 26, 27, 26, 26, 27, 27, 27, 27, 27, 28, 27, 27, 27, 27, 27, 26, 30]
def codesN : List Nat := [8184, 8388568, 268435426, 268435427, 268435428, 268435429, 268435430, 268435431, 268435432, 16777194, 1073741820, 268435433, 268435434, 1073741821, 268435435, 268435436, 268435437, 268435438, 268435439, 268435440, 268435441, 268435442, 1073741822, 268435443, 268435444, 268435445, 268435446, 268435447, 268435448, 268435449, 268435450, 268435451, 20, 1016, 1017, 4090, 8185, 21, 248, 2042, 1018, 1019, 249, 2043, 250, 22, 23, 24, 0, 1, 2, 25, 26, 27, 28, 29, 30, 31, 92, 251, 32764, 32, 4091, 1020, 8186, 33, 93, 94, 95, 96, 97, 98, 99, 100, 101, 102, 103, 104, 105, 106, 107, 108, 109, 110, 111, 112, 113, 114, 252, 115, 253, 8187, 524272, 8188, 16380, 34, 32765, 3, 35, 4, 36, 5, 37, 38, 39, 6, 116, 117, 40, 41, 42, 7, 43, 118, 44, 8, 9, 45, 119, 120, 121, 122, 123, 32766, 2044, 16381, 8189, 268435452, 1048550, 4194258, 1048551, 1048552, 4194259, 4194260, 4194261, 8388569, 4194262, 8388570, 8388571, 8388572, 8388573, 8388574, 16777195, 8388575, 16777196, 16777197, 4194263, 8388576, 16777198, 8388577, 8388578, 8388579, 8388580, 2097116, 4194264, 8388581, 4194265, 8388582, 8388583, 16777199, 4194266, 2097117, 1048553, 4194267, 4194268, 8388584, 8388585, 2097118, 8388586, 4194269, 4194270, 16777200, 2097119, 4194271, 8388587, 8388588, 2097120, 2097121, 4194272, 2097122, 8388589, 4194273, 8388590, 8388591, 1048554, 4194274, 4194275, 4194276, 8388592, 4194277, 4194278, 8388593, 67108832, 67108833, 1048555, 524273, 4194279, 8388594, 4194280, 33554412, 67108834, 67108835, 67108836, 134217694, 134217695, 67108837, 16777201, 33554413, 524274, 2097123, 67108838, 134217696, 134217697, 67108839, 134217698, 16777202, 2097124, 2097125, 67108840, 67108841, 268435453, 134217699, 134217700, 134217701, 1048556, 16777203, 1048557, 2097126, 4194281, 2097127, 2097128, 8388595, 4194282, 4194283, 33554414, 33554415, 16777204, 16777205, 67108842, 8388596, 67108843, 134217702, 67108844, 67108845, 134217703, 134217704, 134217705, 134217706, 134217707, 268435454, 134217708, 134217709, 134217710, 134217711, 134217712, 67108846, 1073741823]
theorem lensN_len : lensN.length = 257 := by kernel_rfl
theorem codesN_len : codesN.length = 257 := by kernel_rfl
def lensV : Array Value := (lensN.map fun x : Nat => Value.int .i64 (x : Int)).toArray
def codesV : Array Value := (codesN.map fun x : Nat => Value.int .i64 (x : Int)).toArray
def zerosV : Array Value := Array.replicate 257 (Value.int .i64 0)
def ln (c : Nat) : Nat := lensN.getD c 0
def cd (c : Nat) : Nat := codesN.getD c 0
theorem lensV_size : lensV.size = 257 := by kernel_rfl
theorem codesV_size : codesV.size = 257 := by kernel_rfl
theorem lensV_get (c : Nat) (h : c < 257) : lensV[c]? = some (.int .i64 (ln c : Int)) := by
  have hl := lensN_len
  simp [lensV, ln, List.getElem?_eq_getElem (show c < lensN.length by omega)]
theorem codesV_get (c : Nat) (h : c < 257) : codesV[c]? = some (.int .i64 (cd c : Int)) := by
  have hl := codesN_len
  simp [codesV, cd, List.getElem?_eq_getElem (show c < codesN.length by omega)]
/-- The package-level variable that the laws of package huff read holds what the program's text lays. -/
structure GB (w : World) : Prop where
  lens : ∃ t fr, w.heap[0]? = some (.cells lensV t fr)
theorem GB.below {w w' : World} (h : GB w) (hb : Below w.heap.size w w') : GB w' := by
  obtain ⟨t, fr, h0⟩ := h.lens
  exact ⟨t, fr, (hb.block 0 (Array.getElem?_eq_some_iff.1 h0).1).trans h0⟩
theorem GB.alloc {w : World} (h : GB w) (o : Obj) : GB (w.alloc o) := h.below ((Below.refl _ _).alloc (Nat.le_refl _) _)
theorem GB.drewN {w : World} (h : GB w) (n : Nat) : GB (w.drewN n) := h.below (pw_below_drewN (Below.refl _ _) n)
theorem GB.drew {w : World} (h : GB w) : GB w.drew := h.below (Below.refl _ _).drew
theorem GB.cell {w : World} (h : GB w) (c : Nat) (hc : c < 257) : w.cell? ⟨0, c, none⟩ = some (.int .i64 (ln c : Int)) := by
  obtain ⟨t, fr, h0⟩ := h.lens
  rw [cell_of_row w 0 c _ t fr h0, lensV_get c hc]
theorem GB.size {w : World} (h : GB w) : 0 < w.heap.size := by
  obtain ⟨t, fr, h0⟩ := h.lens
  exact (Array.getElem?_eq_some_iff.1 h0).1
/-- The next code, when all bytes below c of the length n have theirs. -/
def baseN : List Nat := [0, 0, 0, 0, 0, 0, 20, 92, 248, 508, 1016, 2042, 4090, 8184, 16380, 32764, 65534, 131068, 262136, 524272, 1048550, 2097116, 4194258, 8388568, 16777194, 33554412, 67108832, 134217694, 268435426, 536870910, 1073741820, 2147483648]
def nxN (n c : Nat) : Nat := baseN.getD n 0 + ((lensN.take c).filter (fun x => x == n)).length
def outN (n c i : Nat) : Nat := if ln i < n ∨ (ln i = n ∧ i < c) then cd i else 0
def outV (n c : Nat) : Array Value := ((List.range 257).map fun i => Value.int .i64 (outN n c i : Int)).toArray
theorem tabA : ((List.range 257).all fun c => cd c == nxN (ln c) c && decide (ln c ≤ 30) && decide (5 ≤ ln c)) = true := by decide +kernel
theorem tabB : ((List.range 31).all fun n => nxN (n + 1) 0 == 2 * nxN n 257 && decide (nxN n 257 ≤ 1073741824)) = true := by decide +kernel
theorem cd_nx (c : Nat) (h : c < 257) : cd c = nxN (ln c) c := by
  have h1 := List.all_eq_true.1 tabA c (List.mem_range.2 h)
  simp only [Bool.and_eq_true, beq_iff_eq, decide_eq_true_eq] at h1
  exact h1.1.1
theorem ln_le (c : Nat) (h : c < 257) : 5 ≤ ln c ∧ ln c ≤ 30 := by
  have h1 := List.all_eq_true.1 tabA c (List.mem_range.2 h)
  simp only [Bool.and_eq_true, beq_iff_eq, decide_eq_true_eq] at h1
  exact ⟨h1.2, h1.1.2⟩
theorem nx_next (n : Nat) (h : n < 31) : nxN (n + 1) 0 = 2 * nxN n 257 ∧ nxN n 257 ≤ 1073741824 := by
  have h1 := List.all_eq_true.1 tabB n (List.mem_range.2 h)
  simp only [Bool.and_eq_true, beq_iff_eq, decide_eq_true_eq] at h1
  exact h1
theorem cnt_step (L : List Nat) (n c : Nat) (h : c < L.length) : ((L.take (c + 1)).filter (fun x => x == n)).length = ((L.take c).filter (fun x => x == n)).length + (if L.getD c 0 = n then 1 else 0) := by
  rw [List.take_succ_eq_append_getElem h, List.filter_append, List.length_append]
  have e : L.getD c 0 = L[c] := by simp [List.getElem?_eq_getElem h]
  rw [e]
  by_cases hn : L[c] = n
  · simp [hn]
  · simp [hn]
theorem cnt_mono (L : List Nat) (n c m : Nat) (h : c ≤ m) : ((L.take c).filter (fun x => x == n)).length ≤ ((L.take m).filter (fun x => x == n)).length := by
  have e : L.take m = L.take c ++ (L.take m).drop c := by
    have h1 := List.take_append_drop c (L.take m)
    rw [List.take_take, Nat.min_eq_left h] at h1
    exact h1.symm
  rw [e, List.filter_append, List.length_append]
  exact Nat.le_add_right _ _
theorem nx_step (n c : Nat) (h : c < 257) : nxN n (c + 1) = nxN n c + (if ln c = n then 1 else 0) := by
  have hl := lensN_len
  unfold nxN ln
  rw [cnt_step lensN n c (by omega), Nat.add_assoc]
theorem nx_mono (n c : Nat) (h : c ≤ 257) : nxN n c ≤ nxN n 257 := Nat.add_le_add_left (cnt_mono lensN n c 257 h) _
theorem outV_size (n c : Nat) : (outV n c).size = 257 := by simp [outV]
theorem outV_get (n c i : Nat) (h : i < 257) : (outV n c)[i]? = some (.int .i64 (outN n c i : Int)) := by
  simp [outV, h]
theorem outV_ext {n c n' c' : Nat} (h : ∀ i, i < 257 → outN n c i = outN n' c' i) : outV n c = outV n' c' := by
  unfold outV
  congr 1
  refine List.map_congr_left (fun i hi => ?_)
  rw [h i (List.mem_range.1 hi)]
theorem outV_skip (n c : Nat) (h : ¬ ln c = n) : outV n (c + 1) = outV n c := outV_ext fun i hi => by
  unfold outN
  by_cases hic : i = c
  · subst hic
    simp [h]
  · have : (i < c + 1) ↔ (i < c) := by omega
    simp [this]
theorem outV_put (n c : Nat) (hc : c < 257) (h : ln c = n) : (outV n c).setIfInBounds c (.int .i64 (cd c : Int)) = outV n (c + 1) := by
  apply Array.ext_getElem?
  intro i
  by_cases hi : i < 257
  · rw [outV_get n (c + 1) i hi]
    by_cases hic : c = i
    · subst hic
      rw [Array.getElem?_setIfInBounds_self_of_lt (by rw [outV_size]; exact hc)]
      simp [outN, h]
    · rw [Array.getElem?_setIfInBounds_ne hic, outV_get n c i hi]
      unfold outN
      have : (i < c + 1) ↔ (i < c) := by omega
      simp [this]
  · rw [Array.getElem?_eq_none (by rw [Array.size_setIfInBounds, outV_size]; omega), Array.getElem?_eq_none (by rw [outV_size]; omega)]
theorem outV_next (n : Nat) : outV (n + 1) 0 = outV n 257 := outV_ext fun i hi => by
  unfold outN
  have : (ln i < n + 1) ↔ (ln i < n ∨ ln i = n) := by omega
  simp [this, hi]
theorem outV_eq (n c : Nat) (cs : Array Value) (hs : cs.size = 257) (h : ∀ i, i < 257 → cs[i]? = some (.int .i64 (outN n c i : Int))) : outV n c = cs := by
  apply Array.ext_getElem?
  intro i
  by_cases hi : i < 257
  · rw [outV_get n c i hi, h i hi]
  · rw [Array.getElem?_eq_none (by rw [outV_size]; omega), Array.getElem?_eq_none (by omega)]
theorem outV_start : outV 0 0 = zerosV := outV_eq 0 0 _ (by unfold zerosV; exact Array.size_replicate) (fun i hi => by
  unfold zerosV outN
  rw [Array.getElem?_replicate, if_pos hi, if_neg (by omega)]
  rfl)
theorem outV_end : outV 31 0 = codesV := outV_eq 31 0 _ codesV_size (fun i hi => by
  have h1 := ln_le i hi
  rw [codesV_get i hi]
  unfold outN
  rw [if_pos (by omega)])
theorem hinfo57 : (Tryd.prog.info? 57).map (·.size) = some 257 := by kernel_rfl
theorem info3s : (Tryd.prog.info? 3).map (·.size) = some 1 := by kernel_rfl
theorem agg3 (w : World) : (isAgg 3).run Tryd.prog w = .ok false w := by kernel_rfl
theorem zero57 (w : World) : (zeroValue 57).run Tryd.prog w = .ok (.agg zerosV) w := by kernel_rfl
theorem index_arr (w : World) (cs : Array Value) (v : Value) (i : Int) (k : IntKind) (h0 : 0 ≤ i) (h1 : i < 257) (hv : cs[i.toNat]? = some v) : (Instr.index 57 (.agg cs) (.int k i)).run Tryd.prog w = .ok v w := by
  have ht := Tryd.underlying57
  have hag := agg3
  obtain ⟨q, hq, hq1⟩ := Option.map_eq_some_iff.1 info3s
  unfold Instr.index
  simp [Sem.run_bind, asIntOf, run_underlying ht, h0, h1, part, hag, sizeOf, typeInfo, hq, hq1, hv]
/-- Where codes stands: the result's block, the codes' block. -/
def CdS (w : World) (cs : Array Value) (W : World) : Prop := W.heap[w.heap.size + 1]? = some (.cells cs 57 (0, 0)) ∧ W.heap[w.heap.size]? = some (.cells zerosV 57 (0, 0)) ∧ Below w.heap.size w W
theorem CdS.set {w W : World} {cs : Array Value} (h : CdS w cs W) (c : Nat) (v : Value) : CdS w (cs.setIfInBounds c v) (W.setCell ⟨w.heap.size + 1, c, none⟩ v) :=
  ⟨blk_set h.1 c v, blk_far h.2.1 (p := ⟨w.heap.size + 1, c, none⟩) (by simp) v, h.2.2.setCell (p := ⟨w.heap.size + 1, c, none⟩) (by simp) v⟩
set_option maxHeartbeats 4000000 in
set_option maxRecDepth 100000 in
theorem huff_codes.is (w : World) (hG : GB w) : Calls Tryd.prog 38 #[] w fun e w' => e = .returned (.agg codesV) ∧ Below w.heap.size w w' := by
  have HG := Aside0.mk hG
  clear hG
  have hz : ∀ W : World, (zeroValue 57).run Tryd.prog W = .ok (.agg zerosV) W := zero57
  have hu57 := Tryd.underlying57
  go_enter Tryd.func38, Tryd.ntmps38
  go_wp2
  have HS : Aside0 (CdS w (outV 0 0) ((w.alloc (.cells zerosV 57)).alloc (.cells zerosV 57))) := ⟨by rw [outV_start]; exact ⟨by have := blk_new (w.alloc (.cells zerosV 57)) (.cells zerosV 57); rwa [World.size_alloc] at this, blk_below (blk_new w _) (below_alloc (Below.refl _ _) _), below_alloc (below_alloc (Below.refl _ _) _) _⟩⟩
  go_loopg [2, 6] 32 (fun kq v2 v6 w' => ∃ n : Nat, v2 = .int .i64 (nxN n 0 : Int) ∧ v6 = .int .i64 (n : Int) ∧ Aside0 (n + kq = 32 ∧ n ≤ 31) ∧ Aside0 (CdS w (outV n 0) w'))
  case atStart => exact ⟨0, rfl, rfl, ⟨by omega⟩, HS⟩
  case round =>
    clear HS
    obtain ⟨n, rfl, rfl, HK, HS⟩ := hrel
    by_cases cn : n < 31
    · have cnb : decide ((n : Int) < 31) = true := decide_eq_true (by omega)
      have HN := Aside0.mk cn
      obtain ⟨k1, hk1⟩ : ∃ j, gk = j + 1 := ⟨gk - 1, by have := HK.out; omega⟩
      subst hk1
      obtain ⟨t0, fr0, hb0⟩ := (HG.out.below HS.out.2.2).lens
      clear cn
      go_wp2_with (first | go_step3 | ((with_reducible refine gate_dst (N := 9) rfl ?_); refine wpList_load_row rfl 57 (.global 0) rfl 0 rfl t0 lensV fr0 _ hb0 hu57 rfl (hinfo57.trans (by rw [lensV_size])) ?_))
      clear hb0
      obtain ⟨wo, rfl⟩ : ∃ wo : World, wo = wr := ⟨_, rfl⟩
      go_loopg [2, 10] 258 (fun kq v2 v10 w' => ∃ c : Nat, v2 = .int .i64 (nxN n c : Int) ∧ v10 = .int .i64 (c : Int) ∧ Aside0 (c + kq = 258 ∧ c ≤ 257) ∧ Aside0 (CdS w (outV n c) w'))
      case atStart => exact ⟨0, rfl, rfl, ⟨by omega⟩, HS⟩
      case round =>
        clear HS
        obtain ⟨c, rfl, rfl, HC, HS⟩ := hrel
        by_cases cc : c < 257
        · have ccb : decide ((c : Int) < 257) = true := decide_eq_true (by omega)
          obtain ⟨k2, hk2⟩ : ∃ j, gk = j + 1 := ⟨gk - 1, by have := HC.out; omega⟩
          subst hk2
          have hix : ∀ W, (Instr.index 57 (.agg lensV) (.int .i64 (c : Int))).run Tryd.prog W = .ok (.int .i64 (ln c : Int)) W := fun W => index_arr W lensV _ c .i64 (by omega) (by omega) (by rw [Int.toNat_natCast]; exact lensV_get c cc)
          have hnx := nx_step n c cc
          have hcd := cd_nx c cc
          have hle := Nat.le_trans (nx_mono n c (by omega)) (nx_next n HN.out).2
          have hcl := (blk_cell HS.out.1 c).trans (outV_get n c c cc)
          have hfr := blk_frozen HS.out.1 c
          have HCC := Aside0.mk cc
          have hw1 : wrap64 ((c : Int) + 1) = (c : Int) + 1 := by unfold wrap64; omega
          have HW1 := Aside0.mk hw1
          have hc0 : (0 : Int) ≤ (c : Int) := by omega
          have hc1 : (c : Int) < 257 := by omega
          clear cc hw1
          by_cases hl : ln c = n
          · rw [if_pos hl] at hnx
            have HP := Aside0.mk (outV_put n c HCC.out hl)
            rw [hl] at hcd hix
            rw [hcd] at HP
            generalize nxN n c = x at *
            have HNX := Aside0.mk hnx
            have hw2 : wrap64 ((x : Int) + 1) = (x : Int) + 1 := by unfold wrap64; omega
            have HW2 := Aside0.mk hw2
            have hne : ((n : Int) != (n : Int)) = false := by simp
            clear hl hcd hnx hw2
            go_wp2
            go_roundg k2
            case measure => omega
            case rel => exact ⟨c + 1, (by rw [HNX.out]; first | rfl | (rw [HW2.out]; rfl)), (by first | rfl | (rw [HW1.out]; rfl)), ⟨by have := HC.out; have := HCC.out; omega⟩, ⟨by rw [← HP.out]; exact HS.out.set c _⟩⟩
          · rw [if_neg hl] at hnx
            have HP := Aside0.mk (outV_skip n c hl)
            have HNX := Aside0.mk hnx
            obtain ⟨m, hm⟩ : ∃ m, ln c = m := ⟨_, rfl⟩
            rw [hm] at hl hix
            have hne : ((m : Int) != (n : Int)) = true := bne_iff_ne.mpr (by omega)
            have hne2 : ((m : Int) == (n : Int)) = false := beq_eq_false_iff_ne.mpr (by omega)
            clear hl hm hnx hcd
            go_wp2
            go_roundg k2
            case measure => omega
            case rel => exact ⟨c + 1, (by rw [HNX.out]; rfl), (by first | rfl | (rw [HW1.out]; rfl)), ⟨by have := HC.out; have := HCC.out; omega⟩, ⟨by rw [HP.out]; exact HS.out⟩⟩
        · have ccb : decide ((c : Int) < 257) = false := decide_eq_false (by omega)
          obtain rfl : c = 257 := by have := HC.out; omega
          have hnx := nx_next n HN.out
          have HNX := Aside0.mk hnx.1
          have hle := hnx.2
          have hnle := HN.out
          have hn0 : (0 : Int) ≤ (n : Int) := by omega
          generalize nxN n 257 = x at *
          clear hnx cc
          go_wp2
          rw [Exit.noGoto_normal]
          go_wp2
          go_roundg k1
          case measure => omega
          case rel => exact ⟨n + 1, (by rw [HNX.out]; first | rfl | (rw [Int.natCast_mul, Int.mul_comm]; rfl)), (by rfl), ⟨by have := HK.out; have := HN.out; omega⟩, ⟨by rw [outV_next]; exact HS.out⟩⟩
    · have cnb : decide ((n : Int) < 31) = false := decide_eq_false (by omega)
      obtain rfl : n = 31 := by have := HK.out; omega
      have h31 := HS.out
      rw [outV_end] at h31
      obtain ⟨hb1, hb2, hb3⟩ := h31
      have HB1 := Aside0.mk hb1
      have HB2 := Aside0.mk hb2
      have HB3 := Aside0.mk hb3
      clear hb1 hb2 hb3 cn
      go_wp2_with (first | ((with_reducible refine gate_dst (N := 26) rfl ?_); refine wpList_load_row rfl 57 (.tmp 1) rfl (w.heap.size + 1) rfl 57 codesV (0, 0) _ HB1.out hu57 rfl (hinfo57.trans (by rw [codesV_size])) ?_) | (refine wpList_store_row rfl 57 (.tmp 0) (.tmp 26) rfl w.heap.size codesV rfl rfl 57 zerosV HB2.out (hinfo57.trans (by rw [codesV_size])) (by rw [codesV_size]; exact Array.size_replicate) (by kernel_rfl) ?_))
      refine bodyPost_ret (results_cell_row rfl _ _ w.heap.size 57 codesV (0, 0) _ rfl (setRow_heap _ _ _ _ _ _ HB2.out) hu57 rfl (hinfo57.trans (by rw [codesV_size]))) rfl ?_
      exact ⟨rfl, below_setRow HB3.out (Nat.le_refl _) _⟩
end Go.Proofs.YtlbjhbanfpnogaaDoor.QH
