/-
  HUFF: Encode.
  Conditions: none of its own; lemmas that the claim's row rests on.
-/
import Derived.Test.YtlbjhbanfpnogaaDoorHf0
import Derived.WalkKit
namespace Go.Proofs.YtlbjhbanfpnogaaDoor.QH
open Go.RowKit Go.Proofs.YtlbjhbanfpnogaaDoorW.PrintWords Go.Proofs.YtlbjhbanfpnogaaDoorW.PrintLast Go.Proofs.YtlbjhbanfpnogaaDoorW.PrintMore
attribute [local go_sem] max2_int min2_int max_two min_two max_three min_three max_four min_four
set_option linter.unusedVariables false
set_option linter.unusedSimpArgs false
theorem hinfo5 : (Tryd.prog.info? 5).map (fun i => (i.zero, i.size, i.bytes)) = some (some (.int .u8 0), 1, 1) := by kernel_rfl
/-- What the bits held become, byte by byte: out, held, how many. -/
def encI : Nat → List Int → Nat → Nat → List Int × Nat × Nat
  | 0, out, held, n => (out, held, n)
  | k + 1, out, held, n => if 8 ≤ n then encI k (out ++ [((held / 2 ^ (n - 8) : Nat) : Int)]) (held % 2 ^ (n - 8)) (n - 8) else (out, held, n)
def encO : List Int → List Int → Nat → Nat → List Int
  | [], out, held, n => if 0 < n then out ++ [((held * 2 ^ (8 - n) + (2 ^ (8 - n) - 1) : Nat) : Int)] else out
  | c :: b, out, held, n => encO b (encI 5 out (held * 2 ^ ln c.toNat + cd c.toNat) (n + ln c.toNat)).1 (encI 5 out (held * 2 ^ ln c.toNat + cd c.toNat) (n + ln c.toNat)).2.1 (encI 5 out (held * 2 ^ ln c.toNat + cd c.toNat) (n + ln c.toNat)).2.2
def bytesB (b : List Int) : Bool := decide (b.length ≤ 1000000) && b.all (fun x => decide (0 ≤ x ∧ x < 256))
def huff_Encode.f (b : List Int) : Option (List Int) := if bytesB b = true then some (encO b [] 0 0) else none
theorem tabC : ((List.range 257).all fun c => decide (cd c < 2 ^ ln c)) = true := by decide +kernel
theorem cd_lt (c : Nat) (h : c < 257) : cd c < 2 ^ ln c := by
  have h1 := List.all_eq_true.1 tabC c (List.mem_range.2 h)
  exact of_decide_eq_true h1
theorem bytes_at {b : List Int} (h : bytesB b = true) (i : Nat) (hi : i < b.length) : 0 ≤ rd b i ∧ rd b i < 256 := by
  unfold bytesB at h
  rw [Bool.and_eq_true] at h
  have e : rd b (i : Int) = b[i] := by simp [rd, hi]
  rw [e]
  exact of_decide_eq_true (List.all_eq_true.1 h.2 _ (List.getElem_mem hi))
theorem wraps_i64' (m : Int) (h0 : 0 ≤ m) (h1 : m < 2 ^ 62) : IntKind.i64.wrap m = m := by
  have h2 : (2 : Int) ^ 62 = 4611686018427387904 := by decide +kernel
  rw [h2] at h1
  rw [IntKind.wrap_i64]; omega
theorem or_join (L : Nat) (x C : Nat) (hx : x < 2 ^ 38) (hc : C < 2 ^ L) (hc2 : C < 2 ^ 38) (hm : x % 2 ^ L = 0) : bits .or .i64 (x : Int) (C : Int) = ((x + C : Nat) : Int) := by
  have h2 : (2 : Int) ^ 62 = 4611686018427387904 := by decide +kernel
  have h3 : (2 : Nat) ^ 38 = 274877906944 := by decide +kernel
  rw [h3] at hx hc2
  have a1 : (x : Int) % 2 ^ L = 0 := by
    have h := congrArg (fun z : Nat => (z : Int)) hm
    simpa using h
  have a2 : (C : Int) < 2 ^ L := by
    have h := Int.ofNat_lt.2 hc
    simpa using h
  have a3 : (x : Int) < 2 ^ 62 := by rw [h2]; omega
  have a4 : (C : Int) < 2 ^ 62 := by rw [h2]; omega
  rw [bits_join .i64 62 (by decide) wraps_i64' L (x : Int) (C : Int) (Int.natCast_nonneg _) a1 a3 (Int.natCast_nonneg _) a2 a4]
  simp
theorem and_mask (M H : Nat) (hM : M ≤ 32) (hH : H < 2 ^ 40) : bits .and .i64 (H : Int) (wrap64 (wrap64 (2 ^ M) - 1)) = ((H % 2 ^ M : Nat) : Int) := by
  have h2 : (2 : Int) ^ 62 = 4611686018427387904 := by decide +kernel
  have h3 : (2 : Nat) ^ 40 = 1099511627776 := by decide +kernel
  have h4 : (2 : Nat) ^ 32 = 4294967296 := by decide +kernel
  have h5 : 2 ^ M ≤ 2 ^ 32 := Nat.pow_le_pow_right (by decide) hM
  have h6 := Nat.two_pow_pos M
  rw [h4] at h5
  rw [h3] at hH
  have h7 : ((2 : Int) ^ M) = ((2 ^ M : Nat) : Int) := by simp
  have h8 : wrap64 ((2 : Int) ^ M) = (2 : Int) ^ M := by rw [h7]; unfold wrap64; omega
  have h9 : wrap64 ((2 : Int) ^ M - 1) = (2 : Int) ^ M - 1 := by rw [h7]; unfold wrap64; omega
  rw [h8, h9, bits_mask .i64 62 (by decide) wraps_i64' M (by omega) (H : Int) (by omega) (by rw [h2]; omega)]
  simp
theorem pad_core (m X y : Nat) (hX : 2 ^ m = X) (h0 : 0 < X) (h1 : y + X ≤ 256) (hy : y % X = 0) : bits .or .i64 (wrap64 (y : Int)) (wrap64 (wrap64 (X : Int) - 1)) % 256 = ((y + (X - 1) : Nat) : Int) := by
  have h38 : (2 : Nat) ^ 38 = 274877906944 := by decide +kernel
  have h4 : wrap64 (y : Int) = (y : Int) := by unfold wrap64; omega
  have h6 : wrap64 (X : Int) = (X : Int) := by unfold wrap64; omega
  have h7 : wrap64 ((X : Int) - 1) = ((X - 1 : Nat) : Int) := by unfold wrap64; omega
  rw [h4, h6, h7, or_join m y (X - 1) (by rw [h38]; omega) (by rw [hX]; omega) (by rw [h38]; omega) (by rw [hX]; exact hy)]
  omega
theorem pad_step {held n m p : Nat} (hn : n < 8) (hm : m = 8 - n) (hh : held < 2 ^ n) (hp : p = held * 2 ^ m + (2 ^ m - 1)) : bits .or .i64 (wrap64 ((held : Int) * 2 ^ m)) (wrap64 (wrap64 (2 ^ m) - 1)) % 256 = (p : Int) := by
  have h0 := Nat.two_pow_pos m
  have h1 : 2 ^ n * 2 ^ m = 256 := by rw [← Nat.pow_add, show n + m = 8 by omega]
  have h2 : held * 2 ^ m + 2 ^ m ≤ 2 ^ n * 2 ^ m := by have := Nat.mul_le_mul_right (2 ^ m) (show held + 1 ≤ 2 ^ n by omega); rw [Nat.succ_mul] at this; exact this
  have h3 : ((held : Int) * 2 ^ m) = ((held * 2 ^ m : Nat) : Int) := by simp
  have h5 : ((2 : Int) ^ m) = ((2 ^ m : Nat) : Int) := by simp
  rw [h1] at h2
  rw [h3, h5, hp]
  exact pad_core m (2 ^ m) (held * 2 ^ m) rfl h0 h2 (Nat.mul_mod_left _ _)
theorem held_step {held n L C : Nat} (hn : n < 8) (hL : L ≤ 30) (hh : held < 2 ^ n) (hc : C < 2 ^ L) : bits .or .i64 (wrap64 ((held : Int) * 2 ^ L)) (C : Int) = ((held * 2 ^ L + C : Nat) : Int) ∧ held * 2 ^ L + C < 2 ^ (n + L) := by
  have hpow : 2 ^ n * 2 ^ L ≤ 2 ^ 37 := by rw [← Nat.pow_add]; exact Nat.pow_le_pow_right (by decide) (by omega)
  have hpl : held * 2 ^ L + 2 ^ L ≤ 2 ^ n * 2 ^ L := by have := Nat.mul_le_mul_right (2 ^ L) (show held + 1 ≤ 2 ^ n by omega); rw [Nat.succ_mul] at this; exact this
  refine ⟨?_, by rw [Nat.pow_add]; omega⟩
  have h1 : ((held : Int) * 2 ^ L) = ((held * 2 ^ L : Nat) : Int) := by simp
  have hpp : 0 < 2 ^ L := Nat.two_pow_pos L
  have h37 : (2 : Nat) ^ 37 = 137438953472 := by decide +kernel
  have h38 : (2 : Nat) ^ 38 = 274877906944 := by decide +kernel
  rw [h37] at hpow
  have h2 : wrap64 ((held * 2 ^ L : Nat) : Int) = ((held * 2 ^ L : Nat) : Int) := by unfold wrap64; omega
  rw [h1, h2]
  exact or_join L (held * 2 ^ L) C (by rw [h38]; omega) hc (by rw [h38]; omega) (Nat.mul_mod_left _ _)
theorem own_apart {W : World} {v v1 : Value} {cb : Nat} (hat : v1.ownBlock = v.ownBlock ∨ ∃ b, v1.ownBlock = some b ∧ W.heap.size ≤ b) (h : v.ownBlock ≠ some cb) (hc : cb < W.heap.size) : v1.ownBlock ≠ some cb := by
  rcases hat with e | ⟨b, e, hb⟩
  · rw [e]; exact h
  · rw [e]; intro h1; cases h1; omega
set_option maxHeartbeats 4000000 in
set_option maxRecDepth 100000 in
theorem huff_Encode.calls (A0 : Option Addr) (c0 : Nat) (l0 : List Int) (r : List Int) (w : World) (hG : GB w) (hr0 : Kd.C (Kd.int .u8) w A0 l0.length l0) (hc0 : l0.length ≤ c0) (h : huff_Encode.f l0 = some r) :
    Calls Tryd.prog 16 #[.slice A0 l0.length c0] w fun e w' => ∃ v0_ : Value, e = .returned (v0_) ∧ Kd.R (Kd.int .u8) 5 w' w.heap.size (fun _ => True) v0_ r ∧ Below w.heap.size w w' := by
  unfold huff_Encode.f at h
  by_cases hb : bytesB l0 = true
  · rw [if_pos hb] at h
    have h := Option.some.inj h
    have HE := Aside0.mk h
    have HY := Aside0.mk hb
    have HL : Aside0 (l0.length ≤ 1000000) := ⟨by unfold bytesB at hb; rw [Bool.and_eq_true] at hb; exact of_decide_eq_true hb.1⟩
    have HG := Aside0.mk hG
    have HR := Aside0.mk hr0
    clear h hb hr0 hG
    have hu57 := Tryd.underlying57
    have hz : ∀ W : World, (zeroValue 57).run Tryd.prog W = .ok (.agg zerosV) W := zero57
    go_enter Tryd.func16, Tryd.ntmps16
    go_wp2_with (first | (go_at_call 38; refine (huff_codes.is _ HG.out).mono ?_; rintro e_ w1 ⟨rfl, hb1⟩; have HB1 := Aside0.mk hb1; have hz1 := blk_new w1 (.cells zerosV 57); have HZ1 := Aside0.mk hz1; clear hb1 hz1) | (refine wpList_store_row rfl 57 (.tmp 3) (.tmp 9) rfl w1.heap.size codesV rfl rfl 57 zerosV HZ1.out (hinfo57.trans (by rw [codesV_size])) (by rw [codesV_size]; exact Array.size_replicate) (by kernel_rfl) ?_; have HX1 := Aside0.mk (setRow_heap _ _ _ codesV _ _ HZ1.out); have HB2 := Aside0.mk (below_setRow (below_alloc HB1.out (.cells zerosV 57)) HB1.out.size codesV); clear HB1 HZ1; generalize (w1.alloc (.cells zerosV 57)).setRow w1.heap.size codesV = w2 at *; generalize w1.heap.size = cb at *))
    go_loopg [4, 5, 6, 12] (l0.length + 1) (fun kq v4 v5 v6 v12 w' => ∃ (j : Nat) (out : List Int) (held n : Nat), v5 = .int .i64 (held : Int) ∧ v6 = .int .i64 (n : Int) ∧ v12 = .int .i64 (j : Int) ∧ Aside0 (j + kq = l0.length + 1 ∧ j ≤ l0.length ∧ out.length ≤ 4 * j ∧ n < 8 ∧ held < 2 ^ n) ∧ Aside0 (encO (l0.drop j) out held n = r) ∧ Aside0 (Kd.R (Kd.int .u8) 5 w' w.heap.size (fun _ => True) v4 out ∧ Below w.heap.size w w' ∧ w'.heap[cb]? = some (.cells codesV 57 (0, 0)) ∧ v4.ownBlock ≠ some cb))
    case atStart => exact ⟨0, [], 0, 0, rfl, rfl, rfl, ⟨by simp⟩, HE, ⟨Kd.R_nil _ _ _ _ _, HB2.out, HX1.out, by simp [Value.ownBlock]⟩⟩
    case round =>
      clear HE HB2 HX1
      obtain ⟨j, out, held, n, rfl, rfl, rfl, HK, HE, HS⟩ := hrel
      by_cases cj : j < l0.length
      · obtain ⟨k1, hk1⟩ : ∃ q, gk = q + 1 := ⟨gk - 1, by have := HK.out; omega⟩
        subst hk1
        have cjb : decide ((j : Int) < (l0.length : Int)) = true := decide_eq_true (by omega)
        have cjn : decide (j < l0.length) = true := decide_eq_true cj
        obtain ⟨ad, e0, hx0⟩ := Kd.at_int HR.out (j : Int) (by omega) (by omega)
        subst e0
        rw [Int.toNat_natCast] at hx0
        have hx1 := (HS.out.2.1.cell (World.block_lt_of_cell? w _ hx0)).trans hx0
        have hy := bytes_at HY.out j cj
        obtain ⟨c, hc⟩ : ∃ c : Nat, rd l0 (j : Int) = (c : Int) := ⟨(rd l0 (j : Int)).toNat, by omega⟩
        have hdr : l0.drop j = (c : Int) :: l0.drop (j + 1) := by rw [List.drop_eq_getElem_cons cj, ← hc]; congr 1; simp [rd, cj]
        rw [hc] at hx1 hy
        have hE := HE.out
        rw [hdr] at hE
        simp only [encO, Int.toNat_natCast] at hE
        have HE2 := Aside0.mk hE
        have hc256 : c < 257 := by omega
        have hg0 := (HG.out.below HS.out.2.1).cell c hc256
        have hg1 := (blk_cell HS.out.2.2.1 c).trans (codesV_get c hc256)
        have hl := ln_le c hc256
        have hcd := cd_lt c hc256
        clear hE hdr hx0 hc HE
        generalize ln c = L at *
        generalize cd c = C at *
        have HCJ := Aside0.mk cj
        go_wp2
        have hn8 := HK.out.2.2.2.1
        go_quiet (fail)
        obtain ⟨E1, hH⟩ := held_step hn8 hl.2 HK.out.2.2.2.2 hcd
        have HN37 : n + L ≤ 37 := by omega
        obtain ⟨H, hHe⟩ : ∃ H, held * 2 ^ L + C = H := ⟨_, rfl⟩
        obtain ⟨N, hNe⟩ : ∃ N, n + L = N := ⟨_, rfl⟩
        have HE3 : Aside0 (encO (l0.drop (j + 1)) (encI 5 out H N).1 (encI 5 out H N).2.1 (encI 5 out H N).2.2 = r) := by rw [← hHe, ← hNe]; exact HE2
        rw [hHe] at E1 hH
        rw [hNe] at hH HN37
        rw [E1, ← Int.natCast_add, hNe]
        clear E1 HE2 hg0 hg1 hx1 hy hl hcd hn8 hHe hNe
        obtain ⟨RR, hRR⟩ : ∃ RR, encI 5 out H N = RR := ⟨_, rfl⟩
        rw [hRR] at HE3
        have HRR := Aside0.mk hRR
        have HHN : Aside0 (H < 2 ^ N ∧ N < 8 * 5 ∧ out.length ≤ 4 * j + (5 - 5) ∧ 5 ≤ 5) := ⟨hH, by omega, by have := HK.out.2.2.1; omega, by omega⟩
        clear hRR hH HN37
        go_wp2
        obtain ⟨wo, rfl⟩ : ∃ wo : World, wo = wr := ⟨_, rfl⟩
        go_loopg [4, 5, 6] 5 (fun kq v4 v5 v6 w' => ∃ (out : List Int) (H N : Nat), v5 = .int .i64 (H : Int) ∧ v6 = .int .i64 (N : Int) ∧ Aside0 (encI kq out H N = RR) ∧ Aside0 (H < 2 ^ N ∧ N < 8 * kq ∧ out.length ≤ 4 * j + (5 - kq) ∧ kq ≤ 5) ∧ Aside0 (Kd.R (Kd.int .u8) 5 w' w.heap.size (fun _ => True) v4 out ∧ Below w.heap.size w w' ∧ w'.heap[cb]? = some (.cells codesV 57 (0, 0)) ∧ v4.ownBlock ≠ some cb))
        case atStart => exact ⟨out, H, N, rfl, rfl, HRR, HHN, ⟨Kd.R_drewN HS.out.1 _, pw_below_drewN HS.out.2.1 _, HS.out.2.2.1, HS.out.2.2.2⟩⟩
        case round =>
          clear HHN HRR HS
          obtain ⟨out, H, N, rfl, rfl, HRR, HHN, HS⟩ := hrel
          by_cases c8 : 8 ≤ N
          · obtain ⟨k2, hk2⟩ : ∃ q, gk = q + 1 := ⟨gk - 1, by have := HHN.out; omega⟩
            subst hk2
            obtain ⟨M, rfl⟩ : ∃ M, N = M + 8 := ⟨N - 8, by omega⟩
            have c8b : decide (8 ≤ ((M + 8 : Nat) : Int)) = true := decide_eq_true (by omega)
            have c8c : decide ((8 : Int) ≤ (M : Int) + 8) = true := decide_eq_true (by omega)
            have hM : M ≤ 32 := by have := HHN.out; omega
            have hM0 : (0 : Int) ≤ (M : Int) := by omega
            have hw8 : wrap64 ((M : Int) + 8 - 8) = (M : Int) := by unfold wrap64; omega
            have hw9 : wrap64 (((M + 8 : Nat) : Int) - 8) = (M : Int) := by unfold wrap64; omega
            obtain ⟨p, hp⟩ : ∃ p : Nat, H / 2 ^ M = p := ⟨_, rfl⟩
            have hp2 : p < 256 := by rw [← hp, Nat.div_lt_iff_lt_mul (Nat.two_pow_pos M)]; have h1 := HHN.out.1; rw [Nat.pow_add] at h1; omega
            have hq : ((H : Int) / 2 ^ M % 256) = (p : Int) := by
              have h1 : ((H : Int) / 2 ^ M) = ((H / 2 ^ M : Nat) : Int) := by simp
              rw [h1, hp]; omega
            have hq2 : ((H : Int) / 2 ^ M) = (p : Int) := by
              have h1 : ((H : Int) / 2 ^ M) = ((H / 2 ^ M : Nat) : Int) := by simp
              rw [h1, hp]
            have E2 := and_mask M H hM (by have := HHN.out.1; have h2 : 2 ^ (M + 8) ≤ 2 ^ 40 := Nat.pow_le_pow_right (by decide) (by omega); omega)
            have HP := Aside0.mk hp
            have HLO : Aside0 ((out.length + 1) * 1 ≤ 140737488355328) := ⟨by have h1 := HHN.out.2.2.1; have h2 := HL.out; omega⟩
            obtain ⟨on, hon⟩ : ∃ on, out ++ [(p : Int)] = on := ⟨_, rfl⟩
            have HON := Aside0.mk hon
            clear hp hon hp2
            go_wp2_with ((with_reducible refine gate_builtin (b := .append) (xs := #[.tmp 34, .tmp 39]) rfl ?_); at_builtin; refine Kd.R_append (Kd.int .u8) (w0 := w) w.heap.size rfl (.tmp 34) (.tmp 39) 22 5 (.int .u8 0) 1 rfl Tryd.underlying22 hinfo5 rfl (by decide) (by decide) _ out (p : Int) [.int .u8 (p : Int)] (fun _ => True) (fun _ => False) rfl rfl rfl (fun _ hk => hk.elim) (fun _ _ => trivial) HS.out.1 HS.out.2.1 HS.out.2.1.size HLO.out ?_; intro v1 w4 ho hb hg hat; rw [HON.out] at ho; have HS4 := Aside0.mk (And.intro ho (And.intro hb (And.intro (blk_grown HS.out.2.2.1 hg (fun e => HS.out.2.2.2 e.symm)) (own_apart hat HS.out.2.2.2 (blk_lt HS.out.2.2.1))))); clear ho hb hg hat HS)
            go_roundg k2
            case measure => omega
            case rel => exact ⟨on, H % 2 ^ M, M, (by simp), rfl, ⟨by have h1 := HRR.out; unfold encI at h1; rw [if_pos (by omega), Nat.add_sub_cancel, HP.out, HON.out] at h1; exact h1⟩, ⟨Nat.mod_lt _ (Nat.two_pow_pos M), by have := HHN.out; omega, by rw [← HON.out, List.length_append]; have := HHN.out; simp only [List.length_cons, List.length_nil]; omega, by have := HHN.out; omega⟩, HS4⟩
          · have c8b : decide ((8 : Int) ≤ (N : Int)) = false := decide_eq_false (by omega)
            have hEI : encI gk out H N = (out, H, N) := by cases gk with | zero => rfl | succ q => unfold encI; rw [if_neg c8]
            have hE5 := HE3.out
            rw [← HRR.out, hEI] at hE5
            have HE5 := Aside0.mk hE5
            have hw1 : wrap64 ((j : Int) + 1) = (j : Int) + 1 := by unfold wrap64; have := HL.out; omega
            have HW1 := Aside0.mk hw1
            have HKN : Aside0 (j + 1 + k1 = l0.length + 1 ∧ j + 1 ≤ l0.length ∧ out.length ≤ 4 * (j + 1) ∧ N < 8 ∧ H < 2 ^ N) := ⟨by have h1 := HK.out; have h2 := HHN.out; omega⟩
            clear hEI hE5 hw1 c8
            go_wp2
            go_roundg k1
            case measure => omega
            case rel => exact ⟨j + 1, out, H, N, rfl, rfl, (by first | rfl | (rw [HW1.out]; rfl)), HKN, HE5, HS⟩
      · obtain rfl : j = l0.length := by have := HK.out; omega
        have cjb : decide ((l0.length : Int) < (l0.length : Int)) = false := decide_eq_false (by omega)
        have hE := HE.out
        rw [List.drop_length] at hE
        simp only [encO] at hE
        have hHL : out.length ≤ 4 * 1000000 := by have h1 := HK.out.2.2.1; have h2 := HL.out; omega
        have HHL := Aside0.mk hHL
        by_cases cn : 0 < n
        · rw [if_pos cn] at hE
          have HE2 := Aside0.mk hE
          have cnb : decide ((0 : Int) < (n : Int)) = true := decide_eq_true (by omega)
          have cnn : decide (0 < n) = true := decide_eq_true cn
          obtain ⟨m, hm⟩ : ∃ m, 8 - n = m := ⟨_, rfl⟩
          have hn8 := HK.out.2.2.2.1
          have hs1 : IntKind.i64.wrap (8 - (n : Int)) = (m : Int) := by rw [IntKind.wrap_i64]; omega
          have hs2 : wrap64 (8 - (n : Int)) = (m : Int) := by unfold wrap64; omega
          obtain ⟨p, hp⟩ : ∃ p, held * 2 ^ m + (2 ^ m - 1) = p := ⟨_, rfl⟩
          have hm0 : (0 : Int) ≤ (m : Int) := by omega
          have hm8 : (m : Int) ≤ 8 := by omega
          have hp1 := pad_step hn8 hm.symm HK.out.2.2.2.2 hp.symm
          have hp2 : IntKind.u8.wrap (bits .or .i64 (IntKind.i64.wrap ((held : Int) * 2 ^ m)) (IntKind.i64.wrap (IntKind.i64.wrap (2 ^ m) - 1))) = (p : Int) := by rw [i64_w, i64_w, i64_w, IntKind.wrap_u8]; exact hp1
          rw [hm, hp] at HE2
          clear hE HE cj hm hp
          go_wp2
          refine start_ (n := 14) (S := fun w' => Below wr.heap.size wr w') (ds := [12]) #[false, false, false, false, false, false, false, false, false, false, false, false, false, false] (by kernel_rfl) rfl rfl (below_drew1 (Below.refl _ _)) (fun hHeld => ?_)
          refine pure_ (i := 0) (N := some 49) (v := ?_) (a' := ?_) #[true, false, false, false, false, false, false, false, false, false, false, false, false, false] rfl rfl (by kernel_rfl) (fun _ _ _ h => h) (Or.inl ⟨by rfl, ?_⟩) ?_ ?_
          rotate_left
          · intro w'
            go_simp
            with_reducible rfl
          rotate_left
          · simp only [Act.put, List.setIfInBounds_toArray, List.set_cons_zero, List.set_cons_succ]
            rfl
          refine pure_ (i := 1) (N := some 50) (v := ?_) (a' := ?_) #[true, true, false, false, false, false, false, false, false, false, false, false, false, false] rfl rfl (by kernel_rfl) (fun _ _ _ h => h) (Or.inl ⟨by rfl, ?_⟩) ?_ ?_
          rotate_left
          · intro w'
            go_simp
            with_reducible rfl
          rotate_left
          · simp only [Act.put, List.setIfInBounds_toArray, List.set_cons_zero, List.set_cons_succ]
            rfl
          refine pure_ (i := 2) (N := some 51) (v := ?_) (a' := ?_) #[true, true, true, false, false, false, false, false, false, false, false, false, false, false] rfl rfl (by kernel_rfl) (fun _ _ _ h => h) (Or.inl ⟨by rfl, ?_⟩) ?_ ?_
          rotate_left
          · intro w'
            go_simp
            with_reducible rfl
          rotate_left
          · simp only [Act.put, List.setIfInBounds_toArray, List.set_cons_zero, List.set_cons_succ]
            rfl
          refine pure_ (i := 3) (N := some 52) (v := ?_) (a' := ?_) #[true, true, true, true, false, false, false, false, false, false, false, false, false, false] rfl rfl (by kernel_rfl) (fun _ _ _ h => h) (Or.inl ⟨by rfl, ?_⟩) ?_ ?_
          rotate_left
          · intro w'
            go_simp
            with_reducible rfl
          rotate_left
          · simp only [Act.put, List.setIfInBounds_toArray, List.set_cons_zero, List.set_cons_succ]
            rfl
          refine pure_ (i := 4) (N := some 53) (v := ?_) (a' := ?_) #[true, true, true, true, true, false, false, false, false, false, false, false, false, false] rfl rfl (by kernel_rfl) (fun _ _ _ h => h) (Or.inl ⟨by rfl, ?_⟩) ?_ ?_
          rotate_left
          · intro w'
            go_simp
            with_reducible rfl
          rotate_left
          · simp only [Act.put, List.setIfInBounds_toArray, List.set_cons_zero, List.set_cons_succ]
            rfl
          refine pure_ (i := 5) (N := some 54) (v := ?_) (a' := ?_) #[true, true, true, true, true, true, false, false, false, false, false, false, false, false] rfl rfl (by kernel_rfl) (fun _ _ _ h => h) (Or.inl ⟨by rfl, ?_⟩) ?_ ?_
          rotate_left
          · intro w'
            go_simp
            with_reducible rfl
          rotate_left
          · simp only [Act.put, List.setIfInBounds_toArray, List.set_cons_zero, List.set_cons_succ]
            rfl
          refine pure_ (i := 6) (N := some 55) (v := ?_) (a' := ?_) #[true, true, true, true, true, true, true, false, false, false, false, false, false, false] rfl rfl (by kernel_rfl) (fun _ _ _ h => h) (Or.inl ⟨by rfl, ?_⟩) ?_ ?_
          rotate_left
          · intro w'
            go_simp
            with_reducible rfl
          rotate_left
          · simp only [Act.put, List.setIfInBounds_toArray, List.set_cons_zero, List.set_cons_succ]
            rfl
          refine pure_ (i := 7) (N := some 56) (v := ?_) (a' := ?_) #[true, true, true, true, true, true, true, true, false, false, false, false, false, false] rfl rfl (by kernel_rfl) (fun _ _ _ h => h) (Or.inl ⟨by rfl, ?_⟩) ?_ ?_
          rotate_left
          · intro w'
            go_simp
            with_reducible rfl
          rotate_left
          · simp only [Act.put, List.setIfInBounds_toArray, List.set_cons_zero, List.set_cons_succ]
            rfl
          refine pure_ (i := 8) (N := some 57) (v := ?_) (a' := ?_) #[true, true, true, true, true, true, true, true, true, false, false, false, false, false] rfl rfl (by kernel_rfl) (fun _ _ _ h => h) (Or.inl ⟨by rfl, ?_⟩) ?_ ?_
          rotate_left
          · intro w'
            go_simp
            with_reducible rfl
          rotate_left
          · simp only [Act.put, List.setIfInBounds_toArray, List.set_cons_zero, List.set_cons_succ]
            rfl
          refine pure_ (i := 9) (N := some 58) (v := ?_) (a' := ?_) #[true, true, true, true, true, true, true, true, true, true, false, false, false, false] rfl rfl (by kernel_rfl) (fun _ _ _ h => h) (Or.inl ⟨by rfl, ?_⟩) ?_ ?_
          rotate_left
          · intro w'
            go_simp
            with_reducible rfl
          rotate_left
          · simp only [Act.put, List.setIfInBounds_toArray, List.set_cons_zero, List.set_cons_succ]
            rfl
          refine pure_ (i := 10) (N := some 59) (v := ?_) (a' := ?_) #[true, true, true, true, true, true, true, true, true, true, true, false, false, false] rfl rfl (by kernel_rfl) (fun _ _ _ h => h) (Or.inl ⟨by rfl, ?_⟩) ?_ ?_
          rotate_left
          · intro w'
            go_simp
            with_reducible rfl
          rotate_left
          · simp only [Act.put, List.setIfInBounds_toArray, List.set_cons_zero, List.set_cons_succ]
            rfl
          refine one_ (i := 11) (N := some 60) #[true, true, true, true, true, true, true, true, true, true, true, true, false, false] rfl rfl (by kernel_rfl) (by decide) (fun K_ hK_ => ?_)
          have HH_ := Aside0.mk hHeld
          clear hHeld
          refine event_step (by rfl) (by go_simp; exact ⟨rfl, rfl⟩) ?_
          have hb_ : Below wr.heap.size wr (wr.alloc (.cells #[.int .u8 (p : Int)] 5)).drew := below_drew (below_alloc (Below.refl _ _) _)
          refine hK_.out _ _ (hb_) (fun hHeld => ?_)
          clear hK_
          refine norm_ (a' := ?_) ?_ ?_
          rotate_left
          · simp only [Act.put, List.setIfInBounds_toArray, List.set_cons_zero, List.set_cons_succ]
            rfl
          refine last_ (i := 12) (N := some 61) #[true, true, true, true, true, true, true, true, true, true, true, true, true, false] rfl rfl (by kernel_rfl) (by decide) (fun K_ hK_ => ?_)
          clear hHeld
          refine Kd.R_append_step (Kd.int .u8) (w0 := w) (W := wr.drew) w.heap.size ?hw (.tmp 49) (.tmp 60) 22 5 (.int .u8 0) 1 rfl Tryd.underlying22 hinfo5 rfl (by decide) (by decide) _ out (p : Int) [.int .u8 (p : Int)] (fun _ => True) (fun _ => False) (by rfl) (by rfl) (by rfl) (fun _ hk => hk.elim) (fun _ _ => trivial) (by exact Kd.R_drew HS.out.1) (by exact HS.out.2.1.drew) (by exact HS.out.2.1.size) (by have := HHL.out; omega) ?_
          case hw => rfl
          intro v1 w4 ho hb hg hat
          have HO4 := Aside0.mk ho
          have HB4 := Aside0.mk hb
          clear ho hg hat
          refine hK_.out _ _ ?_
          clear hK_
          refine norm_ (a' := ?_) ?_ ?_
          rotate_left
          · simp only [Act.put, List.setIfInBounds_toArray, List.set_cons_zero, List.set_cons_succ]
            rfl
          refine pure_ (i := 13) (N := some 4) (v := ?_) (a' := ?_) #[true, true, true, true, true, true, true, true, true, true, true, true, true, true] rfl rfl (by kernel_rfl) (fun _ _ _ h => h) (Or.inl ⟨by rfl, ?_⟩) ?_ ?_
          rotate_left
          · intro w'
            go_simp
            with_reducible rfl
          rotate_left
          · simp only [Act.put, List.setIfInBounds_toArray, List.set_cons_zero, List.set_cons_succ]
            rfl
          refine done_ (by kernel_rfl) ?_
          go_wp2
          go_ret
          exact ⟨_, rfl, by rw [← HE2.out]; exact HO4.out, HB4.out⟩
        · rw [if_neg cn] at hE
          have HE2 := Aside0.mk hE
          obtain rfl : n = 0 := by omega
          clear hE HE cj cn
          go_wp2
          go_ret
          exact ⟨_, rfl, by rw [← HE2.out]; exact HS.out.1, HS.out.2.1⟩
  · rw [if_neg hb] at h; cases h
end Go.Proofs.YtlbjhbanfpnogaaDoor.QH
