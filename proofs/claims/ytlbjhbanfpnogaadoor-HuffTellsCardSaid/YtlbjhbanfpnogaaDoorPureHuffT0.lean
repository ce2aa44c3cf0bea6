/-
  THE LAW HuffTells: lengths, codes, texts and sizes are those that the tables of the plain reading say.
  Conditions: none but the row's own.
-/
import Derived.Test.YtlbjhbanfpnogaaDoorHg1
import Derived.Test.YtlbjhbanfpnogaaDoorQH3
import Derived.OpenShut
namespace Go.Proofs.YtlbjhbanfpnogaaDoor.Pure
open Go Go.RowKit Go.Proofs.YtlbjhbanfpnogaaDoor.QH Go.Proofs.YtlbjhbanfpnogaaDoorW.PrintWords Go.Proofs.YtlbjhbanfpnogaaDoorW.PrintLast
set_option linter.unusedVariables false
theorem wr {x : Int} (h0 : -9223372036854775808 ≤ x) (h1 : x ≤ 9223372036854775807) : wrap64 x = x := by unfold wrap64; omega
theorem same01_l (l : List Int) (hl : l.length ≤ 1000000) : ∀ (d k : Nat) (i : Int), 0 ≤ i → i ≤ l.length → (l.length : Int) - i = d → d < k → gantletref01_Same.l0 k l l i = some true := by
  intro d
  induction d with
  | zero =>
    intro k i h0 h1 hd hk
    obtain ⟨k, rfl⟩ : ∃ j, k = j + 1 := ⟨k - 1, by omega⟩
    simp only [gantletref01_Same.l0]
    rw [if_neg (by omega)]
  | succ d ih =>
    intro k i h0 h1 hd hk
    obtain ⟨k, rfl⟩ : ∃ j, k = j + 1 := ⟨k - 1, by omega⟩
    simp only [gantletref01_Same.l0]
    rw [if_pos (by omega), if_pos h0, if_pos (by omega), if_pos trivial, wr (by omega) (by omega), ih k (i + 1) (by omega) (by omega) (by omega) (by omega)]
theorem same01_self {k : Nat} (l : List Int) (hl : l.length ≤ 1000000) (hk : l.length < k) : gantletref01_Same.f k l l = some true := by
  unfold gantletref01_Same.f
  rw [if_pos rfl, same01_l l hl l.length k 0 (by omega) (by omega) (by omega) hk]
theorem sumLn_le : ∀ b : List Int, isBytes b → sumLn b ≤ 30 * b.length
  | [], _ => by simp [sumLn]
  | c :: b, h => by
    have h1 := ln_le c.toNat (by have := h c (by simp); omega)
    have h2 := sumLn_le b (fun x hx => h x (by simp [hx]))
    simp only [sumLn, List.length_cons]
    omega
theorem encF {b : List Int} (h : isBytes b) (hl : b.length ≤ 1000000) : huff_Encode.f b = some (encO b [] 0 0) := by
  unfold huff_Encode.f
  rw [if_pos (bytesB_mk h hl)]
theorem sizeF {b : List Int} (h : isBytes b) (hl : b.length ≤ 1000000) : huff_Size.f b = some (((sumLn b + 7) / 8 : Nat) : Int) := by
  unfold huff_Size.f
  rw [if_pos (bytesB_mk h hl)]
theorem decF {b : List Int} (h : isBytes b) (hl : b.length ≤ 1000000) (most : Int) : huff_Decode.f b most = some (decL most (bytesBits b) 0 0 []) := by
  unfold huff_Decode.f
  rw [if_pos (bytesB_mk h hl), bitsL_is b h]
theorem aliveF : gantletlaw04_alive.f = some true := rfl
def bI (l : List Nat) : List Int := l.map fun x : Nat => (x : Int)
theorem bI_len (l : List Nat) : (bI l).length = l.length := List.length_map _
theorem bI_append (a b : List Nat) : bI (a ++ b) = bI a ++ bI b := List.map_append
theorem rd_mid (A C : List Int) (x : Int) : rd (A ++ x :: C) (A.length : Int) = x := by simp [rd]
theorem spell_l0 : ∀ (j k a : Nat) (xs : List Int), a ≤ 9223372036854775807 → j ≤ xs.length → xs.length ≤ 64 → j < k → gantletref04_spell.l0 k xs (a : Int) ((j : Int) - 1) = some (bI (codeB a j) ++ xs.drop j)
  | 0, k, a, xs, ha, hj, hl, hk => by
    obtain ⟨k, rfl⟩ : ∃ q, k = q + 1 := ⟨k - 1, by omega⟩
    simp only [gantletref04_spell.l0]
    rw [if_neg (by omega)]
    simp [codeB, bI]
  | j + 1, k, a, xs, ha, hj, hl, hk => by
    obtain ⟨k, rfl⟩ : ∃ q, k = q + 1 := ⟨k - 1, by omega⟩
    simp only [gantletref04_spell.l0]
    have e1 : wrap64 (Int.tdiv (a : Int) 2) = ((a / 2 : Nat) : Int) := by
      rw [Int.tdiv_eq_ediv_of_nonneg (by omega), wr (by omega) (by omega)]; omega
    have e2 : Int.tmod (a : Int) 2 % 256 = ((a % 2 : Nat) : Int) := by
      rw [Int.tmod_eq_emod_of_nonneg (by omega)]; omega
    have e3 : ((j + 1 : Nat) : Int) - 1 = (j : Int) := by omega
    rw [e3, if_pos (by omega), if_pos (by omega), if_pos (by omega), wr (x := (j : Int) - 1) (by omega) (by omega), e1, e2, spell_l0 j k (a / 2) _ (by omega) (by rw [List.length_set]; omega) (by rw [List.length_set]; exact hl) (by omega)]
    rw [codeB, bI_append, List.append_assoc, Int.toNat_natCast, List.drop_set, if_neg (by omega), Nat.sub_self, List.drop_eq_getElem_cons (show j < xs.length by omega), List.set_cons_zero]
    rfl
theorem spellF (a n k : Nat) (ha : a ≤ 9223372036854775807) (hn : n ≤ 64) (hk : n < k) : gantletref04_spell.f k (a : Int) (n : Int) = some (bI (codeB a n)) := by
  unfold gantletref04_spell.f
  rw [if_pos (by omega), if_pos (by omega), wr (by omega) (by omega), Int.toNat_natCast, spell_l0 n k a _ ha (by rw [List.length_replicate]; omega) (by rw [List.length_replicate]; omega) hk]
  rw [List.drop_eq_nil_of_le (by rw [List.length_replicate]; omega), List.append_nil]
theorem enc_l0 (K : Nat) (hK : 40 ≤ K) : ∀ (rest pre x5 : List Int), isBytes rest → pre.length + rest.length ≤ 100000 → x5.length ≤ 30 * pre.length → gantletref04_Encode.l0 (K + rest.length + 1) (pre ++ rest) lensI codesI x5 (pre.length : Int) = gantletref04_Encode.l1 K (x5 ++ bI (bitsT rest))
  | [], pre, x5, _, _, _ => by
    simp only [List.length_nil, Nat.add_zero, gantletref04_Encode.l0, List.append_nil]
    rw [if_neg (by omega)]
    simp [bitsT, bI]
  | c :: rest, pre, x5, hb, hl, hx => by
    have hc := hb c (by simp)
    simp only [List.length_cons] at hl
    have hln := ln_le c.toNat (by omega)
    have hcd := cd_small c.toNat (by omega)
    obtain ⟨cn, rfl⟩ : ∃ q : Nat, c = (q : Int) := ⟨c.toNat, by omega⟩
    rw [Int.toNat_natCast] at hln hcd
    rw [List.length_cons]
    obtain ⟨F, hF⟩ : ∃ F, F = K + (rest.length + 1) := ⟨_, rfl⟩
    rw [← hF]
    simp only [gantletref04_Encode.l0]
    have hpl : (pre ++ (cn : Int) :: rest).length = pre.length + (rest.length + 1) := by simp
    have h30 : (bI (codeB (cd cn) (ln cn))).length = ln cn := by rw [bI_len, codeB_len]
    rw [if_pos (by rw [hpl]; omega), if_pos (by omega), rd_mid, lensI_len, codesI_len, if_pos (by omega), if_pos (by omega), if_pos (by omega), rd_codesI cn (by omega), rd_lensI cn (by omega), spellF _ _ _ (by omega) (by omega) (by omega)]
    simp only [Option.bind_some]
    rw [if_pos (by rw [h30]; omega), wr (by omega) (by omega)]
    have h := enc_l0 K hK rest (pre ++ [(cn : Int)]) (x5 ++ bI (codeB (cd cn) (ln cn))) (fun x hx => hb x (by simp [hx])) (by rw [List.length_append]; simp only [List.length_cons, List.length_nil]; omega) (by rw [List.length_append, List.length_append, h30]; simp only [List.length_cons, List.length_nil]; omega)
    rw [List.length_append, List.append_assoc] at h
    simp only [List.length_cons, List.length_nil, List.cons_append, List.nil_append, Nat.zero_add] at h
    rw [show ((pre.length + 1 : Nat) : Int) = (pre.length : Int) + 1 by omega] at h
    rw [hF, show K + (rest.length + 1) = K + rest.length + 1 by omega, h, bitsT, Int.toNat_natCast, bI_append, List.append_assoc]
theorem enc_l1 (K : Nat) : ∀ (p : Nat) (x5 : List Int), x5.length + p ≤ 4000000 → (x5.length + p) % 8 = 0 → p < 8 → gantletref04_Encode.l1 (K + p + 1) x5 = gantletref04_Encode.l2 K (x5 ++ bI (List.replicate p 1)) [] 0
  | 0, x5, hl, h8, hp => by
    simp only [gantletref04_Encode.l1]
    rw [if_pos (by omega)]
    simp [bI]
  | p + 1, x5, hl, h8, hp => by
    have h1 : (x5 ++ [(1 : Int)]).length = x5.length + 1 := by simp
    have h2 := enc_l1 K p (x5 ++ [1]) (by omega) (by omega) (by omega)
    obtain ⟨F, hF⟩ : ∃ F, F = K + (p + 1) := ⟨_, rfl⟩
    rw [← hF]
    simp only [gantletref04_Encode.l1]
    rw [if_neg (by omega), if_pos (by omega), hF, show K + (p + 1) = K + p + 1 by omega, h2, List.append_assoc]
    rfl
theorem rd_bits {l : List Int} (h : isBytes l) (s : Nat) (hs : s < 8 * l.length) : rd (bI (bytesBits l)) (s : Int) = bitAt l s := by
  rw [← bitsL_is l h]
  have h0 : 0 ≤ bitAt l s := by unfold bitAt; omega
  simp [rd, bI, bitsL, hs]
  omega
theorem enc_l3 (K : Nat) (pre rest : List Int) (x : Nat) (x7 : List Int) (hx : x < 256) (hb : isBytes (pre ++ (x : Int) :: rest)) (hl : pre.length ≤ 1000000) (h7 : x7.length ≤ 1000000) : ∀ d : Nat, d ≤ 8 → gantletref04_Encode.l3 (K + d + 1) (bI (bytesBits (pre ++ (x : Int) :: rest))) x7 ((8 * pre.length : Nat) : Int) ((x / 2 ^ d : Nat) : Int) ((8 - d : Nat) : Int) = gantletref04_Encode.l2 K (bI (bytesBits (pre ++ (x : Int) :: rest))) (x7 ++ [(x : Int)]) ((8 * (pre.length + 1) : Nat) : Int)
  | 0, hd => by
    simp only [gantletref04_Encode.l3]
    rw [if_neg (by omega), if_pos (by omega), wr (by omega) (by omega), Nat.pow_zero, Nat.div_one, show ((8 * (pre.length + 1) : Nat) : Int) = ((8 * pre.length : Nat) : Int) + 8 by omega]
  | d + 1, hd => by
    have hlen : (bI (bytesBits (pre ++ (x : Int) :: rest))).length = 8 * (pre.length + (rest.length + 1)) := by rw [bI_len, bytesBits_len]; simp
    have e1 : ((8 * pre.length : Nat) : Int) + ((8 - (d + 1) : Nat) : Int) = ((8 * pre.length + (7 - d) : Nat) : Int) := by omega
    have ih := enc_l3 K pre rest x x7 hx hb hl h7 d (by omega)
    obtain ⟨F, hF⟩ : ∃ F, F = K + (d + 1) := ⟨_, rfl⟩
    rw [← hF]
    simp only [gantletref04_Encode.l3]
    rw [if_pos (by omega), e1, wr (x := ((8 * pre.length + (7 - d) : Nat) : Int)) (by omega) (by omega), if_pos (by omega), if_pos (by rw [hlen]; omega), rd_bits hb _ (by simp; omega)]
    have e2 : bitAt (pre ++ (x : Int) :: rest) (8 * pre.length + (7 - d)) = ((x / 2 ^ d % 2 : Nat) : Int) := by
      unfold bitAt
      rw [show (8 * pre.length + (7 - d)) / 8 = pre.length by omega, rd_mid, show 7 - (8 * pre.length + (7 - d)) % 8 = d by omega]
      simp
    have e3 : (2 * ((x / 2 ^ (d + 1) : Nat) : Int) % 256 + ((x / 2 ^ d % 2 : Nat) : Int)) % 256 = ((x / 2 ^ d : Nat) : Int) := by
      have h1 : x / 2 ^ (d + 1) = x / 2 ^ d / 2 := by rw [Nat.div_div_eq_div_mul, Nat.pow_succ]
      have h2 : x / 2 ^ d ≤ x := Nat.div_le_self _ _
      rw [h1]
      generalize x / 2 ^ d = y at *
      omega
    rw [e2, e3, wr (by omega) (by omega), show ((8 - (d + 1) : Nat) : Int) + 1 = ((8 - d : Nat) : Int) by omega, hF, show K + (d + 1) = K + d + 1 by omega]
    exact ih
theorem enc_l2 (K : Nat) : ∀ (rest pre x7 : List Int), isBytes (pre ++ rest) → pre.length + rest.length ≤ 1000000 → x7.length = pre.length → gantletref04_Encode.l2 (K + 10 * rest.length + 1) (bI (bytesBits (pre ++ rest))) x7 ((8 * pre.length : Nat) : Int) = some (x7 ++ rest)
  | [], pre, x7, hb, hl, h7 => by
    simp only [List.length_nil, Nat.mul_zero, Nat.add_zero, gantletref04_Encode.l2, List.append_nil]
    rw [if_neg (by rw [bI_len, bytesBits_len]; omega)]
  | c :: rest, pre, x7, hb, hl, h7 => by
    have hc := hb c (by simp)
    simp only [List.length_cons] at hl
    obtain ⟨cn, rfl⟩ : ∃ q : Nat, c = (q : Int) := ⟨c.toNat, by omega⟩
    rw [List.length_cons]
    obtain ⟨F, hF⟩ : ∃ F, F = K + 10 * (rest.length + 1) := ⟨_, rfl⟩
    rw [← hF]
    simp only [gantletref04_Encode.l2]
    have h3 := enc_l3 (K + 10 * rest.length + 1) pre rest cn x7 (by omega) hb (by omega) (by omega) 8 (by decide)
    rw [Nat.div_eq_of_lt (show cn < 2 ^ 8 by omega)] at h3
    have h2 := enc_l2 K rest (pre ++ [(cn : Int)]) (x7 ++ [(cn : Int)]) (by rw [List.append_assoc]; exact hb) (by rw [List.length_append]; simp only [List.length_cons, List.length_nil]; omega) (by simp [h7])
    rw [List.length_append, List.append_assoc, List.append_assoc] at h2
    simp only [List.length_cons, List.length_nil, List.cons_append, List.nil_append, Nat.zero_add] at h2
    rw [if_pos (by rw [bI_len, bytesBits_len, List.length_append, List.length_cons]; omega), hF, show K + 10 * (rest.length + 1) = K + 10 * rest.length + 1 + 8 + 1 by omega]
    exact h3.trans h2
theorem encR {k : Nat} {b : List Int} (h : isBytes b) (hl : b.length ≤ 100000) (hk : 40 * b.length + 1000 ≤ k) : gantletref04_Encode.f k b = some (encO b [] 0 0) := by
  obtain ⟨hby, p, h2, h3⟩ := enc_bits h
  have hlen := enc_len h
  have hs := sumLn_le b h
  have h4 := congrArg List.length h3
  rw [bytesBits_len, List.length_append, bitsT_len, List.length_replicate] at h4
  have hr : gantletref04_Encode.f (40 + 10 * (encO b [] 0 0).length + 1 + p + 1 + b.length + 1) b = some (encO b [] 0 0) := by
    unfold gantletref04_Encode.f gantletref04_lengths.f gantletref04_Codes.f
    simp only [Option.bind_some]
    have e0 := enc_l0 (40 + 10 * (encO b [] 0 0).length + 1 + p + 1) (by omega) b [] [] h (by simpa using hl) (by simp)
    simp only [List.length_nil, List.nil_append] at e0
    have e1 := enc_l1 (40 + 10 * (encO b [] 0 0).length + 1) p (bI (bitsT b)) (by rw [bI_len, bitsT_len]; omega) (by rw [bI_len, bitsT_len]; omega) h2
    have e2 := enc_l2 40 (encO b [] 0 0) [] [] (by simpa using hby) (by simp; omega) rfl
    simp only [List.length_nil, List.nil_append, Nat.mul_zero] at e2
    rw [← bI_append, ← h3] at e1
    exact e0.trans (e1.trans e2)
  exact at_rounds (fun k => gantletref04_Encode.mono b k) (by omega) hr
end Go.Proofs.YtlbjhbanfpnogaaDoor.Pure
