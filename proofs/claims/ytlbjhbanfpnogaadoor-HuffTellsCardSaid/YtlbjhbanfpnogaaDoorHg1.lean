/-
  HUFF: there and back.
  Conditions: none of its own; lemmas that the claim's row rests on.
-/
import Derived.Test.YtlbjhbanfpnogaaDoorHg0
import Derived.WalkKit
namespace Go.Proofs.YtlbjhbanfpnogaaDoor.QH
open Go.RowKit Go.Proofs.YtlbjhbanfpnogaaDoorW.PrintWords Go.Proofs.YtlbjhbanfpnogaaDoorW.PrintLast Go.Proofs.YtlbjhbanfpnogaaDoorW.PrintMore
attribute [local go_sem] max2_int min2_int max_two min_two max_three min_three max_four min_four
set_option linter.unusedVariables false
set_option linter.unusedSimpArgs false
theorem pre_le : ∀ (d n a : Nat), n + (d + 1) ≤ 31 → nxN (n + (d + 1)) 0 ≤ a → nxN n 257 ≤ a / 2 ^ (d + 1)
  | 0, n, a, h, ha => by
    have h1 := (nx_next n (by omega)).1
    simp only [Nat.zero_add, Nat.pow_one] at ha ⊢
    omega
  | d + 1, n, a, h, ha => by
    have h1 := (nx_next (n + (d + 1)) (by omega)).1
    have h2 := nx_mono (n + (d + 1)) 0 (by omega)
    have h3 := pre_le d n (a / 2) (by omega) (by rw [show n + (d + 1 + 1) = n + (d + 1) + 1 by omega] at ha; omega)
    rwa [Nat.div_div_eq_div_mul, Nat.mul_comm, ← Nat.pow_succ] at h3
theorem none_of {a n : Nat} (h : nxN n 257 ≤ a) : findC 257 a n = none := by
  cases hf : findC 257 a n with
  | none => rfl
  | some i =>
    obtain ⟨h1, h2, h3⟩ := findC_sound 257 a n i hf
    have h4 := cd_nx i h1
    have h5 := nx_step n i h1
    have h6 := nx_mono n (i + 1) (by omega)
    rw [h3] at h4
    rw [if_pos h3] at h5
    omega
theorem findC_ex (c : Nat) : ∀ m, c < m → ∃ i, findC m (cd c) (ln c) = some i
  | m + 1, h => by
    unfold findC
    by_cases hh : cd m = cd c ∧ ln m = ln c
    · rw [if_pos hh]; exact ⟨m, rfl⟩
    · rw [if_neg hh]
      refine findC_ex c m ?_
      rcases Nat.lt_or_ge c m with h1 | h1
      · exact h1
      · obtain rfl : c = m := by omega
        exact absurd ⟨rfl, rfl⟩ hh
theorem findC_own (c : Nat) (h : c < 257) : findC 257 (cd c) (ln c) = some c := by
  obtain ⟨i, hi⟩ := findC_ex c 257 h
  obtain ⟨h1, h2, h3⟩ := findC_sound 257 _ _ i hi
  rw [hi]
  have h4 := cd_nx i h1
  have h5 := cd_nx c h
  rw [h3] at h4
  have key : ∀ x y : Nat, x < y → y < 257 → ln x = ln c → nxN (ln c) x < nxN (ln c) y := fun x y hxy hy hx => by
    have h6 := nx_step (ln c) x (by omega)
    rw [if_pos hx] at h6
    have h7 : nxN (ln c) (x + 1) ≤ nxN (ln c) y := Nat.add_le_add_left (cnt_mono lensN (ln c) (x + 1) y (by omega)) _
    omega
  rcases Nat.lt_trichotomy i c with h6 | h6 | h6
  · have := key i c h6 h h3; omega
  · rw [h6]
  · have := key c i h6 h1 rfl; omega
/-- What a code does, read to its end. -/
def afterC (most : Int) (bs : List Nat) (out : List Int) (c : Nat) : List Int × Int := if c = 256 then ([], 3) else if most ≤ (out.length : Int) then ([], 4) else decL most bs 0 0 (out ++ [(c : Int)])
theorem dec_code (most : Int) (c : Nat) (hc : c < 257) (bs : List Nat) (out : List Int) : ∀ (r x n a : Nat), n + (r + 1) = ln c → cd c = x * 2 ^ (r + 1) + a → a < 2 ^ (r + 1) → decL most (codeB a (r + 1) ++ bs) x n out = afterC most bs out c
  | 0, x, n, a, hn, hx, ha => by
    simp only [Nat.zero_add, Nat.pow_one] at hx ha hn
    simp only [codeB, List.nil_append, List.cons_append, Nat.zero_add]
    unfold decL
    rw [Nat.mod_eq_of_lt ha, show 2 * x + a = cd c by omega, hn, findC_own c hc]
    rfl
  | r + 1, x, n, a, hn, hx, ha => by
    have hl := ln_le c hc
    have h0 := Nat.two_pow_pos (r + 1)
    have hs := codeB_split 1 (r + 1) a
    rw [Nat.add_comm 1] at hs
    have hb : a / 2 ^ (r + 1) < 2 := by rw [Nat.div_lt_iff_lt_mul h0]; rw [Nat.pow_succ] at ha; omega
    have hc1 : codeB (a / 2 ^ (r + 1)) 1 = [a / 2 ^ (r + 1)] := by simp [codeB, Nat.mod_eq_of_lt hb]
    rw [hs, hc1]
    have hx2 : cd c = (2 * x + a / 2 ^ (r + 1)) * 2 ^ (r + 1) + a % 2 ^ (r + 1) := by
      rw [hx, Nat.pow_succ 2 (r + 1), Nat.add_mul, Nat.add_assoc, Nat.mul_comm (a / 2 ^ (r + 1)), Nat.div_add_mod, Nat.mul_comm (2 ^ (r + 1)) 2, ← Nat.mul_assoc, Nat.mul_comm x 2]
    have hq : cd c / 2 ^ (r + 1) = 2 * x + a / 2 ^ (r + 1) := by
      rw [hx2, Nat.mul_comm, Nat.mul_add_div h0, Nat.div_eq_of_lt (Nat.mod_lt _ h0), Nat.add_zero]
    have hnone : findC 257 (2 * x + a / 2 ^ (r + 1)) (n + 1) = none := none_of (by
      rw [← hq]
      refine pre_le r (n + 1) (cd c) (by omega) ?_
      rw [show n + 1 + (r + 1) = ln c by omega]
      have := cd_nx c hc
      have h2 : nxN (ln c) 0 ≤ nxN (ln c) c := Nat.add_le_add_left (cnt_mono lensN (ln c) 0 c (by omega)) _
      omega)
    rw [List.append_assoc, List.cons_append, List.nil_append]
    rw [decL, hnone]
    exact dec_code most c hc bs out r _ (n + 1) _ (by omega) hx2 (Nat.mod_lt _ h0)
theorem dec_one (most : Int) (c : Nat) (hc : c < 257) (bs : List Nat) (out : List Int) : decL most (codeB (cd c) (ln c) ++ bs) 0 0 out = afterC most bs out c := by
  have hl := ln_le c hc
  obtain ⟨r, hr⟩ : ∃ r, ln c = r + 1 := ⟨ln c - 1, by omega⟩
  have h := dec_code most c hc bs out r 0 0 (cd c) (by omega) (by simp) (by rw [← hr]; exact cd_lt c hc)
  rw [← hr] at h
  exact h
theorem dec_text (most : Int) (bs : List Nat) : ∀ (b out : List Int), isBytes b → (out.length : Int) + b.length ≤ most → decL most (bitsT b ++ bs) 0 0 out = decL most bs 0 0 (out ++ b)
  | [], out, _, _ => by simp [bitsT]
  | c :: b, out, hb, hm => by
    have hc := hb c (by simp)
    simp only [List.length_cons] at hm
    rw [bitsT, List.append_assoc, dec_one most c.toNat (by omega)]
    unfold afterC
    rw [if_neg (by omega), if_neg (by omega), dec_text most bs b _ (fun x hx => hb x (by simp [hx])) (by rw [List.length_append]; simp only [List.length_cons, List.length_nil]; omega)]
    rw [show ((c.toNat : Nat) : Int) = c by omega, List.append_assoc]
    rfl
theorem tabF : ((List.range 16).all fun i => i == 0 || (findC 257 (2 ^ i - 1) i).isNone) = true := by decide +kernel
theorem ones_none (i : Nat) (h : i < 15) : findC 257 (2 * (2 ^ i - 1) + 1) (i + 1) = none := by
  have h1 := List.all_eq_true.1 tabF (i + 1) (List.mem_range.2 (by omega))
  have h2 : 2 * (2 ^ i - 1) + 1 = 2 ^ (i + 1) - 1 := by have := Nat.two_pow_pos i; rw [Nat.pow_succ]; omega
  rw [h2]
  simpa using h1
theorem dec_ones (most : Int) (out : List Int) : ∀ (p i : Nat), i + p ≤ 15 → decL most (List.replicate p 1) (2 ^ i - 1) i out = if i + p < 8 then (out, 0) else ([], 3)
  | 0, i, h => by
    unfold decL
    simp only [Nat.add_zero, List.replicate_zero]
    by_cases h8 : 8 ≤ i
    · rw [if_pos h8, if_neg (by omega)]
    · rw [if_neg h8, if_pos trivial, if_pos (by omega)]
  | p + 1, i, h => by
    have h2 : 2 * (2 ^ i - 1) + 1 = 2 ^ (i + 1) - 1 := by have := Nat.two_pow_pos i; rw [Nat.pow_succ]; omega
    rw [List.replicate_succ, decL, ones_none i (by omega)]
    simp only []
    rw [h2, dec_ones most out p (i + 1) (by omega), show i + 1 + p = i + (p + 1) by omega]
theorem dec_sound (most : Int) : ∀ (bs : List Nat) (a n : Nat) (out z : List Int), (∀ b ∈ bs, b < 2) → a < 2 ^ n → decL most bs a n out = (z, 0) → ∃ z' p, z = out ++ z' ∧ p < 8 ∧ isBytes z' ∧ codeB a n ++ bs = bitsT z' ++ List.replicate p 1 ∧ ((out.length : Int) ≤ most → (z.length : Int) ≤ most)
  | [], a, n, out, z, _, ha, h => by
    unfold decL at h
    by_cases h8 : 8 ≤ n
    · rw [if_pos h8] at h; simp at h
    · rw [if_neg h8] at h
      by_cases h1 : a = 2 ^ n - 1
      · rw [if_pos h1] at h
        simp only [Prod.mk.injEq, and_true] at h
        subst h
        exact ⟨[], n, by simp, by omega, (fun x hx => by cases hx), by rw [h1, codeB_ones]; simp [bitsT], id⟩
      · rw [if_neg h1] at h; simp at h
  | b :: bs, a, n, out, z, hb, ha, h => by
    have hb2 := hb b (by simp)
    have hcb : codeB (2 * a + b) (n + 1) = codeB a n ++ [b] := by rw [codeB, show (2 * a + b) / 2 = a by omega, show (2 * a + b) % 2 = b by omega]
    rw [decL] at h
    cases hf : findC 257 (2 * a + b) (n + 1) with
    | none =>
      rw [hf] at h
      simp only [] at h
      obtain ⟨z', p, h1, h2, h3, h4, h5⟩ := dec_sound most bs (2 * a + b) (n + 1) out z (fun x hx => hb x (by simp [hx])) (by rw [Nat.pow_succ]; omega) h
      exact ⟨z', p, h1, h2, h3, by rw [← h4, hcb, List.append_assoc]; rfl, h5⟩
    | some c =>
      obtain ⟨hc1, hc2, hc3⟩ := findC_sound 257 _ _ c hf
      rw [hf] at h
      simp only [] at h
      by_cases h6 : c = 256
      · rw [if_pos h6] at h; simp at h
      · rw [if_neg h6] at h
        by_cases h7 : most ≤ (out.length : Int)
        · rw [if_pos h7] at h; simp at h
        · rw [if_neg h7] at h
          obtain ⟨z', p, h1, h2, h3, h4, h5⟩ := dec_sound most bs 0 0 (out ++ [(c : Int)]) z (fun x hx => hb x (by simp [hx])) (by decide) h
          refine ⟨(c : Int) :: z', p, by rw [h1, List.append_assoc]; rfl, h2, fun x hx => ?_, ?_, fun _ => h5 (by rw [List.length_append]; simp only [List.length_cons, List.length_nil]; omega)⟩
          · rcases List.mem_cons.1 hx with rfl | hx
            · omega
            · exact h3 x hx
          · rw [bitsT, Int.toNat_natCast, hc2, hc3, hcb]
            simp only [codeB, List.nil_append] at h4
            rw [List.append_assoc, ← h4, List.append_assoc]
            rfl
theorem dec_bad (most : Int) : ∀ (bs : List Nat) (a n : Nat) (out : List Int), (decL most bs a n out).2 = 0 ∨ (decL most bs a n out).1 = []
  | [], a, n, out => by
    unfold decL
    split
    · exact .inr rfl
    · split
      · exact .inl rfl
      · exact .inr rfl
  | b :: bs, a, n, out => by
    rw [decL]
    cases findC 257 (2 * a + b) (n + 1) with
    | none => exact dec_bad most bs _ _ _
    | some c =>
      simp only []
      split
      · exact .inr rfl
      · split
        · exact .inr rfl
        · exact dec_bad most bs _ _ _
theorem codeB_lt : ∀ (n a : Nat), ∀ b ∈ codeB a n, b < 2
  | 0, _, b, h => by cases h
  | n + 1, a, b, h => by
    rcases List.mem_append.1 h with h1 | h1
    · exact codeB_lt n _ b h1
    · rw [List.mem_singleton.1 h1]; omega
theorem bytesBits_lt : ∀ (l : List Int), ∀ b ∈ bytesBits l, b < 2
  | [], b, h => by cases h
  | x :: l, b, h => by
    rcases List.mem_append.1 h with h1 | h1
    · exact codeB_lt 8 _ b h1
    · exact bytesBits_lt l b h1
/-- A text is that of its bytes. -/
theorem back_dec {b : List Int} (h : isBytes b) (most : Int) (hm : (b.length : Int) ≤ most) : decL most (bytesBits (encO b [] 0 0)) 0 0 [] = (b, 0) := by
  obtain ⟨_, p, h2, h3⟩ := enc_bits h
  rw [h3, dec_text most _ b [] h (by simpa using hm)]
  have := dec_ones most ([] ++ b) p 0 (by omega)
  simp only [Nat.pow_zero, Nat.sub_self, Nat.zero_add] at this
  rw [this, if_pos h2]
  rfl
theorem back_255 {b : List Int} (h : isBytes b) (most : Int) (hm : (b.length : Int) ≤ most) : decL most (bytesBits (encO b [] 0 0 ++ [255])) 0 0 [] = ([], 3) := by
  obtain ⟨_, p, h2, h3⟩ := enc_bits h
  rw [bytesBits_append, h3, List.append_assoc, show bytesBits [(255 : Int)] = List.replicate 8 1 by decide, List.replicate_append_replicate, dec_text most _ b [] h (by simpa using hm)]
  have := dec_ones most ([] ++ b) (p + 8) 0 (by omega)
  simp only [Nat.pow_zero, Nat.sub_self, Nat.zero_add] at this
  rw [this, if_neg (by omega)]
/-- Bytes that are a text's are its. -/
theorem back_enc {b z : List Int} (hb : isBytes b) (most : Int) (hm : 0 ≤ most) (h : decL most (bytesBits b) 0 0 [] = (z, 0)) : isBytes z ∧ encO z [] 0 0 = b ∧ (z.length : Int) ≤ most := by
  obtain ⟨z', p, h1, h2, h3, h4, h5⟩ := dec_sound most _ 0 0 [] z (bytesBits_lt b) (by decide) h
  rw [List.nil_append] at h1
  subst h1
  simp only [codeB, List.nil_append] at h4
  obtain ⟨g1, q, g2, g3⟩ := enc_bits h3
  have e1 := congrArg List.length h4
  have e2 := congrArg List.length g3
  rw [bytesBits_len, List.length_append, List.length_replicate] at e1 e2
  obtain rfl : p = q := by omega
  exact ⟨h3, bytesBits_inj _ _ g1 hb (g3.trans h4.symm), h5 (by simpa using hm)⟩
end Go.Proofs.YtlbjhbanfpnogaaDoor.QH
