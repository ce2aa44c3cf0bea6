/-
  THE LAW PrefixBack: a number is the one that its bytes begin with, whatever stands above and behind; no fewer bytes are a number; the bytes of two numbers are one just if these are.
  Conditions: none but the row's own.
-/
import Derived.Test.YtlbjhbanfpnogaaPurePrefix
import Derived.Test.YtlbjhbanfpnogaaQP4
namespace Go.Proofs.Ytlbjhbanfpnogaa.Pure
open Go Go.RowKit Go.Proofs.Ytlbjhbanfpnogaa.QP Go.Proofs.Ytlbjhbanfpnogaa.PrefixPure Go.Proofs.YtlbjhbanfpnogaaW.PrintWords Go.Proofs.YtlbjhbanfpnogaaW.PrintLast
set_option linter.unusedVariables false
theorem alive03b {k : Nat} (hk : 60 ≤ k) : gantletlaw03_alive.f k = some true :=
  at_rounds gantletlaw03_alive.mono hk (show gantletlaw03_alive.f 60 = some true by kernel_rfl)
/-- What follows once the width is known. -/
theorem back_end (k : Nat) (hk : 350 ≤ k) (n m b u v : Int) (l : List Int) (hl : l.length ≤ 300) (hw : Bytes l) (hb : 1 ≤ b ∧ b ≤ 8) (hu : 0 ≤ u ∧ u ≤ 255) (hv : 0 ≤ v ∧ v ≤ 255) (i : Int) (hi : i = b) (n0 : -9223372036854775808 ≤ n ∧ n ≤ 9223372036854775807) :
    ∀ x0, gantletlaw03_PrefixBack.l0 (k + 1) l b (p2 b) i n m x0 u v = some true := by
  intro x0
  have hp := p2_pos hb
  have ha : wrap64 (wrap64 (Int.tdiv (wrap64 u) (p2 b)) * p2 b) = u / p2 b * p2 b := by
    rw [wr_in (a := u) (by omega) (by omega), Int.tdiv_eq_ediv_of_nonneg hu.1]
    have h1 : 0 ≤ u / p2 b := Int.ediv_nonneg hu.1 (by omega)
    have h2 : u / p2 b * p2 b ≤ u := Int.ediv_mul_le u (by omega)
    have h3 : u / p2 b ≤ u := Int.ediv_le_self _ hu.1
    have h4 : 0 ≤ u / p2 b * p2 b := Int.mul_nonneg h1 (by omega)
    rw [wr_in (a := u / p2 b) (by omega) (by omega), wr_in (by omega) (by omega)]
  have hA0 : 0 ≤ u / p2 b * p2 b := Int.mul_nonneg (Int.ediv_nonneg hu.1 (by omega)) (by omega)
  have hA1 : u / p2 b * p2 b ≤ 255 := by
    have h2 : u / p2 b * p2 b ≤ u := Int.ediv_mul_le u (by omega)
    omega
  have hA2 : u / p2 b * p2 b % p2 b = 0 := Int.mul_emod_left _ _
  generalize hAg : u / p2 b * p2 b = A at *
  have okn : ∀ z, ok z b A ↔ 0 ≤ z ∧ z ≤ 16777215 := fun z => ⟨fun h => ⟨h.1, h.2.1⟩, fun h => ⟨h.1, h.2, hb, hA0, hA1, hA2⟩⟩
  simp only [gantletlaw03_PrefixBack.l0]
  rw [if_neg (by omega), if_neg (by omega), ha, encE (by omega), encE (by omega)]
  simp only [Option.bind_some]
  obtain ⟨k, rfl⟩ : ∃ j, k = j + 3 := ⟨k - 3, by omega⟩
  have tail : ∀ c, c = false → gantletlaw03_PrefixBack.j1 (k + 3) l b (if ok n b A then (enc n b A, (0 : Int)) else ([], 1)).1 (if ok n b A then (enc n b A, (0 : Int)) else ([], 1)).2
      (if ok m b A then (enc m b A, (0 : Int)) else ([], 1)).1 (if ok m b A then (enc m b A, (0 : Int)) else ([], 1)).2 c n m x0 u v = some true := by
    rintro _ rfl
    simp only [gantletlaw03_PrefixBack.j1]
    rw [if_neg (by decide)]
    by_cases hn : ok n b A
    · have hlen := enc_length n b A
      have eb := enc_bytes hn
      rw [if_pos hn, if_pos rfl]
      simp only [gantletlaw03_PrefixBack.j2]
      have e0 : (((enc n b A).length : Int) == 0) = false := by
        rw [beq_eq_false_iff_ne]; omega
      have hlen0 : ((enc n b A).length : Int) ≠ 0 := by omega
      have hv2 : wrap64 v = v := wr_in (by omega) (by omega)
      have t0 : 0 ≤ Int.tmod v ((enc n b A).length : Int) := Int.tmod_nonneg _ hv.1
      have t1 : Int.tmod v ((enc n b A).length : Int) < ((enc n b A).length : Int) := Int.tmod_lt_of_pos _ (by omega)
      rw [e0, if_neg (by decide)]
      simp only [Option.bind_some, List.nil_append]
      have q0 : ([] : List Int).length + (enc n b A).length < 140737488355328 := by simp; omega
      rw [if_pos q0, if_pos (by omega), decE (by omega) _ (eb.append hw), dec_enc hn, hv2]
      simp only [Option.bind_some]
      rw [if_neg hlen0, if_pos t0, if_pos (by omega), decE (by omega) _ (eb.take _), dec_short hn _ (by omega)]
      simp only [Option.bind_some, if_true, bne_self_eq_false]
      simp only [gantletlaw03_PrefixBack.j3]
      rw [if_neg (by decide)]
      have hml : (if ok m b A then (enc m b A, (0 : Int)) else ([], 1)).1.length ≤ 6 := by
        by_cases h : ok m b A
        · rw [if_pos h]; exact (enc_length m b A).2
        · rw [if_neg h]; simp
      rw [sameE _ _ (by omega) (by omega), alive03b (by omega)]
      simp only [Option.bind_some, if_true]
      by_cases hm : ok m b A
      · rw [if_pos hm, if_pos rfl]
        congr 1
        by_cases e : n = m
        · subst e; simp
        · have : enc n b A ≠ enc m b A := fun h => e ((enc_inj hn hm).1 h)
          simp [this, e]
      · rw [if_neg hm, if_neg (by decide)]
    · rw [if_neg hn, if_neg (by decide)]
      simp only [gantletlaw03_PrefixBack.j2, if_true]
      rw [alive03b (by omega)]
      rfl
  by_cases h0 : n ≥ 0
  · rw [if_pos h0]
    refine tail _ ?_
    by_cases h1 : n ≤ 16777215
    · have hn : ok n b A := (okn n).2 ⟨h0, h1⟩
      rw [if_pos hn]; simp [h1]
    · have hn : ¬ ok n b A := fun h => h1 ((okn n).1 h).2
      rw [if_neg hn]; simp [h1]
  · rw [if_neg h0]
    refine tail _ ?_
    have hn : ¬ ok n b A := fun h => h0 ((okn n).1 h).1
    rw [if_neg hn]; rfl
theorem back_loop (n m b u v x0 : Int) (l : List Int) (hl : l.length ≤ 300) (hw : Bytes l) (hb : 1 ≤ b ∧ b ≤ 8) (hu : 0 ≤ u ∧ u ≤ 255) (hv : 0 ≤ v ∧ v ≤ 255) (n0 : -9223372036854775808 ≤ n ∧ n ≤ 9223372036854775807) (d : Nat) :
    ∀ (k : Nat) (i : Int), 0 ≤ i → i ≤ b → b - i = d → 360 + d ≤ k → gantletlaw03_PrefixBack.l0 k l b (2 ^ i.toNat) i n m x0 u v = some true := by
  induction d with
  | zero =>
    intro k i h0 h1 hd hk
    obtain ⟨k, rfl⟩ : ∃ j, k = j + 1 := ⟨k - 1, by omega⟩
    have : i = b := by omega
    subst this
    exact back_end k (by omega) n m i u v l hl hw hb hu hv i rfl n0 x0
  | succ d ih =>
    intro k i h0 h1 hd hk
    obtain ⟨k, rfl⟩ : ∃ j, k = j + 1 := ⟨k - 1, by omega⟩
    have hp : (2 : Int) ^ (i + 1).toNat = 2 * 2 ^ i.toNat := by
      rw [show (i + 1).toNat = i.toNat + 1 by omega, Int.pow_succ]; omega
    have hle : (2 : Int) ^ i.toNat ≤ 256 ∧ 0 ≤ (2 : Int) ^ i.toNat := by
      have : i.toNat = 0 ∨ i.toNat = 1 ∨ i.toNat = 2 ∨ i.toNat = 3 ∨ i.toNat = 4 ∨ i.toNat = 5 ∨ i.toNat = 6 ∨ i.toNat = 7 := by omega
      rcases this with e | e | e | e | e | e | e | e <;> rw [e] <;> decide
    have hh := ih k (i + 1) (by omega) (by omega) (by omega) (by omega)
    simp only [gantletlaw03_PrefixBack.l0]
    rw [if_pos (by omega), wr_in (a := 2 * 2 ^ i.toNat) (by omega) (by omega), wr_in (a := i + 1) (by omega) (by omega), ← hp]
    exact hh
theorem PrefixBack (n m t0 t1 t2 : Int) (l : List Int) (hF : (Lit.int .i64 n).wf = true ∧ (Lit.int .i64 m).wf = true) (hG : (Lit.int .u8 t0).wf = true ∧ (Lit.int .u8 t1).wf = true ∧ (Lit.int .u8 t2).wf = true) (hm : l.length ≤ maxLen) (hw : ∀ x ∈ l, (Lit.int .u8 x).wf = true) :
    ∃ k, gantletlaw03_PrefixBack.f k n m t0 t1 t2 l = some true := by
  have hw := wf_bytes hw
  have hn := bounds_i64 hF.1
  have b0 := bounds_u8 hG.1
  have b1 := bounds_u8 hG.2.1
  have b2 := bounds_u8 hG.2.2
  refine ⟨400, ?_⟩
  unfold gantletlaw03_PrefixBack.f
  by_cases hl : (l.length : Int) > 300
  · rw [if_pos hl, alive03b (by decide)]; rfl
  · have e : wrap64 (wrap64 (Int.tmod t0 8) + 1) = t0 % 8 + 1 := by
      rw [Int.tmod_eq_emod_of_nonneg (by omega), wr_in (a := t0 % 8) (by omega) (by omega), wr_in (by omega) (by omega)]
    rw [if_neg hl, e]
    exact back_loop n m (t0 % 8 + 1) t1 t2 t0 l (by omega) hw (by omega) (by omega) (by omega) hn (t0 % 8 + 1).toNat 400 0 (by omega) (by omega) (by omega) (by omega)
end Go.Proofs.Ytlbjhbanfpnogaa.Pure
