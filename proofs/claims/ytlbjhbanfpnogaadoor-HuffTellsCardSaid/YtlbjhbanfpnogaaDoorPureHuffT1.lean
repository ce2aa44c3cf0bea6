/-
  THE LAW HuffTells: lengths, codes, texts and sizes are those that the tables of the plain reading say.
  Conditions: none but the row's own.
-/
import Derived.Test.YtlbjhbanfpnogaaDoorHg1
import Derived.Test.YtlbjhbanfpnogaaDoorPureHuffT0
import Derived.Test.YtlbjhbanfpnogaaDoorQH3
import Derived.OpenShut
namespace Go.Proofs.YtlbjhbanfpnogaaDoor.Pure
open Go Go.RowKit Go.Proofs.YtlbjhbanfpnogaaDoor.QH Go.Proofs.YtlbjhbanfpnogaaDoorW.PrintWords Go.Proofs.YtlbjhbanfpnogaaDoorW.PrintLast
set_option linter.unusedVariables false
theorem sizeR (l : List Int) : ∀ (rest pre : List Int) (k s : Nat), isBytes rest → pre.length + rest.length ≤ 100000 → s ≤ 30 * pre.length → rest.length < k → gantletref04_Size.l0 k (pre ++ rest) lensI (s : Int) (pre.length : Int) = some (((s + sumLn rest + 7) / 8 : Nat) : Int)
  | [], pre, k, s, _, hl, hs, hk => by
    obtain ⟨k, rfl⟩ : ∃ q, k = q + 1 := ⟨k - 1, by omega⟩
    simp only [gantletref04_Size.l0, List.append_nil, sumLn]
    simp only [List.length_nil] at hl
    rw [if_neg (by omega), wr (x := (s : Int) + 7) (by omega) (by omega), Int.tdiv_eq_ediv_of_nonneg (by omega), wr (by omega) (by omega)]
    congr 1
  | c :: rest, pre, k, s, hb, hl, hs, hk => by
    have hc := hb c (by simp)
    simp only [List.length_cons] at hl hk
    have hln := ln_le c.toNat (by omega)
    obtain ⟨k, rfl⟩ : ∃ q, k = q + 1 := ⟨k - 1, by omega⟩
    obtain ⟨cn, rfl⟩ : ∃ q : Nat, c = (q : Int) := ⟨c.toNat, by omega⟩
    rw [Int.toNat_natCast] at hln
    have hpl : (pre ++ (cn : Int) :: rest).length = pre.length + (rest.length + 1) := by simp
    simp only [gantletref04_Size.l0]
    rw [if_pos (by rw [hpl]; omega), if_pos (by omega), rd_mid, lensI_len, if_pos (by omega), if_pos (by omega), rd_lensI cn (by omega), wr (by omega) (by omega), wr (by omega) (by omega)]
    have h := sizeR l rest (pre ++ [(cn : Int)]) k (s + ln cn) (fun x hx => hb x (by simp [hx])) (by rw [List.length_append]; simp only [List.length_cons, List.length_nil]; omega) (by rw [List.length_append]; simp only [List.length_cons, List.length_nil]; omega) (by omega)
    rw [List.length_append, List.append_assoc] at h
    simp only [List.length_cons, List.length_nil, List.cons_append, List.nil_append, Nat.zero_add] at h
    rw [show ((pre.length + 1 : Nat) : Int) = (pre.length : Int) + 1 by omega, show ((s + ln cn : Nat) : Int) = (s : Int) + (ln cn : Int) by omega] at h
    rw [h, sumLn, Int.toNat_natCast, Nat.add_assoc s]
def findV (a n : Nat) : Int := match findC 257 a n with | none => -1 | some c => (c : Int)
theorem find_l0 (a n : Nat) : ∀ (d k i : Nat), i + d = 257 → (∀ c, findC 257 a n = some c → i ≤ c) → d < k → gantletref04_find.l0 k lensI codesI (a : Int) (n : Int) (i : Int) = some (findV a n)
  | 0, k, i, hi, hc, hk => by
    obtain ⟨k, rfl⟩ : ∃ q, k = q + 1 := ⟨k - 1, by omega⟩
    simp only [gantletref04_find.l0]
    rw [if_neg (by omega)]
    unfold findV
    cases hf : findC 257 a n with
    | none => rfl
    | some c =>
      have := findC_sound 257 a n c hf
      have := hc c hf
      omega
  | d + 1, k, i, hi, hc, hk => by
    obtain ⟨k, rfl⟩ : ∃ q, k = q + 1 := ⟨k - 1, by omega⟩
    simp only [gantletref04_find.l0]
    rw [if_pos (by omega), if_pos (by omega), lensI_len, codesI_len, if_pos (by omega), rd_lensI i (by omega), rd_codesI i (by omega)]
    have hw : wrap64 ((i : Int) + 1) = ((i + 1 : Nat) : Int) := wr (by omega) (by omega)
    have next : ¬ (ln i = n ∧ cd i = a) → gantletref04_find.l0 k lensI codesI (a : Int) (n : Int) (wrap64 ((i : Int) + 1)) = some (findV a n) := fun hne => by
      rw [hw]
      refine find_l0 a n d k (i + 1) (by omega) (fun c hf => ?_) (by omega)
      have h1 := hc c hf
      obtain ⟨h2, h3, h4⟩ := findC_sound 257 a n c hf
      rcases Nat.lt_or_ge i c with h5 | h5
      · exact h5
      · obtain rfl : i = c := by omega
        exact absurd ⟨h4, h3⟩ hne
    by_cases h1 : ln i = n
    · rw [if_pos (by omega), if_pos (by omega)]
      by_cases h2 : cd i = a
      · rw [if_pos (by omega)]
        have := findC_own i (by omega)
        rw [h1, h2] at this
        unfold findV
        rw [this]
      · rw [if_neg (by omega)]; exact next (fun h => h2 h.2)
    · rw [if_neg (by omega)]; exact next (fun h => h1 h.1)
theorem findR (a n k : Nat) (hk : 257 < k) : gantletref04_find.f k lensI codesI (a : Int) (n : Int) = some (findV a n) :=
  find_l0 a n 257 k 0 rfl (fun _ _ => Nat.zero_le _) hk
theorem decL_len' (most : Int) : ∀ (bs : List Nat) (a n : Nat) (out : List Int), (decL most bs a n out).1.length ≤ out.length + bs.length
  | [], a, n, out => by
    unfold decL
    split
    · simp
    · split <;> simp
  | b :: bs, a, n, out => by
    rw [decL]
    cases findC 257 (2 * a + b) (n + 1) with
    | none =>
      have := decL_len' most bs (2 * a + b) (n + 1) out
      simp only [List.length_cons]
      omega
    | some c =>
      simp only []
      split
      · simp
      · split
        · simp
        · have := decL_len' most bs 0 0 (out ++ [(c : Int)])
          simp only [List.length_append, List.length_cons, List.length_nil] at this ⊢
          omega
end Go.Proofs.YtlbjhbanfpnogaaDoor.Pure
