/-
  THE LAW HuffTells: lengths, codes, texts and sizes are those that the tables of the plain reading say.
  Conditions: none but the row's own.
-/
import Derived.Test.YtlbjhbanfpnogaaDoorHg1
import Derived.Test.YtlbjhbanfpnogaaDoorPureHuffT2
import Derived.Test.YtlbjhbanfpnogaaDoorQH3
import Derived.OpenShut
namespace Go.Proofs.YtlbjhbanfpnogaaDoor.Pure
open Go Go.RowKit Go.Proofs.YtlbjhbanfpnogaaDoor.QH Go.Proofs.YtlbjhbanfpnogaaDoorW.PrintWords Go.Proofs.YtlbjhbanfpnogaaDoorW.PrintLast
set_option linter.unusedVariables false
theorem lenR (a : Int) : gantletref04_Length.f a = huff_Length.f a := by
  unfold gantletref04_Length.f huff_Length.f gantletref04_lengths.f
  by_cases h0 : a < 0
  · rw [if_pos h0, if_pos h0]
  · rw [if_neg h0, if_neg h0]
    by_cases h1 : a > 256
    · rw [if_pos h1, if_pos h1]
    · rw [if_neg h1, if_neg h1]
      obtain ⟨n, rfl⟩ : ∃ n : Nat, a = (n : Int) := ⟨a.toNat, by omega⟩
      simp only [Option.bind_some]
      rw [if_pos (by omega), lensI_len, if_pos (by omega), rd_lensI n (by omega), Int.toNat_natCast]
theorem codR (a : Int) : gantletref04_Code.f a = huff_Code.f a := by
  unfold gantletref04_Code.f huff_Code.f gantletref04_Codes.f
  by_cases h0 : a < 0
  · rw [if_pos h0, if_pos h0]
  · rw [if_neg h0, if_neg h0]
    by_cases h1 : a > 256
    · rw [if_pos h1, if_pos h1]
    · rw [if_neg h1, if_neg h1]
      obtain ⟨n, rfl⟩ : ∃ n : Nat, a = (n : Int) := ⟨a.toNat, by omega⟩
      simp only [Option.bind_some]
      rw [if_pos (by omega), codesI_len, if_pos (by omega), rd_codesI n (by omega), Int.toNat_natCast]
theorem tells_j0 (k : Nat) (hk : 9000 ≤ k) (l : List Int) (a2 : Int) (hb : isBytes l) (hl : l.length ≤ 200) : gantletlaw04_HuffTells.j0 (k + 1) l a2 true = some true := by
  have hs := sumLn_le l hb
  have hlen := enc_len hb
  rw [gantletlaw04_HuffTells.j0, encF hb (by omega), encR hb (by omega) (by omega)]
  simp only [Option.bind_some]
  rw [same01_self _ (by omega) (by omega)]
  simp only [Option.bind_some]
  rw [decF hb (by omega), decR a2 hb (by omega) (by omega)]
  simp only [Option.bind_some]
  have hd : (decL a2 (bytesBits l) 0 0 []).1.length ≤ 1600 := by have := decL_len' a2 (bytesBits l) 0 0 []; rw [bytesBits_len] at this; simp only [List.length_nil] at this; omega
  rw [same01_self _ (by omega) (by omega), aliveF, sizeF hb (by omega)]
  have h := sizeR l l [] k 0 hb (by simp; omega) (by simp) (by omega)
  simp only [List.nil_append, List.length_nil, Nat.zero_add] at h
  have h2 : gantletref04_Size.f k l = some (((sumLn l + 7) / 8 : Nat) : Int) := by
    unfold gantletref04_Size.f gantletref04_lengths.f
    exact h
  simp only [Option.bind_some]
  rw [h2]
  simp only [Option.bind_some]
  rw [if_pos trivial, if_pos trivial, if_pos trivial, if_pos trivial, if_pos trivial]
  simp
theorem HuffTells (a0 : Int) (l1 : List Int) (a2 : Int) (w0 : (Lit.int .i64 a0).wf = true) (m1 : l1.length ≤ maxLen) (hw : ∀ x ∈ l1, (Lit.int .u8 x).wf = true) (w2 : (Lit.int .i64 a2).wf = true) :
    ∃ k, gantletlaw04_HuffTells.f k a0 l1 a2 = some true := by
  have hb : isBytes l1 := fun x hx => by have := bounds_u8 (hw x hx); omega
  obtain ⟨k, hk⟩ : ∃ k, 9000 ≤ k := ⟨9000, Nat.le_refl _⟩
  refine ⟨k + 1, ?_⟩
  unfold gantletlaw04_HuffTells.f
  by_cases hl : (l1.length : Int) > 200
  · rw [if_pos hl, aliveF]; rfl
  · rw [if_neg hl, lenR, codR]
    unfold huff_Length.f huff_Code.f
    simp only [Option.bind_some]
    rw [if_pos trivial, beq_self_eq_true]
    exact tells_j0 k hk l1 a2 hb (by omega)
end Go.Proofs.YtlbjhbanfpnogaaDoor.Pure
