/-
  THE LAW HuffBack: a text is read back from its bytes; eight bits of padding more are refused; what reads as a text is its bytes alone.
  Conditions: none but the row's own.
-/
import Derived.Test.YtlbjhbanfpnogaaDoorHg1
import Derived.Test.YtlbjhbanfpnogaaDoorQH4
import Derived.OpenShut
namespace Go.Proofs.YtlbjhbanfpnogaaDoor.Pure
open Go Go.RowKit Go.Proofs.YtlbjhbanfpnogaaDoor.QH
set_option linter.unusedVariables false
theorem wr {x : Int} (h0 : -9223372036854775808 ≤ x) (h1 : x ≤ 9223372036854775807) : wrap64 x = x := by unfold wrap64; omega
theorem same01_l (l : List Int) (hl : l.length ≤ 1000000) : ∀ (d k : Nat) (i : Int), 0 ≤ i → i ≤ l.length → (l.length : Int) - i = d → d < k → gantletref01_Same.l0 k l l i = some true := by
  intro d
  induction d with
  | zero =>
    intro k i h0 h1 hd hk
    obtain ⟨k, rfl⟩ : ∃ j, k = j + 1 := ⟨k - 1, by omega⟩
    simp only [gantletref01_Same.l0]
    rw [if_neg (by omega)]
  | succ d ih =>
    intro k i h0 h1 hd hk
    obtain ⟨k, rfl⟩ : ∃ j, k = j + 1 := ⟨k - 1, by omega⟩
    simp only [gantletref01_Same.l0]
    rw [if_pos (by omega), if_pos h0, if_pos (by omega), if_pos trivial, wr (by omega) (by omega), ih k (i + 1) (by omega) (by omega) (by omega) (by omega)]
theorem same01_self {k : Nat} (l : List Int) (hl : l.length ≤ 1000000) (hk : l.length < k) : gantletref01_Same.f k l l = some true := by
  unfold gantletref01_Same.f
  rw [if_pos rfl, same01_l l hl l.length k 0 (by omega) (by omega) (by omega) hk]
theorem sumLn_le : ∀ b : List Int, isBytes b → sumLn b ≤ 30 * b.length
  | [], _ => by simp [sumLn]
  | c :: b, h => by
    have h1 := ln_le c.toNat (by have := h c (by simp); omega)
    have h2 := sumLn_le b (fun x hx => h x (by simp [hx]))
    simp only [sumLn, List.length_cons]
    omega
theorem encF {b : List Int} (h : isBytes b) (hl : b.length ≤ 1000000) : huff_Encode.f b = some (encO b [] 0 0) := by
  unfold huff_Encode.f
  rw [if_pos (bytesB_mk h hl)]
theorem sizeF {b : List Int} (h : isBytes b) (hl : b.length ≤ 1000000) : huff_Size.f b = some (((sumLn b + 7) / 8 : Nat) : Int) := by
  unfold huff_Size.f
  rw [if_pos (bytesB_mk h hl)]
theorem decF {b : List Int} (h : isBytes b) (hl : b.length ≤ 1000000) (most : Int) : huff_Decode.f b most = some (decL most (bytesBits b) 0 0 []) := by
  unfold huff_Decode.f
  rw [if_pos (bytesB_mk h hl), bitsL_is b h]
theorem aliveF : gantletlaw04_alive.f = some true := rfl
theorem back_j0 (l : List Int) (a1 : Int) (hb : isBytes l) (hl : l.length ≤ 200) (ha : 0 ≤ a1 ∧ a1 ≤ 255) : gantletlaw04_HuffBack.j0 1001 l a1 false = some true := by
  rw [gantletlaw04_HuffBack.j0, if_neg (by decide), wr (by omega) (by omega), decF hb (by omega)]
  simp only [Option.bind_some]
  cases hd : decL a1 (bytesBits l) 0 0 [] with
  | mk z e =>
    simp only []
    by_cases he : e = 0
    · subst he
      obtain ⟨g1, g2, g3⟩ := back_enc hb a1 ha.1 hd
      rw [if_pos rfl, encF g1 (by omega), g2]
      simp only [Option.bind_some]
      rw [same01_self l (by omega) (by omega), aliveF]
      simp only [Option.bind_some]
      rw [if_pos trivial, if_pos trivial, decide_eq_true g3]
    · rw [if_neg he, aliveF]
      simp only [Option.bind_some]
      rw [if_pos trivial]
      have h := dec_bad a1 (bytesBits l) 0 0 []
      rw [hd] at h
      rcases h with h | h
      · exact absurd h he
      · simp only [] at h; rw [h]; rfl
theorem HuffBack (l0 : List Int) (a1 : Int) (hm : l0.length ≤ maxLen) (hw : ∀ x ∈ l0, (Lit.int .u8 x).wf = true) (hF : (Lit.int .u8 a1).wf = true) :
    ∃ k, gantletlaw04_HuffBack.f k l0 a1 = some true := by
  have hb : isBytes l0 := fun x hx => by have := bounds_u8 (hw x hx); omega
  have ha := bounds_u8 hF
  refine ⟨1001, ?_⟩
  unfold gantletlaw04_HuffBack.f
  by_cases hl : (l0.length : Int) > 200
  · rw [if_pos hl, aliveF]; rfl
  · have hl2 : l0.length ≤ 200 := by omega
    have hs := sumLn_le l0 hb
    have hlen := enc_len hb
    have hby := (enc_bits hb).1
    have h255 : isBytes (encO l0 [] 0 0 ++ [255]) := isBytes_append hby (isBytes_one (by decide))
    rw [if_neg hl, encF hb (by omega)]
    simp only [Option.bind_some, List.nil_append]
    rw [decF hby (by omega), back_dec hb _ (Int.le_refl _)]
    simp only [Option.bind_some]
    rw [same01_self l0 (by omega) (by omega)]
    simp only [Option.bind_some, List.length_nil, Nat.zero_add]
    rw [if_pos (by omega), if_pos (by omega), wr (by omega) (by omega), decF h255 (by rw [List.length_append]; simp only [List.length_cons, List.length_nil]; omega), back_255 hb _ (by omega)]
    simp only [Option.bind_some]
    rw [if_pos trivial, if_pos trivial, sizeF hb (by omega)]
    simp only [Option.bind_some]
    rw [if_pos (by rw [hlen])]
    exact back_j0 l0 a1 hb hl2 (by omega)
end Go.Proofs.YtlbjhbanfpnogaaDoor.Pure
