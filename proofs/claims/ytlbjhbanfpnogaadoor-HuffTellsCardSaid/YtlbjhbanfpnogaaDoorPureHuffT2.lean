/-
  THE LAW HuffTells: lengths, codes, texts and sizes are those that the tables of the plain reading say.
  Conditions: none but the row's own.
-/
import Derived.Test.YtlbjhbanfpnogaaDoorHg1
import Derived.Test.YtlbjhbanfpnogaaDoorPureHuffT1
import Derived.Test.YtlbjhbanfpnogaaDoorQH3
import Derived.OpenShut
namespace Go.Proofs.YtlbjhbanfpnogaaDoor.Pure
open Go Go.RowKit Go.Proofs.YtlbjhbanfpnogaaDoor.QH Go.Proofs.YtlbjhbanfpnogaaDoorW.PrintWords Go.Proofs.YtlbjhbanfpnogaaDoorW.PrintLast
set_option linter.unusedVariables false
theorem rd_one (x j : Nat) (hx : x < 256) (hj : j < 8) : rd (bI (codeB x 8)) (j : Int) = (x : Int) / 2 ^ (7 - j) % 2 := by
  rw [← bytesBits_one, rd_bits (isBytes_one (by omega)) j (by simp only [List.length_cons, List.length_nil]; omega)]
  unfold bitAt
  have h0 : rd [(x : Int)] ((j / 8 : Nat) : Int) = (x : Int) := by rw [show j / 8 = 0 by omega]; rfl
  rw [h0, Nat.mod_eq_of_lt hj]
theorem dec_zero (l : List Int) (most : Int) (hl : l.length ≤ 100000) (K s a n : Nat) (out : List Int) (hs : s = 8 * l.length) : gantletref04_Decode.l0 (K + 1) l most lensI codesI out (a : Int) (n : Int) (decide (a = 2 ^ n - 1)) (s : Int) = some (decL most ((bitsL l).drop s) a n out) := by
  rw [List.drop_eq_nil_of_le (by rw [bitsL_len]; omega)]
  simp only [gantletref04_Decode.l0, decL]
  rw [wr (x := 8 * (l.length : Int)) (by omega) (by omega), if_neg (by omega)]
  by_cases h8 : 8 ≤ n
  · rw [if_pos (by omega), if_pos h8]
  · rw [if_neg (by omega), if_neg h8]
    by_cases h1 : a = 2 ^ n - 1
    · rw [if_pos (decide_eq_true h1), if_pos h1]
    · rw [if_neg (by simpa using h1), if_neg h1]
theorem dec_j1 (l : List Int) (most : Int) (hb : isBytes l) (hl : l.length ≤ 100000) (K : Nat) (hK : 300 ≤ K) (d : Nat) (IH : ∀ (s a n : Nat) (out : List Int), s + d = 8 * l.length → open_ a n → out.length ≤ s → gantletref04_Decode.l0 (K + 2 * d + 1) l most lensI codesI out (a : Int) (n : Int) (decide (a = 2 ^ n - 1)) (s : Int) = some (decL most ((bitsL l).drop s) a n out)) (s a n b : Nat) (out : List Int) (hs : s + (d + 1) = 8 * l.length) (ho : open_ a n) (hq : out.length ≤ s) (hb2 : b < 2) (hbe : bitAt l s = (b : Int)) : gantletref04_Decode.j1 (K + 2 * d + 2) l most lensI codesI out ((2 * a + b : Nat) : Int) ((n + 1 : Nat) : Int) (decide (2 * a + b = 2 ^ (n + 1) - 1)) (s : Int) = some (decL most ((bitsL l).drop s) a n out) := by
      have e6 : wrap64 ((s : Int) + 1) = ((s + 1 : Nat) : Int) := wr (by omega) (by omega)
      rw [bitsL_drop l s (by omega), hbe, Int.toNat_natCast, decL]
      obtain ⟨F1, hF1⟩ : ∃ F1, F1 = K + 2 * d + 1 := ⟨_, rfl⟩
      rw [show K + 2 * d + 2 = F1 + 1 by omega]
      simp only [gantletref04_Decode.j1]
      rw [findR _ _ _ (by omega)]
      simp only [Option.bind_some]
      unfold findV
      cases hf : findC 257 (2 * a + b) (n + 1) with
      | none =>
        simp only []
        rw [if_pos (by decide), e6, hF1]
        exact IH (s + 1) (2 * a + b) (n + 1) out (by omega) (open_next ho hb2 hf) (by omega)
      | some c =>
        obtain ⟨hc1, _, _⟩ := findC_sound 257 _ _ c hf
        simp only []
        rw [if_neg (by omega)]
        by_cases h6 : c = 256
        · rw [if_pos (by omega), if_pos h6]
        · rw [if_neg (by omega), if_neg h6]
          by_cases h7 : most ≤ (out.length : Int)
          · rw [if_pos h7, if_pos h7]
          · rw [if_neg h7, if_neg h7, if_pos (by omega), e6, hF1, show (c : Int) % 256 = (c : Int) by omega]
            exact IH (s + 1) 0 0 (out ++ [(c : Int)]) (by omega) open_start (by rw [List.length_append]; simp only [List.length_cons, List.length_nil]; omega)
theorem q0 (L : Nat) (h : L ≤ 100000) : wrap64 (8 * (L : Int)) = 8 * (L : Int) := wr (by omega) (by omega)
theorem q1 (s : Nat) (h : s ≤ 2000000) : wrap64 (Int.tdiv (s : Int) 8) = ((s / 8 : Nat) : Int) := by
  rw [Int.tdiv_eq_ediv_of_nonneg (by omega), wr (by omega) (by omega)]; omega
theorem q2 (s : Nat) : Int.tmod (s : Int) 8 = ((s % 8 : Nat) : Int) := by
  rw [Int.tmod_eq_emod_of_nonneg (by omega)]; omega
theorem q4 (a b : Nat) (ha : a < 536870912) (hb : b < 2) : wrap64 (wrap64 (2 * (a : Int)) + wrap64 (b : Int)) = ((2 * a + b : Nat) : Int) := by
  rw [wr (x := 2 * (a : Int)) (by omega) (by omega), wr (x := (b : Int)) (by omega) (by omega), wr (by omega) (by omega)]; omega
theorem q5 (n : Nat) (h : n ≤ 29) : wrap64 ((n : Int) + 1) = ((n + 1 : Nat) : Int) := wr (by omega) (by omega)
theorem qx (x : Nat) (h : x < 256) : wrap64 (x : Int) = (x : Int) := wr (by omega) (by omega)
theorem g1 (a b X : Nat) (h0 : 0 < X) (hb : b < 2) (h1 : a = X - 1) : ((b : Int) == 1) = decide (2 * a + b = X * 2 - 1) := by
  rw [Bool.eq_iff_iff, beq_iff_eq, decide_eq_true_eq]; omega
theorem g2 (a b X : Nat) (h0 : 0 < X) (hb : b < 2) (ha : a < X) (h1 : ¬ a = X - 1) : false = decide (2 * a + b = X * 2 - 1) := by
  symm; rw [decide_eq_false_iff_not]; omega
theorem open_lt {a n : Nat} (ho : open_ a n) : a < 536870912 := Nat.lt_of_lt_of_le ho.2.1 (Nat.pow_le_pow_right (by decide) ho.2.2)
theorem byte_at {l : List Int} (hb : isBytes l) (i : Nat) (hi : i < l.length) : ∃ x : Nat, x < 256 ∧ rd l (i : Int) = (x : Int) := by
  have h : rd l (i : Int) = l[i] := by
    unfold rd
    rw [Int.toNat_natCast, List.getD_eq_getElem?_getD, List.getElem?_eq_getElem hi]
    rfl
  have h2 := hb _ (List.getElem_mem hi)
  exact ⟨(l[i]).toNat, by omega, by rw [h]; omega⟩
theorem dec_step (l : List Int) (most : Int) (hb : isBytes l) (hl : l.length ≤ 100000) (s a n b F : Nat) (out : List Int) (R : Option (List Int × Int)) (hs : s < 8 * l.length) (ho : open_ a n) (hF : 8 < F) (hb2 : b < 2) (hbe : bitAt l s = (b : Int)) (j1 : gantletref04_Decode.j1 F l most lensI codesI out ((2 * a + b : Nat) : Int) ((n + 1 : Nat) : Int) (decide (2 * a + b = 2 ^ n * 2 - 1)) (s : Int) = R) : gantletref04_Decode.l0 (F + 1) l most lensI codesI out (a : Int) (n : Int) (decide (a = 2 ^ n - 1)) (s : Int) = R := by
  obtain ⟨x, hx, hxe⟩ := byte_at hb (s / 8) (by omega)
  have e3 : rd (bI (codeB x 8)) ((s % 8 : Nat) : Int) = (b : Int) := by
    rw [rd_one x (s % 8) hx (Nat.mod_lt _ (by decide)), ← hbe]
    unfold bitAt
    rw [hxe]
  have sp : gantletref04_spell.f F (x : Int) 8 = some (bI (codeB x 8)) := spellF x 8 F (Nat.le_trans (Nat.le_of_lt hx) (by decide)) (by decide) hF
  have hcl : ((bI (codeB x 8)).length : Int) = 8 := by rw [bI_len, codeB_len]; rfl
  have c1 : (s : Int) < 8 * (l.length : Int) := by clear j1; omega
  have c3 : ((s / 8 : Nat) : Int) < (l.length : Int) := by clear j1; omega
  have c5 : ((s % 8 : Nat) : Int) < 8 := by clear j1; omega
  rw [gantletref04_Decode.l0, q0 _ hl, if_pos c1, q1 s (by clear j1; omega), if_pos (Int.natCast_nonneg _), if_pos c3, hxe, qx x hx, sp, Option.bind_some, q2, if_pos (Int.natCast_nonneg _), hcl, if_pos c5, e3, q4 a b (open_lt ho) hb2, q5 n ho.2.2]
  by_cases h1 : a = 2 ^ n - 1
  · rw [if_pos (decide_eq_true h1), g1 a b (2 ^ n) (Nat.two_pow_pos n) hb2 h1]
    exact j1
  · rw [← g2 a b (2 ^ n) (Nat.two_pow_pos n) hb2 ho.2.1 h1] at j1
    rw [if_neg (fun h => h1 (of_decide_eq_true h))]
    exact j1
theorem dec_l0 (l : List Int) (most : Int) (hb : isBytes l) (hl : l.length ≤ 100000) (K : Nat) (hK : 300 ≤ K) : ∀ (d s a n : Nat) (out : List Int), s + d = 8 * l.length → open_ a n → out.length ≤ s → gantletref04_Decode.l0 (K + 2 * d + 1) l most lensI codesI out (a : Int) (n : Int) (decide (a = 2 ^ n - 1)) (s : Int) = some (decL most ((bitsL l).drop s) a n out) := by
  intro d
  induction d with
  | zero => exact fun s a n out hs _ _ => dec_zero l most hl K s a n out hs
  | succ d IH =>
    intro s a n out hs ho hq
    obtain ⟨b, hb2, hbe⟩ : ∃ b : Nat, b < 2 ∧ bitAt l s = (b : Int) := ⟨(bitAt l s).toNat, by unfold bitAt; omega, by unfold bitAt; omega⟩
    have h := dec_j1 l most hb hl K hK d IH s a n b out hs ho hq hb2 hbe
    rw [Nat.pow_succ] at h
    exact dec_step l most hb hl s a n b (K + 2 * d + 2) out _ (by clear h; omega) ho (by clear h; omega) hb2 hbe h
theorem decR {k : Nat} {l : List Int} (most : Int) (hb : isBytes l) (hl : l.length ≤ 100000) (hk : 16 * l.length + 400 ≤ k) : gantletref04_Decode.f k l most = some (decL most (bytesBits l) 0 0 []) := by
  have hk2 : 300 + 2 * (8 * l.length) + 1 ≤ k := by omega
  have hr : gantletref04_Decode.f (300 + 2 * (8 * l.length) + 1) l most = some (decL most (bytesBits l) 0 0 []) := by
    unfold gantletref04_Decode.f gantletref04_lengths.f gantletref04_Codes.f
    have h := dec_l0 l most hb hl 300 (by decide) (8 * l.length) 0 0 0 [] (by omega) open_start (Nat.le_refl _)
    rw [List.drop_zero, bitsL_is l hb, show decide (0 = 2 ^ 0 - 1) = true from rfl, show ((0 : Nat) : Int) = 0 from rfl] at h
    rw [Option.bind_some, Option.bind_some]
    exact h
  exact at_rounds (fun k => gantletref04_Decode.mono l most k) hk2 hr
end Go.Proofs.YtlbjhbanfpnogaaDoor.Pure
