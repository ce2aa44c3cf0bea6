/-
  What an item is as bytes, as the reference has it, as plain functions.
  Conditions: enough rounds; bytes are 0 to 255.
-/
import Derived.Test.YtlbjhbanfpnogaaDoorPureItemA
import Derived.Test.YtlbjhbanfpnogaaDoorQJ5
import Derived.Test.YtlbjhbanfpnogaaDoorQJ6
import Derived.Test.YtlbjhbanfpnogaaDoorQJ7
import Derived.OpenShut
namespace Go.Proofs.YtlbjhbanfpnogaaDoor.Pure
open Go Go.RowKit Go.Proofs.YtlbjhbanfpnogaaDoor.QH Go.Proofs.YtlbjhbanfpnogaaDoor.QI Go.Proofs.YtlbjhbanfpnogaaDoor.QJ Go.Proofs.YtlbjhbanfpnogaaDoor.PrefixPure Go.Proofs.YtlbjhbanfpnogaaDoorW.PrintWords Go.Proofs.YtlbjhbanfpnogaaDoorW.PrintLast
set_option linter.unusedVariables false
theorem rright_j0 (k : Nat) (x0 x1 : Int) (s2 s3 : ByteArray) (h1 : ¬ x1 < 0) (h2 : ¬ x1 > 16777215) (h3 : ¬ (s2.size : Int) > 65536) (h4 : ¬ (s3.size : Int) > 65536) : gantletref08_Right.j0 (k + 2) false x0 x1 s2 s3 = some (rightB x0 x1 s2 s3) := by
  rw [gantletref08_Right.j0, if_neg (by decide)]
  unfold rightB
  rw [if_neg (show ¬ (x1 < 0 ∨ x1 > 16777215 ∨ (s2.size : Int) > 65536 ∨ (s3.size : Int) > 65536) by omega)]
  by_cases a : x0 = 0
  · rw [if_pos a, if_pos a]
    by_cases b : x1 > 0
    · rw [if_pos (show x1 ≥ 1 by omega), if_pos (show x1 ≥ 1 by omega)]; split <;> rfl
    · rw [if_neg (show ¬ x1 ≥ 1 by omega), if_neg (show ¬ x1 ≥ 1 by omega)]
  · rw [if_neg a, if_neg a]
    have hy : ∀ q : Bool, q = decide (1 ≤ x0 ∧ x0 ≤ 3) → gantletref08_Right.j1 (k + 1) x0 q x0 x1 s2 s3 = some (if x0 = 4 then (if s2.toList = ([] : List UInt8) then (s3.toList == ([] : List UInt8)) else false) else (if 1 ≤ x0 ∧ x0 ≤ 3 then (if x1 = 0 then true else (s2.toList == ([] : List UInt8))) else false)) := fun q hq => by
      rw [gantletref08_Right.j1, hq]
      by_cases c : 1 ≤ x0 ∧ x0 ≤ 3
      · rw [decide_eq_true c, if_pos rfl, if_neg (show ¬ x0 = 4 by omega), if_pos c]; split <;> rfl
      · rw [decide_eq_false c, if_neg (by decide), if_neg c]
        by_cases b : x0 = 4
        · rw [if_pos b, if_pos b]; split <;> rfl
        · rw [if_neg b, if_neg b]
    by_cases b1 : x0 = 1
    · rw [if_pos b1]; exact hy _ (by subst b1; rfl)
    · rw [if_neg b1]
      by_cases b2 : x0 = 2
      · rw [if_pos b2]; exact hy _ (by subst b2; rfl)
      · rw [if_neg b2]
        refine hy _ ?_
        by_cases b3 : x0 = 3
        · subst b3; rfl
        · rw [decide_eq_false (by omega)]; simpa using b3
theorem rrightE {k : Nat} (hk : 10 ≤ k) (x0 x1 : Int) (s2 s3 : ByteArray) : gantletref08_Right.f k x0 x1 s2 s3 = some (rightB x0 x1 s2 s3) := by
  obtain ⟨k, rfl⟩ : ∃ q, k = q + 2 := ⟨k - 2, by omega⟩
  have hf : ∀ y : Bool, y = true → gantletref08_Right.j0 (k + 2) y x0 x1 s2 s3 = some false := fun y hy => by rw [gantletref08_Right.j0, if_pos hy]
  have hz : (x1 < 0 ∨ x1 > 16777215 ∨ (s2.size : Int) > 65536 ∨ (s3.size : Int) > 65536) → rightB x0 x1 s2 s3 = false := fun h => by unfold rightB; rw [if_pos h]
  unfold gantletref08_Right.f
  by_cases h1 : x1 < 0
  · rw [if_pos h1, hf _ rfl, hz (by omega)]
  · rw [if_neg h1]
    by_cases h2 : x1 > 16777215
    · rw [if_pos h2, hf _ rfl, hz (by omega)]
    · rw [if_neg h2]
      by_cases h3 : (s2.size : Int) > 65536
      · rw [if_pos h3, hf _ rfl, hz (by omega)]
      · rw [if_neg h3]
        by_cases h4 : (s3.size : Int) > 65536
        · rw [decide_eq_true h4, hf _ rfl, hz (by omega)]
        · rw [decide_eq_false h4]; exact rright_j0 k x0 x1 s2 s3 h1 h2 h3 h4
theorem bitsE {x0 : Int} (h0 : 0 ≤ x0) (h1 : x0 < 5) : gantletref08_bits.f x0 = some (shB x0.toNat : Int) ∧ gantletref08_above.f x0 = some (shA x0.toNat : Int) := by
  rcases (by omega : x0 = 0 ∨ x0 = 1 ∨ x0 = 2 ∨ x0 = 3 ∨ x0 = 4) with rfl | rfl | rfl | rfl | rfl <;> exact ⟨rfl, rfl⟩
theorem ritemEE {k : Nat} (x0 x1 : Int) (s2 s3 : ByteArray) (hk : 40 * s2.size + 40 * s3.size + 2000 ≤ k) : gantletref08_Encode.f k x0 x1 s2 s3 = some (if rightB x0 x1 s2 s3 = true then (itemE x0 x1 s2 s3, 0) else ([], 1)) := by
  obtain ⟨k, rfl⟩ : ∃ q, k = q + 1 := ⟨k - 1, by omega⟩
  unfold gantletref08_Encode.f
  rw [rrightE (by omega)]
  simp only [Option.bind_some]
  by_cases h : rightB x0 x1 s2 s3 = true
  · obtain ⟨h0, h1, h2, h3, h4, h5⟩ := right_in h
    have hl := enc_length x1 (shB x0.toNat : Int) (shA x0.toNat : Int)
    have l2 := lit_len2 (shq s2) s2 h4
    have l3 := lit_len2 (shq s3) s3 h5
    rw [if_pos h, if_pos h, (bitsE h0 h1).1, (bitsE h0 h1).2]
    simp only [Option.bind_some]
    rw [rencE (by omega), if_pos (item_ok h)]
    simp only [Option.bind_some]
    unfold itemE
    by_cases c : 1 ≤ x0 ∧ x0 ≤ 3
    · rw [if_neg (by omega), gantletref08_Encode.j0, if_neg (by simp; omega), if_pos c]
      by_cases d : x1 = 0
      · rw [if_pos d, if_pos d, rshortE s2 h4 (by omega)]
        simp only [Option.bind_some]
        rw [if_pos (by omega), rshortE s3 h5 (by omega)]
        simp only [Option.bind_some]
        rw [if_pos (by rw [List.length_append]; omega)]
      · rw [if_neg d, if_neg d, rshortE s3 h5 (by omega)]
        simp only [Option.bind_some]
        rw [if_pos (by omega)]
    · rw [if_neg c]
      by_cases e : x0 = 0
      · rw [if_pos e, gantletref08_Encode.j0, if_pos rfl]
      · rw [if_neg e, gantletref08_Encode.j0, if_pos (by simp; omega)]
  · rw [if_neg h, if_neg h]
theorem rkindE {c : Int} (h0 : 0 ≤ c) (h1 : c < 256) : gantletref08_kind.f c = some (kdN c.toNat : Int) := by
  unfold gantletref08_kind.f kdN
  by_cases a : c ≥ 128
  · rw [if_pos a, if_pos (show 128 ≤ c.toNat by omega)]; rfl
  · rw [if_neg a, if_neg (show ¬ 128 ≤ c.toNat by omega)]
    by_cases b : c ≥ 64
    · rw [if_pos b, if_pos (show 64 ≤ c.toNat by omega)]; rfl
    · rw [if_neg b, if_neg (show ¬ 64 ≤ c.toNat by omega)]
      by_cases d : c ≥ 32
      · rw [if_pos d, if_pos (show 32 ≤ c.toNat by omega)]; rfl
      · rw [if_neg d, if_neg (show ¬ 32 ≤ c.toNat by omega)]
        by_cases e : c ≥ 16
        · rw [if_pos e, if_pos (show 16 ≤ c.toNat by omega)]; rfl
        · rw [if_neg e, if_neg (show ¬ 16 ≤ c.toNat by omega)]; rfl
theorem mn_is (most : Int) : mn most 65536 = itBound most := by unfold mn itBound; (repeat' split) <;> omega
theorem rlast {k : Nat} {l : List Int} (hb : Bytes l) (hl : l.length ≤ 100000) (hk : 16 * l.length + 1000 ≤ k) (most kk n : Int) (nm : ByteArray) (q : Int) (h0 : 0 ≤ q) (h1 : q ≤ l.length) :
    ((gantletref05_Decode.f k (l.drop q.toNat) (mn most 65536)).bind fun bt => (if bt.2.2 = 0 then (some (kk, n, nm, bt.1, wrap64 (q + bt.2.1), 0)) else (some (0, 0, (⟨#[]⟩ : ByteArray), (⟨#[]⟩ : ByteArray), 0, bt.2.2)))) = some (lastD l (itBound most) kk n nm q) := by
  have hr := litD_range (hb.drop q.toNat) (itBound most)
  rw [List.length_drop] at hr
  rw [mn_is, rlitDE _ _ (hb.drop _) (by rw [List.length_drop]; omega) (by rw [List.length_drop]; omega)]
  simp only [Option.bind_some]
  unfold lastD
  by_cases he : (litD (l.drop q.toNat) (itBound most)).2.2 = 0
  · rw [if_pos he, if_pos he, wr (by omega) (by omega)]
  · rw [if_neg he, if_neg he]; rfl
theorem ritemDE {k : Nat} {l : List Int} (hb : Bytes l) (hl : l.length ≤ 100000) (hk : 16 * l.length + 2000 ≤ k) (most : Int) : gantletref08_Decode.f k l most = some (itemD l most) := by
  obtain ⟨k, rfl⟩ : ∃ q, k = q + 2 := ⟨k - 2, by omega⟩
  unfold gantletref08_Decode.f itemD
  by_cases h0 : l.length = 0
  · rw [if_pos (by omega), if_pos h0]; rfl
  · have hby := rd_byte hb (i := 0) (by omega) (by omega)
    have hk5 : kOf l < 5 := kdN_lt _
    rw [if_neg (by omega), if_neg h0, if_pos (by omega), rkindE hby.1 hby.2, show ((kdN (rd l 0).toNat : Nat) : Int) = (kOf l : Int) from rfl]
    simp only [Option.bind_some]
    rw [(bitsE (by omega) (by omega)).1, Int.toNat_natCast]
    simp only [Option.bind_some]
    rw [rdecE (by omega) l hb]
    simp only [Option.bind_some]
    obtain ⟨⟨n, q, e⟩, hd⟩ : ∃ x, dec l (shB (kOf l) : Int) = x := ⟨_, rfl⟩
    rw [hd]
    generalize kOf l = kk at *
    simp only []
    unfold itemK
    by_cases he : e = 0
    · subst he
      obtain ⟨h1, h2, h3, h4⟩ := dec_rangeB (shB_in kk) hb hd
      rw [if_pos rfl, if_pos rfl]
      have main : ∀ y : Bool, y = decide (kk = 0 ∧ n = 0) → gantletref08_Decode.j0 (k + 2) l most (kk : Int) n q y = some (if kk = 0 ∧ n = 0 then errD 3 else (if 1 ≤ kk ∧ kk ≤ 3 then textD l (itBound most) kk n q else ((kk : Int), n, ⟨#[]⟩, ⟨#[]⟩, q, 0))) := fun y hy => by
        rw [gantletref08_Decode.j0, hy]
        by_cases hz : kk = 0 ∧ n = 0
        · rw [decide_eq_true hz, if_pos rfl, if_pos hz]; rfl
        · rw [decide_eq_false hz, if_neg (by decide), if_neg hz]
          by_cases ht : 1 ≤ kk ∧ kk ≤ 3
          · have e4 : ((kk : Int) == 4) = false := beq_eq_false_iff_ne.mpr (by omega)
            rw [if_neg (by omega), e4, gantletref08_Decode.j1, if_neg (by decide), if_pos ht]
            unfold textD
            by_cases hn : n = 0
            · have hr := litD_range (hb.drop q.toNat) (itBound most)
              rw [List.length_drop] at hr
              rw [if_pos hn, if_pos hn, if_pos (by omega), if_pos h4, mn_is, rlitDE _ _ (hb.drop _) (by rw [List.length_drop]; omega) (by rw [List.length_drop]; omega)]
              simp only [Option.bind_some]
              by_cases ha : (litD (l.drop q.toNat) (itBound most)).2.2 = 0
              · rw [if_pos ha, if_pos ha, wr (x := q + (litD (l.drop q.toNat) (itBound most)).2.1) (by omega) (by omega), if_pos (by omega), if_pos (by omega), ← mn_is]
                exact rlast hb hl (by omega) most kk n _ _ (by rw [mn_is]; omega) (by rw [mn_is]; omega)
              · rw [if_neg ha, if_neg ha]; rfl
            · rw [if_neg hn, if_neg hn, if_pos (by omega), if_pos h4]
              exact rlast hb hl (by omega) most kk n _ _ (by omega) h4
          · rw [if_neg ht]
            by_cases h00 : kk = 0
            · rw [if_pos (by omega), gantletref08_Decode.j1, if_pos rfl]
            · have e4 : ((kk : Int) == 4) = true := beq_iff_eq.mpr (by omega)
              rw [if_neg (by omega), e4, gantletref08_Decode.j1, if_pos rfl]
      by_cases h00 : (kk : Int) = 0
      · rw [if_pos h00]
        exact main _ (by by_cases hn : n = 0 <;> simp [hn] <;> omega)
      · rw [if_neg h00]
        exact main _ (by rw [decide_eq_false (by omega)])
    · rw [if_neg he, if_neg he]; rfl
end Go.Proofs.YtlbjhbanfpnogaaDoor.Pure
