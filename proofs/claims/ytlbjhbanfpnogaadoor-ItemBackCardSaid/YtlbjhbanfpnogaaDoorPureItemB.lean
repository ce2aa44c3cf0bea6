/-
  What an item's bytes are read back as, whole and cut short.
  Conditions: none; plain lemmas over lists.
-/
import Derived.Test.YtlbjhbanfpnogaaDoorPureItemA
import Derived.OpenShut
namespace Go.Proofs.YtlbjhbanfpnogaaDoor.Pure
open Go Go.RowKit Go.Proofs.YtlbjhbanfpnogaaDoor.QH Go.Proofs.YtlbjhbanfpnogaaDoor.QI Go.Proofs.YtlbjhbanfpnogaaDoor.QJ Go.Proofs.YtlbjhbanfpnogaaDoor.PrefixPure Go.Proofs.YtlbjhbanfpnogaaDoorW.PrintWords Go.Proofs.YtlbjhbanfpnogaaDoorW.PrintLast
set_option linter.unusedVariables false
theorem bitsT_append : ∀ a b : List Int, bitsT (a ++ b) = bitsT a ++ bitsT b
  | [], b => rfl
  | x :: a, b => by rw [List.cons_append, bitsT, bitsT, bitsT_append a b, List.append_assoc]
/-- A bound that is less than the text. -/
theorem dec_full {b : List Int} (hb : isBytes b) (most : Int) (h0 : 0 ≤ most) (h1 : most < b.length) (bs : List Nat) : decL most (bitsT b ++ bs) 0 0 [] = ([], 4) := by
  have e := List.take_append_drop most.toNat b
  have hd : b.drop most.toNat = b[most.toNat]'(by omega) :: b.drop (most.toNat + 1) := List.drop_eq_getElem_cons (by omega)
  have hlt : (b.take most.toNat).length = most.toNat := by rw [List.length_take]; omega
  have hc := hb _ (List.getElem_mem (l := b) (n := most.toNat) (by omega))
  rw [← e, hd, bitsT_append, List.append_assoc, dec_text most _ (b.take most.toNat) [] (fun x hx => hb x (List.mem_of_mem_take hx)) (by rw [hlt]; simp; omega), bitsT, List.append_assoc, dec_one most _ (by omega)]
  unfold afterC
  rw [if_neg (by omega), if_pos (by rw [List.nil_append, hlt]; omega)]
theorem enc_first (n : Int) (q : Bool) (h0 : 0 ≤ n) (r : List Int) : (rd (enc n 7 (hi q) ++ r) 0 < 128) = (q = false) := by
  have hp := p27
  unfold enc rd
  cases q with
  | false =>
    have : hi false = 0 := rfl
    by_cases h : n < p2 7 - 1
    · rw [if_pos h]; simp; omega
    · rw [if_neg h]; simp; omega
  | true =>
    have : hi true = 128 := rfl
    by_cases h : n < p2 7 - 1
    · rw [if_pos h]; simp; omega
    · rw [if_neg h]; simp; omega
theorem lit_dec (q : Bool) (s : ByteArray) (hs : s.size ≤ 65536) (r : List Int) : dec (lit q s ++ r) 7 = (((own q s).length : Int), ((enc ((own q s).length : Int) 7 (hi q)).length : Int), 0) := by
  unfold lit
  rw [List.append_assoc]
  exact dec_enc (own_ok q s hs) _
theorem cut_own (a b r : List Int) : ((a ++ b ++ r).take ((a.length : Int) + (b.length : Int)).toNat).drop ((a.length : Int)).toNat = b := by
  rw [show ((a.length : Int) + (b.length : Int)).toNat = a.length + b.length by omega, Int.toNat_natCast, List.append_assoc, List.take_append, List.take_of_length_le (by omega)]
  rw [show a.length + b.length - a.length = b.length by omega, List.drop_append, List.drop_length, Nat.sub_self, List.nil_append, List.drop_zero]
  simp
/-- Read back. -/
theorem back_all (q : Bool) (s : ByteArray) (hs : s.size ≤ 65536) (r : List Int) : litD (lit q s ++ r) (s.size : Int) = (s, ((lit q s).length : Int), 0) := by
  have hd := lit_dec q s hs r
  have hl := own_len q s hs
  unfold litD
  rw [hd, if_pos rfl]
  unfold litT
  have hlen : (lit q s ++ r).length = (enc ((own q s).length : Int) 7 (hi q)).length + (own q s).length + r.length := by unfold lit; simp [Nat.add_assoc]
  have hlit : (lit q s).length = (enc ((own q s).length : Int) 7 (hi q)).length + (own q s).length := by unfold lit; simp
  have hf : (rd (lit q s ++ r) 0 < 128) = (q = false) := by unfold lit; rw [List.append_assoc]; exact enc_first _ q (by omega) _
  have hcut := cut_own (enc ((own q s).length : Int) 7 (hi q)) (own q s) r
  rw [show (enc ((own q s).length : Int) 7 (hi q)) ++ own q s ++ r = lit q s ++ r from rfl] at hcut
  simp only []
  rw [if_neg (by rw [hlen]; omega), hcut]
  cases q with
  | false =>
    have e : own false s = sb s := if_neg (by decide)
    rw [if_pos (by rw [hf])]
    rw [e, sb_len] at hlit ⊢
    rw [if_neg (by unfold mx; omega), sb_str]
    simp only [Prod.mk.injEq, true_and, and_true]
    omega
  | true =>
    have e : own true s = encO (sb s) [] 0 0 := if_pos rfl
    rw [if_neg (by rw [hf]; decide), e, back_dec (sb_bytes s) _ (by rw [sb_len]; omega), if_pos rfl, sb_str]
    rw [e] at hlit
    simp only [Prod.mk.injEq, true_and, and_true]
    omega
/-- Cut short. -/
theorem back_short (q : Bool) (s : ByteArray) (hs : s.size ≤ 65536) (j : Nat) (hj : j < (lit q s).length) (most : Int) : litD ((lit q s).take j) most = (⟨#[]⟩, 0, 2) := by
  have hok := own_ok q s hs
  have hlit : (lit q s).length = (enc ((own q s).length : Int) 7 (hi q)).length + (own q s).length := by unfold lit; simp
  rcases Nat.lt_or_ge j (enc ((own q s).length : Int) 7 (hi q)).length with h | h
  · have e : (lit q s).take j = (enc ((own q s).length : Int) 7 (hi q)).take j := by unfold lit; rw [List.take_append_of_le_length (by omega)]
    unfold litD
    rw [e, dec_short hok j h]
    rfl
  · have e : (lit q s).take j = enc ((own q s).length : Int) 7 (hi q) ++ (own q s).take (j - (enc ((own q s).length : Int) 7 (hi q)).length) := by unfold lit; rw [List.take_append, List.take_of_length_le h]
    have hlen : ((lit q s).take j).length = j := by rw [List.length_take]; omega
    unfold litD
    rw [e, dec_enc hok, if_pos rfl]
    unfold litT
    rw [← e, hlen, if_pos (by simp only []; omega)]
/-- A bound that is less. -/
theorem back_full (q : Bool) (s : ByteArray) (hs : s.size ≤ 65536) (h1 : 1 ≤ s.size) : (litD (lit q s) ((s.size : Int) - 1)).2.2 = 4 := by
  have hd := lit_dec q s hs []
  have hl := own_len q s hs
  rw [List.append_nil] at hd
  unfold litD
  rw [hd, if_pos rfl]
  unfold litT
  have hlit : (lit q s).length = (enc ((own q s).length : Int) 7 (hi q)).length + (own q s).length := by unfold lit; simp
  have hf : (rd (lit q s) 0 < 128) = (q = false) := by unfold lit; exact enc_first _ q (by omega) _
  have hcut := cut_own (enc ((own q s).length : Int) 7 (hi q)) (own q s) []
  rw [List.append_nil, show (enc ((own q s).length : Int) 7 (hi q)) ++ own q s = lit q s from rfl] at hcut
  simp only []
  rw [if_neg (by rw [hlit]; omega), hcut]
  cases q with
  | false =>
    have e : own false s = sb s := if_neg (by decide)
    rw [if_pos (by rw [hf])]
    rw [e, sb_len]
    rw [if_pos (by unfold mx; split <;> omega)]
  | true =>
    have e : own true s = encO (sb s) [] 0 0 := if_pos rfl
    obtain ⟨_, p, _, h3⟩ := enc_bits (sb_bytes s)
    rw [if_neg (by rw [hf]; decide), e, h3, dec_full (sb_bytes s) _ (by omega) (by rw [sb_len]; omega)]
    rfl
/-! What an item's bytes are read back as: plain. -/
theorem back_most (q : Bool) (s : ByteArray) (hs : s.size ≤ 65536) (r : List Int) (most : Int) (hm : (s.size : Int) ≤ most) : litD (lit q s ++ r) most = (s, ((lit q s).length : Int), 0) := by
  have hd := lit_dec q s hs r
  have hl := own_len q s hs
  unfold litD
  rw [hd, if_pos rfl]
  unfold litT
  have hlen : (lit q s ++ r).length = (enc ((own q s).length : Int) 7 (hi q)).length + (own q s).length + r.length := by unfold lit; simp [Nat.add_assoc]
  have hlit : (lit q s).length = (enc ((own q s).length : Int) 7 (hi q)).length + (own q s).length := by unfold lit; simp
  have hf : (rd (lit q s ++ r) 0 < 128) = (q = false) := by unfold lit; rw [List.append_assoc]; exact enc_first _ q (by omega) _
  have hcut := cut_own (enc ((own q s).length : Int) 7 (hi q)) (own q s) r
  rw [show (enc ((own q s).length : Int) 7 (hi q)) ++ own q s ++ r = lit q s ++ r from rfl] at hcut
  simp only []
  rw [if_neg (by rw [hlen]; omega), hcut]
  cases q with
  | false =>
    have e : own false s = sb s := if_neg (by decide)
    rw [if_pos (by rw [hf])]
    rw [e, sb_len] at hlit ⊢
    rw [if_neg (by unfold mx; split <;> omega), sb_str]
    simp only [Prod.mk.injEq, true_and, and_true]
    omega
  | true =>
    have e : own true s = encO (sb s) [] 0 0 := if_pos rfl
    rw [if_neg (by rw [hf]; decide), e, back_dec (sb_bytes s) _ (by rw [sb_len]; omega), if_pos rfl, sb_str]
    rw [e] at hlit
    simp only [Prod.mk.injEq, true_and, and_true]
    omega
theorem enc_head (n : Int) (k : Nat) (hk : k < 5) (h0 : 0 ≤ n) (r : List Int) : kOf (enc n (shB k : Int) (shA k : Int) ++ r) = k := by
  have hp := p2_k k hk
  unfold kOf enc rd
  by_cases h : n < p2 (shB k : Int) - 1
  · rw [if_pos h]
    rw [hp] at h
    simp only [Int.toNat_zero, List.cons_append, List.getD_cons_zero]
    rcases (by omega : k = 0 ∨ k = 1 ∨ k = 2 ∨ k = 3 ∨ k = 4) with rfl | rfl | rfl | rfl | rfl <;> simp [shB, shA] at h ⊢ <;> unfold kdN <;> (repeat' split) <;> omega
  · rw [if_neg h, hp]
    simp only [Int.toNat_zero, List.cons_append, List.getD_cons_zero]
    rcases (by omega : k = 0 ∨ k = 1 ∨ k = 2 ∨ k = 3 ∨ k = 4) with rfl | rfl | rfl | rfl | rfl <;> decide
theorem toList_nil {s : ByteArray} (h : s.toList = []) : s = ⟨#[]⟩ := by
  have h2 : s.toList = s.data.toList := ByteArray.toList_eq s
  rw [h2] at h
  cases s with
  | mk d => congr 1; exact Array.toList_eq_nil_iff.1 h
theorem beq_nil {s : ByteArray} (h : (s.toList == ([] : List UInt8)) = true) : s = ⟨#[]⟩ := toList_nil (beq_iff_eq.1 h)
/-- What may be, by its kind. -/
theorem right_cases {x0 x1 : Int} {s2 s3 : ByteArray} (h : rightB x0 x1 s2 s3 = true) : (x0 = 0 ∧ 1 ≤ x1 ∧ s2 = ⟨#[]⟩ ∧ s3 = ⟨#[]⟩) ∨ (x0 = 4 ∧ s2 = ⟨#[]⟩ ∧ s3 = ⟨#[]⟩) ∨ ((1 ≤ x0 ∧ x0 ≤ 3) ∧ (x1 = 0 ∨ s2 = ⟨#[]⟩)) := by
  unfold rightB at h
  by_cases a : x1 < 0 ∨ x1 > 16777215 ∨ (s2.size : Int) > 65536 ∨ (s3.size : Int) > 65536
  · rw [if_pos a] at h; cases h
  · rw [if_neg a] at h
    by_cases b : x0 = 0
    · rw [if_pos b] at h
      by_cases c : x1 ≥ 1
      · rw [if_pos c] at h
        by_cases d : s2.toList = []
        · rw [if_pos d] at h; exact .inl ⟨b, c, toList_nil d, beq_nil h⟩
        · rw [if_neg d] at h; cases h
      · rw [if_neg c] at h; cases h
    · rw [if_neg b] at h
      by_cases c : x0 = 4
      · rw [if_pos c] at h
        by_cases d : s2.toList = []
        · rw [if_pos d] at h; exact .inr (.inl ⟨c, toList_nil d, beq_nil h⟩)
        · rw [if_neg d] at h; cases h
      · rw [if_neg c] at h
        by_cases d : 1 ≤ x0 ∧ x0 ≤ 3
        · rw [if_pos d] at h
          by_cases e : x1 = 0
          · exact .inr (.inr ⟨d, .inl e⟩)
          · rw [if_neg e] at h; exact .inr (.inr ⟨d, .inr (beq_nil h)⟩)
        · rw [if_neg d] at h; cases h
theorem drop_len (a r : List Int) : (a ++ r).drop ((a.length : Nat) : Int).toNat = r := by rw [Int.toNat_natCast, List.drop_left]
theorem drop_len2 (a b r : List Int) : (a ++ (b ++ r)).drop (((a.length : Nat) : Int) + ((b.length : Nat) : Int)).toNat = r := by
  rw [show (((a.length : Nat) : Int) + ((b.length : Nat) : Int)).toNat = (a ++ b).length by rw [List.length_append]; omega, ← List.append_assoc, List.drop_left]
/-- Read back, whatever is behind. -/
theorem item_back {x0 x1 : Int} {s2 s3 : ByteArray} (h : rightB x0 x1 s2 s3 = true) (h2 : s2.size ≤ 300) (h3 : s3.size ≤ 300) (r : List Int) : itemD (itemE x0 x1 s2 s3 ++ r) 300 = (x0, x1, s2, s3, ((itemE x0 x1 s2 s3).length : Int), 0) := by
  obtain ⟨b0, b1, b2, b3, b4, b5⟩ := right_in h
  have hok := item_ok h
  obtain ⟨kk, rfl⟩ : ∃ kk : Nat, x0 = (kk : Int) := ⟨x0.toNat, by omega⟩
  rw [Int.toNat_natCast] at hok
  have hl := enc_length x1 (shB kk : Int) (shA kk : Int)
  have hbd : itBound 300 = 300 := by decide
  have core : ∀ t : List Int, itemD (enc x1 (shB kk : Int) (shA kk : Int) ++ t) 300 = (if kk = 0 ∧ x1 = 0 then errD 3 else (if 1 ≤ kk ∧ kk ≤ 3 then textD (enc x1 (shB kk : Int) (shA kk : Int) ++ t) 300 kk x1 ((enc x1 (shB kk : Int) (shA kk : Int)).length : Int) else ((kk : Int), x1, ⟨#[]⟩, ⟨#[]⟩, ((enc x1 (shB kk : Int) (shA kk : Int)).length : Int), 0))) := fun t => by
    unfold itemD
    rw [if_neg (by rw [List.length_append]; omega), enc_head x1 kk (by omega) b2 t, dec_enc hok t]
    unfold itemK
    rw [if_pos rfl, hbd]
  unfold itemE
  rw [Int.toNat_natCast]
  rcases right_cases h with ⟨c0, c1, rfl, rfl⟩ | ⟨c0, rfl, rfl⟩ | ⟨c0, c1⟩
  · rw [if_neg (by omega), core r, if_neg (by omega), if_neg (by omega)]
  · rw [if_neg (by omega), core r, if_neg (by omega), if_neg (by omega)]
  · rw [if_pos c0]
    by_cases d : x1 = 0
    · rw [if_pos d, List.append_assoc, List.append_assoc, core, if_neg (by omega), if_pos (by omega)]
      unfold textD
      rw [if_pos d, drop_len, back_most _ _ b4 _ 300 (by omega), if_pos rfl]
      unfold lastD
      simp only []
      rw [drop_len2, back_most _ _ b5 _ 300 (by omega), if_pos rfl]
      simp only [List.length_append, Prod.mk.injEq, true_and, and_true]
      omega
    · have e2 : s2 = ⟨#[]⟩ := c1.resolve_left d
      rw [if_neg d, List.append_assoc, core, if_neg (by omega), if_pos (by omega)]
      unfold textD
      rw [if_neg d]
      unfold lastD
      rw [drop_len, back_most _ _ b5 _ 300 (by omega), if_pos rfl]
      simp only [List.length_append, Prod.mk.injEq, true_and, and_true, e2]
      omega
theorem take_split (a b : List Int) (j : Nat) : (a ++ b).take j = if j ≤ a.length then a.take j else a ++ b.take (j - a.length) := by
  by_cases h : j ≤ a.length
  · rw [if_pos h, List.take_append_of_le_length h]
  · rw [if_neg h, List.take_append, List.take_of_length_le (by omega)]
theorem kOf_take {l : List Int} {j : Nat} (h : 0 < j) (hl : 0 < l.length) : kOf (l.take j) = kOf l := by
  unfold kOf rd
  cases l with
  | nil => simp at hl
  | cons c l =>
    obtain ⟨j, rfl⟩ : ∃ m, j = m + 1 := ⟨j - 1, by omega⟩
    rfl
/-- Cut short. -/
theorem item_short {x0 x1 : Int} {s2 s3 : ByteArray} (h : rightB x0 x1 s2 s3 = true) (h2 : s2.size ≤ 300) (h3 : s3.size ≤ 300) (j : Nat) (hj : j < (itemE x0 x1 s2 s3).length) : (itemD ((itemE x0 x1 s2 s3).take j) 300).2.2.2.2.2 = 2 := by
  obtain ⟨b0, b1, b2, b3, b4, b5⟩ := right_in h
  have hok := item_ok h
  obtain ⟨kk, rfl⟩ : ∃ kk : Nat, x0 = (kk : Int) := ⟨x0.toNat, by omega⟩
  rw [Int.toNat_natCast] at hok
  have hl := enc_length x1 (shB kk : Int) (shA kk : Int)
  have hbd : itBound 300 = 300 := by decide
  obtain ⟨E, hE⟩ : ∃ E, enc x1 (shB kk : Int) (shA kk : Int) = E := ⟨_, rfl⟩
  have short : ∀ t : List Int, j < E.length → (itemD ((E ++ t).take j) 300).2.2.2.2.2 = 2 := fun t hjt => by
    unfold itemD
    by_cases hj0 : j = 0
    · subst hj0
      rw [if_pos (by simp)]
      rfl
    · have hk : kOf ((E ++ t).take j) = kk := by rw [kOf_take (by omega) (by rw [List.length_append]; omega), ← hE]; exact enc_head x1 kk (by omega) b2 t
      rw [if_neg (by rw [List.length_take, List.length_append]; omega), hk, take_split, if_pos (by omega), ← hE, dec_short hok j (by rw [hE]; exact hjt)]
      rfl
  have core : ∀ t : List Int, itemD (E ++ t) 300 = (if kk = 0 ∧ x1 = 0 then errD 3 else (if 1 ≤ kk ∧ kk ≤ 3 then textD (E ++ t) 300 kk x1 (E.length : Int) else ((kk : Int), x1, ⟨#[]⟩, ⟨#[]⟩, (E.length : Int), 0))) := fun t => by
    rw [← hE]
    unfold itemD
    rw [if_neg (by rw [List.length_append]; omega), enc_head x1 kk (by omega) b2 t, dec_enc hok t]
    unfold itemK
    rw [if_pos rfl, hbd]
  unfold itemE at hj ⊢
  rw [Int.toNat_natCast, hE] at hj ⊢
  rw [hE] at hl
  by_cases c0 : 1 ≤ (kk : Int) ∧ (kk : Int) ≤ 3
  · rw [if_pos c0] at hj ⊢
    by_cases d : x1 = 0
    · rw [if_pos d] at hj ⊢
      rw [List.append_assoc] at hj ⊢
      by_cases hjE : j < E.length
      · exact short _ hjE
      · have e1 : (E ++ (lit (shq s2) s2 ++ lit (shq s3) s3)).take j = E ++ (lit (shq s2) s2 ++ lit (shq s3) s3).take (j - E.length) := by
          rw [List.take_append, List.take_of_length_le (by omega)]
        rw [e1, core, if_neg (by omega), if_pos (by omega)]
        unfold textD
        rw [if_pos d, drop_len, take_split]
        by_cases hj2 : j - E.length < (lit (shq s2) s2).length
        · rw [if_pos (show j - E.length ≤ (lit (shq s2) s2).length by omega), back_short _ _ b4 _ hj2, if_neg (by decide)]
          rfl
        · have e2 : (if j - E.length ≤ (lit (shq s2) s2).length then (lit (shq s2) s2).take (j - E.length) else lit (shq s2) s2 ++ (lit (shq s3) s3).take (j - E.length - (lit (shq s2) s2).length)) = lit (shq s2) s2 ++ (lit (shq s3) s3).take (j - E.length - (lit (shq s2) s2).length) := by
            by_cases he : j - E.length ≤ (lit (shq s2) s2).length
            · rw [if_pos he, List.take_of_length_le (by omega), show j - E.length - (lit (shq s2) s2).length = 0 by omega, List.take_zero, List.append_nil]
            · rw [if_neg he]
          rw [e2, back_most _ _ b4 _ 300 (by omega), if_pos rfl]
          unfold lastD
          simp only []
          simp only [List.length_append] at hj
          rw [drop_len2, back_short _ _ b5 _ (by omega), if_neg (by decide)]
          rfl
    · rw [if_neg d] at hj ⊢
      by_cases hjE : j < E.length
      · exact short _ hjE
      · have e1 : (E ++ lit (shq s3) s3).take j = E ++ (lit (shq s3) s3).take (j - E.length) := by
          rw [List.take_append, List.take_of_length_le (by omega)]
        simp only [List.length_append] at hj
        rw [e1, core, if_neg (by omega), if_pos (by omega)]
        unfold textD
        rw [if_neg d]
        unfold lastD
        rw [drop_len, back_short _ _ b5 _ (by omega), if_neg (by decide)]
        rfl
  · rw [if_neg c0] at hj ⊢
    have := short [] hj
    rwa [List.append_nil] at this
end Go.Proofs.YtlbjhbanfpnogaaDoor.Pure
