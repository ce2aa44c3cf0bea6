/-
  What a text is as bytes (package literal, and its reference), as plain functions.
  Conditions: enough rounds; bytes are 0 to 255.
-/
import Derived.Test.YtlbjhbanfpnogaaDoorMG
import Derived.Test.YtlbjhbanfpnogaaDoorPurePrefixI
import Derived.Test.YtlbjhbanfpnogaaDoorQI3
import Derived.OpenShut
namespace Go.Proofs.YtlbjhbanfpnogaaDoor.Pure
open Go Go.RowKit Go.Proofs.YtlbjhbanfpnogaaDoor.QH Go.Proofs.YtlbjhbanfpnogaaDoor.QI Go.Proofs.YtlbjhbanfpnogaaDoor.PrefixPure Go.Proofs.YtlbjhbanfpnogaaDoorW.PrintWords Go.Proofs.YtlbjhbanfpnogaaDoorW.PrintLast
set_option linter.unusedVariables false
theorem go_range : ∀ (r : Nat) (l : List Int) (n t i m q : Int), Bytes l → 0 ≤ n → 1 ≤ t → go r l n t i = (m, q, 0) → 0 ≤ m ∧ m ≤ 16777215 ∧ i < q ∧ q ≤ i + l.length
  | 0, l, n, t, i, m, q, _, _, _, h => by simp [go] at h
  | r + 1, [], n, t, i, m, q, _, _, _, h => by simp [go] at h
  | r + 1, c :: l, n, t, i, m, q, hb, hn, ht, h => by
    have hc := hb.head
    have hp : 0 ≤ t * (c % 128) := Int.mul_nonneg (by omega) (by omega)
    unfold go at h
    by_cases h1 : n + t * (c % 128) > 16777215
    · rw [if_pos h1] at h; simp at h
    · rw [if_neg h1] at h
      by_cases h2 : c ≥ 128
      · rw [if_pos h2] at h
        have := go_range r l _ _ _ m q hb.tail (by omega) (by omega) h
        simp only [List.length_cons]
        omega
      · rw [if_neg h2] at h
        simp only [Prod.mk.injEq, and_true] at h
        simp only [List.length_cons]
        omega
theorem p27 : p2 7 = 128 := by decide
theorem dec_range {l : List Int} {n q : Int} (hb : Bytes l) (h : dec l 7 = (n, q, 0)) : 0 ≤ n ∧ n ≤ 16777215 ∧ 1 ≤ q ∧ q ≤ l.length := by
  unfold dec at h
  rw [if_pos (by omega), p27] at h
  cases l with
  | nil => simp at h
  | cons c l =>
    have hc := hb.head
    simp only [] at h
    by_cases h1 : c % 128 < 128 - 1
    · rw [if_pos h1] at h
      simp only [Prod.mk.injEq, and_true] at h
      simp only [List.length_cons]
      omega
    · rw [if_neg h1] at h
      have := go_range 4 l _ _ _ n q hb.tail (by omega) (by omega) h
      simp only [List.length_cons]
      omega
/-- The text that bytes begin with. -/
def litT (l : List Int) (most n q : Int) : ByteArray × Int × Int :=
  if (l.length : Int) - q < n then (⟨#[]⟩, 0, 2) else if rd l 0 < 128 then (if n > mx most 0 then (⟨#[]⟩, 0, 4) else (strOfNums ((l.take (q + n).toNat).drop q.toNat), q + n, 0))
  else if (decL most (bytesBits ((l.take (q + n).toNat).drop q.toNat)) 0 0 []).2 = 0 then (strOfNums (decL most (bytesBits ((l.take (q + n).toNat).drop q.toNat)) 0 0 []).1, q + n, 0) else (⟨#[]⟩, 0, (decL most (bytesBits ((l.take (q + n).toNat).drop q.toNat)) 0 0 []).2)
def litD (l : List Int) (most : Int) : ByteArray × Int × Int := if (dec l 7).2.2 = 0 then litT l most (dec l 7).1 (dec l 7).2.1 else (⟨#[]⟩, 0, (dec l 7).2.2)
theorem isB {l : List Int} (h : Bytes l) : isBytes l := h
theorem litDE {k : Nat} (hk : 20 ≤ k) (l : List Int) (most : Int) (hb : Bytes l) (hl : l.length ≤ 1000000) : literal_Decode.f k l most = some (litD l most) := by
  unfold literal_Decode.f litD
  rw [decE hk l hb]
  simp only [Option.bind_some]
  obtain ⟨⟨n, q, e⟩, hd⟩ : ∃ x, dec l 7 = x := ⟨_, rfl⟩
  rw [hd]
  simp only []
  by_cases he : e = 0
  · subst he
    obtain ⟨h1, h2, h3, h4⟩ := dec_range hb hd
    rw [if_pos rfl, if_pos rfl]
    unfold litT
    rw [wr (x := (l.length : Int) - q) (by omega) (by omega), wr (x := q + n) (by omega) (by omega)]
    by_cases h5 : (l.length : Int) - q < n
    · rw [if_pos h5, if_pos h5]
    · rw [if_neg h5, if_neg h5, if_pos (by omega)]
      by_cases h6 : rd l 0 < 128
      · rw [if_pos h6, if_pos h6]
        by_cases h7 : n > mx most 0
        · rw [if_pos h7, if_pos h7]
        · rw [if_neg h7, if_neg h7, if_pos (by omega), if_pos (by omega), if_pos (by omega)]
      · rw [if_neg h6, if_neg h6, if_pos (by omega), if_pos (by omega), if_pos (by omega), decF (isB ((hb.take _).drop _)) (by rw [List.length_drop, List.length_take]; omega)]
        simp only [Option.bind_some]
        split <;> rfl
  · rw [if_neg he, if_neg he]
theorem rlitDE {k : Nat} (l : List Int) (most : Int) (hb : Bytes l) (hl : l.length ≤ 100000) (hk : 16 * l.length + 400 ≤ k) : gantletref05_Decode.f k l most = some (litD l most) := by
  unfold gantletref05_Decode.f litD
  rw [rdecE (by omega) l hb]
  simp only [Option.bind_some]
  obtain ⟨⟨n, q, e⟩, hd⟩ : ∃ x, dec l 7 = x := ⟨_, rfl⟩
  rw [hd]
  simp only []
  by_cases he : e = 0
  · subst he
    obtain ⟨h1, h2, h3, h4⟩ := dec_range hb hd
    rw [if_pos rfl, if_pos rfl]
    unfold litT
    rw [wr (x := (l.length : Int) - q) (by omega) (by omega), wr (x := q + n) (by omega) (by omega)]
    by_cases h5 : (l.length : Int) - q < n
    · rw [if_pos (by omega), if_pos h5]
    · rw [if_neg (by omega), if_neg h5, if_pos (by omega), if_pos (by omega), if_pos (by omega), if_pos (by omega)]
      have hlen : ((l.take (q + n).toNat).drop q.toNat).length ≤ l.length := by rw [List.length_drop, List.length_take]; omega
      by_cases h6 : rd l 0 < 128
      · rw [if_neg (by omega), if_pos h6]
        split <;> rfl
      · rw [if_pos (by omega), if_neg h6, decR most (isB ((hb.take _).drop _)) (by omega) (by omega)]
        simp only [Option.bind_some]
        split <;> rfl
  · rw [if_neg he, if_neg he]
/-- The bytes of a text. -/
def own (q : Bool) (s : ByteArray) : List Int := if q = true then encO (sb s) [] 0 0 else sb s
def hi (q : Bool) : Int := if q = true then 128 else 0
def lit (q : Bool) (s : ByteArray) : List Int := enc ((own q s).length : Int) 7 (hi q) ++ own q s
theorem own_len (q : Bool) (s : ByteArray) (hs : s.size ≤ 65536) : (own q s).length ≤ 4 * s.size + 1 := by
  unfold own
  cases q with
  | true =>
    rw [if_pos rfl, enc_len (sb_bytes s)]
    have := sumLn_le (sb s) (sb_bytes s)
    rw [sb_len] at this
    omega
  | false => rw [if_neg (by decide), sb_len]; omega
theorem own_bytes (q : Bool) (s : ByteArray) : isBytes (own q s) := by
  unfold own
  cases q with
  | true => rw [if_pos rfl]; exact (enc_bits (sb_bytes s)).1
  | false => rw [if_neg (by decide)]; exact sb_bytes s
theorem own_ok (q : Bool) (s : ByteArray) (hs : s.size ≤ 65536) : ok ((own q s).length : Int) 7 (hi q) := by
  have := own_len q s hs
  refine ⟨by omega, by omega, by omega, ?_, ?_, ?_⟩ <;> cases q <;> decide
theorem lit_bytes (q : Bool) (s : ByteArray) (hs : s.size ≤ 65536) : Bytes (lit q s) := (enc_bytes (own_ok q s hs)).append (own_bytes q s)
theorem lit_len (q : Bool) (s : ByteArray) : 1 ≤ (lit q s).length ∧ (lit q s).length ≤ (own q s).length + 6 := by
  have := enc_length ((own q s).length : Int) 7 (hi q)
  unfold lit
  rw [List.length_append]
  omega
theorem laidE {k : Nat} (hk : 20 ≤ k) (a : Int) (l : List Int) (hok : ok (l.length : Int) 7 a) : literal_laid.f k a l = some (enc (l.length : Int) 7 a ++ l) := by
  have := enc_length (l.length : Int) 7 a
  have h1 := hok.2.1
  unfold literal_laid.f
  rw [encE hk, if_pos hok]
  simp only [Option.bind_some]
  rw [if_pos (by omega)]
theorem litE {k : Nat} (hk : 20 ≤ k) (q : Bool) (s : ByteArray) (hs : s.size ≤ 65536) : literal_Encode.f k s q = some (lit q s, 0) := by
  have hok := own_ok q s hs
  unfold literal_Encode.f
  rw [if_neg (by omega)]
  cases q with
  | true =>
    have e : own true s = encO (sb s) [] 0 0 := if_pos rfl
    rw [if_pos rfl, encF (sb_bytes s) (by rw [sb_len]; omega)]
    simp only [Option.bind_some]
    rw [← e, show (128 : Int) = hi true from rfl, laidE hk _ _ hok]
    rfl
  | false =>
    have e : own false s = sb s := if_neg (by decide)
    rw [if_neg (by decide), ← e, show (0 : Int) = hi false from rfl, laidE hk _ _ hok]
    rfl
theorem rlitE {k : Nat} (q : Bool) (s : ByteArray) (hs : s.size ≤ 65536) (hk : 40 * s.size + 1000 ≤ k) : gantletref05_Encode.f k s q = some (lit q s, 0) := by
  have hok := own_ok q s hs
  have hl := own_len q s hs
  have hn := enc_length ((own q s).length : Int) 7 (hi q)
  unfold gantletref05_Encode.f
  rw [if_neg (by omega)]
  cases q with
  | true =>
    have e : own true s = encO (sb s) [] 0 0 := if_pos rfl
    rw [if_pos rfl, encR (sb_bytes s) (by rw [sb_len]; omega) (by rw [sb_len]; omega)]
    simp only [Option.bind_some]
    rw [← e, show (128 : Int) = hi true from rfl, rencE (by omega), if_pos hok]
    simp only [Option.bind_some]
    rw [if_pos (by omega)]
    rfl
  | false =>
    have e : own false s = sb s := if_neg (by decide)
    rw [if_neg (by decide), ← e, show (gantletref03_Encode.f k ((own false s).length : Int) 7 0) = (gantletref03_Encode.f k ((own false s).length : Int) 7 (hi false)) from rfl, rencE (by omega), if_pos hok]
    simp only [Option.bind_some]
    rw [if_pos (by omega)]
    rfl
/-- The shorter ones. -/
def shq (s : ByteArray) : Bool := decide (¬ (lit false s).length ≤ (lit true s).length)
theorem shortE {k : Nat} (hk : 20 ≤ k) (s : ByteArray) (hs : s.size ≤ 65536) : literal_Short.f k s = some (lit (shq s) s) := by
  unfold literal_Short.f
  rw [litE hk false s hs, litE hk true s hs]
  simp only [Option.bind_some]
  unfold shq
  by_cases h : (lit false s).length ≤ (lit true s).length
  · simp [h]
  · simp [h]
theorem rshortE {k : Nat} (s : ByteArray) (hs : s.size ≤ 65536) (hk : 40 * s.size + 1000 ≤ k) : gantletref05_Short.f k s = some (lit (shq s) s) := by
  unfold gantletref05_Short.f
  rw [rlitE false s hs hk, rlitE true s hs hk]
  simp only [Option.bind_some]
  unfold shq
  by_cases h : (lit false s).length ≤ (lit true s).length
  · simp [h]
  · simp [h]
end Go.Proofs.YtlbjhbanfpnogaaDoor.Pure
