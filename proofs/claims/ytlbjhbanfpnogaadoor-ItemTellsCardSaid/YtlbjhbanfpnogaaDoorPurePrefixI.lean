/-
  What a number in a part of a byte is (package prefix, and its reference), as plain functions.
  Conditions: enough rounds; bytes are 0 to 255.
-/
import Derived.Test.YtlbjhbanfpnogaaDoorQI3
import Derived.OpenShut
import Derived.Laws.BitsAllLaws
namespace Go.Proofs.YtlbjhbanfpnogaaDoor.PrefixPure
open Go Go.RowKit Go.Proofs.YtlbjhbanfpnogaaDoor.QH Go.Proofs.YtlbjhbanfpnogaaDoor.QI Go.Proofs.YtlbjhbanfpnogaaDoorW.PrintWords Go.Proofs.YtlbjhbanfpnogaaDoorW.PrintMore
set_option linter.unusedVariables false
theorem wr_in {a : Int} (h0 : -9223372036854775808 ≤ a) (h1 : a ≤ 9223372036854775807) : wrap64 a = a := by
  unfold wrap64; omega
def Bytes (l : List Int) : Prop := ∀ x ∈ l, 0 ≤ x ∧ x < 256
theorem wf_bytes {l : List Int} (h : ∀ x ∈ l, (Lit.int .u8 x).wf = true) : Bytes l := fun x hx => by
  have := bounds_u8 (h x hx); omega
theorem Bytes.drop {l : List Int} (h : Bytes l) (n : Nat) : Bytes (l.drop n) := fun x hx => h x (List.mem_of_mem_drop hx)
theorem Bytes.take {l : List Int} (h : Bytes l) (n : Nat) : Bytes (l.take n) := fun x hx => h x (List.mem_of_mem_take hx)
theorem Bytes.tail {a : Int} {l : List Int} (h : Bytes (a :: l)) : Bytes l := fun x hx => h x (List.mem_cons_of_mem _ hx)
theorem Bytes.head {a : Int} {l : List Int} (h : Bytes (a :: l)) : 0 ≤ a ∧ a < 256 := h a (by simp)
theorem Bytes.append {l m : List Int} (h : Bytes l) (h' : Bytes m) : Bytes (l ++ m) := fun x hx => by
  rcases List.mem_append.1 hx with hx | hx
  · exact h x hx
  · exact h' x hx
/-- 2, so many times. -/
def p2 (b : Int) : Int := 2 ^ b.toNat
theorem p2_cases {b : Int} (h : 1 ≤ b ∧ b ≤ 8) : (b = 1 ∧ p2 b = 2) ∨ (b = 2 ∧ p2 b = 4) ∨ (b = 3 ∧ p2 b = 8) ∨ (b = 4 ∧ p2 b = 16) ∨ (b = 5 ∧ p2 b = 32) ∨ (b = 6 ∧ p2 b = 64) ∨ (b = 7 ∧ p2 b = 128) ∨ (b = 8 ∧ p2 b = 256) := by
  have : b = 1 ∨ b = 2 ∨ b = 3 ∨ b = 4 ∨ b = 5 ∨ b = 6 ∨ b = 7 ∨ b = 8 := by omega
  rcases this with rfl | rfl | rfl | rfl | rfl | rfl | rfl | rfl <;> decide
theorem p2_pos {b : Int} (h : 1 ≤ b ∧ b ≤ 8) : 2 ≤ p2 b ∧ p2 b ≤ 256 := by
  have := p2_cases h; omega
theorem shl1 : shl .i64 1 1 = 2 := by kernel_rfl
theorem shl2 : shl .i64 1 2 = 4 := by kernel_rfl
theorem shl3 : shl .i64 1 3 = 8 := by kernel_rfl
theorem shl4 : shl .i64 1 4 = 16 := by kernel_rfl
theorem shl5 : shl .i64 1 5 = 32 := by kernel_rfl
theorem shl6 : shl .i64 1 6 = 64 := by kernel_rfl
theorem shl7 : shl .i64 1 7 = 128 := by kernel_rfl
theorem shl8 : shl .i64 1 8 = 256 := by kernel_rfl
theorem shl_p2 {b : Int} (h : 1 ≤ b ∧ b ≤ 8) : shl .i64 1 b = p2 b := by
  rcases p2_cases h with ⟨rfl, e⟩ | ⟨rfl, e⟩ | ⟨rfl, e⟩ | ⟨rfl, e⟩ | ⟨rfl, e⟩ | ⟨rfl, e⟩ | ⟨rfl, e⟩ | ⟨rfl, e⟩ <;> rw [e]
  · exact shl1
  · exact shl2
  · exact shl3
  · exact shl4
  · exact shl5
  · exact shl6
  · exact shl7
  · exact shl8
theorem right_eq (b : Int) : prefix_right.f b = some (decide (1 ≤ b ∧ b ≤ 8)) := by
  unfold prefix_right.f
  by_cases h : b ≥ 1
  · rw [if_pos h]; congr 1; simp; omega
  · rw [if_neg h]; congr 1; simp; omega
theorem pow1 (k : Nat) : gantletref03_power.f (k + 10) 1 = some 2 := by kernel_rfl
theorem pow2 (k : Nat) : gantletref03_power.f (k + 10) 2 = some 4 := by kernel_rfl
theorem pow3 (k : Nat) : gantletref03_power.f (k + 10) 3 = some 8 := by kernel_rfl
theorem pow4 (k : Nat) : gantletref03_power.f (k + 10) 4 = some 16 := by kernel_rfl
theorem pow5 (k : Nat) : gantletref03_power.f (k + 10) 5 = some 32 := by kernel_rfl
theorem pow6 (k : Nat) : gantletref03_power.f (k + 10) 6 = some 64 := by kernel_rfl
theorem pow7 (k : Nat) : gantletref03_power.f (k + 10) 7 = some 128 := by kernel_rfl
theorem pow8 (k : Nat) : gantletref03_power.f (k + 10) 8 = some 256 := by kernel_rfl
theorem power_eq {k : Nat} (hk : 10 ≤ k) {b : Int} (h : 1 ≤ b ∧ b ≤ 8) : gantletref03_power.f k b = some (p2 b) := by
  obtain ⟨m, rfl⟩ : ∃ m, k = m + 10 := ⟨k - 10, by omega⟩
  rcases p2_cases h with ⟨rfl, e⟩ | ⟨rfl, e⟩ | ⟨rfl, e⟩ | ⟨rfl, e⟩ | ⟨rfl, e⟩ | ⟨rfl, e⟩ | ⟨rfl, e⟩ | ⟨rfl, e⟩ <;> rw [e]
  · exact pow1 m
  · exact pow2 m
  · exact pow3 m
  · exact pow4 m
  · exact pow5 m
  · exact pow6 m
  · exact pow7 m
  · exact pow8 m
/-- The bytes behind the first one. -/
def more : Nat → Int → List Int
  | 0, _ => []
  | f + 1, x => if x ≥ 128 then (x % 128 + 128) :: more f (x / 128) else [x]
theorem more_length (f : Nat) : ∀ x, (more f x).length ≤ f := by
  induction f with
  | zero => intro x; simp [more]
  | succ f ih =>
    intro x
    simp only [more]
    have := ih (x / 128)
    split <;> simp <;> omega
theorem enc_loop (f : Nat) : ∀ (k : Nat) (x : Int) (out : List Int), 0 ≤ x → x < 128 ^ f → out.length + f < 1000 → f < k → 0 < f → f ≤ 8 →
    prefix_Encode.l0 k x out = some (out ++ more f x, 0) ∧ gantletref03_Encode.l0 k out x = some (out ++ more f x, 0) := by
  induction f with
  | zero => intro k x out h0 h1 h2 hk hf; omega
  | succ f ih =>
    intro k x out h0 h1 h2 hk hf h8
    obtain ⟨k, rfl⟩ : ∃ m, k = m + 1 := ⟨k - 1, by omega⟩
    have hx : x < 72057594037927936 := by
      have : f = 0 ∨ f = 1 ∨ f = 2 ∨ f = 3 ∨ f = 4 ∨ f = 5 ∨ f = 6 ∨ f = 7 := by omega
      rcases this with e | e | e | e | e | e | e | e <;> subst e <;> simp at h1 <;> omega
    simp only [prefix_Encode.l0, gantletref03_Encode.l0, more]
    by_cases h : x ≥ 128
    · have hf1 : 0 < f := by
        rcases Nat.eq_zero_or_pos f with e | e
        · subst e; simp at h1; omega
        · exact e
      have e1 : wrap64 (Int.tmod x 128 + 128) % 256 = x % 128 + 128 := by
        rw [Int.tmod_eq_emod_of_nonneg h0, wr_in (by omega) (by omega)]; omega
      have e2 : wrap64 (128 + Int.tmod x 128) % 256 = x % 128 + 128 := by
        rw [Int.tmod_eq_emod_of_nonneg h0, wr_in (by omega) (by omega)]; omega
      have e3 : wrap64 (Int.tdiv x 128) = x / 128 := by
        rw [Int.tdiv_eq_ediv_of_nonneg h0, wr_in (by omega) (by omega)]
      have hlt : x / 128 < 128 ^ f := by
        rw [Int.pow_succ] at h1
        omega
      have hh := ih k (x / 128) (out ++ [x % 128 + 128]) (by omega) hlt (by simp; omega) (by omega) hf1 (by omega)
      rw [List.append_assoc, List.singleton_append] at hh
      rw [if_pos h, if_pos h, if_pos h, if_pos (by omega), if_pos (by omega), e1, e2, e3]
      exact hh
    · rw [if_neg h, if_neg h, if_neg h, if_pos (by omega), show x % 256 = x by omega]
      exact ⟨rfl, rfl⟩
/-- May a number be told, for a prefix, with what is above it? -/
def ok (n b a : Int) : Prop := 0 ≤ n ∧ n ≤ 16777215 ∧ (1 ≤ b ∧ b ≤ 8) ∧ 0 ≤ a ∧ a ≤ 255 ∧ a % p2 b = 0
instance (n b a : Int) : Decidable (ok n b a) := by unfold ok; exact inferInstance
/-- A number's bytes. -/
def enc (n b a : Int) : List Int := if n < p2 b - 1 then [a + n] else (a + (p2 b - 1)) :: more 5 (n - (p2 b - 1))
theorem above_le {b a : Int} (hb : 1 ≤ b ∧ b ≤ 8) (h0 : 0 ≤ a) (h1 : a ≤ 255) (h2 : a % p2 b = 0) : a + (p2 b - 1) ≤ 255 := by
  rcases p2_cases hb with ⟨_, e⟩ | ⟨_, e⟩ | ⟨_, e⟩ | ⟨_, e⟩ | ⟨_, e⟩ | ⟨_, e⟩ | ⟨_, e⟩ | ⟨_, e⟩ <;> rw [e] at h2 ⊢ <;> omega
theorem tmod_zero {a p : Int} (h0 : 0 ≤ a) (hp : 0 < p) : Int.tmod a p = a % p := Int.tmod_eq_emod_of_nonneg h0
theorem encE {k : Nat} (hk : 20 ≤ k) (n b a : Int) : prefix_Encode.f k n b a = some (if ok n b a then (enc n b a, 0) else ([], 1)) := by
  obtain ⟨m, rfl⟩ : ∃ m, k = m + 1 := ⟨k - 1, by omega⟩
  have no : prefix_Encode.j0 (m + 1) n b a true = some ([], 1) := rfl
  unfold prefix_Encode.f
  by_cases h1 : n < 0
  · rw [if_pos h1, no, if_neg (fun h => by have := h.1; omega)]
  rw [if_neg h1]
  by_cases h2 : n > 16777215
  · rw [if_pos h2, no, if_neg (fun h => by have := h.2.1; omega)]
  rw [if_neg h2, right_eq]
  simp only [Option.bind_some, decide_eq_true_eq]
  by_cases hb : 1 ≤ b ∧ b ≤ 8
  · rw [if_pos hb]
    by_cases h3 : a < 0
    · rw [if_pos h3, no, if_neg (fun h => by have := h.2.2.2.1; omega)]
    rw [if_neg h3]
    by_cases h4 : a > 255
    · rw [if_pos h4, no, if_neg (fun h => by have := h.2.2.2.2.1; omega)]
    have hp := p2_pos hb
    rw [if_neg h4, if_pos (by omega), shl_p2 hb, if_neg (by omega), tmod_zero (by omega) (by omega)]
    by_cases h5 : a % p2 b = 0
    · have ha := above_le hb (by omega) (by omega) h5
      rw [show (a % p2 b != 0) = false by simpa using h5, if_pos ⟨by omega, by omega, hb, by omega, by omega, h5⟩]
      simp only [prefix_Encode.j0]
      rw [if_neg (by decide), if_pos (by omega), shl_p2 hb, wr_in (a := p2 b - 1) (by omega) (by omega)]
      unfold enc
      by_cases h6 : n < p2 b - 1
      · rw [if_pos h6, if_pos h6, wr_in (by omega) (by omega), show (a + n) % 256 = a + n by omega]
      · rw [if_neg h6, if_neg h6, wr_in (a := a + (p2 b - 1)) (by omega) (by omega), wr_in (a := n - (p2 b - 1)) (by omega) (by omega), show (a + (p2 b - 1)) % 256 = a + (p2 b - 1) by omega]
        exact (enc_loop 5 m (n - (p2 b - 1)) [a + (p2 b - 1)] (by omega) (by simp; omega) (by simp) (by omega) (by omega) (by omega)).1
    · rw [show (a % p2 b != 0) = true by simpa using h5, no, if_neg (fun h => h5 h.2.2.2.2.2)]
  · rw [if_neg hb, no, if_neg (fun h => hb h.2.2.1)]
theorem rencE {k : Nat} (hk : 20 ≤ k) (n b a : Int) : gantletref03_Encode.f k n b a = some (if ok n b a then (enc n b a, 0) else ([], 1)) := by
  obtain ⟨m, rfl⟩ : ∃ m, k = m + 1 := ⟨k - 1, by omega⟩
  have no : gantletref03_Encode.j0 (m + 1) n b a true = some ([], 1) := rfl
  unfold gantletref03_Encode.f
  by_cases h1 : n < 0
  · rw [if_pos h1, no, if_neg (fun h => by have := h.1; omega)]
  rw [if_neg h1]
  by_cases h2 : n > 16777215
  · rw [if_pos h2, no, if_neg (fun h => by have := h.2.1; omega)]
  rw [if_neg h2]
  by_cases hb1 : b < 1
  · rw [if_pos hb1, no, if_neg (fun h => by have := h.2.2.1.1; omega)]
  rw [if_neg hb1]
  by_cases hb2 : b > 8
  · rw [if_pos hb2, no, if_neg (fun h => by have := h.2.2.1.2; omega)]
  rw [if_neg hb2]
  by_cases h3 : a < 0
  · rw [if_pos h3, no, if_neg (fun h => by have := h.2.2.2.1; omega)]
  rw [if_neg h3]
  by_cases h4 : a > 255
  · rw [show decide (a > 255) = true from decide_eq_true h4, no, if_neg (fun h => by have := h.2.2.2.2.1; omega)]
  have hb : 1 ≤ b ∧ b ≤ 8 := ⟨by omega, by omega⟩
  have hp := p2_pos hb
  rw [show decide (a > 255) = false from decide_eq_false h4]
  simp only [gantletref03_Encode.j0]
  rw [if_neg (by decide), power_eq (by omega) hb]
  simp only [Option.bind_some]
  rw [wr_in (a := p2 b - 1) (by omega) (by omega), wr_in (a := p2 b - 1 + 1) (by omega) (by omega), if_neg (by omega), show p2 b - 1 + 1 = p2 b by omega, tmod_zero (by omega) (by omega)]
  by_cases h5 : a % p2 b = 0
  · have ha := above_le hb (by omega) (by omega) h5
    rw [if_pos h5, if_pos (show ok n b a from ⟨by omega, by omega, hb, by omega, by omega, h5⟩)]
    unfold enc
    by_cases h6 : n < p2 b - 1
    · rw [if_pos h6, if_pos h6, wr_in (by omega) (by omega), show (a + n) % 256 = a + n by omega]
    · rw [if_neg h6, if_neg h6, wr_in (a := a + (p2 b - 1)) (by omega) (by omega), wr_in (a := n - (p2 b - 1)) (by omega) (by omega), show (a + (p2 b - 1)) % 256 = a + (p2 b - 1) by omega]
      exact (enc_loop 5 m (n - (p2 b - 1)) [a + (p2 b - 1)] (by omega) (by simp; omega) (by simp) (by omega) (by omega) (by omega)).2
  · rw [if_neg h5, if_neg (fun h : ok n b a => h5 h.2.2.2.2.2)]
/-! ### Decode -/
def go : Nat → List Int → Int → Int → Int → Int × Int × Int
  | 0, _, _, _, _ => (0, 0, 3)
  | _ + 1, [], _, _, _ => (0, 0, 2)
  | r + 1, c :: l, n, t, i => if n + t * (c % 128) > 16777215 then (0, 0, 3) else if c ≥ 128 then go r l (n + t * (c % 128)) (128 * t) (i + 1) else (n + t * (c % 128), i + 1, 0)
def dec (l : List Int) (b : Int) : Int × Int × Int :=
  if 1 ≤ b ∧ b ≤ 8 then (match l with | [] => (0, 0, 2) | c :: l => if c % p2 b < p2 b - 1 then (c % p2 b, 1, 0) else go 4 l (c % p2 b) 1 1) else (0, 0, 1)
theorem rd_drop {l : List Int} {i : Int} (h0 : 0 ≤ i) (h1 : i < l.length) : l.drop i.toNat = rd l i :: l.drop (i + 1).toNat := by
  rw [List.drop_eq_getElem_cons (show i.toNat < l.length by omega), show (i + 1).toNat = i.toNat + 1 by omega]
  simp [rd, List.getD_eq_getElem?_getD, List.getElem?_eq_getElem (show i.toNat < l.length by omega)]
theorem rd_byte {l : List Int} (hb : Bytes l) {i : Int} (h0 : 0 ≤ i) (h1 : i < l.length) : 0 ≤ rd l i ∧ rd l i < 256 := by
  have := rd_drop h0 h1
  have h2 : Bytes (l.drop i.toNat) := hb.drop _
  rw [this] at h2
  exact h2.head
theorem shl0c (c : Int) (h0 : 0 ≤ c) (h1 : c < 128) : shl .i64 c 0 = 1 * c := by
  show IntKind.i64.wrap (c * 2 ^ 0) = _
  rw [IntKind.wrap_i64]; omega
theorem shl7c (c : Int) (h0 : 0 ≤ c) (h1 : c < 128) : shl .i64 c 7 = 128 * c := by
  show IntKind.i64.wrap (c * 2 ^ 7) = _
  rw [IntKind.wrap_i64]; omega
theorem shl14c (c : Int) (h0 : 0 ≤ c) (h1 : c < 128) : shl .i64 c 14 = 16384 * c := by
  show IntKind.i64.wrap (c * 2 ^ 14) = _
  rw [IntKind.wrap_i64]; omega
theorem shl21c (c : Int) (h0 : 0 ≤ c) (h1 : c < 128) : shl .i64 c 21 = 2097152 * c := by
  show IntKind.i64.wrap (c * 2 ^ 21) = _
  rw [IntKind.wrap_i64]; omega
/-- One round of either loop. -/
theorem dec_round (l : List Int) (hb : Bytes l) (r : Nat) (i s t : Int) (hi : 1 ≤ i ∧ i ≤ 4) (hr : i + r = 4) (hs : 0 ≤ s ∧ s ≤ 100) (ht : 1 ≤ t ∧ t ≤ 2097152) (hsh : ∀ c, 0 ≤ c → c < 128 → shl .i64 c s = t * c) (k : Nat)
    (next : ∀ n, 0 ≤ n → n ≤ 16777215 → prefix_Decode.l0 k l n (i + 1) (s + 7) = some (go r (l.drop (i + 1).toNat) n (128 * t) (i + 1)) ∧ gantletref03_Decode.l0 k l n (128 * t) (i + 1) = some (go r (l.drop (i + 1).toNat) n (128 * t) (i + 1)))
    (n : Int) (h0 : 0 ≤ n) (h1 : n ≤ 16777215) (hn : i ≤ l.length) :
    prefix_Decode.l0 (k + 1) l n i s = some (go (r + 1) (l.drop i.toNat) n t i) ∧ gantletref03_Decode.l0 (k + 1) l n t i = some (go (r + 1) (l.drop i.toNat) n t i) := by
  simp only [prefix_Decode.l0, gantletref03_Decode.l0]
  rw [if_neg (by omega), if_pos (show i < 5 by omega)]
  by_cases he : i = (l.length : Int)
  · rw [if_pos he, if_pos (by omega), List.drop_eq_nil_of_le (by omega)]
    exact ⟨rfl, rfl⟩
  · have hlt : i < (l.length : Int) := by omega
    have hc := rd_byte hb (by omega) hlt
    have e1 : Int.tmod (wrap64 (rd l i)) 128 = rd l i % 128 := by
      rw [wr_in (by omega) (by omega), Int.tmod_eq_emod_of_nonneg (by omega)]
    have hm : 0 ≤ rd l i % 128 ∧ rd l i % 128 < 128 := by omega
    have hmul : 0 ≤ t * (rd l i % 128) ∧ t * (rd l i % 128) ≤ 2097152 * 127 :=
      ⟨Int.mul_nonneg (by omega) hm.1, Int.mul_le_mul ht.2 (by omega) hm.1 (by omega)⟩
    have w1 : wrap64 (t * (rd l i % 128)) = t * (rd l i % 128) := wr_in (by omega) (by omega)
    have w2 : wrap64 (n + t * (rd l i % 128)) = n + t * (rd l i % 128) := wr_in (by omega) (by omega)
    have w3 : wrap64 (rd l i) = rd l i := wr_in (by omega) (by omega)
    have w4 : wrap64 (i + 1) = i + 1 := wr_in (by omega) (by omega)
    have w5 : wrap64 (s + 7) = s + 7 := wr_in (by omega) (by omega)
    have w6 : wrap64 (128 * t) = 128 * t := wr_in (by omega) (by omega)
    have w7 := hsh _ hm.1 hm.2
    rw [if_neg he, if_neg (show ¬ i ≥ (l.length : Int) by omega), e1, w1, w2, w7, w2, w3, w4, w5, w6, rd_drop (by omega) hlt]
    simp only [go]
    refine ⟨?_, ?_⟩
    · rw [if_pos (show 0 ≤ i by omega), if_pos hlt, if_pos hs.1]
      by_cases h2 : n + t * (rd l i % 128) > 16777215
      · rw [if_pos h2, if_pos h2]
      · rw [if_neg h2, if_neg h2]
        by_cases h3 : rd l i ≥ 128
        · rw [if_pos h3, if_pos h3]; exact (next _ (by omega) (by omega)).1
        · rw [if_neg h3, if_neg h3]
    · rw [if_pos (show 0 ≤ i by omega), if_pos hlt]
      by_cases h2 : n + t * (rd l i % 128) > 16777215
      · rw [if_pos h2, if_pos h2]
      · rw [if_neg h2, if_neg h2]
        by_cases h3 : rd l i ≥ 128
        · rw [if_neg (show ¬ rd l i < 128 by omega), if_pos h3]; exact (next _ (by omega) (by omega)).2
        · rw [if_pos (show rd l i < 128 by omega), if_neg h3]
theorem dec_loop (l : List Int) (hb : Bytes l) (hl : 1 ≤ l.length) (k : Nat) (n : Int) (h0 : 0 ≤ n) (h1 : n ≤ 16777215) :
    prefix_Decode.l0 (k + 6) l n 1 0 = some (go 4 (l.drop 1) n 1 1) ∧ gantletref03_Decode.l0 (k + 6) l n 1 1 = some (go 4 (l.drop 1) n 1 1) := by
  have past : ∀ (r : Nat) (i t n : Int), (l.length : Int) < i → True := fun _ _ _ _ _ => trivial
  have s5 : ∀ n, 0 ≤ n → n ≤ 16777215 → prefix_Decode.l0 (k + 2) l n 5 28 = some (go 0 (l.drop 5) n 268435456 5) ∧ gantletref03_Decode.l0 (k + 2) l n 268435456 5 = some (go 0 (l.drop 5) n 268435456 5) := fun n _ _ => ⟨rfl, rfl⟩
  by_cases l4 : 4 ≤ l.length
  · have s4 : ∀ n, 0 ≤ n → n ≤ 16777215 → prefix_Decode.l0 (k + 3) l n 4 21 = some (go 1 (l.drop 4) n 2097152 4) ∧ gantletref03_Decode.l0 (k + 3) l n 2097152 4 = some (go 1 (l.drop 4) n 2097152 4) :=
      fun n a b => dec_round l hb 0 4 21 2097152 (by omega) (by omega) (by omega) (by omega) shl21c (k + 2) s5 n a b (by omega)
    have s3 : ∀ n, 0 ≤ n → n ≤ 16777215 → prefix_Decode.l0 (k + 4) l n 3 14 = some (go 2 (l.drop 3) n 16384 3) ∧ gantletref03_Decode.l0 (k + 4) l n 16384 3 = some (go 2 (l.drop 3) n 16384 3) :=
      fun n a b => dec_round l hb 1 3 14 16384 (by omega) (by omega) (by omega) (by omega) shl14c (k + 3) s4 n a b (by omega)
    have s2 : ∀ n, 0 ≤ n → n ≤ 16777215 → prefix_Decode.l0 (k + 5) l n 2 7 = some (go 3 (l.drop 2) n 128 2) ∧ gantletref03_Decode.l0 (k + 5) l n 128 2 = some (go 3 (l.drop 2) n 128 2) :=
      fun n a b => dec_round l hb 2 2 7 128 (by omega) (by omega) (by omega) (by omega) shl7c (k + 4) s3 n a b (by omega)
    exact dec_round l hb 3 1 0 1 (by omega) (by omega) (by omega) (by omega) shl0c (k + 5) s2 n h0 h1 (by omega)
  · by_cases l3 : 3 ≤ l.length
    · have s4 : ∀ n, 0 ≤ n → n ≤ 16777215 → prefix_Decode.l0 (k + 3) l n 4 21 = some (go 1 (l.drop 4) n 2097152 4) ∧ gantletref03_Decode.l0 (k + 3) l n 2097152 4 = some (go 1 (l.drop 4) n 2097152 4) → True := fun _ _ _ _ => trivial
      have s3 : ∀ n, 0 ≤ n → n ≤ 16777215 → prefix_Decode.l0 (k + 4) l n 3 14 = some (go 2 (l.drop 3) n 16384 3) ∧ gantletref03_Decode.l0 (k + 4) l n 16384 3 = some (go 2 (l.drop 3) n 16384 3) := by
        intro n a b
        simp only [prefix_Decode.l0, gantletref03_Decode.l0]
        rw [if_neg (by decide), if_pos (by omega), if_pos (by decide), if_pos (by omega), List.drop_eq_nil_of_le (by omega)]
        exact ⟨rfl, rfl⟩
      have s2 : ∀ n, 0 ≤ n → n ≤ 16777215 → prefix_Decode.l0 (k + 5) l n 2 7 = some (go 3 (l.drop 2) n 128 2) ∧ gantletref03_Decode.l0 (k + 5) l n 128 2 = some (go 3 (l.drop 2) n 128 2) :=
        fun n a b => dec_round l hb 2 2 7 128 (by omega) (by omega) (by omega) (by omega) shl7c (k + 4) s3 n a b (by omega)
      exact dec_round l hb 3 1 0 1 (by omega) (by omega) (by omega) (by omega) shl0c (k + 5) s2 n h0 h1 (by omega)
    · by_cases l2 : 2 ≤ l.length
      · have s2 : ∀ n, 0 ≤ n → n ≤ 16777215 → prefix_Decode.l0 (k + 5) l n 2 7 = some (go 3 (l.drop 2) n 128 2) ∧ gantletref03_Decode.l0 (k + 5) l n 128 2 = some (go 3 (l.drop 2) n 128 2) := by
          intro n a b
          simp only [prefix_Decode.l0, gantletref03_Decode.l0]
          rw [if_neg (by decide), if_pos (by omega), if_pos (by decide), if_pos (by omega), List.drop_eq_nil_of_le (by omega)]
          exact ⟨rfl, rfl⟩
        exact dec_round l hb 3 1 0 1 (by omega) (by omega) (by omega) (by omega) shl0c (k + 5) s2 n h0 h1 (by omega)
      · simp only [prefix_Decode.l0, gantletref03_Decode.l0]
        rw [if_neg (by decide), if_pos (by omega), if_pos (by decide), if_pos (by omega), List.drop_eq_nil_of_le (by omega)]
        exact ⟨rfl, rfl⟩
theorem and_mask {c b : Int} (hc : 0 ≤ c ∧ c < 256) (hb : 1 ≤ b ∧ b ≤ 8) : Go.bits .and .i64 c (p2 b - 1) = c % p2 b := by
  obtain ⟨n, rfl⟩ := Int.eq_ofNat_of_zero_le hc.1
  have key : ∀ j : Nat, j ≤ 8 → Go.bits .and .i64 (n : Int) ((2 ^ j - 1 : Nat) : Int) = ((n % 2 ^ j : Nat) : Int) := by
    intro j hj
    have hp : 2 ^ j ≤ 256 := Nat.pow_le_pow_right (n := 2) (by omega) hj
    have hp0 : 0 < 2 ^ j := Nat.pow_pos (by omega)
    have e1 : (BitVec.ofInt 64 (n : Int)).toNat = n := by rw [BitVec.ofInt_natCast, BitVec.toNat_ofNat]; exact Nat.mod_eq_of_lt (by omega)
    have e2 : (BitVec.ofInt 64 ((2 ^ j - 1 : Nat) : Int)).toNat = 2 ^ j - 1 := by rw [BitVec.ofInt_natCast, BitVec.toNat_ofNat]; exact Nat.mod_eq_of_lt (by omega)
    show IntKind.i64.wrap ((BitVec.ofInt 64 (n : Int) &&& BitVec.ofInt 64 ((2 ^ j - 1 : Nat) : Int)).toNat : Int) = _
    rw [BitVec.toNat_and, e1, e2, Nat.and_two_pow_sub_one_eq_mod, IntKind.wrap_i64]
    have h3 : n % 2 ^ j < 2 ^ j := Nat.mod_lt _ hp0
    omega
  rcases p2_cases hb with ⟨_, e⟩ | ⟨_, e⟩ | ⟨_, e⟩ | ⟨_, e⟩ | ⟨_, e⟩ | ⟨_, e⟩ | ⟨_, e⟩ | ⟨_, e⟩ <;> rw [e]
  · exact key 1 (by omega)
  · exact key 2 (by omega)
  · exact key 3 (by omega)
  · exact key 4 (by omega)
  · exact key 5 (by omega)
  · exact key 6 (by omega)
  · exact key 7 (by omega)
  · exact key 8 (by omega)
theorem decE {k : Nat} (hk : 20 ≤ k) (l : List Int) (hb : Bytes l) (b : Int) : prefix_Decode.f k l b = some (dec l b) := by
  unfold prefix_Decode.f dec
  rw [right_eq]
  simp only [Option.bind_some, decide_eq_true_eq]
  by_cases h : 1 ≤ b ∧ b ≤ 8
  · have hp := p2_pos h
    rw [if_pos h, if_pos h]
    cases l with
    | nil => rfl
    | cons c l =>
      have hc := hb.head
      have hr : rd (c :: l) 0 = c := rfl
      have hm : 0 ≤ c % p2 b ∧ c % p2 b < 256 := by
        have := Int.emod_nonneg c (show p2 b ≠ 0 by omega)
        have := Int.emod_lt_of_pos c (show 0 < p2 b by omega)
        omega
      rw [if_neg (by simp only [List.length_cons]; omega), if_pos (by omega), if_pos (by simp only [List.length_cons]; omega), hr, shl_p2 h, wr_in (a := c) (by omega) (by omega), wr_in (a := p2 b - 1) (by omega) (by omega), and_mask hc h]
      by_cases h2 : c % p2 b < p2 b - 1
      · rw [if_pos h2]; simp only []; rw [if_pos h2]
      · rw [if_neg h2]; simp only []; rw [if_neg h2]
        obtain ⟨m, rfl⟩ : ∃ m, k = m + 6 := ⟨k - 6, by omega⟩
        exact (dec_loop (c :: l) hb (by simp) m (c % p2 b) hm.1 (by omega)).1
  · rw [if_neg h, if_neg h]
theorem rdecE {k : Nat} (hk : 20 ≤ k) (l : List Int) (hb : Bytes l) (b : Int) : gantletref03_Decode.f k l b = some (dec l b) := by
  obtain ⟨m, rfl⟩ : ∃ m, k = m + 1 := ⟨k - 1, by omega⟩
  have no : gantletref03_Decode.j0 (m + 1) l b true = some (0, 0, 1) := rfl
  unfold gantletref03_Decode.f dec
  by_cases hb1 : b < 1
  · rw [if_pos hb1, no, if_neg (by omega)]
  rw [if_neg hb1]
  by_cases hb2 : b > 8
  · rw [show decide (b > 8) = true from decide_eq_true hb2, no, if_neg (by omega)]
  have h : 1 ≤ b ∧ b ≤ 8 := ⟨by omega, by omega⟩
  have hp := p2_pos h
  rw [show decide (b > 8) = false from decide_eq_false hb2, if_pos h]
  simp only [gantletref03_Decode.j0]
  rw [if_neg (by decide)]
  cases l with
  | nil => rfl
  | cons c l =>
    have hc := hb.head
    have hr : rd (c :: l) 0 = c := rfl
    have hm : 0 ≤ c % p2 b ∧ c % p2 b < 256 := by
      have := Int.emod_nonneg c (show p2 b ≠ 0 by omega)
      have := Int.emod_lt_of_pos c (show 0 < p2 b by omega)
      omega
    rw [if_neg (by simp only [List.length_cons]; omega), power_eq (by omega) h]
    simp only [Option.bind_some]
    rw [if_pos (by simp only [List.length_cons]; omega), hr, wr_in (a := c) (by omega) (by omega), wr_in (a := p2 b - 1) (by omega) (by omega), wr_in (a := p2 b - 1 + 1) (by omega) (by omega), if_neg (by omega), show p2 b - 1 + 1 = p2 b by omega, tmod_zero hc.1 (by omega)]
    by_cases h2 : c % p2 b < p2 b - 1
    · rw [if_pos h2, if_pos h2]
    · rw [if_neg h2, if_neg h2]
      obtain ⟨j, rfl⟩ : ∃ j, m = j + 6 := ⟨m - 6, by omega⟩
      exact (dec_loop (c :: l) hb (by simp) j (c % p2 b) hm.1 (by omega)).2
/-! ### Same -/
theorem same_loop (l m : List Int) (hl : m.length = l.length) (hs : l.length ≤ 9223372036854775806) (d : Nat) : ∀ (k : Nat) (i : Int), 0 ≤ i → i ≤ l.length → (l.length : Int) - i = d → d < k →
    gantletref01_Same.l0 k l m i = some (decide (l.drop i.toNat = m.drop i.toNat)) := by
  induction d with
  | zero =>
    intro k i h0 h1 hd hk
    obtain ⟨k, rfl⟩ : ∃ m, k = m + 1 := ⟨k - 1, by omega⟩
    simp only [gantletref01_Same.l0]
    rw [if_neg (by omega), List.drop_eq_nil_of_le (by omega), List.drop_eq_nil_of_le (by omega)]
    simp
  | succ d ih =>
    intro k i h0 h1 hd hk
    obtain ⟨k, rfl⟩ : ∃ m, k = m + 1 := ⟨k - 1, by omega⟩
    simp only [gantletref01_Same.l0]
    rw [if_pos (by omega), if_pos h0, if_pos (by omega), wr_in (by omega) (by omega), ih k (i + 1) (by omega) (by omega) (by omega) (by omega), rd_drop h0 (by omega), rd_drop (l := m) h0 (by omega)]
    by_cases he : rd l i = rd m i
    · rw [if_pos he]; simp [he]
    · rw [if_neg he]; simp [he]
theorem sameE {k : Nat} (l m : List Int) (hs : l.length ≤ 9223372036854775806) (hk : l.length < k) : gantletref01_Same.f k l m = some (decide (l = m)) := by
  unfold gantletref01_Same.f
  by_cases h : l.length = m.length
  · rw [if_pos (by omega), same_loop l m h.symm hs l.length k 0 (by omega) (by omega) (by omega) hk]; rfl
  · rw [if_neg (by omega)]
    have : l ≠ m := fun e => h (by rw [e])
    simp [this]
/-! ### there and back -/
theorem enc_length (n b a : Int) : 1 ≤ (enc n b a).length ∧ (enc n b a).length ≤ 6 := by
  unfold enc
  have := more_length 5 (n - (p2 b - 1))
  split <;> simp <;> omega
theorem more_bytes (f : Nat) : ∀ x, 0 ≤ x → Bytes (more f x) := by
  induction f with
  | zero => intro x _ y hy; simp [more] at hy
  | succ f ih =>
    intro x h0 y hy
    simp only [more] at hy
    by_cases h : x ≥ 128
    · rw [if_pos h] at hy
      rcases List.mem_cons.1 hy with rfl | hy
      · omega
      · exact ih _ (by omega) y hy
    · rw [if_neg h] at hy
      simp at hy
      omega
theorem enc_bytes {n b a : Int} (h : ok n b a) : Bytes (enc n b a) := by
  obtain ⟨h0, h1, hb, h2, h3, h4⟩ := h
  have ha := above_le hb h2 h3 h4
  have hp := p2_pos hb
  unfold enc
  by_cases h5 : n < p2 b - 1
  · rw [if_pos h5]; intro x hx; simp at hx; omega
  · rw [if_neg h5]
    intro x hx
    rcases List.mem_cons.1 hx with rfl | hx
    · omega
    · exact more_bytes 5 _ (by omega) x hx
theorem go_more (f : Nat) : ∀ (r : Nat) (x n t i : Int) (l : List Int), 0 ≤ x → x < 128 ^ r → r ≤ f → 0 < r → 0 ≤ n → 1 ≤ t → n + t * x ≤ 16777215 →
    go r (more f x ++ l) n t i = (n + t * x, i + (more f x).length, 0) := by
  induction f with
  | zero => intro r x n t i l h0 h1 h2 h3; omega
  | succ f ih =>
    intro r x n t i l h0 h1 h2 h3 hn ht hx
    obtain ⟨r, rfl⟩ : ∃ m, r = m + 1 := ⟨r - 1, by omega⟩
    simp only [more]
    by_cases h : x ≥ 128
    · have hr : 0 < r := by
        rcases Nat.eq_zero_or_pos r with e | e
        · subst e; simp at h1; omega
        · exact e
      have hd : x = 128 * (x / 128) + x % 128 := by omega
      have hlt : x / 128 < 128 ^ r := by rw [Int.pow_succ] at h1; omega
      have e0 : (x % 128 + 128) % 128 = x % 128 := by omega
      have e1 : t * x = t * (x % 128) + 128 * t * (x / 128) := by
        calc t * x = t * (128 * (x / 128) + x % 128) := by rw [← hd]
          _ = _ := by rw [Int.mul_add, ← Int.mul_assoc, Int.mul_comm t 128]; omega
      have e2 : 0 ≤ 128 * t * (x / 128) := Int.mul_nonneg (by omega) (by omega)
      have e3 : 0 ≤ t * (x % 128) := Int.mul_nonneg (by omega) (by omega)
      rw [if_pos h, List.cons_append]
      simp only [go]
      rw [e0, if_neg (by omega), if_pos (by omega), ih r (x / 128) (n + t * (x % 128)) (128 * t) (i + 1) l (by omega) hlt (by omega) hr (by omega) (by omega) (by omega)]
      simp only [List.length_cons, Prod.mk.injEq, and_true]
      constructor <;> omega
    · have e0 : x % 128 = x := by omega
      rw [if_neg h, List.cons_append, List.nil_append]
      simp only [go]
      rw [e0, if_neg (by omega), if_neg (by omega)]
      simp
theorem go_short (f : Nat) : ∀ (r : Nat) (x n t i : Int) (j : Nat), 0 ≤ x → x < 128 ^ r → r ≤ f → 0 < r → 0 ≤ n → 1 ≤ t → n + t * x ≤ 16777215 → j < (more f x).length →
    go r ((more f x).take j) n t i = (0, 0, 2) := by
  induction f with
  | zero => intro r x n t i j h0 h1 h2 h3; omega
  | succ f ih =>
    intro r x n t i j h0 h1 h2 h3 hn ht hx hj
    obtain ⟨r, rfl⟩ : ∃ m, r = m + 1 := ⟨r - 1, by omega⟩
    cases j with
    | zero => rfl
    | succ j =>
      simp only [more] at hj ⊢
      by_cases h : x ≥ 128
      · rw [if_pos h] at hj ⊢
        have hr : 0 < r := by
          rcases Nat.eq_zero_or_pos r with e | e
          · subst e; simp at h1; omega
          · exact e
        have hd : x = 128 * (x / 128) + x % 128 := by omega
        have hlt : x / 128 < 128 ^ r := by rw [Int.pow_succ] at h1; omega
        have e0 : (x % 128 + 128) % 128 = x % 128 := by omega
        have e1 : t * x = t * (x % 128) + 128 * t * (x / 128) := by
          calc t * x = t * (128 * (x / 128) + x % 128) := by rw [← hd]
            _ = _ := by rw [Int.mul_add, ← Int.mul_assoc, Int.mul_comm t 128]; omega
        have e2 : 0 ≤ 128 * t * (x / 128) := Int.mul_nonneg (by omega) (by omega)
        have e3 : 0 ≤ t * (x % 128) := Int.mul_nonneg (by omega) (by omega)
        rw [List.take_succ_cons]
        simp only [go]
        rw [e0, if_neg (by omega), if_pos (by omega)]
        exact ih r (x / 128) _ _ _ j (by omega) hlt (by omega) hr (by omega) (by omega) (by omega) (by simpa using hj)
      · rw [if_neg h] at hj
        simp at hj
theorem mod_add {a n p : Int} (hp : 0 < p) (h : a % p = 0) (h0 : 0 ≤ n) (h1 : n < p) : (a + n) % p = n := by
  rw [Int.add_emod, h, Int.zero_add, Int.emod_emod, Int.emod_eq_of_lt h0 h1]
theorem pow4' : (128 : Int) ^ 4 = 268435456 := by decide
theorem dec_enc {n b a : Int} (h : ok n b a) (l : List Int) : dec (enc n b a ++ l) b = (n, ((enc n b a).length : Int), 0) := by
  obtain ⟨h0, h1, hb, h2, h3, h4⟩ := h
  have hp := p2_pos hb
  unfold dec enc
  rw [if_pos hb]
  by_cases h5 : n < p2 b - 1
  · rw [if_pos h5, List.cons_append]
    simp only []
    rw [mod_add (by omega) h4 h0 (by omega), if_pos h5]
    simp
  · rw [if_neg h5, List.cons_append]
    simp only []
    rw [mod_add (by omega) h4 (by omega) (by omega), if_neg (by omega), go_more 5 4 (n - (p2 b - 1)) (p2 b - 1) 1 1 l (by omega) (by rw [pow4']; omega) (by omega) (by omega) (by omega) (by omega) (by omega)]
    simp only [List.length_cons, Prod.mk.injEq, and_true]
    constructor <;> omega
theorem dec_short {n b a : Int} (h : ok n b a) (j : Nat) (hj : j < (enc n b a).length) : dec ((enc n b a).take j) b = (0, 0, 2) := by
  obtain ⟨h0, h1, hb, h2, h3, h4⟩ := h
  have hp := p2_pos hb
  unfold dec
  rw [if_pos hb]
  cases j with
  | zero => rfl
  | succ j =>
    unfold enc at hj ⊢
    by_cases h5 : n < p2 b - 1
    · rw [if_pos h5] at hj; simp at hj
    · rw [if_neg h5] at hj ⊢
      rw [List.take_succ_cons]
      simp only []
      rw [mod_add (by omega) h4 (by omega) (by omega), if_neg (by omega)]
      exact go_short 5 4 (n - (p2 b - 1)) (p2 b - 1) 1 1 j (by omega) (by rw [pow4']; omega) (by omega) (by omega) (by omega) (by omega) (by omega) (by simpa using hj)
theorem enc_inj {n m b a : Int} (h : ok n b a) (h' : ok m b a) : enc n b a = enc m b a ↔ n = m :=
  ⟨fun e => by
    have e1 := dec_enc h []
    have e2 := dec_enc h' []
    rw [e, e2] at e1
    exact (congrArg Prod.fst e1).symm, fun e => by rw [e]⟩
end Go.Proofs.YtlbjhbanfpnogaaDoor.PrefixPure
