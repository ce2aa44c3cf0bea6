/-
  HUFF: bits of codes.
  Conditions: none of its own; lemmas that the claim's row rests on.
-/
import Derived.Test.YtlbjhbanfpnogaaDoorHf7
import Derived.WalkKit
namespace Go.Proofs.YtlbjhbanfpnogaaDoor.QH
open Go.RowKit Go.Proofs.YtlbjhbanfpnogaaDoorW.PrintWords Go.Proofs.YtlbjhbanfpnogaaDoorW.PrintLast Go.Proofs.YtlbjhbanfpnogaaDoorW.PrintMore
attribute [local go_sem] max2_int min2_int max_two min_two max_three min_three max_four min_four
set_option linter.unusedVariables false
set_option linter.unusedSimpArgs false
/-- The bits of a number, the highest first. -/
def codeB : Nat → Nat → List Nat
  | _, 0 => []
  | a, n + 1 => codeB (a / 2) n ++ [a % 2]
theorem codeB_len : ∀ (n a : Nat), (codeB a n).length = n
  | 0, _ => rfl
  | n + 1, a => by rw [codeB, List.length_append, codeB_len n]; rfl
theorem codeB_split (m : Nat) : ∀ (n a : Nat), codeB a (m + n) = codeB (a / 2 ^ n) m ++ codeB (a % 2 ^ n) n
  | 0, a => by simp [codeB, Nat.mod_one]
  | n + 1, a => by
    rw [← Nat.add_assoc, codeB, codeB, codeB_split m n (a / 2), List.append_assoc]
    have h1 : a % 2 ^ (n + 1) / 2 = a / 2 % 2 ^ n := by rw [Nat.pow_succ, Nat.mul_comm, Nat.mod_mul_right_div_self]
    have h2 : a % 2 ^ (n + 1) % 2 = a % 2 := Nat.mod_mod_of_dvd _ ⟨2 ^ n, by rw [Nat.pow_succ, Nat.mul_comm]⟩
    rw [h1, h2, Nat.div_div_eq_div_mul, Nat.pow_succ, Nat.mul_comm]
theorem codeB_ones : ∀ q : Nat, codeB (2 ^ q - 1) q = List.replicate q 1
  | 0 => rfl
  | q + 1 => by
    have h0 := Nat.two_pow_pos q
    rw [codeB, List.replicate_succ', show (2 ^ (q + 1) - 1) / 2 = 2 ^ q - 1 by rw [Nat.pow_succ]; omega, show (2 ^ (q + 1) - 1) % 2 = 1 by rw [Nat.pow_succ]; omega, codeB_ones q]
theorem codeB_inj : ∀ (n a b : Nat), a < 2 ^ n → b < 2 ^ n → codeB a n = codeB b n → a = b
  | 0, a, b, ha, hb, _ => by simp at ha hb; omega
  | n + 1, a, b, ha, hb, h => by
    rw [codeB, codeB] at h
    obtain ⟨h1, h2⟩ := List.append_inj h (by rw [codeB_len, codeB_len])
    have h3 := codeB_inj n (a / 2) (b / 2) (by rw [Nat.pow_succ] at ha; omega) (by rw [Nat.pow_succ] at hb; omega) h1
    simp only [List.cons.injEq, and_true] at h2
    omega
def bitsT : List Int → List Nat
  | [] => []
  | c :: b => codeB (cd c.toNat) (ln c.toNat) ++ bitsT b
def bytesBits : List Int → List Nat
  | [] => []
  | x :: l => codeB x.toNat 8 ++ bytesBits l
theorem bitsT_len : ∀ b, (bitsT b).length = sumLn b
  | [] => rfl
  | c :: b => by rw [bitsT, List.length_append, codeB_len, bitsT_len b, sumLn]
theorem bytesBits_len : ∀ l, (bytesBits l).length = 8 * l.length
  | [] => rfl
  | x :: l => by rw [bytesBits, List.length_append, codeB_len, bytesBits_len l, List.length_cons]; omega
theorem bytesBits_append : ∀ a b, bytesBits (a ++ b) = bytesBits a ++ bytesBits b
  | [], b => rfl
  | x :: a, b => by rw [List.cons_append, bytesBits, bytesBits, bytesBits_append a b, List.append_assoc]
def isBytes (l : List Int) : Prop := ∀ x ∈ l, 0 ≤ x ∧ x < 256
theorem isBytes_append {a b : List Int} (h : isBytes a) (k : isBytes b) : isBytes (a ++ b) := fun x hx => (List.mem_append.1 hx).elim (h x) (k x)
theorem isBytes_one {x : Int} (h : 0 ≤ x ∧ x < 256) : isBytes [x] := fun y hy => by rw [List.mem_singleton.1 hy]; exact h
theorem bytesBits_inj : ∀ (a b : List Int), isBytes a → isBytes b → bytesBits a = bytesBits b → a = b
  | [], [], _, _, _ => rfl
  | [], y :: b, _, _, h => by have h1 := congrArg List.length h; rw [bytesBits_len, bytesBits_len] at h1; simp at h1
  | x :: a, [], _, _, h => by have h1 := congrArg List.length h; rw [bytesBits_len, bytesBits_len] at h1; simp at h1
  | x :: a, y :: b, ha, hb, h => by
    rw [bytesBits, bytesBits] at h
    obtain ⟨h1, h2⟩ := List.append_inj h (by rw [codeB_len, codeB_len])
    have hx := ha x (by simp)
    have hy := hb y (by simp)
    have h3 := codeB_inj 8 x.toNat y.toNat (by omega) (by omega) h1
    rw [bytesBits_inj a b (fun z hz => ha z (by simp [hz])) (fun z hz => hb z (by simp [hz])) h2]
    congr 1
    omega
theorem bytesBits_one (q : Nat) : bytesBits [(q : Int)] = codeB q 8 := by simp [bytesBits]
theorem rd_succ (x : Int) (l : List Int) (m : Nat) : rd (x :: l) ((m + 1 : Nat) : Int) = rd l (m : Int) := by
  unfold rd
  rw [Int.toNat_natCast, Int.toNat_natCast]
  rfl
theorem encI_bits : ∀ (k : Nat) (out : List Int) (H N : Nat), H < 2 ^ N → N < 8 * (k + 1) → isBytes out → (encI k out H N).2.2 < 8 ∧ (encI k out H N).2.1 < 2 ^ (encI k out H N).2.2 ∧ isBytes (encI k out H N).1 ∧ bytesBits (encI k out H N).1 ++ codeB (encI k out H N).2.1 (encI k out H N).2.2 = bytesBits out ++ codeB H N
  | 0, out, H, N, h, hN, ho => ⟨by simpa [encI] using hN, h, ho, rfl⟩
  | k + 1, out, H, N, h, hN, ho => by
    unfold encI
    by_cases h8 : 8 ≤ N
    · rw [if_pos h8]
      obtain ⟨M, rfl⟩ : ∃ M, N = M + 8 := ⟨N - 8, by omega⟩
      rw [Nat.add_sub_cancel]
      have hd : H / 2 ^ M < 256 := by rw [Nat.div_lt_iff_lt_mul (Nat.two_pow_pos M)]; rw [Nat.pow_add] at h; omega
      obtain ⟨h1, h2, h3, h4⟩ := encI_bits k (out ++ [((H / 2 ^ M : Nat) : Int)]) (H % 2 ^ M) M (Nat.mod_lt _ (Nat.two_pow_pos M)) (by omega) (isBytes_append ho (isBytes_one ⟨Int.natCast_nonneg _, Int.ofNat_lt.2 hd⟩))
      refine ⟨h1, h2, h3, h4.trans ?_⟩
      rw [bytesBits_append, List.append_assoc, Nat.add_comm M 8, codeB_split 8 M H, bytesBits_one]
    · rw [if_neg h8]
      exact ⟨by show N < 8; omega, h, ho, rfl⟩
theorem encO_bits : ∀ (b out : List Int) (held n : Nat), isBytes b → held < 2 ^ n → n < 8 → isBytes out → isBytes (encO b out held n) ∧ ∃ p, p < 8 ∧ bytesBits (encO b out held n) = bytesBits out ++ (codeB held n ++ (bitsT b ++ List.replicate p 1))
  | [], out, held, n, _, h, hn, ho => by
    unfold encO
    by_cases h0 : 0 < n
    · rw [if_pos h0]
      obtain ⟨q, hq⟩ : ∃ q, 8 - n = q := ⟨_, rfl⟩
      rw [hq]
      have hp := Nat.two_pow_pos q
      have hlt : held * 2 ^ q + 2 ^ q ≤ 2 ^ n * 2 ^ q := by have := Nat.mul_le_mul_right (2 ^ q) (show held + 1 ≤ 2 ^ n by omega); rw [Nat.succ_mul] at this; exact this
      have h256 : 2 ^ n * 2 ^ q = 256 := by rw [← Nat.pow_add, show n + q = 8 by omega]
      refine ⟨isBytes_append ho (isBytes_one (by omega)), q, by omega, ?_⟩
      rw [bytesBits_append]
      congr 1
      have hs := codeB_split n q (held * 2 ^ q + (2 ^ q - 1))
      rw [show n + q = 8 by omega] at hs
      have hd : (held * 2 ^ q + (2 ^ q - 1)) / 2 ^ q = held := by rw [Nat.mul_comm, Nat.mul_add_div hp, Nat.div_eq_of_lt (by omega), Nat.add_zero]
      have hm : (held * 2 ^ q + (2 ^ q - 1)) % 2 ^ q = 2 ^ q - 1 := by rw [Nat.mul_comm, Nat.mul_add_mod, Nat.mod_eq_of_lt (by omega)]
      rw [hd, hm, codeB_ones] at hs
      rw [bytesBits_one, hs, bitsT, List.nil_append]
    · rw [if_neg h0]
      obtain rfl : n = 0 := by omega
      exact ⟨ho, 0, by omega, by simp [codeB, bitsT]⟩
  | c :: b, out, held, n, hb, h, hn, ho => by
    have hc := hb c (by simp)
    have hl := ln_le c.toNat (by omega)
    have hcd := cd_lt c.toNat (by omega)
    have hlt : held * 2 ^ ln c.toNat + cd c.toNat < 2 ^ (n + ln c.toNat) := by
      have := Nat.mul_le_mul_right (2 ^ ln c.toNat) (show held + 1 ≤ 2 ^ n by omega)
      rw [Nat.succ_mul] at this
      rw [Nat.pow_add]; omega
    obtain ⟨h1, h2, h3, h4⟩ := encI_bits 5 out (held * 2 ^ ln c.toNat + cd c.toNat) (n + ln c.toNat) hlt (by omega) ho
    unfold encO
    obtain ⟨g1, p, g2, g3⟩ := encO_bits b _ _ _ (fun x hx => hb x (by simp [hx])) h2 h1 h3
    refine ⟨g1, p, g2, g3.trans ?_⟩
    have hs := codeB_split n (ln c.toNat) (held * 2 ^ ln c.toNat + cd c.toNat)
    have hd : (held * 2 ^ ln c.toNat + cd c.toNat) / 2 ^ ln c.toNat = held := by rw [Nat.mul_comm, Nat.mul_add_div (Nat.two_pow_pos _), Nat.div_eq_of_lt hcd, Nat.add_zero]
    have hm : (held * 2 ^ ln c.toNat + cd c.toNat) % 2 ^ ln c.toNat = cd c.toNat := by rw [Nat.mul_comm, Nat.mul_add_mod, Nat.mod_eq_of_lt hcd]
    rw [hd, hm] at hs
    rw [← List.append_assoc, h4, hs, bitsT]
    simp [List.append_assoc]
/-- The bits that Decode reads are the bytes'. -/
theorem bitsL_cons (x : Int) (l : List Int) (hx : 0 ≤ x ∧ x < 256) : bitsL (x :: l) = codeB x.toNat 8 ++ bitsL l := by
  unfold bitsL
  rw [List.length_cons, show 8 * (l.length + 1) = 8 + 8 * l.length by omega, List.range_add, List.map_append, List.map_map]
  congr 1
  · obtain ⟨n, rfl⟩ : ∃ n : Nat, x = (n : Int) := ⟨x.toNat, by omega⟩
    rw [show List.range 8 = [0, 1, 2, 3, 4, 5, 6, 7] by decide]
    simp [codeB, bitAt, rd, Nat.div_div_eq_div_mul]
    omega
  · refine List.map_congr_left (fun s hs => ?_)
    have : s < 8 * l.length := List.mem_range.1 hs
    simp only [Function.comp, bitAt]
    rw [show (8 + s) / 8 = s / 8 + 1 by omega, show (8 + s) % 8 = s % 8 by omega, rd_succ]
theorem bitsL_is : ∀ l, isBytes l → bitsL l = bytesBits l
  | [], _ => rfl
  | x :: l, h => by rw [bitsL_cons x l (h x (by simp)), bitsL_is l (fun y hy => h y (by simp [hy])), bytesBits]
theorem bytesB_is {b : List Int} (h : bytesB b = true) : isBytes b ∧ b.length ≤ 1000000 := by
  unfold bytesB at h
  rw [Bool.and_eq_true] at h
  exact ⟨fun x hx => of_decide_eq_true (List.all_eq_true.1 h.2 x hx), of_decide_eq_true h.1⟩
theorem bytesB_mk {b : List Int} (h : isBytes b) (hl : b.length ≤ 1000000) : bytesB b = true := by
  unfold bytesB
  rw [Bool.and_eq_true]
  exact ⟨decide_eq_true hl, List.all_eq_true.2 (fun x hx => decide_eq_true (h x hx))⟩
/-- What the bytes of a text are. -/
theorem enc_bits {b : List Int} (h : isBytes b) : isBytes (encO b [] 0 0) ∧ ∃ p, p < 8 ∧ bytesBits (encO b [] 0 0) = bitsT b ++ List.replicate p 1 := by
  obtain ⟨h1, p, h2, h3⟩ := encO_bits b [] 0 0 h (by decide) (by decide) (fun x hx => by cases hx)
  exact ⟨h1, p, h2, by simpa [bytesBits, codeB] using h3⟩
theorem enc_len {b : List Int} (h : isBytes b) : (encO b [] 0 0).length = (sumLn b + 7) / 8 := by
  obtain ⟨_, p, h2, h3⟩ := enc_bits h
  have h4 := congrArg List.length h3
  rw [bytesBits_len, List.length_append, bitsT_len, List.length_replicate] at h4
  omega
end Go.Proofs.YtlbjhbanfpnogaaDoor.QH
