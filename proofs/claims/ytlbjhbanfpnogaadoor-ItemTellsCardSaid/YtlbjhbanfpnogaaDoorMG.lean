/-
  HUFF: bits of codes. HUFF: there and back. HUFF: codes that begin with others. THE LAW HuffTells: lengths, codes, texts and sizes are those that the tables of the plain reading say. LITERAL: the bytes of a text, converted.
  Conditions: none of its own; lemmas that the claim's row rests on.
-/
import Derived.Test.YtlbjhbanfpnogaaDoorMH
import Derived.WalkKit
import Derived.Test.YtlbjhbanfpnogaaDoorMQ
import Derived.OpenShut
import Derived.Lib.ConvBytes
namespace Go.Proofs.YtlbjhbanfpnogaaDoor.QH
open Go.RowKit Go.Proofs.YtlbjhbanfpnogaaDoorW.PrintWords Go.Proofs.YtlbjhbanfpnogaaDoorW.PrintLast Go.Proofs.YtlbjhbanfpnogaaDoorW.PrintMore
attribute [local go_sem] max2_int min2_int max_two min_two max_three min_three max_four min_four
set_option linter.unusedVariables false
set_option linter.unusedSimpArgs false
/-- The bits of a number, the highest first. -/
def codeB : Nat → Nat → List Nat
  | _, 0 => []
  | a, n + 1 => codeB (a / 2) n ++ [a % 2]
theorem codeB_len : ∀ (n a : Nat), (codeB a n).length = n
  | 0, _ => rfl
  | n + 1, a => by rw [codeB, List.length_append, codeB_len n]; rfl
theorem codeB_split (m : Nat) : ∀ (n a : Nat), codeB a (m + n) = codeB (a / 2 ^ n) m ++ codeB (a % 2 ^ n) n
  | 0, a => by simp [codeB, Nat.mod_one]
  | n + 1, a => by
    rw [← Nat.add_assoc, codeB, codeB, codeB_split m n (a / 2), List.append_assoc]
    have h1 : a % 2 ^ (n + 1) / 2 = a / 2 % 2 ^ n := by rw [Nat.pow_succ, Nat.mul_comm, Nat.mod_mul_right_div_self]
    have h2 : a % 2 ^ (n + 1) % 2 = a % 2 := Nat.mod_mod_of_dvd _ ⟨2 ^ n, by rw [Nat.pow_succ, Nat.mul_comm]⟩
    rw [h1, h2, Nat.div_div_eq_div_mul, Nat.pow_succ, Nat.mul_comm]
theorem codeB_ones : ∀ q : Nat, codeB (2 ^ q - 1) q = List.replicate q 1
  | 0 => rfl
  | q + 1 => by
    have h0 := Nat.two_pow_pos q
    rw [codeB, List.replicate_succ', show (2 ^ (q + 1) - 1) / 2 = 2 ^ q - 1 by rw [Nat.pow_succ]; omega, show (2 ^ (q + 1) - 1) % 2 = 1 by rw [Nat.pow_succ]; omega, codeB_ones q]
theorem codeB_inj : ∀ (n a b : Nat), a < 2 ^ n → b < 2 ^ n → codeB a n = codeB b n → a = b
  | 0, a, b, ha, hb, _ => by simp at ha hb; omega
  | n + 1, a, b, ha, hb, h => by
    rw [codeB, codeB] at h
    obtain ⟨h1, h2⟩ := List.append_inj h (by rw [codeB_len, codeB_len])
    have h3 := codeB_inj n (a / 2) (b / 2) (by rw [Nat.pow_succ] at ha; omega) (by rw [Nat.pow_succ] at hb; omega) h1
    simp only [List.cons.injEq, and_true] at h2
    omega
def bitsT : List Int → List Nat
  | [] => []
  | c :: b => codeB (cd c.toNat) (ln c.toNat) ++ bitsT b
def bytesBits : List Int → List Nat
  | [] => []
  | x :: l => codeB x.toNat 8 ++ bytesBits l
theorem bitsT_len : ∀ b, (bitsT b).length = sumLn b
  | [] => rfl
  | c :: b => by rw [bitsT, List.length_append, codeB_len, bitsT_len b, sumLn]
theorem bytesBits_len : ∀ l, (bytesBits l).length = 8 * l.length
  | [] => rfl
  | x :: l => by rw [bytesBits, List.length_append, codeB_len, bytesBits_len l, List.length_cons]; omega
theorem bytesBits_append : ∀ a b, bytesBits (a ++ b) = bytesBits a ++ bytesBits b
  | [], b => rfl
  | x :: a, b => by rw [List.cons_append, bytesBits, bytesBits, bytesBits_append a b, List.append_assoc]
def isBytes (l : List Int) : Prop := ∀ x ∈ l, 0 ≤ x ∧ x < 256
theorem isBytes_append {a b : List Int} (h : isBytes a) (k : isBytes b) : isBytes (a ++ b) := fun x hx => (List.mem_append.1 hx).elim (h x) (k x)
theorem isBytes_one {x : Int} (h : 0 ≤ x ∧ x < 256) : isBytes [x] := fun y hy => by rw [List.mem_singleton.1 hy]; exact h
theorem bytesBits_inj : ∀ (a b : List Int), isBytes a → isBytes b → bytesBits a = bytesBits b → a = b
  | [], [], _, _, _ => rfl
  | [], y :: b, _, _, h => by have h1 := congrArg List.length h; rw [bytesBits_len, bytesBits_len] at h1; simp at h1
  | x :: a, [], _, _, h => by have h1 := congrArg List.length h; rw [bytesBits_len, bytesBits_len] at h1; simp at h1
  | x :: a, y :: b, ha, hb, h => by
    rw [bytesBits, bytesBits] at h
    obtain ⟨h1, h2⟩ := List.append_inj h (by rw [codeB_len, codeB_len])
    have hx := ha x (by simp)
    have hy := hb y (by simp)
    have h3 := codeB_inj 8 x.toNat y.toNat (by omega) (by omega) h1
    rw [bytesBits_inj a b (fun z hz => ha z (by simp [hz])) (fun z hz => hb z (by simp [hz])) h2]
    congr 1
    omega
theorem bytesBits_one (q : Nat) : bytesBits [(q : Int)] = codeB q 8 := by simp [bytesBits]
theorem rd_succ (x : Int) (l : List Int) (m : Nat) : rd (x :: l) ((m + 1 : Nat) : Int) = rd l (m : Int) := by
  unfold rd
  rw [Int.toNat_natCast, Int.toNat_natCast]
  rfl
theorem encI_bits : ∀ (k : Nat) (out : List Int) (H N : Nat), H < 2 ^ N → N < 8 * (k + 1) → isBytes out → (encI k out H N).2.2 < 8 ∧ (encI k out H N).2.1 < 2 ^ (encI k out H N).2.2 ∧ isBytes (encI k out H N).1 ∧ bytesBits (encI k out H N).1 ++ codeB (encI k out H N).2.1 (encI k out H N).2.2 = bytesBits out ++ codeB H N
  | 0, out, H, N, h, hN, ho => ⟨by simpa [encI] using hN, h, ho, rfl⟩
  | k + 1, out, H, N, h, hN, ho => by
    unfold encI
    by_cases h8 : 8 ≤ N
    · rw [if_pos h8]
      obtain ⟨M, rfl⟩ : ∃ M, N = M + 8 := ⟨N - 8, by omega⟩
      rw [Nat.add_sub_cancel]
      have hd : H / 2 ^ M < 256 := by rw [Nat.div_lt_iff_lt_mul (Nat.two_pow_pos M)]; rw [Nat.pow_add] at h; omega
      obtain ⟨h1, h2, h3, h4⟩ := encI_bits k (out ++ [((H / 2 ^ M : Nat) : Int)]) (H % 2 ^ M) M (Nat.mod_lt _ (Nat.two_pow_pos M)) (by omega) (isBytes_append ho (isBytes_one ⟨Int.natCast_nonneg _, Int.ofNat_lt.2 hd⟩))
      refine ⟨h1, h2, h3, h4.trans ?_⟩
      rw [bytesBits_append, List.append_assoc, Nat.add_comm M 8, codeB_split 8 M H, bytesBits_one]
    · rw [if_neg h8]
      exact ⟨by show N < 8; omega, h, ho, rfl⟩
theorem encO_bits : ∀ (b out : List Int) (held n : Nat), isBytes b → held < 2 ^ n → n < 8 → isBytes out → isBytes (encO b out held n) ∧ ∃ p, p < 8 ∧ bytesBits (encO b out held n) = bytesBits out ++ (codeB held n ++ (bitsT b ++ List.replicate p 1))
  | [], out, held, n, _, h, hn, ho => by
    unfold encO
    by_cases h0 : 0 < n
    · rw [if_pos h0]
      obtain ⟨q, hq⟩ : ∃ q, 8 - n = q := ⟨_, rfl⟩
      rw [hq]
      have hp := Nat.two_pow_pos q
      have hlt : held * 2 ^ q + 2 ^ q ≤ 2 ^ n * 2 ^ q := by have := Nat.mul_le_mul_right (2 ^ q) (show held + 1 ≤ 2 ^ n by omega); rw [Nat.succ_mul] at this; exact this
      have h256 : 2 ^ n * 2 ^ q = 256 := by rw [← Nat.pow_add, show n + q = 8 by omega]
      refine ⟨isBytes_append ho (isBytes_one (by omega)), q, by omega, ?_⟩
      rw [bytesBits_append]
      congr 1
      have hs := codeB_split n q (held * 2 ^ q + (2 ^ q - 1))
      rw [show n + q = 8 by omega] at hs
      have hd : (held * 2 ^ q + (2 ^ q - 1)) / 2 ^ q = held := by rw [Nat.mul_comm, Nat.mul_add_div hp, Nat.div_eq_of_lt (by omega), Nat.add_zero]
      have hm : (held * 2 ^ q + (2 ^ q - 1)) % 2 ^ q = 2 ^ q - 1 := by rw [Nat.mul_comm, Nat.mul_add_mod, Nat.mod_eq_of_lt (by omega)]
      rw [hd, hm, codeB_ones] at hs
      rw [bytesBits_one, hs, bitsT, List.nil_append]
    · rw [if_neg h0]
      obtain rfl : n = 0 := by omega
      exact ⟨ho, 0, by omega, by simp [codeB, bitsT]⟩
  | c :: b, out, held, n, hb, h, hn, ho => by
    have hc := hb c (by simp)
    have hl := ln_le c.toNat (by omega)
    have hcd := cd_lt c.toNat (by omega)
    have hlt : held * 2 ^ ln c.toNat + cd c.toNat < 2 ^ (n + ln c.toNat) := by
      have := Nat.mul_le_mul_right (2 ^ ln c.toNat) (show held + 1 ≤ 2 ^ n by omega)
      rw [Nat.succ_mul] at this
      rw [Nat.pow_add]; omega
    obtain ⟨h1, h2, h3, h4⟩ := encI_bits 5 out (held * 2 ^ ln c.toNat + cd c.toNat) (n + ln c.toNat) hlt (by omega) ho
    unfold encO
    obtain ⟨g1, p, g2, g3⟩ := encO_bits b _ _ _ (fun x hx => hb x (by simp [hx])) h2 h1 h3
    refine ⟨g1, p, g2, g3.trans ?_⟩
    have hs := codeB_split n (ln c.toNat) (held * 2 ^ ln c.toNat + cd c.toNat)
    have hd : (held * 2 ^ ln c.toNat + cd c.toNat) / 2 ^ ln c.toNat = held := by rw [Nat.mul_comm, Nat.mul_add_div (Nat.two_pow_pos _), Nat.div_eq_of_lt hcd, Nat.add_zero]
    have hm : (held * 2 ^ ln c.toNat + cd c.toNat) % 2 ^ ln c.toNat = cd c.toNat := by rw [Nat.mul_comm, Nat.mul_add_mod, Nat.mod_eq_of_lt hcd]
    rw [hd, hm] at hs
    rw [← List.append_assoc, h4, hs, bitsT]
    simp [List.append_assoc]
/-- The bits that Decode reads are the bytes'. -/
theorem bitsL_cons (x : Int) (l : List Int) (hx : 0 ≤ x ∧ x < 256) : bitsL (x :: l) = codeB x.toNat 8 ++ bitsL l := by
  unfold bitsL
  rw [List.length_cons, show 8 * (l.length + 1) = 8 + 8 * l.length by omega, List.range_add, List.map_append, List.map_map]
  congr 1
  · obtain ⟨n, rfl⟩ : ∃ n : Nat, x = (n : Int) := ⟨x.toNat, by omega⟩
    rw [show List.range 8 = [0, 1, 2, 3, 4, 5, 6, 7] by decide]
    simp [codeB, bitAt, rd, Nat.div_div_eq_div_mul]
    omega
  · refine List.map_congr_left (fun s hs => ?_)
    have : s < 8 * l.length := List.mem_range.1 hs
    simp only [Function.comp, bitAt]
    rw [show (8 + s) / 8 = s / 8 + 1 by omega, show (8 + s) % 8 = s % 8 by omega, rd_succ]
theorem bitsL_is : ∀ l, isBytes l → bitsL l = bytesBits l
  | [], _ => rfl
  | x :: l, h => by rw [bitsL_cons x l (h x (by simp)), bitsL_is l (fun y hy => h y (by simp [hy])), bytesBits]
theorem bytesB_is {b : List Int} (h : bytesB b = true) : isBytes b ∧ b.length ≤ 1000000 := by
  unfold bytesB at h
  rw [Bool.and_eq_true] at h
  exact ⟨fun x hx => of_decide_eq_true (List.all_eq_true.1 h.2 x hx), of_decide_eq_true h.1⟩
theorem bytesB_mk {b : List Int} (h : isBytes b) (hl : b.length ≤ 1000000) : bytesB b = true := by
  unfold bytesB
  rw [Bool.and_eq_true]
  exact ⟨decide_eq_true hl, List.all_eq_true.2 (fun x hx => decide_eq_true (h x hx))⟩
/-- What the bytes of a text are. -/
theorem enc_bits {b : List Int} (h : isBytes b) : isBytes (encO b [] 0 0) ∧ ∃ p, p < 8 ∧ bytesBits (encO b [] 0 0) = bitsT b ++ List.replicate p 1 := by
  obtain ⟨h1, p, h2, h3⟩ := encO_bits b [] 0 0 h (by decide) (by decide) (fun x hx => by cases hx)
  exact ⟨h1, p, h2, by simpa [bytesBits, codeB] using h3⟩
theorem enc_len {b : List Int} (h : isBytes b) : (encO b [] 0 0).length = (sumLn b + 7) / 8 := by
  obtain ⟨_, p, h2, h3⟩ := enc_bits h
  have h4 := congrArg List.length h3
  rw [bytesBits_len, List.length_append, bitsT_len, List.length_replicate] at h4
  omega
end Go.Proofs.YtlbjhbanfpnogaaDoor.QH
namespace Go.Proofs.YtlbjhbanfpnogaaDoor.QH
open Go.RowKit Go.Proofs.YtlbjhbanfpnogaaDoorW.PrintWords Go.Proofs.YtlbjhbanfpnogaaDoorW.PrintLast Go.Proofs.YtlbjhbanfpnogaaDoorW.PrintMore
attribute [local go_sem] max2_int min2_int max_two min_two max_three min_three max_four min_four
set_option linter.unusedVariables false
set_option linter.unusedSimpArgs false
theorem pre_le : ∀ (d n a : Nat), n + (d + 1) ≤ 31 → nxN (n + (d + 1)) 0 ≤ a → nxN n 257 ≤ a / 2 ^ (d + 1)
  | 0, n, a, h, ha => by
    have h1 := (nx_next n (by omega)).1
    simp only [Nat.zero_add, Nat.pow_one] at ha ⊢
    omega
  | d + 1, n, a, h, ha => by
    have h1 := (nx_next (n + (d + 1)) (by omega)).1
    have h2 := nx_mono (n + (d + 1)) 0 (by omega)
    have h3 := pre_le d n (a / 2) (by omega) (by rw [show n + (d + 1 + 1) = n + (d + 1) + 1 by omega] at ha; omega)
    rwa [Nat.div_div_eq_div_mul, Nat.mul_comm, ← Nat.pow_succ] at h3
theorem none_of {a n : Nat} (h : nxN n 257 ≤ a) : findC 257 a n = none := by
  cases hf : findC 257 a n with
  | none => rfl
  | some i =>
    obtain ⟨h1, h2, h3⟩ := findC_sound 257 a n i hf
    have h4 := cd_nx i h1
    have h5 := nx_step n i h1
    have h6 := nx_mono n (i + 1) (by omega)
    rw [h3] at h4
    rw [if_pos h3] at h5
    omega
theorem findC_ex (c : Nat) : ∀ m, c < m → ∃ i, findC m (cd c) (ln c) = some i
  | m + 1, h => by
    unfold findC
    by_cases hh : cd m = cd c ∧ ln m = ln c
    · rw [if_pos hh]; exact ⟨m, rfl⟩
    · rw [if_neg hh]
      refine findC_ex c m ?_
      rcases Nat.lt_or_ge c m with h1 | h1
      · exact h1
      · obtain rfl : c = m := by omega
        exact absurd ⟨rfl, rfl⟩ hh
theorem findC_own (c : Nat) (h : c < 257) : findC 257 (cd c) (ln c) = some c := by
  obtain ⟨i, hi⟩ := findC_ex c 257 h
  obtain ⟨h1, h2, h3⟩ := findC_sound 257 _ _ i hi
  rw [hi]
  have h4 := cd_nx i h1
  have h5 := cd_nx c h
  rw [h3] at h4
  have key : ∀ x y : Nat, x < y → y < 257 → ln x = ln c → nxN (ln c) x < nxN (ln c) y := fun x y hxy hy hx => by
    have h6 := nx_step (ln c) x (by omega)
    rw [if_pos hx] at h6
    have h7 : nxN (ln c) (x + 1) ≤ nxN (ln c) y := Nat.add_le_add_left (cnt_mono lensN (ln c) (x + 1) y (by omega)) _
    omega
  rcases Nat.lt_trichotomy i c with h6 | h6 | h6
  · have := key i c h6 h h3; omega
  · rw [h6]
  · have := key c i h6 h1 rfl; omega
/-- What a code does, read to its end. -/
def afterC (most : Int) (bs : List Nat) (out : List Int) (c : Nat) : List Int × Int := if c = 256 then ([], 3) else if most ≤ (out.length : Int) then ([], 4) else decL most bs 0 0 (out ++ [(c : Int)])
theorem dec_code (most : Int) (c : Nat) (hc : c < 257) (bs : List Nat) (out : List Int) : ∀ (r x n a : Nat), n + (r + 1) = ln c → cd c = x * 2 ^ (r + 1) + a → a < 2 ^ (r + 1) → decL most (codeB a (r + 1) ++ bs) x n out = afterC most bs out c
  | 0, x, n, a, hn, hx, ha => by
    simp only [Nat.zero_add, Nat.pow_one] at hx ha hn
    simp only [codeB, List.nil_append, List.cons_append, Nat.zero_add]
    unfold decL
    rw [Nat.mod_eq_of_lt ha, show 2 * x + a = cd c by omega, hn, findC_own c hc]
    rfl
  | r + 1, x, n, a, hn, hx, ha => by
    have hl := ln_le c hc
    have h0 := Nat.two_pow_pos (r + 1)
    have hs := codeB_split 1 (r + 1) a
    rw [Nat.add_comm 1] at hs
    have hb : a / 2 ^ (r + 1) < 2 := by rw [Nat.div_lt_iff_lt_mul h0]; rw [Nat.pow_succ] at ha; omega
    have hc1 : codeB (a / 2 ^ (r + 1)) 1 = [a / 2 ^ (r + 1)] := by simp [codeB, Nat.mod_eq_of_lt hb]
    rw [hs, hc1]
    have hx2 : cd c = (2 * x + a / 2 ^ (r + 1)) * 2 ^ (r + 1) + a % 2 ^ (r + 1) := by
      rw [hx, Nat.pow_succ 2 (r + 1), Nat.add_mul, Nat.add_assoc, Nat.mul_comm (a / 2 ^ (r + 1)), Nat.div_add_mod, Nat.mul_comm (2 ^ (r + 1)) 2, ← Nat.mul_assoc, Nat.mul_comm x 2]
    have hq : cd c / 2 ^ (r + 1) = 2 * x + a / 2 ^ (r + 1) := by
      rw [hx2, Nat.mul_comm, Nat.mul_add_div h0, Nat.div_eq_of_lt (Nat.mod_lt _ h0), Nat.add_zero]
    have hnone : findC 257 (2 * x + a / 2 ^ (r + 1)) (n + 1) = none := none_of (by
      rw [← hq]
      refine pre_le r (n + 1) (cd c) (by omega) ?_
      rw [show n + 1 + (r + 1) = ln c by omega]
      have := cd_nx c hc
      have h2 : nxN (ln c) 0 ≤ nxN (ln c) c := Nat.add_le_add_left (cnt_mono lensN (ln c) 0 c (by omega)) _
      omega)
    rw [List.append_assoc, List.cons_append, List.nil_append]
    rw [decL, hnone]
    exact dec_code most c hc bs out r _ (n + 1) _ (by omega) hx2 (Nat.mod_lt _ h0)
theorem dec_one (most : Int) (c : Nat) (hc : c < 257) (bs : List Nat) (out : List Int) : decL most (codeB (cd c) (ln c) ++ bs) 0 0 out = afterC most bs out c := by
  have hl := ln_le c hc
  obtain ⟨r, hr⟩ : ∃ r, ln c = r + 1 := ⟨ln c - 1, by omega⟩
  have h := dec_code most c hc bs out r 0 0 (cd c) (by omega) (by simp) (by rw [← hr]; exact cd_lt c hc)
  rw [← hr] at h
  exact h
theorem dec_text (most : Int) (bs : List Nat) : ∀ (b out : List Int), isBytes b → (out.length : Int) + b.length ≤ most → decL most (bitsT b ++ bs) 0 0 out = decL most bs 0 0 (out ++ b)
  | [], out, _, _ => by simp [bitsT]
  | c :: b, out, hb, hm => by
    have hc := hb c (by simp)
    simp only [List.length_cons] at hm
    rw [bitsT, List.append_assoc, dec_one most c.toNat (by omega)]
    unfold afterC
    rw [if_neg (by omega), if_neg (by omega), dec_text most bs b _ (fun x hx => hb x (by simp [hx])) (by rw [List.length_append]; simp only [List.length_cons, List.length_nil]; omega)]
    rw [show ((c.toNat : Nat) : Int) = c by omega, List.append_assoc]
    rfl
theorem tabF : ((List.range 16).all fun i => i == 0 || (findC 257 (2 ^ i - 1) i).isNone) = true := by decide +kernel
theorem ones_none (i : Nat) (h : i < 15) : findC 257 (2 * (2 ^ i - 1) + 1) (i + 1) = none := by
  have h1 := List.all_eq_true.1 tabF (i + 1) (List.mem_range.2 (by omega))
  have h2 : 2 * (2 ^ i - 1) + 1 = 2 ^ (i + 1) - 1 := by have := Nat.two_pow_pos i; rw [Nat.pow_succ]; omega
  rw [h2]
  simpa using h1
theorem dec_ones (most : Int) (out : List Int) : ∀ (p i : Nat), i + p ≤ 15 → decL most (List.replicate p 1) (2 ^ i - 1) i out = if i + p < 8 then (out, 0) else ([], 3)
  | 0, i, h => by
    unfold decL
    simp only [Nat.add_zero, List.replicate_zero]
    by_cases h8 : 8 ≤ i
    · rw [if_pos h8, if_neg (by omega)]
    · rw [if_neg h8, if_pos trivial, if_pos (by omega)]
  | p + 1, i, h => by
    have h2 : 2 * (2 ^ i - 1) + 1 = 2 ^ (i + 1) - 1 := by have := Nat.two_pow_pos i; rw [Nat.pow_succ]; omega
    rw [List.replicate_succ, decL, ones_none i (by omega)]
    simp only []
    rw [h2, dec_ones most out p (i + 1) (by omega), show i + 1 + p = i + (p + 1) by omega]
theorem dec_sound (most : Int) : ∀ (bs : List Nat) (a n : Nat) (out z : List Int), (∀ b ∈ bs, b < 2) → a < 2 ^ n → decL most bs a n out = (z, 0) → ∃ z' p, z = out ++ z' ∧ p < 8 ∧ isBytes z' ∧ codeB a n ++ bs = bitsT z' ++ List.replicate p 1 ∧ ((out.length : Int) ≤ most → (z.length : Int) ≤ most)
  | [], a, n, out, z, _, ha, h => by
    unfold decL at h
    by_cases h8 : 8 ≤ n
    · rw [if_pos h8] at h; simp at h
    · rw [if_neg h8] at h
      by_cases h1 : a = 2 ^ n - 1
      · rw [if_pos h1] at h
        simp only [Prod.mk.injEq, and_true] at h
        subst h
        exact ⟨[], n, by simp, by omega, (fun x hx => by cases hx), by rw [h1, codeB_ones]; simp [bitsT], id⟩
      · rw [if_neg h1] at h; simp at h
  | b :: bs, a, n, out, z, hb, ha, h => by
    have hb2 := hb b (by simp)
    have hcb : codeB (2 * a + b) (n + 1) = codeB a n ++ [b] := by rw [codeB, show (2 * a + b) / 2 = a by omega, show (2 * a + b) % 2 = b by omega]
    rw [decL] at h
    cases hf : findC 257 (2 * a + b) (n + 1) with
    | none =>
      rw [hf] at h
      simp only [] at h
      obtain ⟨z', p, h1, h2, h3, h4, h5⟩ := dec_sound most bs (2 * a + b) (n + 1) out z (fun x hx => hb x (by simp [hx])) (by rw [Nat.pow_succ]; omega) h
      exact ⟨z', p, h1, h2, h3, by rw [← h4, hcb, List.append_assoc]; rfl, h5⟩
    | some c =>
      obtain ⟨hc1, hc2, hc3⟩ := findC_sound 257 _ _ c hf
      rw [hf] at h
      simp only [] at h
      by_cases h6 : c = 256
      · rw [if_pos h6] at h; simp at h
      · rw [if_neg h6] at h
        by_cases h7 : most ≤ (out.length : Int)
        · rw [if_pos h7] at h; simp at h
        · rw [if_neg h7] at h
          obtain ⟨z', p, h1, h2, h3, h4, h5⟩ := dec_sound most bs 0 0 (out ++ [(c : Int)]) z (fun x hx => hb x (by simp [hx])) (by decide) h
          refine ⟨(c : Int) :: z', p, by rw [h1, List.append_assoc]; rfl, h2, fun x hx => ?_, ?_, fun _ => h5 (by rw [List.length_append]; simp only [List.length_cons, List.length_nil]; omega)⟩
          · rcases List.mem_cons.1 hx with rfl | hx
            · omega
            · exact h3 x hx
          · rw [bitsT, Int.toNat_natCast, hc2, hc3, hcb]
            simp only [codeB, List.nil_append] at h4
            rw [List.append_assoc, ← h4, List.append_assoc]
            rfl
theorem dec_bad (most : Int) : ∀ (bs : List Nat) (a n : Nat) (out : List Int), (decL most bs a n out).2 = 0 ∨ (decL most bs a n out).1 = []
  | [], a, n, out => by
    unfold decL
    split
    · exact .inr rfl
    · split
      · exact .inl rfl
      · exact .inr rfl
  | b :: bs, a, n, out => by
    rw [decL]
    cases findC 257 (2 * a + b) (n + 1) with
    | none => exact dec_bad most bs _ _ _
    | some c =>
      simp only []
      split
      · exact .inr rfl
      · split
        · exact .inr rfl
        · exact dec_bad most bs _ _ _
theorem codeB_lt : ∀ (n a : Nat), ∀ b ∈ codeB a n, b < 2
  | 0, _, b, h => by cases h
  | n + 1, a, b, h => by
    rcases List.mem_append.1 h with h1 | h1
    · exact codeB_lt n _ b h1
    · rw [List.mem_singleton.1 h1]; omega
theorem bytesBits_lt : ∀ (l : List Int), ∀ b ∈ bytesBits l, b < 2
  | [], b, h => by cases h
  | x :: l, b, h => by
    rcases List.mem_append.1 h with h1 | h1
    · exact codeB_lt 8 _ b h1
    · exact bytesBits_lt l b h1
/-- A text is that of its bytes. -/
theorem back_dec {b : List Int} (h : isBytes b) (most : Int) (hm : (b.length : Int) ≤ most) : decL most (bytesBits (encO b [] 0 0)) 0 0 [] = (b, 0) := by
  obtain ⟨_, p, h2, h3⟩ := enc_bits h
  rw [h3, dec_text most _ b [] h (by simpa using hm)]
  have := dec_ones most ([] ++ b) p 0 (by omega)
  simp only [Nat.pow_zero, Nat.sub_self, Nat.zero_add] at this
  rw [this, if_pos h2]
  rfl
theorem back_255 {b : List Int} (h : isBytes b) (most : Int) (hm : (b.length : Int) ≤ most) : decL most (bytesBits (encO b [] 0 0 ++ [255])) 0 0 [] = ([], 3) := by
  obtain ⟨_, p, h2, h3⟩ := enc_bits h
  rw [bytesBits_append, h3, List.append_assoc, show bytesBits [(255 : Int)] = List.replicate 8 1 by decide, List.replicate_append_replicate, dec_text most _ b [] h (by simpa using hm)]
  have := dec_ones most ([] ++ b) (p + 8) 0 (by omega)
  simp only [Nat.pow_zero, Nat.sub_self, Nat.zero_add] at this
  rw [this, if_neg (by omega)]
/-- Bytes that are a text's are its. -/
theorem back_enc {b z : List Int} (hb : isBytes b) (most : Int) (hm : 0 ≤ most) (h : decL most (bytesBits b) 0 0 [] = (z, 0)) : isBytes z ∧ encO z [] 0 0 = b ∧ (z.length : Int) ≤ most := by
  obtain ⟨z', p, h1, h2, h3, h4, h5⟩ := dec_sound most _ 0 0 [] z (bytesBits_lt b) (by decide) h
  rw [List.nil_append] at h1
  subst h1
  simp only [codeB, List.nil_append] at h4
  obtain ⟨g1, q, g2, g3⟩ := enc_bits h3
  have e1 := congrArg List.length h4
  have e2 := congrArg List.length g3
  rw [bytesBits_len, List.length_append, List.length_replicate] at e1 e2
  obtain rfl : p = q := by omega
  exact ⟨h3, bytesBits_inj _ _ g1 hb (g3.trans h4.symm), h5 (by simpa using hm)⟩
end Go.Proofs.YtlbjhbanfpnogaaDoor.QH
namespace Go.Proofs.YtlbjhbanfpnogaaDoor.QH
open Go.RowKit Go.Proofs.YtlbjhbanfpnogaaDoorW.PrintWords Go.Proofs.YtlbjhbanfpnogaaDoorW.PrintLast Go.Proofs.YtlbjhbanfpnogaaDoorW.PrintMore
attribute [local go_sem] max2_int min2_int max_two min_two max_three min_three max_four min_four
set_option linter.unusedVariables false
set_option linter.unusedSimpArgs false
/-- Of two codes, the shorter one is less than the longer one's first bits; of one length they are one just if the bytes are. -/
theorem code_same {p q : Nat} (hp : p < 257) (hq : q < 257) (h : ln p = ln q) (e : cd p = cd q) : p = q := by
  have h1 := findC_own p hp
  have h2 := findC_own q hq
  rw [h, e, h2] at h1
  exact (Option.some.inj h1).symm
theorem code_less {p q : Nat} (hp : p < 257) (hq : q < 257) (h : ln p < ln q) : cd p < cd q / 2 ^ (ln q - ln p) := by
  obtain ⟨d, hd⟩ : ∃ d, ln q = ln p + (d + 1) := ⟨ln q - ln p - 1, by omega⟩
  have hl := ln_le q hq
  have h1 := cd_nx q hq
  have h2 : nxN (ln q) 0 ≤ nxN (ln q) q := Nat.add_le_add_left (cnt_mono lensN (ln q) 0 q (by omega)) _
  have h3 := pre_le d (ln p) (cd q) (by omega) (by rw [← hd]; omega)
  have h4 := cd_nx p hp
  have h5 := nx_step (ln p) p hp
  rw [if_pos rfl] at h5
  have h6 := nx_mono (ln p) (p + 1) (by omega)
  rw [show ln q - ln p = d + 1 by omega]
  omega
end Go.Proofs.YtlbjhbanfpnogaaDoor.QH
namespace Go.Proofs.YtlbjhbanfpnogaaDoor.Pure
open Go Go.RowKit Go.Proofs.YtlbjhbanfpnogaaDoor.QH Go.Proofs.YtlbjhbanfpnogaaDoorW.PrintWords Go.Proofs.YtlbjhbanfpnogaaDoorW.PrintLast
set_option linter.unusedVariables false
theorem wr {x : Int} (h0 : -9223372036854775808 ≤ x) (h1 : x ≤ 9223372036854775807) : wrap64 x = x := by unfold wrap64; omega
theorem same01_l (l : List Int) (hl : l.length ≤ 1000000) : ∀ (d k : Nat) (i : Int), 0 ≤ i → i ≤ l.length → (l.length : Int) - i = d → d < k → gantletref01_Same.l0 k l l i = some true := by
  intro d
  induction d with
  | zero =>
    intro k i h0 h1 hd hk
    obtain ⟨k, rfl⟩ : ∃ j, k = j + 1 := ⟨k - 1, by omega⟩
    simp only [gantletref01_Same.l0]
    rw [if_neg (by omega)]
  | succ d ih =>
    intro k i h0 h1 hd hk
    obtain ⟨k, rfl⟩ : ∃ j, k = j + 1 := ⟨k - 1, by omega⟩
    simp only [gantletref01_Same.l0]
    rw [if_pos (by omega), if_pos h0, if_pos (by omega), if_pos trivial, wr (by omega) (by omega), ih k (i + 1) (by omega) (by omega) (by omega) (by omega)]
theorem same01_self {k : Nat} (l : List Int) (hl : l.length ≤ 1000000) (hk : l.length < k) : gantletref01_Same.f k l l = some true := by
  unfold gantletref01_Same.f
  rw [if_pos rfl, same01_l l hl l.length k 0 (by omega) (by omega) (by omega) hk]
theorem sumLn_le : ∀ b : List Int, isBytes b → sumLn b ≤ 30 * b.length
  | [], _ => by simp [sumLn]
  | c :: b, h => by
    have h1 := ln_le c.toNat (by have := h c (by simp); omega)
    have h2 := sumLn_le b (fun x hx => h x (by simp [hx]))
    simp only [sumLn, List.length_cons]
    omega
theorem encF {b : List Int} (h : isBytes b) (hl : b.length ≤ 1000000) : huff_Encode.f b = some (encO b [] 0 0) := by
  unfold huff_Encode.f
  rw [if_pos (bytesB_mk h hl)]
theorem sizeF {b : List Int} (h : isBytes b) (hl : b.length ≤ 1000000) : huff_Size.f b = some (((sumLn b + 7) / 8 : Nat) : Int) := by
  unfold huff_Size.f
  rw [if_pos (bytesB_mk h hl)]
theorem decF {b : List Int} (h : isBytes b) (hl : b.length ≤ 1000000) (most : Int) : huff_Decode.f b most = some (decL most (bytesBits b) 0 0 []) := by
  unfold huff_Decode.f
  rw [if_pos (bytesB_mk h hl), bitsL_is b h]
theorem aliveF : gantletlaw04_alive.f = some true := rfl
def bI (l : List Nat) : List Int := l.map fun x : Nat => (x : Int)
theorem bI_len (l : List Nat) : (bI l).length = l.length := List.length_map _
theorem bI_append (a b : List Nat) : bI (a ++ b) = bI a ++ bI b := List.map_append
theorem rd_mid (A C : List Int) (x : Int) : rd (A ++ x :: C) (A.length : Int) = x := by simp [rd]
theorem spell_l0 : ∀ (j k a : Nat) (xs : List Int), a ≤ 9223372036854775807 → j ≤ xs.length → xs.length ≤ 64 → j < k → gantletref04_spell.l0 k xs (a : Int) ((j : Int) - 1) = some (bI (codeB a j) ++ xs.drop j)
  | 0, k, a, xs, ha, hj, hl, hk => by
    obtain ⟨k, rfl⟩ : ∃ q, k = q + 1 := ⟨k - 1, by omega⟩
    simp only [gantletref04_spell.l0]
    rw [if_neg (by omega)]
    simp [codeB, bI]
  | j + 1, k, a, xs, ha, hj, hl, hk => by
    obtain ⟨k, rfl⟩ : ∃ q, k = q + 1 := ⟨k - 1, by omega⟩
    simp only [gantletref04_spell.l0]
    have e1 : wrap64 (Int.tdiv (a : Int) 2) = ((a / 2 : Nat) : Int) := by
      rw [Int.tdiv_eq_ediv_of_nonneg (by omega), wr (by omega) (by omega)]; omega
    have e2 : Int.tmod (a : Int) 2 % 256 = ((a % 2 : Nat) : Int) := by
      rw [Int.tmod_eq_emod_of_nonneg (by omega)]; omega
    have e3 : ((j + 1 : Nat) : Int) - 1 = (j : Int) := by omega
    rw [e3, if_pos (by omega), if_pos (by omega), if_pos (by omega), wr (x := (j : Int) - 1) (by omega) (by omega), e1, e2, spell_l0 j k (a / 2) _ (by omega) (by rw [List.length_set]; omega) (by rw [List.length_set]; exact hl) (by omega)]
    rw [codeB, bI_append, List.append_assoc, Int.toNat_natCast, List.drop_set, if_neg (by omega), Nat.sub_self, List.drop_eq_getElem_cons (show j < xs.length by omega), List.set_cons_zero]
    rfl
theorem spellF (a n k : Nat) (ha : a ≤ 9223372036854775807) (hn : n ≤ 64) (hk : n < k) : gantletref04_spell.f k (a : Int) (n : Int) = some (bI (codeB a n)) := by
  unfold gantletref04_spell.f
  rw [if_pos (by omega), if_pos (by omega), wr (by omega) (by omega), Int.toNat_natCast, spell_l0 n k a _ ha (by rw [List.length_replicate]; omega) (by rw [List.length_replicate]; omega) hk]
  rw [List.drop_eq_nil_of_le (by rw [List.length_replicate]; omega), List.append_nil]
theorem enc_l0 (K : Nat) (hK : 40 ≤ K) : ∀ (rest pre x5 : List Int), isBytes rest → pre.length + rest.length ≤ 100000 → x5.length ≤ 30 * pre.length → gantletref04_Encode.l0 (K + rest.length + 1) (pre ++ rest) lensI codesI x5 (pre.length : Int) = gantletref04_Encode.l1 K (x5 ++ bI (bitsT rest))
  | [], pre, x5, _, _, _ => by
    simp only [List.length_nil, Nat.add_zero, gantletref04_Encode.l0, List.append_nil]
    rw [if_neg (by omega)]
    simp [bitsT, bI]
  | c :: rest, pre, x5, hb, hl, hx => by
    have hc := hb c (by simp)
    simp only [List.length_cons] at hl
    have hln := ln_le c.toNat (by omega)
    have hcd := cd_small c.toNat (by omega)
    obtain ⟨cn, rfl⟩ : ∃ q : Nat, c = (q : Int) := ⟨c.toNat, by omega⟩
    rw [Int.toNat_natCast] at hln hcd
    rw [List.length_cons]
    obtain ⟨F, hF⟩ : ∃ F, F = K + (rest.length + 1) := ⟨_, rfl⟩
    rw [← hF]
    simp only [gantletref04_Encode.l0]
    have hpl : (pre ++ (cn : Int) :: rest).length = pre.length + (rest.length + 1) := by simp
    have h30 : (bI (codeB (cd cn) (ln cn))).length = ln cn := by rw [bI_len, codeB_len]
    rw [if_pos (by rw [hpl]; omega), if_pos (by omega), rd_mid, lensI_len, codesI_len, if_pos (by omega), if_pos (by omega), if_pos (by omega), rd_codesI cn (by omega), rd_lensI cn (by omega), spellF _ _ _ (by omega) (by omega) (by omega)]
    simp only [Option.bind_some]
    rw [if_pos (by rw [h30]; omega), wr (by omega) (by omega)]
    have h := enc_l0 K hK rest (pre ++ [(cn : Int)]) (x5 ++ bI (codeB (cd cn) (ln cn))) (fun x hx => hb x (by simp [hx])) (by rw [List.length_append]; simp only [List.length_cons, List.length_nil]; omega) (by rw [List.length_append, List.length_append, h30]; simp only [List.length_cons, List.length_nil]; omega)
    rw [List.length_append, List.append_assoc] at h
    simp only [List.length_cons, List.length_nil, List.cons_append, List.nil_append, Nat.zero_add] at h
    rw [show ((pre.length + 1 : Nat) : Int) = (pre.length : Int) + 1 by omega] at h
    rw [hF, show K + (rest.length + 1) = K + rest.length + 1 by omega, h, bitsT, Int.toNat_natCast, bI_append, List.append_assoc]
theorem enc_l1 (K : Nat) : ∀ (p : Nat) (x5 : List Int), x5.length + p ≤ 4000000 → (x5.length + p) % 8 = 0 → p < 8 → gantletref04_Encode.l1 (K + p + 1) x5 = gantletref04_Encode.l2 K (x5 ++ bI (List.replicate p 1)) [] 0
  | 0, x5, hl, h8, hp => by
    simp only [gantletref04_Encode.l1]
    rw [if_pos (by omega)]
    simp [bI]
  | p + 1, x5, hl, h8, hp => by
    have h1 : (x5 ++ [(1 : Int)]).length = x5.length + 1 := by simp
    have h2 := enc_l1 K p (x5 ++ [1]) (by omega) (by omega) (by omega)
    obtain ⟨F, hF⟩ : ∃ F, F = K + (p + 1) := ⟨_, rfl⟩
    rw [← hF]
    simp only [gantletref04_Encode.l1]
    rw [if_neg (by omega), if_pos (by omega), hF, show K + (p + 1) = K + p + 1 by omega, h2, List.append_assoc]
    rfl
theorem rd_bits {l : List Int} (h : isBytes l) (s : Nat) (hs : s < 8 * l.length) : rd (bI (bytesBits l)) (s : Int) = bitAt l s := by
  rw [← bitsL_is l h]
  have h0 : 0 ≤ bitAt l s := by unfold bitAt; omega
  simp [rd, bI, bitsL, hs]
  omega
theorem enc_l3 (K : Nat) (pre rest : List Int) (x : Nat) (x7 : List Int) (hx : x < 256) (hb : isBytes (pre ++ (x : Int) :: rest)) (hl : pre.length ≤ 1000000) (h7 : x7.length ≤ 1000000) : ∀ d : Nat, d ≤ 8 → gantletref04_Encode.l3 (K + d + 1) (bI (bytesBits (pre ++ (x : Int) :: rest))) x7 ((8 * pre.length : Nat) : Int) ((x / 2 ^ d : Nat) : Int) ((8 - d : Nat) : Int) = gantletref04_Encode.l2 K (bI (bytesBits (pre ++ (x : Int) :: rest))) (x7 ++ [(x : Int)]) ((8 * (pre.length + 1) : Nat) : Int)
  | 0, hd => by
    simp only [gantletref04_Encode.l3]
    rw [if_neg (by omega), if_pos (by omega), wr (by omega) (by omega), Nat.pow_zero, Nat.div_one, show ((8 * (pre.length + 1) : Nat) : Int) = ((8 * pre.length : Nat) : Int) + 8 by omega]
  | d + 1, hd => by
    have hlen : (bI (bytesBits (pre ++ (x : Int) :: rest))).length = 8 * (pre.length + (rest.length + 1)) := by rw [bI_len, bytesBits_len]; simp
    have e1 : ((8 * pre.length : Nat) : Int) + ((8 - (d + 1) : Nat) : Int) = ((8 * pre.length + (7 - d) : Nat) : Int) := by omega
    have ih := enc_l3 K pre rest x x7 hx hb hl h7 d (by omega)
    obtain ⟨F, hF⟩ : ∃ F, F = K + (d + 1) := ⟨_, rfl⟩
    rw [← hF]
    simp only [gantletref04_Encode.l3]
    rw [if_pos (by omega), e1, wr (x := ((8 * pre.length + (7 - d) : Nat) : Int)) (by omega) (by omega), if_pos (by omega), if_pos (by rw [hlen]; omega), rd_bits hb _ (by simp; omega)]
    have e2 : bitAt (pre ++ (x : Int) :: rest) (8 * pre.length + (7 - d)) = ((x / 2 ^ d % 2 : Nat) : Int) := by
      unfold bitAt
      rw [show (8 * pre.length + (7 - d)) / 8 = pre.length by omega, rd_mid, show 7 - (8 * pre.length + (7 - d)) % 8 = d by omega]
      simp
    have e3 : (2 * ((x / 2 ^ (d + 1) : Nat) : Int) % 256 + ((x / 2 ^ d % 2 : Nat) : Int)) % 256 = ((x / 2 ^ d : Nat) : Int) := by
      have h1 : x / 2 ^ (d + 1) = x / 2 ^ d / 2 := by rw [Nat.div_div_eq_div_mul, Nat.pow_succ]
      have h2 : x / 2 ^ d ≤ x := Nat.div_le_self _ _
      rw [h1]
      generalize x / 2 ^ d = y at *
      omega
    rw [e2, e3, wr (by omega) (by omega), show ((8 - (d + 1) : Nat) : Int) + 1 = ((8 - d : Nat) : Int) by omega, hF, show K + (d + 1) = K + d + 1 by omega]
    exact ih
theorem enc_l2 (K : Nat) : ∀ (rest pre x7 : List Int), isBytes (pre ++ rest) → pre.length + rest.length ≤ 1000000 → x7.length = pre.length → gantletref04_Encode.l2 (K + 10 * rest.length + 1) (bI (bytesBits (pre ++ rest))) x7 ((8 * pre.length : Nat) : Int) = some (x7 ++ rest)
  | [], pre, x7, hb, hl, h7 => by
    simp only [List.length_nil, Nat.mul_zero, Nat.add_zero, gantletref04_Encode.l2, List.append_nil]
    rw [if_neg (by rw [bI_len, bytesBits_len]; omega)]
  | c :: rest, pre, x7, hb, hl, h7 => by
    have hc := hb c (by simp)
    simp only [List.length_cons] at hl
    obtain ⟨cn, rfl⟩ : ∃ q : Nat, c = (q : Int) := ⟨c.toNat, by omega⟩
    rw [List.length_cons]
    obtain ⟨F, hF⟩ : ∃ F, F = K + 10 * (rest.length + 1) := ⟨_, rfl⟩
    rw [← hF]
    simp only [gantletref04_Encode.l2]
    have h3 := enc_l3 (K + 10 * rest.length + 1) pre rest cn x7 (by omega) hb (by omega) (by omega) 8 (by decide)
    rw [Nat.div_eq_of_lt (show cn < 2 ^ 8 by omega)] at h3
    have h2 := enc_l2 K rest (pre ++ [(cn : Int)]) (x7 ++ [(cn : Int)]) (by rw [List.append_assoc]; exact hb) (by rw [List.length_append]; simp only [List.length_cons, List.length_nil]; omega) (by simp [h7])
    rw [List.length_append, List.append_assoc, List.append_assoc] at h2
    simp only [List.length_cons, List.length_nil, List.cons_append, List.nil_append, Nat.zero_add] at h2
    rw [if_pos (by rw [bI_len, bytesBits_len, List.length_append, List.length_cons]; omega), hF, show K + 10 * (rest.length + 1) = K + 10 * rest.length + 1 + 8 + 1 by omega]
    exact h3.trans h2
theorem encR {k : Nat} {b : List Int} (h : isBytes b) (hl : b.length ≤ 100000) (hk : 40 * b.length + 1000 ≤ k) : gantletref04_Encode.f k b = some (encO b [] 0 0) := by
  obtain ⟨hby, p, h2, h3⟩ := enc_bits h
  have hlen := enc_len h
  have hs := sumLn_le b h
  have h4 := congrArg List.length h3
  rw [bytesBits_len, List.length_append, bitsT_len, List.length_replicate] at h4
  have hr : gantletref04_Encode.f (40 + 10 * (encO b [] 0 0).length + 1 + p + 1 + b.length + 1) b = some (encO b [] 0 0) := by
    unfold gantletref04_Encode.f gantletref04_lengths.f gantletref04_Codes.f
    simp only [Option.bind_some]
    have e0 := enc_l0 (40 + 10 * (encO b [] 0 0).length + 1 + p + 1) (by omega) b [] [] h (by simpa using hl) (by simp)
    simp only [List.length_nil, List.nil_append] at e0
    have e1 := enc_l1 (40 + 10 * (encO b [] 0 0).length + 1) p (bI (bitsT b)) (by rw [bI_len, bitsT_len]; omega) (by rw [bI_len, bitsT_len]; omega) h2
    have e2 := enc_l2 40 (encO b [] 0 0) [] [] (by simpa using hby) (by simp; omega) rfl
    simp only [List.length_nil, List.nil_append, Nat.mul_zero] at e2
    rw [← bI_append, ← h3] at e1
    exact e0.trans (e1.trans e2)
  exact at_rounds (fun k => gantletref04_Encode.mono b k) (by omega) hr
end Go.Proofs.YtlbjhbanfpnogaaDoor.Pure
namespace Go.Proofs.YtlbjhbanfpnogaaDoor.Pure
open Go Go.RowKit Go.Proofs.YtlbjhbanfpnogaaDoor.QH Go.Proofs.YtlbjhbanfpnogaaDoorW.PrintWords Go.Proofs.YtlbjhbanfpnogaaDoorW.PrintLast
set_option linter.unusedVariables false
theorem sizeR (l : List Int) : ∀ (rest pre : List Int) (k s : Nat), isBytes rest → pre.length + rest.length ≤ 100000 → s ≤ 30 * pre.length → rest.length < k → gantletref04_Size.l0 k (pre ++ rest) lensI (s : Int) (pre.length : Int) = some (((s + sumLn rest + 7) / 8 : Nat) : Int)
  | [], pre, k, s, _, hl, hs, hk => by
    obtain ⟨k, rfl⟩ : ∃ q, k = q + 1 := ⟨k - 1, by omega⟩
    simp only [gantletref04_Size.l0, List.append_nil, sumLn]
    simp only [List.length_nil] at hl
    rw [if_neg (by omega), wr (x := (s : Int) + 7) (by omega) (by omega), Int.tdiv_eq_ediv_of_nonneg (by omega), wr (by omega) (by omega)]
    congr 1
  | c :: rest, pre, k, s, hb, hl, hs, hk => by
    have hc := hb c (by simp)
    simp only [List.length_cons] at hl hk
    have hln := ln_le c.toNat (by omega)
    obtain ⟨k, rfl⟩ : ∃ q, k = q + 1 := ⟨k - 1, by omega⟩
    obtain ⟨cn, rfl⟩ : ∃ q : Nat, c = (q : Int) := ⟨c.toNat, by omega⟩
    rw [Int.toNat_natCast] at hln
    have hpl : (pre ++ (cn : Int) :: rest).length = pre.length + (rest.length + 1) := by simp
    simp only [gantletref04_Size.l0]
    rw [if_pos (by rw [hpl]; omega), if_pos (by omega), rd_mid, lensI_len, if_pos (by omega), if_pos (by omega), rd_lensI cn (by omega), wr (by omega) (by omega), wr (by omega) (by omega)]
    have h := sizeR l rest (pre ++ [(cn : Int)]) k (s + ln cn) (fun x hx => hb x (by simp [hx])) (by rw [List.length_append]; simp only [List.length_cons, List.length_nil]; omega) (by rw [List.length_append]; simp only [List.length_cons, List.length_nil]; omega) (by omega)
    rw [List.length_append, List.append_assoc] at h
    simp only [List.length_cons, List.length_nil, List.cons_append, List.nil_append, Nat.zero_add] at h
    rw [show ((pre.length + 1 : Nat) : Int) = (pre.length : Int) + 1 by omega, show ((s + ln cn : Nat) : Int) = (s : Int) + (ln cn : Int) by omega] at h
    rw [h, sumLn, Int.toNat_natCast, Nat.add_assoc s]
def findV (a n : Nat) : Int := match findC 257 a n with | none => -1 | some c => (c : Int)
theorem find_l0 (a n : Nat) : ∀ (d k i : Nat), i + d = 257 → (∀ c, findC 257 a n = some c → i ≤ c) → d < k → gantletref04_find.l0 k lensI codesI (a : Int) (n : Int) (i : Int) = some (findV a n)
  | 0, k, i, hi, hc, hk => by
    obtain ⟨k, rfl⟩ : ∃ q, k = q + 1 := ⟨k - 1, by omega⟩
    simp only [gantletref04_find.l0]
    rw [if_neg (by omega)]
    unfold findV
    cases hf : findC 257 a n with
    | none => rfl
    | some c =>
      have := findC_sound 257 a n c hf
      have := hc c hf
      omega
  | d + 1, k, i, hi, hc, hk => by
    obtain ⟨k, rfl⟩ : ∃ q, k = q + 1 := ⟨k - 1, by omega⟩
    simp only [gantletref04_find.l0]
    rw [if_pos (by omega), if_pos (by omega), lensI_len, codesI_len, if_pos (by omega), rd_lensI i (by omega), rd_codesI i (by omega)]
    have hw : wrap64 ((i : Int) + 1) = ((i + 1 : Nat) : Int) := wr (by omega) (by omega)
    have next : ¬ (ln i = n ∧ cd i = a) → gantletref04_find.l0 k lensI codesI (a : Int) (n : Int) (wrap64 ((i : Int) + 1)) = some (findV a n) := fun hne => by
      rw [hw]
      refine find_l0 a n d k (i + 1) (by omega) (fun c hf => ?_) (by omega)
      have h1 := hc c hf
      obtain ⟨h2, h3, h4⟩ := findC_sound 257 a n c hf
      rcases Nat.lt_or_ge i c with h5 | h5
      · exact h5
      · obtain rfl : i = c := by omega
        exact absurd ⟨h4, h3⟩ hne
    by_cases h1 : ln i = n
    · rw [if_pos (by omega), if_pos (by omega)]
      by_cases h2 : cd i = a
      · rw [if_pos (by omega)]
        have := findC_own i (by omega)
        rw [h1, h2] at this
        unfold findV
        rw [this]
      · rw [if_neg (by omega)]; exact next (fun h => h2 h.2)
    · rw [if_neg (by omega)]; exact next (fun h => h1 h.1)
theorem findR (a n k : Nat) (hk : 257 < k) : gantletref04_find.f k lensI codesI (a : Int) (n : Int) = some (findV a n) :=
  find_l0 a n 257 k 0 rfl (fun _ _ => Nat.zero_le _) hk
theorem decL_len' (most : Int) : ∀ (bs : List Nat) (a n : Nat) (out : List Int), (decL most bs a n out).1.length ≤ out.length + bs.length
  | [], a, n, out => by
    unfold decL
    split
    · simp
    · split <;> simp
  | b :: bs, a, n, out => by
    rw [decL]
    cases findC 257 (2 * a + b) (n + 1) with
    | none =>
      have := decL_len' most bs (2 * a + b) (n + 1) out
      simp only [List.length_cons]
      omega
    | some c =>
      simp only []
      split
      · simp
      · split
        · simp
        · have := decL_len' most bs 0 0 (out ++ [(c : Int)])
          simp only [List.length_append, List.length_cons, List.length_nil] at this ⊢
          omega
end Go.Proofs.YtlbjhbanfpnogaaDoor.Pure
namespace Go.Proofs.YtlbjhbanfpnogaaDoor.Pure
open Go Go.RowKit Go.Proofs.YtlbjhbanfpnogaaDoor.QH Go.Proofs.YtlbjhbanfpnogaaDoorW.PrintWords Go.Proofs.YtlbjhbanfpnogaaDoorW.PrintLast
set_option linter.unusedVariables false
theorem rd_one (x j : Nat) (hx : x < 256) (hj : j < 8) : rd (bI (codeB x 8)) (j : Int) = (x : Int) / 2 ^ (7 - j) % 2 := by
  rw [← bytesBits_one, rd_bits (isBytes_one (by omega)) j (by simp only [List.length_cons, List.length_nil]; omega)]
  unfold bitAt
  have h0 : rd [(x : Int)] ((j / 8 : Nat) : Int) = (x : Int) := by rw [show j / 8 = 0 by omega]; rfl
  rw [h0, Nat.mod_eq_of_lt hj]
theorem dec_zero (l : List Int) (most : Int) (hl : l.length ≤ 100000) (K s a n : Nat) (out : List Int) (hs : s = 8 * l.length) : gantletref04_Decode.l0 (K + 1) l most lensI codesI out (a : Int) (n : Int) (decide (a = 2 ^ n - 1)) (s : Int) = some (decL most ((bitsL l).drop s) a n out) := by
  rw [List.drop_eq_nil_of_le (by rw [bitsL_len]; omega)]
  simp only [gantletref04_Decode.l0, decL]
  rw [wr (x := 8 * (l.length : Int)) (by omega) (by omega), if_neg (by omega)]
  by_cases h8 : 8 ≤ n
  · rw [if_pos (by omega), if_pos h8]
  · rw [if_neg (by omega), if_neg h8]
    by_cases h1 : a = 2 ^ n - 1
    · rw [if_pos (decide_eq_true h1), if_pos h1]
    · rw [if_neg (by simpa using h1), if_neg h1]
theorem dec_j1 (l : List Int) (most : Int) (hb : isBytes l) (hl : l.length ≤ 100000) (K : Nat) (hK : 300 ≤ K) (d : Nat) (IH : ∀ (s a n : Nat) (out : List Int), s + d = 8 * l.length → open_ a n → out.length ≤ s → gantletref04_Decode.l0 (K + 2 * d + 1) l most lensI codesI out (a : Int) (n : Int) (decide (a = 2 ^ n - 1)) (s : Int) = some (decL most ((bitsL l).drop s) a n out)) (s a n b : Nat) (out : List Int) (hs : s + (d + 1) = 8 * l.length) (ho : open_ a n) (hq : out.length ≤ s) (hb2 : b < 2) (hbe : bitAt l s = (b : Int)) : gantletref04_Decode.j1 (K + 2 * d + 2) l most lensI codesI out ((2 * a + b : Nat) : Int) ((n + 1 : Nat) : Int) (decide (2 * a + b = 2 ^ (n + 1) - 1)) (s : Int) = some (decL most ((bitsL l).drop s) a n out) := by
      have e6 : wrap64 ((s : Int) + 1) = ((s + 1 : Nat) : Int) := wr (by omega) (by omega)
      rw [bitsL_drop l s (by omega), hbe, Int.toNat_natCast, decL]
      obtain ⟨F1, hF1⟩ : ∃ F1, F1 = K + 2 * d + 1 := ⟨_, rfl⟩
      rw [show K + 2 * d + 2 = F1 + 1 by omega]
      simp only [gantletref04_Decode.j1]
      rw [findR _ _ _ (by omega)]
      simp only [Option.bind_some]
      unfold findV
      cases hf : findC 257 (2 * a + b) (n + 1) with
      | none =>
        simp only []
        rw [if_pos (by decide), e6, hF1]
        exact IH (s + 1) (2 * a + b) (n + 1) out (by omega) (open_next ho hb2 hf) (by omega)
      | some c =>
        obtain ⟨hc1, _, _⟩ := findC_sound 257 _ _ c hf
        simp only []
        rw [if_neg (by omega)]
        by_cases h6 : c = 256
        · rw [if_pos (by omega), if_pos h6]
        · rw [if_neg (by omega), if_neg h6]
          by_cases h7 : most ≤ (out.length : Int)
          · rw [if_pos h7, if_pos h7]
          · rw [if_neg h7, if_neg h7, if_pos (by omega), e6, hF1, show (c : Int) % 256 = (c : Int) by omega]
            exact IH (s + 1) 0 0 (out ++ [(c : Int)]) (by omega) open_start (by rw [List.length_append]; simp only [List.length_cons, List.length_nil]; omega)
theorem q0 (L : Nat) (h : L ≤ 100000) : wrap64 (8 * (L : Int)) = 8 * (L : Int) := wr (by omega) (by omega)
theorem q1 (s : Nat) (h : s ≤ 2000000) : wrap64 (Int.tdiv (s : Int) 8) = ((s / 8 : Nat) : Int) := by
  rw [Int.tdiv_eq_ediv_of_nonneg (by omega), wr (by omega) (by omega)]; omega
theorem q2 (s : Nat) : Int.tmod (s : Int) 8 = ((s % 8 : Nat) : Int) := by
  rw [Int.tmod_eq_emod_of_nonneg (by omega)]; omega
theorem q4 (a b : Nat) (ha : a < 536870912) (hb : b < 2) : wrap64 (wrap64 (2 * (a : Int)) + wrap64 (b : Int)) = ((2 * a + b : Nat) : Int) := by
  rw [wr (x := 2 * (a : Int)) (by omega) (by omega), wr (x := (b : Int)) (by omega) (by omega), wr (by omega) (by omega)]; omega
theorem q5 (n : Nat) (h : n ≤ 29) : wrap64 ((n : Int) + 1) = ((n + 1 : Nat) : Int) := wr (by omega) (by omega)
theorem qx (x : Nat) (h : x < 256) : wrap64 (x : Int) = (x : Int) := wr (by omega) (by omega)
theorem g1 (a b X : Nat) (h0 : 0 < X) (hb : b < 2) (h1 : a = X - 1) : ((b : Int) == 1) = decide (2 * a + b = X * 2 - 1) := by
  rw [Bool.eq_iff_iff, beq_iff_eq, decide_eq_true_eq]; omega
theorem g2 (a b X : Nat) (h0 : 0 < X) (hb : b < 2) (ha : a < X) (h1 : ¬ a = X - 1) : false = decide (2 * a + b = X * 2 - 1) := by
  symm; rw [decide_eq_false_iff_not]; omega
theorem open_lt {a n : Nat} (ho : open_ a n) : a < 536870912 := Nat.lt_of_lt_of_le ho.2.1 (Nat.pow_le_pow_right (by decide) ho.2.2)
theorem byte_at {l : List Int} (hb : isBytes l) (i : Nat) (hi : i < l.length) : ∃ x : Nat, x < 256 ∧ rd l (i : Int) = (x : Int) := by
  have h : rd l (i : Int) = l[i] := by
    unfold rd
    rw [Int.toNat_natCast, List.getD_eq_getElem?_getD, List.getElem?_eq_getElem hi]
    rfl
  have h2 := hb _ (List.getElem_mem hi)
  exact ⟨(l[i]).toNat, by omega, by rw [h]; omega⟩
theorem dec_step (l : List Int) (most : Int) (hb : isBytes l) (hl : l.length ≤ 100000) (s a n b F : Nat) (out : List Int) (R : Option (List Int × Int)) (hs : s < 8 * l.length) (ho : open_ a n) (hF : 8 < F) (hb2 : b < 2) (hbe : bitAt l s = (b : Int)) (j1 : gantletref04_Decode.j1 F l most lensI codesI out ((2 * a + b : Nat) : Int) ((n + 1 : Nat) : Int) (decide (2 * a + b = 2 ^ n * 2 - 1)) (s : Int) = R) : gantletref04_Decode.l0 (F + 1) l most lensI codesI out (a : Int) (n : Int) (decide (a = 2 ^ n - 1)) (s : Int) = R := by
  obtain ⟨x, hx, hxe⟩ := byte_at hb (s / 8) (by omega)
  have e3 : rd (bI (codeB x 8)) ((s % 8 : Nat) : Int) = (b : Int) := by
    rw [rd_one x (s % 8) hx (Nat.mod_lt _ (by decide)), ← hbe]
    unfold bitAt
    rw [hxe]
  have sp : gantletref04_spell.f F (x : Int) 8 = some (bI (codeB x 8)) := spellF x 8 F (Nat.le_trans (Nat.le_of_lt hx) (by decide)) (by decide) hF
  have hcl : ((bI (codeB x 8)).length : Int) = 8 := by rw [bI_len, codeB_len]; rfl
  have c1 : (s : Int) < 8 * (l.length : Int) := by clear j1; omega
  have c3 : ((s / 8 : Nat) : Int) < (l.length : Int) := by clear j1; omega
  have c5 : ((s % 8 : Nat) : Int) < 8 := by clear j1; omega
  rw [gantletref04_Decode.l0, q0 _ hl, if_pos c1, q1 s (by clear j1; omega), if_pos (Int.natCast_nonneg _), if_pos c3, hxe, qx x hx, sp, Option.bind_some, q2, if_pos (Int.natCast_nonneg _), hcl, if_pos c5, e3, q4 a b (open_lt ho) hb2, q5 n ho.2.2]
  by_cases h1 : a = 2 ^ n - 1
  · rw [if_pos (decide_eq_true h1), g1 a b (2 ^ n) (Nat.two_pow_pos n) hb2 h1]
    exact j1
  · rw [← g2 a b (2 ^ n) (Nat.two_pow_pos n) hb2 ho.2.1 h1] at j1
    rw [if_neg (fun h => h1 (of_decide_eq_true h))]
    exact j1
theorem dec_l0 (l : List Int) (most : Int) (hb : isBytes l) (hl : l.length ≤ 100000) (K : Nat) (hK : 300 ≤ K) : ∀ (d s a n : Nat) (out : List Int), s + d = 8 * l.length → open_ a n → out.length ≤ s → gantletref04_Decode.l0 (K + 2 * d + 1) l most lensI codesI out (a : Int) (n : Int) (decide (a = 2 ^ n - 1)) (s : Int) = some (decL most ((bitsL l).drop s) a n out) := by
  intro d
  induction d with
  | zero => exact fun s a n out hs _ _ => dec_zero l most hl K s a n out hs
  | succ d IH =>
    intro s a n out hs ho hq
    obtain ⟨b, hb2, hbe⟩ : ∃ b : Nat, b < 2 ∧ bitAt l s = (b : Int) := ⟨(bitAt l s).toNat, by unfold bitAt; omega, by unfold bitAt; omega⟩
    have h := dec_j1 l most hb hl K hK d IH s a n b out hs ho hq hb2 hbe
    rw [Nat.pow_succ] at h
    exact dec_step l most hb hl s a n b (K + 2 * d + 2) out _ (by clear h; omega) ho (by clear h; omega) hb2 hbe h
theorem decR {k : Nat} {l : List Int} (most : Int) (hb : isBytes l) (hl : l.length ≤ 100000) (hk : 16 * l.length + 400 ≤ k) : gantletref04_Decode.f k l most = some (decL most (bytesBits l) 0 0 []) := by
  have hk2 : 300 + 2 * (8 * l.length) + 1 ≤ k := by omega
  have hr : gantletref04_Decode.f (300 + 2 * (8 * l.length) + 1) l most = some (decL most (bytesBits l) 0 0 []) := by
    unfold gantletref04_Decode.f gantletref04_lengths.f gantletref04_Codes.f
    have h := dec_l0 l most hb hl 300 (by decide) (8 * l.length) 0 0 0 [] (by omega) open_start (Nat.le_refl _)
    rw [List.drop_zero, bitsL_is l hb, show decide (0 = 2 ^ 0 - 1) = true from rfl, show ((0 : Nat) : Int) = 0 from rfl] at h
    rw [Option.bind_some, Option.bind_some]
    exact h
  exact at_rounds (fun k => gantletref04_Decode.mono l most k) hk2 hr
end Go.Proofs.YtlbjhbanfpnogaaDoor.Pure
namespace Go.Proofs.YtlbjhbanfpnogaaDoor.QH
open Go.RowKit Go.Proofs.YtlbjhbanfpnogaaDoorW.PrintWords Go.Proofs.YtlbjhbanfpnogaaDoorW.PrintLast Go.Proofs.YtlbjhbanfpnogaaDoorW.PrintMore
attribute [local go_sem] max2_int min2_int max_two min_two max_three min_three max_four min_four
set_option linter.unusedVariables false
set_option linter.unusedSimpArgs false
/-- The bytes of a text. -/
def sb (s : ByteArray) : List Int := s.data.toList.map fun b => ((b.toNat : Nat) : Int)
theorem sb_len (s : ByteArray) : (sb s).length = s.size := by rw [sb, List.length_map, Array.length_toList]; rfl
theorem sb_bytes (s : ByteArray) : isBytes (sb s) := fun x hx => by
  obtain ⟨b, _, rfl⟩ := List.mem_map.1 hx
  have := b.toNat_lt
  omega
theorem sb_str (s : ByteArray) : strOfNums (sb s) = s := by
  unfold strOfNums sb
  rw [List.map_map]
  have e : (List.map ((fun n : Int => UInt8.ofNat n.toNat) ∘ fun b : UInt8 => ((b.toNat : Nat) : Int)) s.data.toList) = s.data.toList := by
    conv => rhs; rw [← List.map_id s.data.toList]
    refine List.map_congr_left (fun b _ => ?_)
    simp
  rw [e]
theorem str_sb {l : List Int} (h : isBytes l) : sb (strOfNums l) = l := by
  unfold strOfNums sb
  simp only [List.map_map]
  conv => rhs; rw [← List.map_id l]
  refine List.map_congr_left (fun x hx => ?_)
  have h1 := h x hx
  simp only [Function.comp, id]
  have : (UInt8.ofNat x.toNat).toNat = x.toNat := by rw [UInt8.toNat_ofNat']; omega
  rw [this]
  omega
theorem sb_inj {s t : ByteArray} (h : sb s = sb t) : s = t := by rw [← sb_str s, h, sb_str]
theorem sb_get (s : ByteArray) (j : Nat) (hj : j < s.size) : (sb s).getD j 0 = (((s.data.toList.getD j 0).toNat : Nat) : Int) := by
  have hj' : j < s.data.toList.length := by rw [Array.length_toList]; exact hj
  unfold sb
  rw [List.getD_eq_getElem?_getD, List.getElem?_map, List.getElem?_eq_getElem hj', List.getD_eq_getElem?_getD, List.getElem?_eq_getElem hj']
  rfl
theorem conv_below (w : World) (s : ByteArray) : Below w.heap.size w (Lib.bytesWorld w 5 s) where
  os := by simp [Lib.bytesWorld, World.freeze, World.alloc, World.drew, -World.alloc_eq, -World.drew_eq]
  tape := by simp [Lib.bytesWorld, World.freeze, World.alloc, World.drew, -World.alloc_eq, -World.drew_eq]
  output := by simp [Lib.bytesWorld, World.freeze, World.alloc, World.drew, -World.alloc_eq, -World.drew_eq]
  size := by rw [Lib.bytesWorld_size]; omega
  block := fun k hk => Lib.bytesWorld_at_old w 5 s k hk
theorem conv_C (w : World) (s : ByteArray) (hs : s.size ≤ 9223372036854775807) : Kd.C (Kd.int .u8) (Lib.bytesWorld w 5 s) (some ⟨w.heap.size, 0, none⟩) s.size (sb s) := by
  refine Kd.C_of_reads (enc := Value.int .u8) (d := (0 : Int)) ⟨sb_len s, hs, fun _ => ⟨_, rfl, fun j hj => ?_⟩⟩
  rw [add_plain, Lib.bytesWorld_cell w 5 s j hj, sb_get s j hj]
theorem conv_cap (w : World) (s : ByteArray) : s.size ≤ grownCap w s.size 0 5 := grownCap_ge _ _ _ _
theorem conv_run (w : World) (s : ByteArray) : (convert 9 22 (.string s)).run Tryd.prog w = .ok (.slice (some ⟨w.heap.size, 0, none⟩) s.size (grownCap w s.size 0 5)) (Lib.bytesWorld w 5 s) := Lib.run_convert_string_bytes w 9 22 5 s Tryd.underlying9 Tryd.underlying22 Tryd.underlying5
end Go.Proofs.YtlbjhbanfpnogaaDoor.QH
