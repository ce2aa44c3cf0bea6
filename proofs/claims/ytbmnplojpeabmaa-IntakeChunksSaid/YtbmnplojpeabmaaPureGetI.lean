/-
  What the numbers' bytes are (package wire, and its reference), as plain functions: Put's bytes, Get's number, Cut, Same.
  Conditions: enough rounds; whole numbers of 64 bits.
-/
import Derived.Test.YtbmnplojpeabmaaQI4
import Derived.OpenShut
import Derived.Laws.BitsAllLaws
namespace Go.Proofs.Ytbmnplojpeabmaa.WirePure
open Go Go.RowKit Go.Proofs.Ytbmnplojpeabmaa.QI Go.Proofs.YtbmnplojpeabmaaW.PrintWords Go.Proofs.YtbmnplojpeabmaaW.PrintMore
set_option linter.unusedVariables false
theorem wr_in {a : Int} (h0 : -9223372036854775808 ≤ a) (h1 : a ≤ 9223372036854775807) : wrap64 a = a := by
  unfold wrap64; omega
/-- A number's bytes, the greatest first. -/
def be : Nat → Int → List Int
  | 0, _ => []
  | s + 1, n => be s (n / 256) ++ [n % 256]
theorem be_length (s : Nat) : ∀ n, (be s n).length = s := by
  induction s with
  | zero => intro n; rfl
  | succ s ih => intro n; simp [be, ih]
/-- 256, so many times. -/
def pw : Nat → Int
  | 0 => 1
  | s + 1 => 256 * pw s
def fits (n size : Int) : Prop := 1 ≤ size ∧ size ≤ 4 ∧ 0 ≤ n ∧ n < pw size.toNat
instance (n size : Int) : Decidable (fits n size) := by unfold fits; exact inferInstance
theorem sized_eq (a : Int) : wire_sized.f a = some (decide (1 ≤ a ∧ a ≤ 4)) := by
  unfold wire_sized.f
  by_cases h : a ≥ 1
  · rw [if_pos h]; congr 1; simp; omega
  · rw [if_neg h]; congr 1; simp; omega
theorem shr_nat (x : Int) (j : Nat) (hj : j ≤ 64) : shr .i64 x (j : Int) = x / 2 ^ j := by
  unfold shr
  rw [Int.toNat_natCast, Nat.min_eq_left (by simpa [IntKind.bits] using hj)]
theorem s0 (n : Int) : shr .i64 n 0 = n := by rw [show (0 : Int) = ((0 : Nat) : Int) from rfl, shr_nat n 0 (by decide)]; simp
theorem s8 (n : Int) : shr .i64 n 8 = n / 256 := shr_nat n 8 (by decide)
theorem s16 (n : Int) : shr .i64 n 16 = n / 65536 := shr_nat n 16 (by decide)
theorem s24 (n : Int) : shr .i64 n 24 = n / 16777216 := shr_nat n 24 (by decide)
theorem td {n : Int} (h0 : 0 ≤ n) (h1 : n ≤ 9223372036854775807) : wrap64 (Int.tdiv n 256) = n / 256 := by
  rw [Int.tdiv_eq_ediv_of_nonneg h0]; exact wr_in (by omega) (by omega)
theorem tm {n : Int} (h0 : 0 ≤ n) : Int.tmod n 256 % 256 = n % 256 := by
  rw [Int.tmod_eq_emod_of_nonneg h0]; omega
theorem or_i64 (x y i : Nat) (hx : x % 2 ^ i = 0) (hy : y < 2 ^ i) (h : x + y < 9223372036854775808) : Go.bits .or .i64 (x : Int) (y : Int) = (x : Int) + y := by
  have e1 : (BitVec.ofInt 64 (x : Int)).toNat = x := by rw [BitVec.ofInt_natCast, BitVec.toNat_ofNat]; exact Nat.mod_eq_of_lt (by omega)
  have e2 : (BitVec.ofInt 64 (y : Int)).toNat = y := by rw [BitVec.ofInt_natCast, BitVec.toNat_ofNat]; exact Nat.mod_eq_of_lt (by omega)
  show IntKind.i64.wrap ((BitVec.ofInt 64 (x : Int) ||| BitVec.ofInt 64 (y : Int)).toNat : Int) = _
  rw [BitVec.toNat_or, e1, e2, nat_join i x y hx hy, IntKind.wrap_i64]
  have := wr_in (a := ((x + y : Nat) : Int)) (by omega) (by omega)
  unfold wrap64 at this
  omega
theorem or_byte {x b : Int} (h0 : 0 ≤ x) (h1 : x < 36028797018963968) (hb0 : 0 ≤ b) (hb1 : b < 256) : Go.bits .or .i64 (wrap64 (x * 256)) (wrap64 b) = 256 * x + b := by
  rw [wr_in (a := x * 256) (by omega) (by omega), wr_in (a := b) (by omega) (by omega)]
  obtain ⟨n, rfl⟩ := Int.eq_ofNat_of_zero_le h0
  obtain ⟨m, rfl⟩ := Int.eq_ofNat_of_zero_le hb0
  have := or_i64 (n * 256) m 8 (by omega) (by omega) (by omega)
  rw [Int.natCast_mul] at this
  rw [show ((256 : Nat) : Int) = 256 from rfl] at this
  rw [this]; omega
def Bytes (l : List Int) : Prop := ∀ x ∈ l, 0 ≤ x ∧ x < 256
/-- The number of bytes. -/
def val : List Int → Int → Int
  | [], n => n
  | b :: l, n => val l (256 * n + b)
theorem rd_cons (b : Int) (l pre : List Int) : rd (pre ++ b :: l) (pre.length : Int) = b := by
  unfold rd; rw [Int.toNat_natCast, List.getD_eq_getElem?_getD, List.getElem?_append_right (Nat.le_refl _)]; simp
theorem get_loop (l : List Int) : ∀ (pre : List Int) (n : Int) (k : Nat), Bytes l → 0 ≤ n → n < 36028797018963968 / pw l.length → l.length ≤ 6 → pre.length + l.length ≤ 1000 → l.length < k →
    wire_Get.l0 k (pre ++ l) n ((pre ++ l).length : Int) (pre.length : Int) = some (val l n, 0) := by
  induction l with
  | nil =>
    intro pre n k hb h0 h1 hl hp hk
    obtain ⟨k, rfl⟩ : ∃ m, k = m + 1 := ⟨k - 1, by omega⟩
    simp only [wire_Get.l0, List.append_nil, val]
    rw [if_neg (by omega)]
  | cons b l ih =>
    intro pre n k hb h0 h1 hl hp hk
    obtain ⟨k, rfl⟩ : ∃ m, k = m + 1 := ⟨k - 1, by omega⟩
    have hb0 := hb b (by simp)
    have hlen : ((pre ++ b :: l).length : Int) = pre.length + l.length + 1 := by simp; omega
    simp only [List.length_cons] at hk hl hp
    have hpw : (36028797018963968 : Int) / pw (l.length + 1) ≤ 36028797018963968 / pw l.length / 256 ∧ 36028797018963968 / pw (l.length + 1) ≤ 36028797018963968 := by
      have : l.length = 0 ∨ l.length = 1 ∨ l.length = 2 ∨ l.length = 3 ∨ l.length = 4 ∨ l.length = 5 := by omega
      rcases this with e | e | e | e | e | e <;> rw [e] <;> decide
    simp only [List.length_cons] at h1
    have hw : wrap64 ((pre.length : Int) + 1) = ((pre ++ [b]).length : Int) := by rw [wr_in (by omega) (by omega)]; simp
    have e1 := or_byte h0 (by omega) hb0.1 hb0.2
    have hh := ih (pre ++ [b]) (256 * n + b) k (fun x hx => hb x (List.mem_cons_of_mem _ hx)) (by omega) (by omega) (by omega) (by simp only [List.length_append, List.length_cons, List.length_nil]; omega) (by omega)
    rw [List.append_assoc, List.singleton_append] at hh
    simp only [wire_Get.l0, val]
    rw [if_pos (by omega), if_pos (by omega), if_pos (by omega), rd_cons, e1, hw]
    exact hh
theorem get_eq (k : Nat) (l : List Int) (hb : Bytes l) : wire_Get.f (k + 9) l = some (if 1 ≤ l.length ∧ l.length ≤ 4 then (val l 0, 0) else (0, 1)) := by
  unfold wire_Get.f
  rw [sized_eq]
  simp only [Option.bind_some, decide_eq_true_eq]
  by_cases h : 1 ≤ l.length ∧ l.length ≤ 4
  · rw [if_pos (by omega), if_pos h]
    have hpw : (0 : Int) < 36028797018963968 / pw l.length := by
      have : l.length = 1 ∨ l.length = 2 ∨ l.length = 3 ∨ l.length = 4 := by omega
      rcases this with e | e | e | e <;> rw [e] <;> decide
    exact (get_loop l [] 0 (k + 9) hb (by omega) hpw (by omega) (by simp only [List.length_nil]; omega) (by omega))
  · rw [if_neg (by omega), if_neg h]
/-! ### Same -/
theorem same_loop (l m : List Int) (hl : m.length = l.length) (hs : l.length ≤ 9223372036854775806) (d : Nat) : ∀ (k : Nat) (i : Int), 0 ≤ i → i ≤ l.length → (l.length : Int) - i = d → d < k →
    gantletref01_Same.l0 k l m i = some (decide (l.drop i.toNat = m.drop i.toNat)) := by
  induction d with
  | zero =>
    intro k i h0 h1 hd hk
    obtain ⟨k, rfl⟩ : ∃ m, k = m + 1 := ⟨k - 1, by omega⟩
    simp only [gantletref01_Same.l0]
    rw [if_neg (by omega), List.drop_eq_nil_of_le (by omega), List.drop_eq_nil_of_le (by omega)]
    simp
  | succ d ih =>
    intro k i h0 h1 hd hk
    obtain ⟨k, rfl⟩ : ∃ m, k = m + 1 := ⟨k - 1, by omega⟩
    simp only [gantletref01_Same.l0]
    rw [if_pos (by omega), if_pos h0, if_pos (by omega), wr_in (by omega) (by omega), ih k (i + 1) (by omega) (by omega) (by omega) (by omega)]
    have e1 : l.drop i.toNat = rd l i :: l.drop (i + 1).toNat := by
      rw [List.drop_eq_getElem_cons (show i.toNat < l.length by omega), show (i + 1).toNat = i.toNat + 1 by omega]
      simp [rd, List.getD_eq_getElem?_getD, List.getElem?_eq_getElem (show i.toNat < l.length by omega)]
    have e2 : m.drop i.toNat = rd m i :: m.drop (i + 1).toNat := by
      rw [List.drop_eq_getElem_cons (show i.toNat < m.length by omega), show (i + 1).toNat = i.toNat + 1 by omega]
      simp [rd, List.getD_eq_getElem?_getD, List.getElem?_eq_getElem (show i.toNat < m.length by omega)]
    rw [e1, e2]
    by_cases he : rd l i = rd m i
    · rw [if_pos he]; simp [he]
    · rw [if_neg he]; simp [he]
theorem same_eq (k : Nat) (l m : List Int) (hs : l.length ≤ 9223372036854775806) (hk : l.length < k) : gantletref01_Same.f k l m = some (decide (l = m)) := by
  unfold gantletref01_Same.f
  by_cases h : l.length = m.length
  · rw [if_pos (by omega), same_loop l m h.symm hs l.length k 0 (by omega) (by omega) (by omega) hk]; rfl
  · rw [if_neg (by omega)]
    have : l ≠ m := fun e => h (by rw [e])
    simp [this]
theorem wf_bytes {l : List Int} (h : ∀ x ∈ l, (Lit.int .u8 x).wf = true) : Bytes l := fun x hx => by
  have := bounds_u8 (h x hx); omega
theorem be_bytes (s : Nat) : ∀ n, Bytes (be s n) := by
  induction s with
  | zero => intro n x hx; simp [be] at hx
  | succ s ih =>
    intro n x hx
    simp only [be, List.mem_append, List.mem_singleton] at hx
    rcases hx with hx | rfl
    · exact ih _ x hx
    · omega
theorem Bytes.drop {l : List Int} (h : Bytes l) (n : Nat) : Bytes (l.drop n) := fun x hx => h x (List.mem_of_mem_drop hx)
theorem Bytes.take {l : List Int} (h : Bytes l) (n : Nat) : Bytes (l.take n) := fun x hx => h x (List.mem_of_mem_take hx)
/-! ### with enough rounds -/
section
variable {k : Nat}
theorem getE (hk : 9 ≤ k) (l : List Int) (hb : Bytes l) : wire_Get.f k l = some (if 1 ≤ l.length ∧ l.length ≤ 4 then (val l 0, 0) else (0, 1)) := by
  obtain ⟨m, rfl⟩ : ∃ m, k = m + 9 := ⟨k - 9, by omega⟩
  exact get_eq m l hb
end
end Go.Proofs.Ytbmnplojpeabmaa.WirePure
