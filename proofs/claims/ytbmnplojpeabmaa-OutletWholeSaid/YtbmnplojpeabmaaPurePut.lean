/-
  What the numbers' bytes are (package wire, and its reference), as plain functions: Put's bytes, Get's number, Cut, Same.
  Conditions: enough rounds; whole numbers of 64 bits.
-/
import Derived.Test.YtbmnplojpeabmaaQO
import Derived.OpenShut
import Derived.Laws.BitsAllLaws
namespace Go.Proofs.Ytbmnplojpeabmaa.WirePure
open Go Go.RowKit Go.Proofs.Ytbmnplojpeabmaa.QO Go.Proofs.YtbmnplojpeabmaaW.PrintWords Go.Proofs.YtbmnplojpeabmaaW.PrintMore
set_option linter.unusedVariables false
theorem wr_in {a : Int} (h0 : -9223372036854775808 ≤ a) (h1 : a ≤ 9223372036854775807) : wrap64 a = a := by
  unfold wrap64; omega
/-- A number's bytes, the greatest first. -/
def be : Nat → Int → List Int
  | 0, _ => []
  | s + 1, n => be s (n / 256) ++ [n % 256]
theorem be_length (s : Nat) : ∀ n, (be s n).length = s := by
  induction s with
  | zero => intro n; rfl
  | succ s ih => intro n; simp [be, ih]
/-- 256, so many times. -/
def pw : Nat → Int
  | 0 => 1
  | s + 1 => 256 * pw s
def fits (n size : Int) : Prop := 1 ≤ size ∧ size ≤ 4 ∧ 0 ≤ n ∧ n < pw size.toNat
instance (n size : Int) : Decidable (fits n size) := by unfold fits; exact inferInstance
theorem sized_eq (a : Int) : wire_sized.f a = some (decide (1 ≤ a ∧ a ≤ 4)) := by
  unfold wire_sized.f
  by_cases h : a ≥ 1
  · rw [if_pos h]; congr 1; simp; omega
  · rw [if_neg h]; congr 1; simp; omega
theorem shr_nat (x : Int) (j : Nat) (hj : j ≤ 64) : shr .i64 x (j : Int) = x / 2 ^ j := by
  unfold shr
  rw [Int.toNat_natCast, Nat.min_eq_left (by simpa [IntKind.bits] using hj)]
theorem put_no (k : Nat) (n size : Int) (h : ¬ fits n size) (hn : -9223372036854775808 ≤ n ∧ n ≤ 9223372036854775807) : wire_Put.f (k + 1) n size = some ([], 1) := by
  unfold wire_Put.f
  rw [sized_eq]
  simp only [Option.bind_some, decide_eq_true_eq]
  by_cases h1 : 1 ≤ size ∧ size ≤ 4
  · rw [if_pos h1]
    by_cases h2 : n < 0
    · rw [if_pos h2]; rfl
    · have e : wrap64 (8 * size) = 8 * size := wr_in (by omega) (by omega)
      rw [if_neg h2, e, if_pos (by omega)]
      have hp : pw size.toNat ≤ n := by
        unfold fits at h; omega
      have hs : shr .i64 n (8 * size) = n / pw size.toNat := by
        have : size = 1 ∨ size = 2 ∨ size = 3 ∨ size = 4 := by omega
        rcases this with rfl | rfl | rfl | rfl <;> exact (shr_nat n _ (by decide))
      have hpos : 0 < pw size.toNat := by
        have : size = 1 ∨ size = 2 ∨ size = 3 ∨ size = 4 := by omega
        rcases this with rfl | rfl | rfl | rfl <;> decide
      have hne : n / pw size.toNat ≠ 0 := by
        have := Int.le_ediv_of_mul_le (a := 1) (b := n) hpos (by omega)
        omega
      have hb : (shr .i64 n (8 * size) != 0) = true := by rw [hs]; simpa using hne
      rw [hb]; rfl
  · rw [if_neg h1]; rfl
theorem put1 (k : Nat) (n : Int) : wire_Put.j0 (k + 9) n 1 false = some ([shr .i64 n 0 % 256], 0) := by kernel_rfl
theorem put2 (k : Nat) (n : Int) : wire_Put.j0 (k + 9) n 2 false = some ([shr .i64 n 8 % 256, shr .i64 n 0 % 256], 0) := by kernel_rfl
theorem put3 (k : Nat) (n : Int) : wire_Put.j0 (k + 9) n 3 false = some ([shr .i64 n 16 % 256, shr .i64 n 8 % 256, shr .i64 n 0 % 256], 0) := by kernel_rfl
theorem put4 (k : Nat) (n : Int) : wire_Put.j0 (k + 9) n 4 false = some ([shr .i64 n 24 % 256, shr .i64 n 16 % 256, shr .i64 n 8 % 256, shr .i64 n 0 % 256], 0) := by kernel_rfl
theorem s0 (n : Int) : shr .i64 n 0 = n := by rw [show (0 : Int) = ((0 : Nat) : Int) from rfl, shr_nat n 0 (by decide)]; simp
theorem s8 (n : Int) : shr .i64 n 8 = n / 256 := shr_nat n 8 (by decide)
theorem s16 (n : Int) : shr .i64 n 16 = n / 65536 := shr_nat n 16 (by decide)
theorem s24 (n : Int) : shr .i64 n 24 = n / 16777216 := shr_nat n 24 (by decide)
theorem put_yes (k : Nat) (n size : Int) (h : fits n size) : wire_Put.f (k + 9) n size = some (be size.toNat n, 0) := by
  obtain ⟨h1, h2, h3, h4⟩ := h
  unfold wire_Put.f
  rw [sized_eq]
  simp only [Option.bind_some, decide_eq_true_eq]
  rw [if_pos ⟨h1, h2⟩, if_neg (by omega)]
  have : size = 1 ∨ size = 2 ∨ size = 3 ∨ size = 4 := by omega
  rcases this with rfl | rfl | rfl | rfl
  · have hb : (shr .i64 n (wrap64 (8 * 1)) != 0) = false := by
      rw [show wrap64 (8 * 1) = ((8 : Nat) : Int) from by decide +kernel, shr_nat n 8 (by decide)]
      have : n / 256 = 0 := by simp [pw] at h4; omega
      simpa using this
    rw [if_pos (by decide +kernel), hb, put1, s0]
    simp [be]
  · have hb : (shr .i64 n (wrap64 (8 * 2)) != 0) = false := by
      rw [show wrap64 (8 * 2) = ((16 : Nat) : Int) from by decide +kernel, shr_nat n 16 (by decide)]
      have : n / 65536 = 0 := by simp [pw] at h4; omega
      simpa using this
    rw [if_pos (by decide +kernel), hb, put2, s0, s8]
    simp [be]
  · have hb : (shr .i64 n (wrap64 (8 * 3)) != 0) = false := by
      rw [show wrap64 (8 * 3) = ((24 : Nat) : Int) from by decide +kernel, shr_nat n 24 (by decide)]
      have : n / 16777216 = 0 := by simp [pw] at h4; omega
      simpa using this
    rw [if_pos (by decide +kernel), hb, put3, s0, s8, s16]
    simp [be]
    omega
  · have hb : (shr .i64 n (wrap64 (8 * 4)) != 0) = false := by
      rw [show wrap64 (8 * 4) = ((32 : Nat) : Int) from by decide +kernel, shr_nat n 32 (by decide)]
      have : n / 4294967296 = 0 := by simp [pw] at h4; omega
      simpa using this
    rw [if_pos (by decide +kernel), hb, put4, s0, s8, s16, s24]
    simp [be]
    omega
theorem put_eq (k : Nat) (n size : Int) (hn : -9223372036854775808 ≤ n ∧ n ≤ 9223372036854775807) : wire_Put.f (k + 9) n size = some (if fits n size then (be size.toNat n, 0) else ([], 1)) := by
  by_cases h : fits n size
  · rw [if_pos h]; exact put_yes k n size h
  · rw [if_neg h]; exact put_no (k + 8) n size h hn

/-! ### the reference's Put -/
theorem td {n : Int} (h0 : 0 ≤ n) (h1 : n ≤ 9223372036854775807) : wrap64 (Int.tdiv n 256) = n / 256 := by
  rw [Int.tdiv_eq_ediv_of_nonneg h0]; exact wr_in (by omega) (by omega)
theorem tm {n : Int} (h0 : 0 ≤ n) : Int.tmod n 256 % 256 = n % 256 := by
  rw [Int.tmod_eq_emod_of_nonneg h0]; omega
theorem power1 (k : Nat) : gantletref01_Power.f (k + 9) 1 = some (pw (Int.toNat 1)) := by kernel_rfl
theorem power2 (k : Nat) : gantletref01_Power.f (k + 9) 2 = some (pw (Int.toNat 2)) := by kernel_rfl
theorem power3 (k : Nat) : gantletref01_Power.f (k + 9) 3 = some (pw (Int.toNat 3)) := by kernel_rfl
theorem power4 (k : Nat) : gantletref01_Power.f (k + 9) 4 = some (pw (Int.toNat 4)) := by kernel_rfl
theorem power_eq (k : Nat) (size : Int) (h : 1 ≤ size ∧ size ≤ 4) : gantletref01_Power.f (k + 9) size = some (pw size.toNat) := by
  have : size = 1 ∨ size = 2 ∨ size = 3 ∨ size = 4 := by omega
  rcases this with rfl | rfl | rfl | rfl
  · exact power1 k
  · exact power2 k
  · exact power3 k
  · exact power4 k
theorem rput1 (k : Nat) (n : Int) : gantletref01_Put.j0 (k + 9) n 1 false = some ([Int.tmod n 256 % 256], 0) := by kernel_rfl
theorem rput2 (k : Nat) (n : Int) : gantletref01_Put.j0 (k + 9) n 2 false = some ([Int.tmod (wrap64 (Int.tdiv n 256)) 256 % 256, Int.tmod n 256 % 256], 0) := by kernel_rfl
theorem rput3 (k : Nat) (n : Int) : gantletref01_Put.j0 (k + 9) n 3 false = some ([Int.tmod (wrap64 (Int.tdiv (wrap64 (Int.tdiv n 256)) 256)) 256 % 256, Int.tmod (wrap64 (Int.tdiv n 256)) 256 % 256, Int.tmod n 256 % 256], 0) := by kernel_rfl
theorem rput4 (k : Nat) (n : Int) : gantletref01_Put.j0 (k + 9) n 4 false = some ([Int.tmod (wrap64 (Int.tdiv (wrap64 (Int.tdiv (wrap64 (Int.tdiv n 256)) 256)) 256)) 256 % 256, Int.tmod (wrap64 (Int.tdiv (wrap64 (Int.tdiv n 256)) 256)) 256 % 256, Int.tmod (wrap64 (Int.tdiv n 256)) 256 % 256, Int.tmod n 256 % 256], 0) := by kernel_rfl
theorem rput_eq (k : Nat) (n size : Int) (hn : -9223372036854775808 ≤ n ∧ n ≤ 9223372036854775807) : gantletref01_Put.f (k + 9) n size = some (if fits n size then (be size.toNat n, 0) else ([], 1)) := by
  have no : ∀ m, gantletref01_Put.j0 (m + 1) n size true = some ([], 1) := fun m => rfl
  unfold gantletref01_Put.f
  by_cases h1 : size < 1
  · rw [if_pos h1, no, if_neg (by unfold fits; omega)]
  · rw [if_neg h1]
    by_cases h2 : size > 4
    · rw [if_pos h2, no, if_neg (by unfold fits; omega)]
    · rw [if_neg h2]
      by_cases h3 : n < 0
      · rw [if_pos h3, no, if_neg (by unfold fits; omega)]
      · rw [if_neg h3, power_eq k size (by omega)]
        simp only [Option.bind_some]
        by_cases h4 : n ≥ pw size.toNat
        · rw [show decide (n ≥ pw size.toNat) = true from decide_eq_true h4, no, if_neg (by unfold fits; omega)]
        · rw [show decide (n ≥ pw size.toNat) = false from decide_eq_false h4, if_pos (by unfold fits; omega)]
          have : size = 1 ∨ size = 2 ∨ size = 3 ∨ size = 4 := by omega
          have d1 : 0 ≤ n / 256 := by omega
          have d2 : 0 ≤ n / 256 / 256 := by omega
          have d3 : 0 ≤ n / 256 / 256 / 256 := by omega
          have t1 : wrap64 (Int.tdiv n 256) = n / 256 := td (by omega) (by omega)
          have t2 : wrap64 (Int.tdiv (n / 256) 256) = n / 256 / 256 := td (by omega) (by omega)
          have t3 : wrap64 (Int.tdiv (n / 256 / 256) 256) = n / 256 / 256 / 256 := td (by omega) (by omega)
          have m0 : Int.tmod n 256 % 256 = n % 256 := tm (by omega)
          rcases this with rfl | rfl | rfl | rfl
          · rw [rput1, m0]; simp [be]
          · rw [rput2, t1, m0, tm d1]; simp [be]
          · rw [rput3, t1, t2, m0, tm d1, tm d2]; simp [be]
          · rw [rput4, t1, t2, t3, m0, tm d1, tm d2, tm d3]; simp [be]
def Bytes (l : List Int) : Prop := ∀ x ∈ l, 0 ≤ x ∧ x < 256
/-! ### Same -/
theorem same_loop (l m : List Int) (hl : m.length = l.length) (hs : l.length ≤ 9223372036854775806) (d : Nat) : ∀ (k : Nat) (i : Int), 0 ≤ i → i ≤ l.length → (l.length : Int) - i = d → d < k →
    gantletref01_Same.l0 k l m i = some (decide (l.drop i.toNat = m.drop i.toNat)) := by
  induction d with
  | zero =>
    intro k i h0 h1 hd hk
    obtain ⟨k, rfl⟩ : ∃ m, k = m + 1 := ⟨k - 1, by omega⟩
    simp only [gantletref01_Same.l0]
    rw [if_neg (by omega), List.drop_eq_nil_of_le (by omega), List.drop_eq_nil_of_le (by omega)]
    simp
  | succ d ih =>
    intro k i h0 h1 hd hk
    obtain ⟨k, rfl⟩ : ∃ m, k = m + 1 := ⟨k - 1, by omega⟩
    simp only [gantletref01_Same.l0]
    rw [if_pos (by omega), if_pos h0, if_pos (by omega), wr_in (by omega) (by omega), ih k (i + 1) (by omega) (by omega) (by omega) (by omega)]
    have e1 : l.drop i.toNat = rd l i :: l.drop (i + 1).toNat := by
      rw [List.drop_eq_getElem_cons (show i.toNat < l.length by omega), show (i + 1).toNat = i.toNat + 1 by omega]
      simp [rd, List.getD_eq_getElem?_getD, List.getElem?_eq_getElem (show i.toNat < l.length by omega)]
    have e2 : m.drop i.toNat = rd m i :: m.drop (i + 1).toNat := by
      rw [List.drop_eq_getElem_cons (show i.toNat < m.length by omega), show (i + 1).toNat = i.toNat + 1 by omega]
      simp [rd, List.getD_eq_getElem?_getD, List.getElem?_eq_getElem (show i.toNat < m.length by omega)]
    rw [e1, e2]
    by_cases he : rd l i = rd m i
    · rw [if_pos he]; simp [he]
    · rw [if_neg he]; simp [he]
theorem same_eq (k : Nat) (l m : List Int) (hs : l.length ≤ 9223372036854775806) (hk : l.length < k) : gantletref01_Same.f k l m = some (decide (l = m)) := by
  unfold gantletref01_Same.f
  by_cases h : l.length = m.length
  · rw [if_pos (by omega), same_loop l m h.symm hs l.length k 0 (by omega) (by omega) (by omega) hk]; rfl
  · rw [if_neg (by omega)]
    have : l ≠ m := fun e => h (by rw [e])
    simp [this]
theorem wf_bytes {l : List Int} (h : ∀ x ∈ l, (Lit.int .u8 x).wf = true) : Bytes l := fun x hx => by
  have := bounds_u8 (h x hx); omega
theorem be_bytes (s : Nat) : ∀ n, Bytes (be s n) := by
  induction s with
  | zero => intro n x hx; simp [be] at hx
  | succ s ih =>
    intro n x hx
    simp only [be, List.mem_append, List.mem_singleton] at hx
    rcases hx with hx | rfl
    · exact ih _ x hx
    · omega
theorem Bytes.drop {l : List Int} (h : Bytes l) (n : Nat) : Bytes (l.drop n) := fun x hx => h x (List.mem_of_mem_drop hx)
theorem Bytes.take {l : List Int} (h : Bytes l) (n : Nat) : Bytes (l.take n) := fun x hx => h x (List.mem_of_mem_take hx)
/-! ### with enough rounds -/
section
variable {k : Nat}
theorem putE (hk : 9 ≤ k) (n size : Int) (hn : -9223372036854775808 ≤ n ∧ n ≤ 9223372036854775807) : wire_Put.f k n size = some (if fits n size then (be size.toNat n, 0) else ([], 1)) := by
  obtain ⟨m, rfl⟩ : ∃ m, k = m + 9 := ⟨k - 9, by omega⟩
  exact put_eq m n size hn
theorem rputE (hk : 9 ≤ k) (n size : Int) (hn : -9223372036854775808 ≤ n ∧ n ≤ 9223372036854775807) : gantletref01_Put.f k n size = some (if fits n size then (be size.toNat n, 0) else ([], 1)) := by
  obtain ⟨m, rfl⟩ : ∃ m, k = m + 9 := ⟨k - 9, by omega⟩
  exact rput_eq m n size hn
end
end Go.Proofs.Ytbmnplojpeabmaa.WirePure
