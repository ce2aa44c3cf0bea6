/-
  THE LAW WireBack: a number that fits is that of its bytes; 1 to 4 bytes are those of their number; of two numbers that fit the greater one has the greater bytes.
  Conditions: none but the row's own.
-/
import Derived.Test.YtbmnplojpeabmaaPureWire
namespace Go.Proofs.Ytbmnplojpeabmaa.Pure
open Go Go.RowKit Go.Proofs.Ytbmnplojpeabmaa.QW Go.Proofs.Ytbmnplojpeabmaa.WirePure Go.Proofs.YtbmnplojpeabmaaW.PrintWords Go.Proofs.YtbmnplojpeabmaaW.PrintLast
set_option linter.unusedVariables false
theorem alive01b {k : Nat} (hk : 50 ≤ k) : gantletlaw01_alive.f k = some true :=
  at_rounds gantletlaw01_alive.mono hk (show gantletlaw01_alive.f 50 = some true by kernel_rfl)
theorem val_append (l : List Int) (b : Int) : ∀ n, val (l ++ [b]) n = 256 * val l n + b := by
  induction l with
  | nil => intro n; rfl
  | cons a l ih => intro n; simp only [List.cons_append, val]; exact ih _
theorem val_be (s : Nat) : ∀ n, 0 ≤ n → n < pw s → val (be s n) 0 = n := by
  induction s with
  | zero => intro n h0 h1; simp [pw] at h1; simp [be, val]; omega
  | succ s ih =>
    intro n h0 h1
    simp only [be, pw] at h1 ⊢
    rw [val_append, ih (n / 256) (by omega) (by omega)]
    omega
theorem val_bounds (l : List Int) : Bytes l → 0 ≤ val l 0 ∧ val l 0 < pw l.length := by
  obtain ⟨m, hm⟩ : ∃ m, l.length = m := ⟨_, rfl⟩
  induction m generalizing l with
  | zero => intro _; rw [List.eq_nil_of_length_eq_zero hm]; simp [val, pw]
  | succ m ih =>
    intro hb
    rcases List.eq_nil_or_concat l with rfl | ⟨l', b, hc⟩
    · simp at hm
    · obtain rfl : l = l' ++ [b] := by rw [hc, List.concat_eq_append]
      clear hc
      have hlen : (l' ++ [b]).length = l'.length + 1 := by simp
      have h1 := ih l' (by rw [hlen] at hm; omega) (fun x hx => hb x (by simp [hx]))
      have h2 := hb b (by simp)
      rw [val_append, hlen]
      simp only [pw]
      omega
theorem be_val (l : List Int) : Bytes l → be l.length (val l 0) = l := by
  obtain ⟨m, hm⟩ : ∃ m, l.length = m := ⟨_, rfl⟩
  induction m generalizing l with
  | zero => intro _; rw [List.eq_nil_of_length_eq_zero hm]; rfl
  | succ m ih =>
    intro hb
    rcases List.eq_nil_or_concat l with rfl | ⟨l', b, hc⟩
    · simp at hm
    · obtain rfl : l = l' ++ [b] := by rw [hc, List.concat_eq_append]
      clear hc
      have hlen : (l' ++ [b]).length = l'.length + 1 := by simp
      have h1 := ih l' (by rw [hlen] at hm; omega) (fun x hx => hb x (by simp [hx]))
      have h2 := hb b (by simp)
      rw [val_append, hlen]
      simp only [be]
      rw [show (256 * val l' 0 + b) / 256 = val l' 0 by omega, show (256 * val l' 0 + b) % 256 = b by omega, h1]
def lessB : List Int → List Int → Bool
  | a :: l, b :: m => if a = b then lessB l m else decide (a < b)
  | _, _ => false
theorem less_loop (l m : List Int) (hs : l.length ≤ 9223372036854775800) (d : Nat) : ∀ (k : Nat) (i : Int), 0 ≤ i → i ≤ l.length → (l.length : Int) - i = d → 2 * d + 1 < k →
    gantletlaw01_less.l0 k l m i = some (lessB (l.drop i.toNat) (m.drop i.toNat)) := by
  induction d with
  | zero =>
    intro k i h0 h1 hd hk
    obtain ⟨k, rfl⟩ : ∃ j, k = j + 2 := ⟨k - 2, by omega⟩
    simp only [gantletlaw01_less.l0]
    rw [if_neg (by omega)]
    simp only [gantletlaw01_less.j1]
    rw [if_neg (by decide), List.drop_eq_nil_of_le (by omega)]
    simp [lessB]
  | succ d ih =>
    intro k i h0 h1 hd hk
    obtain ⟨k, rfl⟩ : ∃ j, k = j + 2 := ⟨k - 2, by omega⟩
    have e1 : l.drop i.toNat = rd l i :: l.drop (i + 1).toNat := by
      rw [List.drop_eq_getElem_cons (show i.toNat < l.length by omega), show (i + 1).toNat = i.toNat + 1 by omega]
      simp [rd, List.getD_eq_getElem?_getD, List.getElem?_eq_getElem (show i.toNat < l.length by omega)]
    simp only [gantletlaw01_less.l0]
    rw [if_pos (by omega)]
    simp only [gantletlaw01_less.j1]
    by_cases h2 : i < (m.length : Int)
    · have e2 : m.drop i.toNat = rd m i :: m.drop (i + 1).toNat := by
        rw [List.drop_eq_getElem_cons (show i.toNat < m.length by omega), show (i + 1).toNat = i.toNat + 1 by omega]
        simp [rd, List.getD_eq_getElem?_getD, List.getElem?_eq_getElem (show i.toNat < m.length by omega)]
      rw [if_pos (decide_eq_true h2), if_pos h0, if_pos (by omega), if_pos h2, wr_in (by omega) (by omega), ih k (i + 1) (by omega) (by omega) (by omega) (by omega), e1, e2]
      simp only [lessB]
      by_cases he : rd l i = rd m i
      · rw [if_pos he, if_pos he]
      · rw [if_neg he, if_neg he]
    · rw [if_neg (by simpa using h2), show m.drop i.toNat = [] from List.drop_eq_nil_of_le (by omega), e1]
      simp [lessB]
theorem lessE {k : Nat} (l m : List Int) (hs : l.length ≤ 9223372036854775800) (hk : 2 * l.length + 1 < k) : gantletlaw01_less.f k l m = some (lessB l m) := by
  unfold gantletlaw01_less.f
  rw [less_loop l m hs l.length k 0 (by omega) (by omega) (by omega) hk]
  rfl
theorem lessB_append (l m : List Int) (x y : Int) (h : l.length = m.length) : lessB (l ++ [x]) (m ++ [y]) = if l = m then decide (x < y) else lessB l m := by
  induction l generalizing m with
  | nil =>
    obtain rfl : m = [] := List.eq_nil_of_length_eq_zero h.symm
    simp only [List.nil_append, lessB, if_true]
    by_cases e : x = y
    · rw [if_pos e]; simp [e]
    · rw [if_neg e]
  | cons a l ih =>
    cases m with
    | nil => simp at h
    | cons b m =>
      simp only [List.cons_append, lessB]
      by_cases e : a = b
      · rw [if_pos e, if_pos e, ih m (by simpa using h)]
        by_cases e2 : l = m
        · rw [if_pos e2, if_pos (by rw [e, e2])]
        · rw [if_neg e2, if_neg (by simp [e2])]
      · rw [if_neg e, if_neg e, if_neg (by simp [e])]
theorem be_inj {s : Nat} {n m : Int} (h0 : 0 ≤ n) (h1 : n < pw s) (h2 : 0 ≤ m) (h3 : m < pw s) : be s n = be s m ↔ n = m :=
  ⟨fun h => by rw [← val_be s n h0 h1, h, val_be s m h2 h3], fun h => by rw [h]⟩
theorem less_be (s : Nat) : ∀ n m, 0 ≤ n → n < pw s → 0 ≤ m → m < pw s → lessB (be s n) (be s m) = decide (n < m) := by
  induction s with
  | zero => intro n m h0 h1 h2 h3; simp only [pw] at h1 h3; simp [be, lessB]; omega
  | succ s ih =>
    intro n m h0 h1 h2 h3
    simp only [be, pw] at h1 h3 ⊢
    have a1 : 0 ≤ n / 256 := by omega
    have a2 : n / 256 < pw s := by omega
    have a3 : 0 ≤ m / 256 := by omega
    have a4 : m / 256 < pw s := by omega
    rw [lessB_append _ _ _ _ (by rw [be_length, be_length]), ih _ _ a1 a2 a3 a4]
    by_cases e : n / 256 = m / 256
    · rw [if_pos ((be_inj a1 a2 a3 a4).2 e)]
      congr 1
      simp only [eq_iff_iff]
      omega
    · rw [if_neg (fun h => e ((be_inj a1 a2 a3 a4).1 h))]
      congr 1
      simp only [eq_iff_iff]
      omega
theorem WireBack (a b size : Int) (l : List Int) (hF : (Lit.int .i64 a).wf = true ∧ (Lit.int .i64 b).wf = true) (hs : (Lit.int .i64 size).wf = true) (hm : l.length ≤ maxLen) (hw : ∀ x ∈ l, (Lit.int .u8 x).wf = true) : ∃ k, gantletlaw01_WireBack.f k a b size l = some true := by
  have ha := bounds_i64 hF.1
  have hb := bounds_i64 hF.2
  have hw := wf_bytes hw
  refine ⟨400, ?_⟩
  unfold gantletlaw01_WireBack.f
  by_cases hl : (l.length : Int) > 300
  · rw [if_pos hl, alive01b (by decide)]; rfl
  have tail : ∀ k, 390 ≤ k → gantletlaw01_WireBack.j1 k l false = some true := by
    intro k hk
    obtain ⟨k, rfl⟩ : ∃ m, k = m + 1 := ⟨k - 1, by omega⟩
    simp only [gantletlaw01_WireBack.j1]
    rw [if_neg (by decide), getE (by omega) l hw]
    simp only [Option.bind_some]
    by_cases h : 1 ≤ l.length ∧ l.length ≤ 4
    · have hv := val_bounds l hw
      have hp : pw l.length ≤ 4294967296 := by
        have : l.length = 1 ∨ l.length = 2 ∨ l.length = 3 ∨ l.length = 4 := by omega
        rcases this with e | e | e | e <;> rw [e] <;> decide
      rw [if_pos h, if_pos rfl, putE (by omega) _ _ (by omega), if_pos ⟨by omega, by omega, hv.1, by rw [Int.toNat_natCast]; exact hv.2⟩]
      simp only [Option.bind_some, Int.toNat_natCast]
      rw [be_val l hw, same_eq k l l (by omega) (by omega), alive01b (by omega)]
      simp
    · rw [if_neg h, alive01b (by omega)]; rfl
  have mid : ∀ k, 395 ≤ k → gantletlaw01_WireBack.j0 k l (if fits a size then (be size.toNat a, (0 : Int)) else ([], 1)).1 (if fits a size then (be size.toNat a, (0 : Int)) else ([], 1)).2 (if fits b size then (be size.toNat b, (0 : Int)) else ([], 1)).1 (if fits b size then (be size.toNat b, (0 : Int)) else ([], 1)).2 a b = some true := by
    intro k hk
    obtain ⟨k, rfl⟩ : ∃ m, k = m + 1 := ⟨k - 1, by omega⟩
    simp only [gantletlaw01_WireBack.j0]
    by_cases fa : fits a size
    · rw [if_pos fa]
      by_cases fb : fits b size
      · rw [if_pos fb]
        have h1 := fa.2.1
        rw [if_pos rfl, if_pos rfl, lessE _ _ (by rw [be_length]; omega) (by rw [be_length]; omega), less_be _ _ _ fa.2.2.1 fa.2.2.2 fb.2.2.1 fb.2.2.2]
        simp only [Option.bind_some, bne_self_eq_false]
        exact tail k (by omega)
      · rw [if_neg fb, if_pos rfl, if_neg (by decide)]; exact tail k (by omega)
    · rw [if_neg fa, if_neg (by decide)]; exact tail k (by omega)
  rw [if_neg hl, putE (by decide) a size ha, putE (by decide) b size hb]
  simp only [Option.bind_some]
  by_cases fa : fits a size
  · have hm := mid 400 (by decide)
    rw [if_pos fa] at hm ⊢
    have h1 := fa.1
    have h2 := fa.2.1
    rw [if_pos rfl, getE (by decide) _ (be_bytes _ _), be_length, if_pos (by omega), val_be _ _ fa.2.2.1 fa.2.2.2]
    simp only [Option.bind_some, if_true]
    exact hm
  · have hm := mid 400 (by decide)
    rw [if_neg fa] at hm ⊢
    rw [if_neg (by decide)]
    exact hm
end Go.Proofs.Ytbmnplojpeabmaa.Pure
