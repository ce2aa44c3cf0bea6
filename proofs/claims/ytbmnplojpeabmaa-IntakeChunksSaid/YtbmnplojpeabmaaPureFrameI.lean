/-
  What package frame and its reference compute, as plain functions: a frame's bytes, the frame that bytes begin with, all frames, sameness.
  Conditions: enough rounds; bytes; whole numbers of 64 bits.
-/
import Derived.Test.YtbmnplojpeabmaaPureGetI
import Derived.Test.YtbmnplojpeabmaaQI4
import Derived.Lib.Bytes
namespace Go.Proofs.Ytbmnplojpeabmaa.FramePure
open Go Go.RowKit Go.Proofs.Ytbmnplojpeabmaa.QI Go.Proofs.Ytbmnplojpeabmaa.WirePure Go.Proofs.YtbmnplojpeabmaaW.PrintWords Go.Proofs.YtbmnplojpeabmaaW.PrintLast
set_option linter.unusedVariables false
set_option linter.unusedSimpArgs false
def right (a b c : Int) (l : List Int) : Prop := 0 ≤ a ∧ a ≤ 255 ∧ 0 ≤ b ∧ b ≤ 255 ∧ 0 ≤ c ∧ c ≤ 2147483647 ∧ l.length ≤ 16777215
instance (a b c : Int) (l : List Int) : Decidable (right a b c l) := by unfold right; infer_instance
/-- A frame's bytes. -/
def enc (a b c : Int) (l : List Int) : List Int := be 3 l.length ++ (be 1 a ++ (be 1 b ++ (be 4 c ++ l)))
theorem be1 {a : Int} (h0 : 0 ≤ a) (h1 : a ≤ 255) : be 1 a = [a] := by
  show [] ++ [a % 256] = [a]
  rw [List.nil_append, Int.emod_eq_of_lt h0 (by omega)]
theorem enc_length (a b c : Int) (l : List Int) : (enc a b c l).length = 9 + l.length := by
  unfold enc
  simp only [List.length_append, be_length]
  omega
theorem nums_same : ∀ {l m : List Int}, Bytes l → Bytes m → ((strOfNums l).toList == (strOfNums m).toList) = decide (l = m) := by
  intro l m hl hm
  rw [Lib.strOfNums_toList, Lib.strOfNums_toList]
  have key : ∀ {l m : List Int}, Bytes l → Bytes m → (Lib.bytesOf l = Lib.bytesOf m ↔ l = m) := by
    intro l
    induction l with
    | nil => intro m _ _; cases m <;> simp [Lib.bytesOf]
    | cons x l ih =>
      intro m hl hm
      cases m with
      | nil => simp [Lib.bytesOf]
      | cons y m =>
        have hx := hl x (by simp)
        have hy := hm y (by simp)
        have h1 := ih (m := m) (fun z hz => hl z (List.mem_cons_of_mem _ hz)) (fun z hz => hm z (List.mem_cons_of_mem _ hz))
        have h2 : UInt8.ofNat x.toNat = UInt8.ofNat y.toNat ↔ x = y := by
          constructor
          · intro h
            have := congrArg UInt8.toNat h
            simp only [UInt8.toNat_ofNat'] at this
            omega
          · rintro rfl; rfl
        simp only [Lib.bytesOf, List.map_cons, List.cons.injEq, h2] at h1 ⊢
        rw [h1]
  have := key hl hm
  by_cases h : l = m
  · subst h; simp
  · rw [decide_eq_false h]
    simpa [this] using h
theorem rsameE {k : Nat} {a b c d e f : Int} {l m : List Int} (hs : l.length ≤ 9223372036854775806) (hk : l.length < k) : gantletref02_Same.f k a b c l d e f m = some (decide (a = d ∧ b = e ∧ c = f ∧ l = m)) := by
  unfold gantletref02_Same.f
  rw [same_eq k l m hs hk]
  by_cases h1 : a = d <;> by_cases h2 : b = e <;> by_cases h3 : l = m <;> simp [h1, h2, h3]
  exact Bool.beq_eq_decide_eq _ _
/-! ### Next -/
theorem and31 {x : Int} (h0 : 0 ≤ x) (h1 : x < 4294967296) : Go.bits .and .i64 x 2147483647 = x % 2147483648 := by
  obtain ⟨n, rfl⟩ := Int.eq_ofNat_of_zero_le h0
  have e1 : (BitVec.ofInt 64 (n : Int)).toNat = n := by rw [BitVec.ofInt_natCast, BitVec.toNat_ofNat]; exact Nat.mod_eq_of_lt (by omega)
  have e2 : (BitVec.ofInt 64 (2147483647 : Int)).toNat = 2 ^ 31 - 1 := by decide
  show IntKind.i64.wrap ((BitVec.ofInt 64 (n : Int) &&& BitVec.ofInt 64 (2147483647 : Int)).toNat : Int) = _
  rw [BitVec.toNat_and, e1, e2, Nat.and_two_pow_sub_one_eq_mod, IntKind.wrap_i64]
  omega
/-- The frame that bytes begin with. -/
def nx (l : List Int) (most : Int) : Int × Int × Int × List Int × Int × Int :=
  if l.length < 9 then (0, 0, 0, [], 0, 2) else if val (l.take 3) 0 > most then (0, 0, 0, [], 0, 4) else if (l.length : Int) < 9 + val (l.take 3) 0 then (0, 0, 0, [], 0, 2)
  else (rd l 3, rd l 4, val ((l.take 9).drop 5) 0 % 2147483648, (l.take (9 + val (l.take 3) 0).toNat).drop 9, 9 + val (l.take 3) 0, 0)
theorem nine {l : List Int} (h : ¬ l.length < 9) : ∃ a0 a1 a2 a3 a4 a5 a6 a7 a8 r, l = a0 :: a1 :: a2 :: a3 :: a4 :: a5 :: a6 :: a7 :: a8 :: r := by
  match l, h with
  | a0 :: a1 :: a2 :: a3 :: a4 :: a5 :: a6 :: a7 :: a8 :: r, _ => exact ⟨a0, a1, a2, a3, a4, a5, a6, a7, a8, r, rfl⟩
  | [], h | [_], h | [_, _], h | [_, _, _], h | [_, _, _, _], h | [_, _, _, _, _], h | [_, _, _, _, _, _], h | [_, _, _, _, _, _, _], h | [_, _, _, _, _, _, _, _], h => simp at h
theorem nextE {k : Nat} (hk : 9 ≤ k) (l : List Int) (most : Int) (hb : Bytes l) (hl : l.length ≤ 140737488351232) : frame_Next.f k l most = some (nx l most) := by
  unfold frame_Next.f nx
  by_cases h9 : l.length < 9
  · rw [if_pos (by omega), if_pos h9]
  · rw [if_neg (by omega), if_neg h9, if_pos (by omega), getE hk _ (hb.take 3), if_pos (by simp; omega)]
    simp only [Option.bind_some]
    rw [if_pos (by decide), if_pos (by omega), getE hk _ ((hb.take 9).drop 5), if_pos (by simp; omega)]
    simp only [Option.bind_some]
    obtain ⟨a0, a1, a2, a3, a4, a5, a6, a7, a8, r, rfl⟩ := nine h9
    have b0 := hb a0 (by simp)
    have b1 := hb a1 (by simp)
    have b2 := hb a2 (by simp)
    have b3 := hb a3 (by simp)
    have b4 := hb a4 (by simp)
    have b5 := hb a5 (by simp)
    have b6 := hb a6 (by simp)
    have b7 := hb a7 (by simp)
    have b8 := hb a8 (by simp)
    have ev : val (List.take 3 (a0 :: a1 :: a2 :: a3 :: a4 :: a5 :: a6 :: a7 :: a8 :: r)) 0 = 256 * (256 * (256 * 0 + a0) + a1) + a2 := rfl
    have ei : val (List.drop 5 (List.take 9 (a0 :: a1 :: a2 :: a3 :: a4 :: a5 :: a6 :: a7 :: a8 :: r))) 0 = 256 * (256 * (256 * (256 * 0 + a5) + a6) + a7) + a8 := rfl
    have e3 : rd (a0 :: a1 :: a2 :: a3 :: a4 :: a5 :: a6 :: a7 :: a8 :: r) 3 = a3 := rfl
    have e4 : rd (a0 :: a1 :: a2 :: a3 :: a4 :: a5 :: a6 :: a7 :: a8 :: r) 4 = a4 := rfl
    rw [ev, ei, e3, e4]
    generalize hL : (a0 :: a1 :: a2 :: a3 :: a4 :: a5 :: a6 :: a7 :: a8 :: r) = L at *
    by_cases hm : 256 * (256 * (256 * 0 + a0) + a1) + a2 > most
    · rw [if_pos hm, if_pos hm]
    · rw [if_neg hm, if_neg hm, wr_in (a := 9 + _) (by omega) (by omega)]
      by_cases hn : (L.length : Int) < 9 + (256 * (256 * (256 * 0 + a0) + a1) + a2)
      · rw [if_pos hn, if_pos hn]
      · rw [if_neg hn, if_neg hn, if_pos (by omega), if_pos (by omega), if_pos (by omega), if_pos (by omega), and31 (by omega) (by omega), wr_in (a := a3) (by omega) (by omega), wr_in (a := a4) (by omega) (by omega)]
        unfold slices_Clone_byte_byte.f
        rw [if_pos (by simp; omega)]
        rfl
theorem rnextE (l : List Int) (most : Int) (hb : Bytes l) (hl : l.length ≤ 140737488351232) : gantletref02_Next.f l most = some (nx l most) := by
  unfold gantletref02_Next.f nx
  by_cases h9 : l.length < 9
  · rw [if_pos (by omega), if_pos h9]
  · rw [if_neg (by omega), if_neg h9, if_pos (by omega), if_pos (by omega), if_pos (by omega)]
    obtain ⟨a0, a1, a2, a3, a4, a5, a6, a7, a8, r, rfl⟩ := nine h9
    have b0 := hb a0 (by simp)
    have b1 := hb a1 (by simp)
    have b2 := hb a2 (by simp)
    have b3 := hb a3 (by simp)
    have b4 := hb a4 (by simp)
    have b5 := hb a5 (by simp)
    have b6 := hb a6 (by simp)
    have b7 := hb a7 (by simp)
    have b8 := hb a8 (by simp)
    have ev : val (List.take 3 (a0 :: a1 :: a2 :: a3 :: a4 :: a5 :: a6 :: a7 :: a8 :: r)) 0 = 256 * (256 * (256 * 0 + a0) + a1) + a2 := rfl
    have ei : val (List.drop 5 (List.take 9 (a0 :: a1 :: a2 :: a3 :: a4 :: a5 :: a6 :: a7 :: a8 :: r))) 0 = 256 * (256 * (256 * (256 * 0 + a5) + a6) + a7) + a8 := rfl
    have e0 : rd (a0 :: a1 :: a2 :: a3 :: a4 :: a5 :: a6 :: a7 :: a8 :: r) 0 = a0 := rfl
    have e1 : rd (a0 :: a1 :: a2 :: a3 :: a4 :: a5 :: a6 :: a7 :: a8 :: r) 1 = a1 := rfl
    have e2 : rd (a0 :: a1 :: a2 :: a3 :: a4 :: a5 :: a6 :: a7 :: a8 :: r) 2 = a2 := rfl
    have e3 : rd (a0 :: a1 :: a2 :: a3 :: a4 :: a5 :: a6 :: a7 :: a8 :: r) 3 = a3 := rfl
    have e4 : rd (a0 :: a1 :: a2 :: a3 :: a4 :: a5 :: a6 :: a7 :: a8 :: r) 4 = a4 := rfl
    have e5 : rd (a0 :: a1 :: a2 :: a3 :: a4 :: a5 :: a6 :: a7 :: a8 :: r) 5 = a5 := rfl
    have e6 : rd (a0 :: a1 :: a2 :: a3 :: a4 :: a5 :: a6 :: a7 :: a8 :: r) 6 = a6 := rfl
    have e7 : rd (a0 :: a1 :: a2 :: a3 :: a4 :: a5 :: a6 :: a7 :: a8 :: r) 7 = a7 := rfl
    have e8 : rd (a0 :: a1 :: a2 :: a3 :: a4 :: a5 :: a6 :: a7 :: a8 :: r) 8 = a8 := rfl
    rw [ev, ei, e0, e1, e2, e3, e4, e5, e6, e7, e8]
    generalize hL : (a0 :: a1 :: a2 :: a3 :: a4 :: a5 :: a6 :: a7 :: a8 :: r) = L at *
    have et : wrap64 (Int.tmod a5 128) = a5 % 128 := by
      rw [Int.tmod_eq_emod_of_nonneg b5.1]
      exact wr_in (by omega) (by omega)
    have en : wrap64 (wrap64 (wrap64 (65536 * wrap64 a0) + wrap64 (256 * wrap64 a1)) + wrap64 a2) = 256 * (256 * (256 * 0 + a0) + a1) + a2 := by
      rw [wr_in (a := a0) (by omega) (by omega), wr_in (a := a1) (by omega) (by omega), wr_in (a := a2) (by omega) (by omega), wr_in (a := 65536 * a0) (by omega) (by omega), wr_in (a := 256 * a1) (by omega) (by omega), wr_in (a := 65536 * a0 + 256 * a1) (by omega) (by omega), wr_in (by omega) (by omega)]
      omega
    have em : wrap64 (wrap64 (wrap64 (wrap64 (16777216 * wrap64 (Int.tmod a5 128)) + wrap64 (65536 * wrap64 a6)) + wrap64 (256 * wrap64 a7)) + wrap64 a8) = (256 * (256 * (256 * (256 * 0 + a5) + a6) + a7) + a8) % 2147483648 := by
      rw [et, wr_in (a := a6) (by omega) (by omega), wr_in (a := a7) (by omega) (by omega), wr_in (a := a8) (by omega) (by omega), wr_in (a := 16777216 * (a5 % 128)) (by omega) (by omega), wr_in (a := 65536 * a6) (by omega) (by omega), wr_in (a := 256 * a7) (by omega) (by omega), wr_in (a := 16777216 * (a5 % 128) + 65536 * a6) (by omega) (by omega), wr_in (a := 16777216 * (a5 % 128) + 65536 * a6 + 256 * a7) (by omega) (by omega), wr_in (by omega) (by omega)]
      omega
    rw [en, em]
    by_cases hm : 256 * (256 * (256 * 0 + a0) + a1) + a2 > most
    · rw [if_pos hm, if_pos hm]
    · rw [if_neg hm, if_neg hm, wr_in (a := (L.length : Int) - 9) (by omega) (by omega)]
      by_cases hn : (L.length : Int) < 9 + (256 * (256 * (256 * 0 + a0) + a1) + a2)
      · rw [if_pos (by omega), if_pos hn]
      · rw [if_neg (by omega), if_neg hn, if_pos (by omega), if_pos (by omega), if_pos (by omega), if_pos (by omega), if_pos (by omega), if_pos (by omega), wr_in (a := 9 + _) (by omega) (by omega), wr_in (a := a3) (by omega) (by omega), wr_in (a := a4) (by omega) (by omega)]
        simp only [Option.bind_some]
        rw [if_pos (by omega), if_pos (by omega), if_pos (by simp; omega)]
        rfl
/-! ### All -/
theorem nx_on {l : List Int} {most : Int} {f0 f1 f2 : Int} {f3 : List Int} {n e : Int} (h : nx l most = (f0, f1, f2, f3, n, e)) (he : e = 0) (hb : Bytes l) : 9 ≤ n ∧ n ≤ l.length ∧ f3 = (l.take n.toNat).drop 9 := by
  unfold nx at h
  by_cases h9 : l.length < 9
  · rw [if_pos h9] at h; simp only [Prod.mk.injEq] at h; omega
  · rw [if_neg h9] at h
    by_cases hm : val (l.take 3) 0 > most
    · rw [if_pos hm] at h; simp only [Prod.mk.injEq] at h; omega
    · rw [if_neg hm] at h
      by_cases hn : (l.length : Int) < 9 + val (l.take 3) 0
      · rw [if_pos hn] at h; simp only [Prod.mk.injEq] at h; omega
      · rw [if_neg hn] at h
        simp only [Prod.mk.injEq] at h
        obtain ⟨_, _, _, h3, h4, _⟩ := h
        have hv : 0 ≤ val (l.take 3) 0 := by
          obtain ⟨a0, a1, a2, a3, a4, a5, a6, a7, a8, r, rfl⟩ := nine h9
          have b0 := hb a0 (by simp)
          have b1 := hb a1 (by simp)
          have b2 := hb a2 (by simp)
          show 0 ≤ 256 * (256 * (256 * 0 + a0) + a1) + a2
          omega
        refine ⟨by omega, by omega, ?_⟩
        rw [← h3, h4]
theorem rall_l0 (k : Nat) (l : List Int) (most : Int) (out : List S67) (p : Int) : gantletref02_All.l0 (k + 1) l most out p =
    if p < (l.length : Int) then (if 0 ≤ p then (if p ≤ (l.length : Int) then ((gantletref02_Next.f (l.drop p.toNat) most).bind fun t => (if t.2.2.2.2.2 = 0 then (if out.length < 2932031007402 then (gantletref02_All.l0 k l most (out ++ [(⟨t.1, t.2.1, t.2.2.1, t.2.2.2.1⟩ : S67)]) (wrap64 (p + t.2.2.2.2.1))) else (none)) else (some (out, p, t.2.2.2.2.2)))) else (none)) else (none)) else (some (out, p, 0)) := rfl
theorem list_l0 (k : Nat) (x0 x1 : List S67) (x5 : Int) : gantletref02_List.l0 (k + 1) x0 x1 x5 =
    if x5 < (x0.length : Int) then (if 0 ≤ x5 then (if x5 < (x1.length : Int) then ((gantletref02_Same.f k ((rd_T67 x0 x5).f0) ((rd_T67 x0 x5).f1) ((rd_T67 x0 x5).f2) ((rd_T67 x0 x5).f3) ((rd_T67 x1 x5).f0) ((rd_T67 x1 x5).f1) ((rd_T67 x1 x5).f2) ((rd_T67 x1 x5).f3)).bind fun t138 => (if t138 = true then (gantletref02_List.l0 k x0 x1 (wrap64 (x5 + 1))) else (some false))) else (none)) else (none)) else (some true) := rfl
theorem list_loop (l : List S67) (B : Nat) (hB : ∀ x ∈ l, x.f3.length ≤ B) (hl : l.length ≤ 100000000) (hBB : B ≤ 100000000) (d : Nat) : ∀ (k : Nat) (i : Int), 0 ≤ i → (l.length : Int) - i ≤ d → d + B < k → gantletref02_List.l0 k l l i = some true := by
  induction d with
  | zero =>
    intro k i h0 hd hk
    obtain ⟨k, rfl⟩ : ∃ m, k = m + 1 := ⟨k - 1, by omega⟩
    rw [list_l0, if_neg (by omega)]
  | succ d ih =>
    intro k i h0 hd hk
    obtain ⟨k, rfl⟩ : ∃ m, k = m + 1 := ⟨k - 1, by omega⟩
    rw [list_l0]
    by_cases hi : i < l.length
    · have hx : (rd_T67 l i).f3.length ≤ B := by
        have : rd_T67 l i = l[i.toNat] := by simp [rd_T67, List.getD_eq_getElem?_getD, List.getElem?_eq_getElem (show i.toNat < l.length by omega)]
        rw [this]
        exact hB _ (List.getElem_mem _)
      rw [if_pos hi, if_pos h0, if_pos hi, rsameE (by omega) (by omega)]
      simp only [Option.bind_some, and_self, decide_true, if_true]
      rw [wr_in (by omega) (by omega)]
      exact ih k (i + 1) (by omega) (by omega) (by omega)
    · rw [if_neg hi]
theorem listE {k : Nat} {l : List S67} {B : Nat} (hB : ∀ x ∈ l, x.f3.length ≤ B) (hl : l.length ≤ 100000000) (hBB : B ≤ 100000000) (hk : l.length + B < k) : gantletref02_List.f k l l = some true := by
  unfold gantletref02_List.f
  rw [if_pos rfl]
  exact list_loop l B hB hl hBB l.length k 0 (by omega) (by omega) hk
end Go.Proofs.Ytbmnplojpeabmaa.FramePure
