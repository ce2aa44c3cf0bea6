/-
  WHAT AN INTAKE KEEPS, AND THE DOCUMENT'S ANSWER, as plain functions: what came, what is told.
  Conditions: bytes are 0 to 255.
-/
import Derived.Test.YtbmnplojpeabmaaPureFrameI
namespace Go.Proofs.Ytbmnplojpeabmaa.IntakePure
open Go Go.RowKit Go.Proofs.Ytbmnplojpeabmaa.QI Go.Proofs.Ytbmnplojpeabmaa.WirePure Go.Proofs.Ytbmnplojpeabmaa.FramePure Go.Proofs.YtbmnplojpeabmaaW.PrintWords Go.Proofs.YtbmnplojpeabmaaW.PrintLast
set_option linter.unusedVariables false
set_option linter.unusedSimpArgs false
theorem bytes_app {l m : List Int} (h : Bytes l) (k : Bytes m) : Bytes (l ++ m) := fun x hx => by
  rcases List.mem_append.1 hx with h1 | h1
  · exact h x h1
  · exact k x h1
/-- What the first bytes must be. -/
def PRE : List Int := [80, 82, 73, 32, 42, 32, 72, 84, 84, 80, 47, 50, 46, 48, 13, 10, 13, 10, 83, 77, 13, 10, 13, 10]
/-- Some byte differs. -/
def wr (B : List Int) : Bool := !decide (PRE.take B.length = B.take 24)
/-- The frame, how long it is, and the error, of what nx says. -/
def nF (r : Int × Int × Int × List Int × Int × Int) : S67 := ⟨r.1, r.2.1, r.2.2.1, r.2.2.2.1⟩
def nN (r : Int × Int × Int × List Int × Int × Int) : Nat := r.2.2.2.2.1.toNat
def nE (r : Int × Int × Int × List Int × Int × Int) : Int := r.2.2.2.2.2
def zF : S67 := ⟨0, 0, 0, []⟩
/-- nx, by its four ways. -/
theorem nx_ways {l : List Int} (most : Int) (hb : Bytes l) : (nx l most = (0, 0, 0, [], 0, 2)) ∨ (9 ≤ l.length ∧ val (l.take 3) 0 > most ∧ nx l most = (0, 0, 0, [], 0, 4)) ∨
    (∃ v : Nat, (v : Int) = val (l.take 3) 0 ∧ (v : Int) ≤ most ∧ 9 + v ≤ l.length ∧ nx l most = (rd l 3, rd l 4, val ((l.take 9).drop 5) 0 % 2147483648, (l.take (9 + v)).drop 9, 9 + (v : Int), 0)) := by
  unfold nx
  by_cases h9 : l.length < 9
  · rw [if_pos h9]; exact .inl rfl
  · rw [if_neg h9]
    by_cases hm : val (l.take 3) 0 > most
    · rw [if_pos hm]; exact .inr (.inl ⟨by omega, hm, rfl⟩)
    · rw [if_neg hm]
      by_cases hn : (l.length : Int) < 9 + val (l.take 3) 0
      · rw [if_pos hn]; exact .inl rfl
      · rw [if_neg hn]
        have hv : 0 ≤ val (l.take 3) 0 := by
          obtain ⟨a0, a1, a2, a3, a4, a5, a6, a7, a8, r, rfl⟩ := nine h9
          have b0 := hb a0 (by simp)
          have b1 := hb a1 (by simp)
          have b2 := hb a2 (by simp)
          show 0 ≤ 256 * (256 * (256 * 0 + a0) + a1) + a2
          omega
        refine .inr (.inr ⟨(val (l.take 3) 0).toNat, by omega, by omega, by omega, ?_⟩)
        rw [Int.toNat_of_nonneg hv, show (9 + val (l.take 3) 0).toNat = 9 + (val (l.take 3) 0).toNat by omega]
theorem rd_app {l y : List Int} {i : Nat} (h : i < l.length) : rd (l ++ y) (i : Int) = rd l (i : Int) := by
  unfold rd
  simp [List.getElem?_append_left h]
/-- What is behind doesn't matter. -/
theorem nx_app {l : List Int} {most : Int} (y : List Int) (hb : Bytes l) (h : nE (nx l most) = 0 ∨ nE (nx l most) = 4) : nx (l ++ y) most = nx l most := by
  rcases nx_ways most hb with e | ⟨h9, hv, e⟩ | ⟨v, hv, hm, hl, e⟩
  · rw [e] at h
    rcases h with h | h <;> cases h
  · rw [e]
    unfold nx
    rw [if_neg (by rw [List.length_append]; omega), List.take_append_of_le_length (by omega), if_pos hv]
  · rw [e]
    unfold nx
    rw [if_neg (by rw [List.length_append]; omega), List.take_append_of_le_length (by omega), if_neg (by omega), if_neg (by rw [List.length_append]; omega), List.take_append_of_le_length (by omega), ← hv,
      show (9 + (v : Int)).toNat = 9 + v by omega, List.take_append_of_le_length hl]
    rw [show (3 : Int) = ((3 : Nat) : Int) from rfl, show (4 : Int) = ((4 : Nat) : Int) from rfl, rd_app (show 3 < l.length by omega), rd_app (show 4 < l.length by omega)]
theorem nx_n {l : List Int} {most : Int} (hb : Bytes l) (h : nE (nx l most) = 0) : 9 ≤ nN (nx l most) ∧ nN (nx l most) ≤ l.length ∧ nF (nx l most) = ⟨(nx l most).1, (nx l most).2.1, (nx l most).2.2.1, (l.take (nN (nx l most))).drop 9⟩ := by
  rcases nx_ways most hb with e | ⟨h9, hv, e⟩ | ⟨v, hv, hm, hl, e⟩
  · rw [e] at h; cases h
  · rw [e] at h; cases h
  · rw [e]
    show 9 ≤ (9 + (v : Int)).toNat ∧ (9 + (v : Int)).toNat ≤ l.length ∧ (⟨_, _, _, (l.take (9 + v)).drop 9⟩ : S67) = ⟨_, _, _, (l.take (9 + (v : Int)).toNat).drop 9⟩
    rw [show (9 + (v : Int)).toNat = 9 + v by omega]
    exact ⟨by omega, hl, rfl⟩
theorem nx_e {l : List Int} {most : Int} (hb : Bytes l) : nE (nx l most) = 0 ∨ (nE (nx l most) = 2 ∨ nE (nx l most) = 4) ∧ nF (nx l most) = zF := by
  rcases nx_ways most hb with e | ⟨h9, hv, e⟩ | ⟨v, hv, hm, hl, e⟩ <;> rw [e]
  · exact .inr ⟨.inl rfl, rfl⟩
  · exact .inr ⟨.inr rfl, rfl⟩
  · exact .inl rfl
/-- Where the frame behind T others begins. -/
def at_ (B : List Int) (most : Int) : Nat → Nat
  | 0 => 24
  | T + 1 => at_ B most T + nN (nx (B.drop (at_ B most T)) most)
/-- T frames are there. -/
def Told (B : List Int) (most : Int) (T : Nat) : Prop := ∀ j, j < T → nE (nx (B.drop (at_ B most j)) most) = 0
theorem at_le {B : List Int} {most : Int} (hb : Bytes B) (h24 : 24 ≤ B.length) : ∀ T, Told B most T → at_ B most T ≤ B.length
  | 0, _ => h24
  | T + 1, h => by
    have h1 := at_le hb h24 T (fun j hj => h j (by omega))
    have h2 := (nx_n (hb.drop _) (h T (by omega))).2.1
    rw [List.length_drop] at h2
    show at_ B most T + _ ≤ _
    omega
theorem at_app {B : List Int} {most : Int} (hb : Bytes B) (h24 : 24 ≤ B.length) (y : List Int) : ∀ T, Told B most T → at_ (B ++ y) most T = at_ B most T ∧ Told (B ++ y) most T
  | 0, _ => ⟨rfl, fun j hj => by omega⟩
  | T + 1, h => by
    have ht : Told B most T := fun j hj => h j (by omega)
    obtain ⟨h1, h2⟩ := at_app hb h24 y T ht
    have hl := at_le hb h24 T ht
    have h0 := h T (by omega)
    have hd : (B ++ y).drop (at_ B most T) = B.drop (at_ B most T) ++ y := List.drop_append_of_le_length hl
    have hn := nx_app y (hb.drop (at_ B most T)) (.inl h0)
    refine ⟨?_, fun j hj => ?_⟩
    · show at_ (B ++ y) most T + nN (nx ((B ++ y).drop (at_ (B ++ y) most T)) most) = at_ B most T + nN (nx (B.drop (at_ B most T)) most)
      rw [h1, hd, hn]
    · rcases Nat.lt_or_ge j T with hj | hj
      · exact h2 j hj
      · obtain rfl : j = T := by omega
        rw [h1, hd, hn]
        exact h0
theorem wr_long {B : List Int} (h : 24 ≤ B.length) (y : List Int) : wr (B ++ y) = wr B := by
  unfold wr
  rw [List.take_append_of_le_length h, List.take_of_length_le (l := PRE) (by rw [List.length_append]; show 24 ≤ _; omega), List.take_of_length_le (l := PRE) (by show 24 ≤ _; omega)]
/-! ### what each does -/
def feedI (l : List Int) (bg : Bool) (ov : Int) (c : List Int) : List Int × Bool × Int :=
  if ov ≠ 0 then (l, bg, ov) else if bg = true then (l ++ c, true, 0) else if wr (l ++ c) = true then ([], false, 3) else if 24 ≤ (l ++ c).length then ((l ++ c).drop 24, true, 0) else (l ++ c, false, 0)
def feedR (B : List Int) (O : Int) (c : List Int) : List Int × Int := if O ≠ 0 then (B, O) else (B ++ c, if wr (B ++ c) = true then 3 else 0)
/-- The frame, and the error. -/
def ansI (most : Int) (l : List Int) (bg : Bool) (ov : Int) : S67 × Int := if ov ≠ 0 then (zF, ov) else if bg = false then (zF, 2) else (nF (nx l most), nE (nx l most))
/-- What is kept behind it. -/
def nextI (most : Int) (l : List Int) (bg : Bool) (ov : Int) : List Int × Int := if ov ≠ 0 then (l, ov) else if bg = false then (l, ov) else if nE (nx l most) = 4 then ([], 4) else if nE (nx l most) = 0 then (l.drop (nN (nx l most)), 0) else (l, 0)
def ansR (most : Int) (B : List Int) (T : Nat) (O : Int) : S67 × Int := if O ≠ 0 then (zF, O) else if B.length < 24 then (zF, 2) else (nF (nx (B.drop (at_ B most T)) most), nE (nx (B.drop (at_ B most T)) most))
def nextR (most : Int) (B : List Int) (T : Nat) (O : Int) : Nat × Int := if O ≠ 0 then (T, O) else if B.length < 24 then (T, O) else if nE (nx (B.drop (at_ B most T)) most) = 0 then (T + 1, 0) else if nE (nx (B.drop (at_ B most T)) most) = 4 then (T, 4) else (T, 0)
def lenR (most : Int) (B : List Int) (T : Nat) (O : Int) : Nat := if O ≠ 0 then 0 else if B.length < 24 then B.length else (B.drop (at_ B most T)).length
/-- What the two have to do with each other. -/
structure Rel (most : Int) (l : List Int) (bg : Bool) (ov : Int) (B : List Int) (T : Nat) (O : Int) : Prop where
  ovE : O = ov
  bgE : bg = decide (24 ≤ B.length ∧ wr B = false)
  by_ : Bytes B
  em : ov ≠ 0 → l = []
  ok : ov = 0 → wr B = false ∧ Told B most T ∧ ((B.length < 24 ∧ l = B ∧ T = 0) ∨ (24 ≤ B.length ∧ l = B.drop (at_ B most T)))
theorem Rel.first (most : Int) : Rel most [] false 0 [] 0 0 :=
  ⟨rfl, rfl, (fun x hx => by cases hx), fun h => absurd rfl h, fun _ => ⟨rfl, (fun j hj => by omega), .inl ⟨by decide, rfl, rfl⟩⟩⟩
theorem Rel.bytes {most : Int} {l : List Int} {bg : Bool} {ov : Int} {B : List Int} {T : Nat} {O : Int} (h : Rel most l bg ov B T O) : Bytes l := by
  by_cases ho : ov = 0
  · rcases (h.ok ho).2.2 with ⟨_, e, _⟩ | ⟨_, e⟩
    · rw [e]; exact h.by_
    · rw [e]; exact h.by_.drop _
  · rw [h.em ho]; intro x hx; cases hx
theorem Rel.short {most : Int} {l : List Int} {bg : Bool} {ov : Int} {B : List Int} {T : Nat} {O : Int} (h : Rel most l bg ov B T O) : l.length ≤ B.length := by
  by_cases ho : ov = 0
  · rcases (h.ok ho).2.2 with ⟨_, e, _⟩ | ⟨_, e⟩
    · rw [e]; exact Nat.le_refl _
    · rw [e, List.length_drop]; omega
  · rw [h.em ho]; exact Nat.zero_le _
theorem Rel.feed {most : Int} {l : List Int} {bg : Bool} {ov : Int} {B : List Int} {T : Nat} {O : Int} (h : Rel most l bg ov B T O) {c : List Int} (hc : Bytes c) :
    Rel most (feedI l bg ov c).1 (feedI l bg ov c).2.1 (feedI l bg ov c).2.2 (feedR B O c).1 T (feedR B O c).2 := by
  obtain ⟨rfl, hbg, hb, hem, hok⟩ := h
  unfold feedI feedR
  by_cases ho : O ≠ 0
  · rw [if_pos ho, if_pos ho]
    exact ⟨rfl, hbg, hb, hem, hok⟩
  · rw [if_neg ho, if_neg ho]
    have ho : O = 0 := by omega
    obtain ⟨h1, h2, h3⟩ := hok ho
    have hbc := bytes_app hb hc
    rcases h3 with ⟨h3, rfl, rfl⟩ | ⟨h3, rfl⟩
    · have hf : bg = false := by rw [hbg]; exact decide_eq_false (fun h => by omega)
      rw [if_neg (by rw [hf]; decide)]
      by_cases hw : wr (l ++ c) = true
      · rw [if_pos hw, if_pos hw]
        exact ⟨rfl, (decide_eq_false (fun h => by rw [hw] at h; cases h.2)).symm, hbc, fun _ => rfl, fun h => by cases h⟩
      · have hw2 : wr (l ++ c) = false := by simpa using hw
        rw [if_neg hw, if_neg hw]
        by_cases h24 : 24 ≤ (l ++ c).length
        · rw [if_pos h24]
          exact ⟨rfl, (decide_eq_true ⟨h24, hw2⟩).symm, hbc, fun h => absurd rfl h, fun _ => ⟨hw2, (fun j hj => by omega), .inr ⟨h24, rfl⟩⟩⟩
        · rw [if_neg h24]
          exact ⟨rfl, (decide_eq_false (fun h => h24 h.1)).symm, hbc, fun h => absurd rfl h, fun _ => ⟨hw2, (fun j hj => by omega), .inl ⟨Nat.lt_of_not_le h24, rfl, rfl⟩⟩⟩
    · have ht : bg = true := by rw [hbg]; exact decide_eq_true ⟨h3, h1⟩
      obtain ⟨ha, hT⟩ := at_app hb h3 c T h2
      have hl := at_le hb h3 T h2
      have hw := wr_long h3 c
      rw [if_pos ht, hw, h1, if_neg (by decide)]
      refine ⟨rfl, (decide_eq_true ⟨by rw [List.length_append]; omega, by rw [hw, h1]⟩).symm, hbc, fun h => absurd rfl h, fun _ => ⟨by rw [hw, h1], hT, .inr ⟨by rw [List.length_append]; omega, ?_⟩⟩⟩
      rw [ha, List.drop_append_of_le_length hl]
theorem Rel.ans {most : Int} {l : List Int} {bg : Bool} {ov : Int} {B : List Int} {T : Nat} {O : Int} (h : Rel most l bg ov B T O) : ansR most B T O = ansI most l bg ov := by
  obtain ⟨rfl, hbg, hb, hem, hok⟩ := h
  unfold ansR ansI
  by_cases ho : O ≠ 0
  · rw [if_pos ho, if_pos ho]
  · rw [if_neg ho, if_neg ho]
    obtain ⟨h1, h2, h3⟩ := hok (by omega)
    rcases h3 with ⟨h3, rfl, rfl⟩ | ⟨h3, rfl⟩
    · rw [if_pos h3, if_pos (by rw [hbg]; exact decide_eq_false (fun h => by omega))]
    · rw [if_neg (by omega), if_neg (by rw [hbg, decide_eq_true ⟨h3, h1⟩]; decide)]
theorem Rel.next {most : Int} {l : List Int} {bg : Bool} {ov : Int} {B : List Int} {T : Nat} {O : Int} (h : Rel most l bg ov B T O) :
    Rel most (nextI most l bg ov).1 bg (nextI most l bg ov).2 B (nextR most B T O).1 (nextR most B T O).2 := by
  obtain ⟨rfl, hbg, hb, hem, hok⟩ := h
  unfold nextI nextR
  by_cases ho : O ≠ 0
  · rw [if_pos ho, if_pos ho]
    exact ⟨rfl, hbg, hb, hem, hok⟩
  · rw [if_neg ho, if_neg ho]
    obtain ⟨h1, h2, h3⟩ := hok (by omega)
    rcases h3 with ⟨h3, rfl, rfl⟩ | ⟨h3, rfl⟩
    · rw [if_pos h3, if_pos (by rw [hbg]; exact decide_eq_false (fun h => by omega))]
      exact ⟨rfl, hbg, hb, hem, hok⟩
    · rw [if_neg (show ¬ bg = false by rw [hbg, decide_eq_true ⟨h3, h1⟩]; decide), if_neg (show ¬ B.length < 24 by omega)]
      rcases nx_e (most := most) (hb.drop (at_ B most T)) with e | ⟨e | e, _⟩
      · rw [if_neg (by omega), if_pos e, if_pos e]
        refine ⟨rfl, hbg, hb, fun h => absurd rfl h, fun _ => ⟨h1, fun j hj => ?_, .inr ⟨h3, ?_⟩⟩⟩
        · rcases Nat.lt_or_ge j T with hj | hj
          · exact h2 j hj
          · obtain rfl : j = T := by omega
            exact e
        · rw [List.drop_drop]; rfl
      · rw [if_neg (by omega), if_neg (by omega), if_neg (by omega), if_neg (by omega)]
        exact ⟨rfl, hbg, hb, fun h => absurd rfl h, fun _ => ⟨h1, h2, .inr ⟨h3, rfl⟩⟩⟩
      · rw [if_pos e, if_neg (by omega), if_pos e]
        exact ⟨rfl, hbg, hb, fun _ => rfl, fun h => by cases h⟩
theorem Rel.len {most : Int} {l : List Int} {bg : Bool} {ov : Int} {B : List Int} {T : Nat} {O : Int} (h : Rel most l bg ov B T O) : lenR most B T O = l.length := by
  obtain ⟨rfl, hbg, hb, hem, hok⟩ := h
  unfold lenR
  by_cases ho : O ≠ 0
  · rw [if_pos ho, hem ho]; rfl
  · rw [if_neg ho]
    obtain ⟨h1, h2, h3⟩ := hok (by omega)
    rcases h3 with ⟨h3, rfl, rfl⟩ | ⟨h3, rfl⟩
    · rw [if_pos h3]
    · rw [if_neg (by omega)]
end Go.Proofs.Ytbmnplojpeabmaa.IntakePure
