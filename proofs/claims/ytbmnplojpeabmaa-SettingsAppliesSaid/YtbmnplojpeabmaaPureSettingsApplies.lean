/-
  THE LAW SettingsApplies: for any set and pairs, settings.Apply, Encode and First answer as the reference does.
  Conditions: none but the row's own.
-/
import Derived.Test.YtbmnplojpeabmaaPurePut
namespace Go.Proofs.Ytbmnplojpeabmaa.Pure
open Go Go.RowKit Go.Proofs.Ytbmnplojpeabmaa.QS Go.Proofs.Ytbmnplojpeabmaa.WirePure Go.WalkArith Go.Proofs.YtbmnplojpeabmaaW.PrintWords Go.Proofs.YtbmnplojpeabmaaW.PrintLast
set_option linter.unusedVariables false
theorem alive12 {k : Nat} (hk : 100 ≤ k) : gantletlaw12_alive.f k = some true :=
  at_rounds (gantletlaw12_alive.mono) hk (show gantletlaw12_alive.f 100 = some true by kernel_rfl)
def I64 (x : Int) : Prop := -9223372036854775808 ≤ x ∧ x ≤ 9223372036854775807
/-- A pair's numbers fit. -/
def Fit (l : List S130) : Prop := ∀ x ∈ l, I64 x.f0 ∧ I64 x.f1
theorem wf_of {x : Int} (h : I64 x) : (Lit.int .i64 x).wf = true := wf_i64 h
/-- What a pair has to say against itself. -/
def faultOf (id v : Int) : Int := if id = 2 ∧ v ≠ 0 ∧ v ≠ 1 then 1 else if id = 4 ∧ v > 2147483647 then 3 else if id = 5 ∧ (v < 16384 ∨ v > 16777215) then 1 else 0
theorem fault_eq (k : Nat) (id v : Int) : settings_fault.f (k + 3) id v = some (faultOf id v) := by
  have j1 : settings_fault.j0 (k + 3) false id v = some (if id = 4 ∧ v > 2147483647 then 3 else if id = 5 ∧ (v < 16384 ∨ v > 16777215) then 1 else 0) := by
    simp only [settings_fault.j0, settings_fault.j1]
    by_cases h4 : id = 4
    · subst h4
      by_cases h : v > 2147483647 <;> simp [h]
    · by_cases h5 : id = 5
      · subst h5
        by_cases h : v < 16384
        · simp [h]
        · by_cases h' : v > 16777215 <;> simp [h, h']
      · simp [h4, h5]
  unfold settings_fault.f faultOf
  by_cases h2 : id = 2
  · by_cases h0 : v = 0
    · rw [if_pos h2, if_pos h0, j1]; simp [h2, h0]
    · by_cases h1 : v = 1
      · rw [if_pos h2, if_neg h0, show (v != 1) = false by simp [h1], j1]
        simp [h2, h1]
      · rw [if_pos h2, if_neg h0, show (v != 1) = true by simp [h1]]
        simp [h2, h0, h1, settings_fault.j0]
  · rw [if_neg h2, j1]
    simp [h2]
theorem faultE {k : Nat} (hk : 3 ≤ k) (id v : Int) : settings_fault.f k id v = some (faultOf id v) := by
  obtain ⟨m, rfl⟩ : ∃ m, k = m + 3 := ⟨k - 3, by omega⟩
  exact fault_eq m id v
/-- A pair, as the reference has it. -/
def conv (x : S130) : S135 := ⟨x.f0, x.f1⟩
theorem drop_rd {l : List S130} {i : Int} (h0 : 0 ≤ i) (h1 : i < (l.length : Int)) : l.drop i.toNat = rd_T130 l i :: l.drop (i + 1).toNat ∧ rd_T130 l i ∈ l ∧ rd_T135 (l.map conv) i = conv (rd_T130 l i) := by
  have hi : i.toNat < l.length := by omega
  have e : rd_T130 l i = l[i.toNat] := by simp [rd_T130, hi]
  refine ⟨?_, ?_, ?_⟩
  · rw [e, show (i + 1).toNat = i.toNat + 1 by omega]; exact List.drop_eq_getElem_cons hi
  · rw [e]; exact List.getElem_mem hi
  · rw [e]; simp [rd_T135, hi]
theorem of_eq {l : List S130} (hl : l.length ≤ 50) (d : Nat) : ∀ (k : Nat) (i : Int) (acc : List S135), 0 ≤ i → i + d = l.length → d < k → acc.length ≤ 50 - d → gantletlaw12_of.l0 k l acc i = some (acc ++ (l.drop i.toNat).map conv) := by
  induction d with
  | zero =>
    intro k i acc h0 hd hk ha
    obtain ⟨k, rfl⟩ : ∃ j, k = j + 1 := ⟨k - 1, by omega⟩
    simp only [gantletlaw12_of.l0]
    rw [if_neg (by omega), List.drop_eq_nil_of_le (by omega)]
    simp
  | succ d ih =>
    intro k i acc h0 hd hk ha
    obtain ⟨k, rfl⟩ : ∃ j, k = j + 1 := ⟨k - 1, by omega⟩
    obtain ⟨e1, _, _⟩ := drop_rd (l := l) h0 (by omega)
    simp only [gantletlaw12_of.l0]
    rw [if_pos (by omega), if_pos h0, if_pos (by omega), wr_in (by omega) (by omega), ih k (i + 1) _ (by omega) (by omega) (by omega) (by simp; omega), e1]
    simp [conv]
/-- The first fault of a list. -/
def firstFault : List S130 → Int
  | [] => 0
  | x :: r => if faultOf x.f0 x.f1 ≠ 0 then faultOf x.f0 x.f1 else firstFault r
def foldS (l : List S130) (o : Six) : Six := l.foldl (fun o x => o.upd x.f0 x.f1) o
/-- What Apply answers. -/
def ans (s : Six) (l : List S130) (o : Six) : Int × Int × Int × Int × Int × Int × Int × Int :=
  if firstFault l ≠ 0 then (s.1, s.2.1, s.2.2.1, s.2.2.2.1, s.2.2.2.2.1, s.2.2.2.2.2, 0, firstFault l)
  else ((foldS l o).1, (foldS l o).2.1, (foldS l o).2.2.1, (foldS l o).2.2.2.1, (foldS l o).2.2.2.2.1, (foldS l o).2.2.2.2.2, wrap64 ((foldS l o).2.2.2.1 - s.2.2.2.1), 0)
theorem apply_eq {l : List S130} (hl : l.length ≤ 50) (hF : Fit l) (s : Six) (d : Nat) : ∀ (k : Nat) (i : Int) (o : Six), 0 ≤ i → i + d = l.length → d + 4 < k → settings_Apply.l0 k s l i o = some (ans s (l.drop i.toNat) o) := by
  induction d with
  | zero =>
    intro k i o h0 hd hk
    obtain ⟨k, rfl⟩ : ∃ j, k = j + 1 := ⟨k - 1, by omega⟩
    simp only [settings_Apply.l0]
    rw [if_neg (by omega), List.drop_eq_nil_of_le (by omega)]
    rfl
  | succ d ih =>
    intro k i o h0 hd hk
    obtain ⟨k, rfl⟩ : ∃ j, k = j + 1 := ⟨k - 1, by omega⟩
    obtain ⟨e1, e2, _⟩ := drop_rd (l := l) h0 (by omega)
    simp only [settings_Apply.l0]
    rw [if_pos (by omega), if_pos h0, if_pos (wf_of (hF _ e2).1), faultE (by omega), wr_in (by omega) (by omega), e1]
    simp only [Option.bind_some]
    by_cases hc : faultOf (rd_T130 l i).f0 (rd_T130 l i).f1 = 0
    · rw [if_pos hc, ih k (i + 1) _ (by omega) (by omega) (by omega)]
      simp [ans, firstFault, hc, foldS]
    · rw [if_neg hc]
      simp [ans, firstFault, hc]
def lastOf (id : Int) : List S130 → Int → Int
  | [], n => n
  | x :: r, n => lastOf id r (if x.f0 = id then x.f1 else n)
theorem last_eq {l : List S130} (hl : l.length ≤ 50) (id : Int) (d : Nat) : ∀ (k : Nat) (i n : Int), 0 ≤ i → i + d = l.length → d < k → gantletref12_last.l0 k (l.map conv) id n i = some (lastOf id (l.drop i.toNat) n) := by
  induction d with
  | zero =>
    intro k i n h0 hd hk
    obtain ⟨k, rfl⟩ : ∃ j, k = j + 1 := ⟨k - 1, by omega⟩
    simp only [gantletref12_last.l0]
    rw [if_neg (by simp; omega), List.drop_eq_nil_of_le (by omega)]
    rfl
  | succ d ih =>
    intro k i n h0 hd hk
    obtain ⟨k, rfl⟩ : ∃ j, k = j + 1 := ⟨k - 1, by omega⟩
    obtain ⟨e1, e2, e3⟩ := drop_rd (l := l) h0 (by omega)
    simp only [gantletref12_last.l0]
    rw [if_pos (by simp; omega), if_pos h0, wr_in (by omega) (by omega), e3, e1]
    simp only [lastOf]
    by_cases hc : (conv (rd_T130 l i)).f0 = id
    · have hc' : (rd_T130 l i).f0 = id := hc
      rw [if_pos hc, if_pos hc', ih k (i + 1) _ (by omega) (by omega) (by omega)]
      rfl
    · have hc' : ¬ (rd_T130 l i).f0 = id := hc
      rw [if_neg hc, if_neg hc', ih k (i + 1) _ (by omega) (by omega) (by omega)]
theorem fold_eq (l : List S130) : ∀ o : Six, foldS l o = (lastOf 1 l o.1, lastOf 2 l o.2.1, lastOf 3 l o.2.2.1, lastOf 4 l o.2.2.2.1, lastOf 5 l o.2.2.2.2.1, lastOf 6 l o.2.2.2.2.2) := by
  induction l with
  | nil => intro o; rfl
  | cons x r ih =>
    intro o
    have e : foldS (x :: r) o = foldS r (o.upd x.f0 x.f1) := rfl
    rw [e, ih]
    simp only [lastOf]
    have u : o.upd x.f0 x.f1 = (if x.f0 = 1 then x.f1 else o.1, if x.f0 = 2 then x.f1 else o.2.1, if x.f0 = 3 then x.f1 else o.2.2.1, if x.f0 = 4 then x.f1 else o.2.2.2.1, if x.f0 = 5 then x.f1 else o.2.2.2.2.1, if x.f0 = 6 then x.f1 else o.2.2.2.2.2) := by
      unfold Six.upd
      by_cases h1 : x.f0 = 1
      · simp [h1]
      by_cases h2 : x.f0 = 2
      · simp [h2]
      by_cases h3 : x.f0 = 3
      · simp [h3]
      by_cases h4 : x.f0 = 4
      · simp [h4]
      by_cases h5 : x.f0 = 5
      · simp [h5]
      by_cases h6 : x.f0 = 6
      · simp [h6]
      simp [h1, h2, h3, h4, h5, h6]
    rw [u]
theorem ref_eq {l : List S130} (hl : l.length ≤ 50) (s : Six) (d : Nat) : ∀ (k : Nat) (i : Int), 0 ≤ i → i + d = l.length → 2 * d + 60 < k → (firstFault (l.drop i.toNat) = 0 → firstFault l = 0) →
    gantletref12_Apply.l0 k (l.map conv) i s.1 s.2.1 s.2.2.1 s.2.2.2.1 s.2.2.2.2.1 s.2.2.2.2.2 = some (if firstFault (l.drop i.toNat) ≠ 0 then (s.1, s.2.1, s.2.2.1, s.2.2.2.1, s.2.2.2.2.1, s.2.2.2.2.2, 0, firstFault (l.drop i.toNat)) else ans s l s) := by
  induction d with
  | zero =>
    intro k i h0 hd hk hf
    obtain ⟨k, rfl⟩ : ∃ j, k = j + 1 := ⟨k - 1, by omega⟩
    have en : l.drop i.toNat = [] := List.drop_eq_nil_of_le (by omega)
    rw [en] at hf
    have hf := hf rfl
    simp only [gantletref12_Apply.l0]
    have le := fun id n => last_eq hl id l.length k 0 n (by omega) (by omega) (by omega)
    rw [if_neg (by simp; omega), en]
    unfold gantletref12_last.f
    rw [le, le, le, le, le, le]
    simp [ans, hf, firstFault, fold_eq]
  | succ d ih =>
    intro k i h0 hd hk hf
    obtain ⟨k, rfl⟩ : ∃ j, k = j + 1 + 1 := ⟨k - 2, by omega⟩
    obtain ⟨e1, e2, e3⟩ := drop_rd (l := l) h0 (by omega)
    have hlen : i < ((l.map conv).length : Int) := by simp; omega
    rw [e1] at hf ⊢
    have ih' := ih k (i + 1) (by omega) (by omega) (by omega)
    simp only [gantletref12_Apply.l0]
    rw [if_pos hlen, if_pos h0, e3]
    simp only [gantletref12_Apply.j1, conv]
    rw [if_pos h0, if_pos hlen, e3, wr_in (by omega) (by omega)]
    simp only [conv, firstFault] at hf ⊢
    generalize rd_T130 l i = x at *
    obtain ⟨id, v⟩ := x
    simp only [faultOf] at *
    by_cases h2 : id = 2
    · subst h2
      by_cases v0 : v = 0
      · subst v0
        simp at hf ⊢
        simpa using ih' hf
      · by_cases v1 : v = 1
        · subst v1
          simp at hf ⊢
          simpa using ih' hf
        · simp [v0, v1]
    · by_cases h5 : id = 5
      · subst h5
        by_cases c1 : v < 16384
        · simp [c1]
        · by_cases c2 : v > 16777215
          · simp [c1, c2]
          · have c1' : ¬ (v < 16384 ∨ v > 16777215) := by omega
            simp [c1, c2] at hf ⊢
            simpa using ih' hf
      · by_cases h4 : id = 4
        · subst h4
          by_cases c1 : v > 2147483647
          · simp [c1]
          · simp [c1] at hf ⊢
            simpa using ih' hf
        · simp [h2, h4, h5] at hf ⊢
          simpa using ih' hf
/-- The bytes of pairs. -/
def encS : List S130 → List Int → List Int × Int
  | [], acc => (acc, 0)
  | x :: r, acc => if fits x.f0 2 ∧ fits x.f1 4 then encS r (acc ++ be 2 x.f0 ++ be 4 x.f1) else ([], 1)
theorem encS_eq {l : List S130} (hl : l.length ≤ 50) (hF : Fit l) (d : Nat) : ∀ (k : Nat) (i : Int) (acc : List Int), 0 ≤ i → i + d = l.length → d + 10 < k → acc.length + 6 * d ≤ 300 →
    settings_Encode.l0 k acc l (l.length : Int) i = some (encS (l.drop i.toNat) acc) ∧ gantletref12_Encode.l0 k (l.map conv) acc i = some (encS (l.drop i.toNat) acc) := by
  induction d with
  | zero =>
    intro k i acc h0 hd hk ha
    obtain ⟨k, rfl⟩ : ∃ j, k = j + 1 := ⟨k - 1, by omega⟩
    simp only [settings_Encode.l0, gantletref12_Encode.l0]
    rw [if_neg (by omega), if_neg (by simp; omega), List.drop_eq_nil_of_le (by omega)]
    exact ⟨rfl, rfl⟩
  | succ d ih =>
    intro k i acc h0 hd hk ha
    obtain ⟨k, rfl⟩ : ∃ j, k = j + 1 := ⟨k - 1, by omega⟩
    obtain ⟨e1, e2, e3⟩ := drop_rd (l := l) h0 (by omega)
    have hlen : i < ((l.map conv).length : Int) := by simp; omega
    have f0 := (hF _ e2).1
    have f1 := (hF _ e2).2
    simp only [settings_Encode.l0, gantletref12_Encode.l0]
    rw [if_pos (by omega), if_pos h0, if_pos (by omega), if_pos hlen, if_pos h0, e3, e1]
    simp only [conv]
    rw [putE (by omega) _ _ f0, putE (by omega) _ _ f1, rputE (by omega) _ _ f0, rputE (by omega) _ _ f1]
    simp only [Option.bind_some, encS]
    by_cases a : fits (rd_T130 l i).f0 2
    · by_cases b : fits (rd_T130 l i).f1 4
      · have l0 := be_length 2 (rd_T130 l i).f0
        have l1 := be_length 4 (rd_T130 l i).f1
        have hh := ih k (i + 1) (acc ++ be 2 (rd_T130 l i).f0 ++ be 4 (rd_T130 l i).f1) (by omega) (by omega) (by omega) (by simp [l0, l1]; omega)
        have t2 : Int.toNat 2 = 2 := rfl
        have t4 : Int.toNat 4 = 4 := rfl
        rw [if_pos a, if_pos b, if_pos (show fits (rd_T130 l i).f0 2 ∧ fits (rd_T130 l i).f1 4 from ⟨a, b⟩), wr_in (by omega) (by omega), t2, t4]
        simp only [if_true]
        rw [if_pos (by omega), if_pos (by simp [l0]; omega)]
        refine ⟨hh.1, ?_⟩
        rw [if_pos (by omega), if_pos (by simp [l0]; omega)]
        exact hh.2
      · rw [if_pos a, if_neg b, if_neg (show ¬ (fits (rd_T130 l i).f0 2 ∧ fits (rd_T130 l i).f1 4) from fun h => b h.2)]
        exact ⟨rfl, rfl⟩
    · rw [if_neg a, if_neg (show ¬ (fits (rd_T130 l i).f0 2 ∧ fits (rd_T130 l i).f1 4) from fun h => a h.1)]
      exact ⟨rfl, rfl⟩
theorem encS_length (l : List S130) : ∀ acc, (encS l acc).1.length ≤ acc.length + 6 * l.length := by
  induction l with
  | nil => intro acc; simp [encS]
  | cons x r ih =>
    intro acc
    simp only [encS]
    by_cases h : fits x.f0 2 ∧ fits x.f1 4
    · rw [if_pos h]
      have := ih (acc ++ be 2 x.f0 ++ be 4 x.f1)
      simp [be_length] at this ⊢
      omega
    · rw [if_neg h]; simp
theorem small_loop (l : List S130) (hl : l.length ≤ 50) (d : Nat) : ∀ (k : Nat) (i : Int), 0 ≤ i → i + d = l.length → d < k → ∃ b, gantletlaw12_small.l0 k l i = some b := by
  induction d with
  | zero =>
    intro k i h0 hd hk
    obtain ⟨k, rfl⟩ : ∃ j, k = j + 1 := ⟨k - 1, by omega⟩
    simp only [gantletlaw12_small.l0]
    rw [if_neg (by omega)]
    exact ⟨_, rfl⟩
  | succ d ih =>
    intro k i h0 hd hk
    obtain ⟨k, rfl⟩ : ∃ j, k = j + 1 := ⟨k - 1, by omega⟩
    simp only [gantletlaw12_small.l0]
    rw [if_pos (by omega), if_pos h0, wr_in (by omega) (by omega)]
    obtain ⟨b, hb⟩ := ih k (i + 1) (by omega) (by omega) (by omega)
    rw [hb]
    by_cases h1 : (rd_T130 l i).f1 < -4294967296
    · rw [if_pos h1]; exact ⟨_, rfl⟩
    · rw [if_neg h1]
      by_cases h2 : (rd_T130 l i).f1 > 4294967296
      · rw [if_pos h2]; exact ⟨_, rfl⟩
      · rw [if_neg h2]; exact ⟨_, rfl⟩
theorem small_eq (a0 a1 a2 a3 a4 a5 : Int) (l : List S130) : ∃ b, gantletlaw12_small.f 400 a0 a1 a2 a3 a4 a5 l = some b ∧ (b = true → l.length ≤ 50) := by
  unfold gantletlaw12_small.f
  have no : gantletlaw12_small.j0 400 l true = some false := rfl
  by_cases h : (l.length : Int) > 50
  · rw [if_pos h, no]; exact ⟨_, rfl, fun h => by cases h⟩
  · rw [if_neg h]
    have hl : l.length ≤ 50 := by omega
    obtain ⟨b, hb⟩ := small_loop l hl l.length 399 0 (by omega) (by omega) (by omega)
    have yes : gantletlaw12_small.j0 400 l false = some b := by rw [← hb]; rfl
    by_cases h1 : a3 < -4294967296
    · rw [if_pos h1, no]; exact ⟨_, rfl, fun _ => hl⟩
    · rw [if_neg h1]
      by_cases h2 : a3 > 4294967296
      · rw [decide_eq_true h2, no]; exact ⟨_, rfl, fun _ => hl⟩
      · rw [decide_eq_false h2, yes]; exact ⟨_, rfl, fun _ => hl⟩
theorem law12 (a0 a1 a2 a3 a4 a5 : Int) (l : List S130) (hF : Fit l) : gantletlaw12_SettingsApplies.f 400 a0 a1 a2 a3 a4 a5 l = some true := by
  obtain ⟨b, hb, hl⟩ := small_eq a0 a1 a2 a3 a4 a5 l
  unfold gantletlaw12_SettingsApplies.f
  rw [hb]
  simp only [Option.bind_some]
  cases b with
  | false => rw [if_neg (by decide), alive12 (by decide)]; rfl
  | true =>
    have hl := hl rfl
    have e1 := apply_eq hl hF (a0, a1, a2, a3, a4, a5) l.length 400 0 (a0, a1, a2, a3, a4, a5) (by omega) (by omega) (by omega)
    have e2 := of_eq hl l.length 400 0 [] (by omega) (by omega) (by omega) (by simp)
    have e3 := ref_eq hl (a0, a1, a2, a3, a4, a5) l.length 400 0 (by omega) (by omega) (by omega) (fun h => h)
    have e4 := encS_eq hl hF l.length 400 0 [] (by omega) (by omega) (by omega) (by simp; omega)
    have e5 := encS_length l []
    simp only [Int.toNat_zero, List.drop_zero, List.nil_append] at e1 e2 e3 e4
    have e3' : gantletref12_Apply.l0 400 (l.map conv) 0 a0 a1 a2 a3 a4 a5 = some (ans (a0, a1, a2, a3, a4, a5) l (a0, a1, a2, a3, a4, a5)) := by
      refine e3.trans ?_
      by_cases h : firstFault l = 0
      · rw [if_neg (by simpa using h)]
      · rw [if_pos h]; simp [ans, h]
    rw [if_pos rfl]
    unfold settings_Apply.f gantletlaw12_set.f gantletlaw12_of.f gantletref12_Apply.f settings_Encode.f gantletref12_Encode.f
    rw [e1, e2]
    simp only [Option.bind_some]
    rw [e3', e4.1]
    simp only [Option.bind_some]
    rw [e4.2]
    simp only [Option.bind_some]
    rw [same_eq _ _ _ (by simp at e5; omega) (by simp at e5; omega), alive12 (by decide)]
    generalize ans (a0, a1, a2, a3, a4, a5) l (a0, a1, a2, a3, a4, a5) = z
    obtain ⟨z1, z2, z3, z4, z5, z6, z7, z8⟩ := z
    simp [settings_First.f, gantletref12_First.f]
theorem SettingsApplies (a0 a1 a2 a3 a4 a5 : Int) (l : List S130)
    (hs : (Lit.int .i64 a0).wf = true ∧ (Lit.int .i64 a1).wf = true ∧ (Lit.int .i64 a2).wf = true ∧ (Lit.int .i64 a3).wf = true ∧ (Lit.int .i64 a4).wf = true ∧ (Lit.int .i64 a5).wf = true) (hl : l.length ≤ maxLen)
    (hw : ∀ x ∈ l, (Lit.int .i64 x.f0).wf = true ∧ (Lit.int .i64 x.f1).wf = true) : ∃ k, gantletlaw12_SettingsApplies.f k a0 a1 a2 a3 a4 a5 l = some true :=
  ⟨400, law12 _ _ _ _ _ _ l (fun x hx => ⟨bounds_i64 (hw x hx).1, bounds_i64 (hw x hx).2⟩)⟩
end Go.Proofs.Ytbmnplojpeabmaa.Pure
