/-
  Where frames' bytes, one behind the other, are cut: how many are whole, and what the frames of the rest are.
  Conditions: frames that may be; bytes.
-/
import Derived.Test.YtbmnplojpeabmaaPureFramesB
namespace Go.Proofs.Ytbmnplojpeabmaa.FramePure
open Go Go.RowKit Go.Proofs.Ytbmnplojpeabmaa.QB Go.Proofs.Ytbmnplojpeabmaa.WirePure Go.Proofs.YtbmnplojpeabmaaW.PrintWords Go.Proofs.YtbmnplojpeabmaaW.PrintLast
set_option linter.unusedVariables false
set_option linter.unusedSimpArgs false
/-- How many bytes the first frames have. -/
def off (ks : List S67) (j : Nat) : Nat := (Bs (ks.take j)).length
/-- Where each frame ends. -/
def endsF (ks : List S67) : List Int := (List.range ks.length).map fun j => ((off ks (j + 1) : Nat) : Int)
theorem endsF_length (ks : List S67) : (endsF ks).length = ks.length := by simp [endsF]
theorem rd_endsF (ks : List S67) (j : Nat) (hj : j < ks.length) : rd (endsF ks) (j : Int) = ((off ks (j + 1) : Nat) : Int) := by
  unfold rd endsF
  rw [Int.toNat_natCast, List.getD_eq_getElem?_getD, List.getElem?_map, List.getElem?_range hj]
  rfl
theorem off_append (ks gs : List S67) (j : Nat) (hj : j ≤ ks.length) : off (ks ++ gs) j = off ks j := by
  unfold off
  rw [List.take_append_of_le_length hj]
theorem endsF_snoc (ks : List S67) (x : S67) : endsF (ks ++ [x]) = endsF ks ++ [(((Bs (ks ++ [x])).length : Nat) : Int)] := by
  unfold endsF
  rw [List.length_append, List.length_singleton, List.range_succ, List.map_append]
  congr 1
  · refine List.map_congr_left (fun j hj => ?_)
    rw [List.mem_range] at hj
    rw [off_append ks [x] (j + 1) (by omega)]
  · simp only [List.map_cons, List.map_nil, List.cons.injEq, and_true]
    unfold off
    rw [List.take_of_length_le (by simp)]
theorem off_zero (ks : List S67) : off ks 0 = 0 := rfl
theorem off_all (ks : List S67) : off ks ks.length = (Bs ks).length := by unfold off; rw [List.take_length]
theorem off_succ (ks : List S67) (j : Nat) (hj : j < ks.length) : off ks (j + 1) = off ks j + (9 + (ks[j]'hj).f3.length) := by
  unfold off
  rw [List.take_succ_eq_append_getElem hj, Bs_append, Bs_one, List.length_append, enc_length]
theorem off_mono (ks : List S67) : ∀ (d j : Nat), j + d ≤ ks.length → off ks j ≤ off ks (j + d)
  | 0, j, _ => Nat.le_refl _
  | d + 1, j, h => by
    have := off_mono ks d j (by omega)
    have h2 := off_succ ks (j + d) (by omega)
    rw [← Nat.add_assoc]
    omega
/-- How many of the first ones end by s. -/
def wh (es : List Int) (s : Int) : Nat → Nat
  | 0 => 0
  | i + 1 => if rd es (i : Int) ≤ s then i + 1 else wh es s i
theorem wh_le (es : List Int) (s : Int) : ∀ i, wh es s i ≤ i
  | 0 => Nat.le_refl _
  | i + 1 => by
    have := wh_le es s i
    unfold wh
    split <;> omega
theorem wh_is (ks : List S67) (s : Nat) : ∀ i, i ≤ ks.length → off ks (wh (endsF ks) s i) ≤ s ∧ ∀ j, wh (endsF ks) s i < j → j ≤ i → s < off ks j
  | 0, _ => ⟨Nat.zero_le _, fun j h1 h2 => by omega⟩
  | i + 1, h => by
    obtain ⟨h1, h2⟩ := wh_is ks s i (by omega)
    have h3 := rd_endsF ks i (by omega)
    unfold wh
    rw [h3]
    by_cases hc : ((off ks (i + 1) : Nat) : Int) ≤ (s : Int)
    · rw [if_pos hc]
      exact ⟨by omega, fun j a b => by omega⟩
    · rw [if_neg hc]
      refine ⟨h1, fun j a b => ?_⟩
      rcases Nat.lt_or_ge i j with hj | hj
      · obtain rfl : j = i + 1 := by omega
        omega
      · exact h2 j a hj
theorem wh_all (ks : List S67) (s : Nat) (hs : s ≤ (Bs ks).length) : off ks (wh (endsF ks) s ks.length) ≤ s ∧ ((wh (endsF ks) s ks.length = ks.length ∧ s = off ks ks.length) ∨ ∃ h : wh (endsF ks) s ks.length < ks.length, s < off ks (wh (endsF ks) s ks.length) + (9 + (ks[wh (endsF ks) s ks.length]'h).f3.length)) := by
  obtain ⟨h1, h2⟩ := wh_is ks s ks.length (Nat.le_refl _)
  have h3 := wh_le (endsF ks) s ks.length
  refine ⟨h1, ?_⟩
  rcases Nat.lt_or_ge (wh (endsF ks) s ks.length) ks.length with hlt | hge
  · refine .inr ⟨hlt, ?_⟩
    have h4 := h2 (wh (endsF ks) s ks.length + 1) (by omega) (by omega)
    rwa [off_succ ks _ hlt] at h4
  · have he : wh (endsF ks) s ks.length = ks.length := by omega
    rw [he] at h1
    rw [off_all] at h1
    exact .inl ⟨he, by rw [off_all]; omega⟩
/-- The frames of bytes that are cut. -/
theorem cut_all {ks : List S67} {most : Int} (hf : ∀ x ∈ ks, Fine most x) (s : Nat) (hs : s ≤ (Bs ks).length) (hl : (Bs ks).length ≤ 500000) (hn : ks.length ≤ 1000) {k : Nat} (hk : ks.length + 10 < k) :
    ∃ at_ : Int, frame_All.f k ((Bs ks).take s) most = some (ks.take (wh (endsF ks) s ks.length), at_, if s = off ks (wh (endsF ks) s ks.length) then 0 else 2) := by
  obtain ⟨h1, h2⟩ := wh_all ks s hs
  have hle := wh_le (endsF ks) s ks.length
  generalize wh (endsF ks) s ks.length = W at h1 h2 hle ⊢
  have hft : ∀ x ∈ ks.take W, Fine most x := fun x hx => hf x (List.mem_of_mem_take hx)
  have hsplit : Bs ks = Bs (ks.take W) ++ Bs (ks.drop W) := by rw [← Bs_append, List.take_append_drop]
  have hol : (Bs (ks.take W)).length = off ks W := rfl
  have htl : (ks.take W).length ≤ ks.length := by rw [List.length_take]; omega
  have hbl : (Bs (ks.take W)).length ≤ (Bs ks).length := by rw [hsplit, List.length_append]; omega
  by_cases he : s = off ks W
  · rw [if_pos he]
    refine ⟨((Bs (ks.take W)).length : Nat), ?_⟩
    rw [hsplit, he, ← hol, List.take_left]
    exact rallE hft (by omega) (by omega) (by omega)
  · rw [if_neg he]
    rcases h2 with ⟨rfl, h3⟩ | ⟨hlt, h3⟩
    · exact absurd h3 he
    · refine ⟨((Bs (ks.take W)).length : Nat), ?_⟩
      have hd : ks.drop W = ks[W] :: ks.drop (W + 1) := List.drop_eq_getElem_cons hlt
      have hx : Fine most ks[W] := hf _ (List.getElem_mem hlt)
      have hel := enc_length ks[W].f0 ks[W].f1 ks[W].f2 ks[W].f3
      have htk : (Bs ks).take s = Bs (ks.take W) ++ (enc ks[W].f0 ks[W].f1 ks[W].f2 ks[W].f3).take (s - off ks W) := by
        rw [hsplit, List.take_append, hol, List.take_of_length_le (by omega), hd, Bs_cons, List.take_append_of_le_length (by omega)]
      rw [htk]
      have htll : ((enc ks[W].f0 ks[W].f1 ks[W].f2 ks[W].f3).take (s - off ks W)).length = s - off ks W := by rw [List.length_take]; omega
      exact rallCut hft _ ((enc_bytes hx.2.2).take _) (by omega) (by omega) (by omega) (nx_cut hx _ (by omega)) (by omega)
end Go.Proofs.Ytbmnplojpeabmaa.FramePure
