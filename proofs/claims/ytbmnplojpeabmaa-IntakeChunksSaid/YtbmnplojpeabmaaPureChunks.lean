/-
  ALL FRAMES THAT AN INTAKE TELLS, however the bytes come, as plain functions.
  Conditions: bytes are 0 to 255.
-/
import Derived.Test.YtbmnplojpeabmaaPureIntake
namespace Go.Proofs.Ytbmnplojpeabmaa.IntakePure
open Go Go.RowKit Go.Proofs.Ytbmnplojpeabmaa.QI Go.Proofs.Ytbmnplojpeabmaa.WirePure Go.Proofs.Ytbmnplojpeabmaa.FramePure Go.Proofs.YtbmnplojpeabmaaW.PrintWords Go.Proofs.YtbmnplojpeabmaaW.PrintLast
set_option linter.unusedVariables false
set_option linter.unusedSimpArgs false
/-- The first T frames. -/
def tl (B : List Int) (most : Int) (T : Nat) : List S67 := (List.range T).map fun j => nF (nx (B.drop (at_ B most j)) most)
theorem tl_zero (B : List Int) (most : Int) : tl B most 0 = [] := rfl
theorem tl_succ (B : List Int) (most : Int) (T : Nat) : tl B most (T + 1) = tl B most T ++ [nF (nx (B.drop (at_ B most T)) most)] := by
  unfold tl
  rw [List.range_succ, List.map_append]
  rfl
theorem tl_length (B : List Int) (most : Int) (T : Nat) : (tl B most T).length = T := by simp [tl]
theorem Told.less {B : List Int} {most : Int} {T j : Nat} (h : Told B most T) (hj : j ≤ T) : Told B most j := fun i hi => h i (by omega)
theorem tl_app {B : List Int} {most : Int} (hb : Bytes B) (h24 : 24 ≤ B.length) (y : List Int) {T : Nat} (h : Told B most T) : tl (B ++ y) most T = tl B most T := by
  unfold tl
  refine List.map_congr_left fun j hj => ?_
  have hj : j < T := List.mem_range.1 hj
  obtain ⟨h1, _⟩ := at_app hb h24 y j (h.less (by omega))
  have hl := at_le hb h24 j (h.less (by omega))
  rw [h1, List.drop_append_of_le_length hl, nx_app y (hb.drop _) (.inl (h j hj))]
theorem wr_app {B : List Int} (h : wr B = true) (y : List Int) : wr (B ++ y) = true := by
  unfold wr at h ⊢
  have h := of_decide_eq_false (by simpa using h : decide (PRE.take B.length = B.take 24) = false)
  rw [decide_eq_false (p := PRE.take (B ++ y).length = (B ++ y).take 24) (fun e => h ?_)]
  · rfl
  · have e := congrArg (List.take B.length) e
    rw [List.take_take, List.take_take, List.length_append, Nat.min_eq_left (by omega)] at e
    rw [e]
    rcases Nat.le_total B.length 24 with hl | hl
    · rw [Nat.min_eq_left hl, List.take_append_of_le_length (Nat.le_refl _), List.take_of_length_le hl, List.take_of_length_le (Nat.le_refl _)]
    · rw [Nat.min_eq_right hl, List.take_append_of_le_length hl]
/-- All that is told, what is kept then, and the error. -/
def frs (most : Int) : Nat → List Int → Bool → Int → List S67 × (List Int × Int) × Int
  | 0, l, bg, ov => ([], (l, ov), 0)
  | k + 1, l, bg, ov => if (ansI most l bg ov).2 ≠ 0 then ([], nextI most l bg ov, (ansI most l bg ov).2) else ((ansI most l bg ov).1 :: (frs most k (nextI most l bg ov).1 bg (nextI most l bg ov).2).1, (frs most k (nextI most l bg ov).1 bg (nextI most l bg ov).2).2)
/-- Where an intake stands, of all that came; fs were told. -/
def Qs (most : Int) (fs : List S67) (l : List Int) (bg : Bool) (ov : Int) (all : List Int) : Prop :=
  (ov = 0 ∧ ∃ T, Rel most l bg 0 all T 0 ∧ fs = tl all most T) ∨ (ov = 3 ∧ wr all = true ∧ fs = [] ∧ l = [] ∧ bg = false ∧ Bytes all) ∨
  (ov = 4 ∧ l = [] ∧ bg = true ∧ 24 ≤ all.length ∧ wr all = false ∧ Bytes all ∧ ∃ T, Told all most T ∧ nE (nx (all.drop (at_ all most T)) most) = 4 ∧ fs = tl all most T)
theorem Qs.first (most : Int) : Qs most [] [] false 0 [] := .inl ⟨rfl, 0, Rel.first most, rfl⟩
theorem Qs.all_bytes {most : Int} {fs : List S67} {l : List Int} {bg : Bool} {ov : Int} {all : List Int} (h : Qs most fs l bg ov all) : Bytes all := by
  rcases h with ⟨_, T, h, _⟩ | ⟨_, _, _, _, _, h⟩ | ⟨_, _, _, _, _, h, _⟩
  · exact h.by_
  · exact h
  · exact h
theorem Qs.bytes {most : Int} {fs : List S67} {l : List Int} {bg : Bool} {ov : Int} {all : List Int} (h : Qs most fs l bg ov all) : Bytes l ∧ l.length ≤ all.length := by
  rcases h with ⟨_, T, h, _⟩ | ⟨_, _, _, rfl, _, h⟩ | ⟨_, rfl, _⟩
  · exact ⟨h.bytes, h.short⟩
  · exact ⟨(fun x hx => by cases hx), Nat.zero_le _⟩
  · exact ⟨(fun x hx => by cases hx), Nat.zero_le _⟩
theorem Qs.begun {most : Int} {fs : List S67} {l : List Int} {bg : Bool} {ov : Int} {all : List Int} (h : Qs most fs l bg ov all) : bg = decide (24 ≤ all.length ∧ wr all = false) := by
  rcases h with ⟨_, T, h, _⟩ | ⟨_, h, _, _, e, _⟩ | ⟨_, _, e, h1, h2, _⟩
  · exact h.bgE
  · rw [e, h]; exact (decide_eq_false (fun h => by cases h.2)).symm
  · rw [e]; exact (decide_eq_true ⟨h1, h2⟩).symm
theorem Qs.feed {most : Int} {fs : List S67} {l : List Int} {bg : Bool} {ov : Int} {all : List Int} (h : Qs most fs l bg ov all) {c : List Int} (hc : Bytes c) :
    Qs most fs (feedI l bg ov c).1 (feedI l bg ov c).2.1 (feedI l bg ov c).2.2 (all ++ c) := by
  rcases h with ⟨rfl, T, h, rfl⟩ | ⟨rfl, hw, rfl, rfl, rfl, hb⟩ | ⟨rfl, rfl, rfl, h24, hw, hb, T, hT, h4, rfl⟩
  · have h2 := h.feed hc
    obtain ⟨h1, hT, h3⟩ := h.ok rfl
    have hb := h.by_
    unfold feedR at h2
    rw [if_neg (by decide)] at h2
    by_cases hw : wr (all ++ c) = true
    · rcases h3 with ⟨h3, rfl, rfl⟩ | ⟨h3, rfl⟩
      · have hf : bg = false := by rw [h.bgE]; exact decide_eq_false (fun h => by omega)
        unfold feedI
        rw [if_neg (by decide), if_neg (by rw [hf]; decide), if_pos hw]
        exact .inr (.inl ⟨rfl, hw, rfl, rfl, rfl, bytes_app hb hc⟩)
      · rw [wr_long h3 c, h1] at hw; cases hw
    · rw [if_neg hw] at h2
      have ho := h2.ovE
      refine .inl ⟨ho.symm, T, by rw [← ho] at h2; exact h2, ?_⟩
      rcases h3 with ⟨h3, rfl, rfl⟩ | ⟨h3, rfl⟩
      · rfl
      · exact (tl_app hb h3 c hT).symm
  · exact .inr (.inl ⟨rfl, wr_app hw c, rfl, rfl, rfl, bytes_app hb hc⟩)
  · obtain ⟨ha, hT2⟩ := at_app hb h24 c T hT
    have hl := at_le hb h24 T hT
    refine .inr (.inr ⟨rfl, rfl, rfl, by rw [List.length_append]; omega, by rw [wr_long h24 c, hw], bytes_app hb hc, T, hT2, ?_, (tl_app hb h24 c hT).symm⟩)
    rw [ha, List.drop_append_of_le_length hl, nx_app c (hb.drop _) (.inr h4), h4]
/-- At the end: the frames, the error, how much is kept. -/
def Fin (most : Int) (all : List Int) (fs : List S67) (e : Int) (n : Nat) : Prop :=
  (wr all = true ∧ fs = [] ∧ e = 3 ∧ n = 0) ∨ (wr all = false ∧ all.length < 24 ∧ fs = [] ∧ e = 2 ∧ n = all.length) ∨
  (wr all = false ∧ 24 ≤ all.length ∧ ∃ T, Told all most T ∧ fs = tl all most T ∧ e = nE (nx (all.drop (at_ all most T)) most) ∧ e ≠ 0 ∧ n = if e = 4 then 0 else all.length - at_ all most T)
theorem Fin.unique {most : Int} {all : List Int} {fs fs' : List S67} {e e' : Int} {n n' : Nat} (h : Fin most all fs e n) (h' : Fin most all fs' e' n') : fs = fs' ∧ e = e' ∧ n = n' := by
  rcases h with ⟨h1, rfl, rfl, rfl⟩ | ⟨h1, h2, rfl, rfl, rfl⟩ | ⟨h1, h2, T, hT, rfl, he, he0, rfl⟩
  · rcases h' with ⟨_, rfl, rfl, rfl⟩ | ⟨h, _⟩ | ⟨h, _⟩
    · exact ⟨rfl, rfl, rfl⟩
    · rw [h1] at h; cases h
    · rw [h1] at h; cases h
  · rcases h' with ⟨h, _⟩ | ⟨_, _, rfl, rfl, rfl⟩ | ⟨_, h, _⟩
    · rw [h1] at h; cases h
    · exact ⟨rfl, rfl, rfl⟩
    · omega
  · rcases h' with ⟨h, _⟩ | ⟨_, h, _⟩ | ⟨_, _, T', hT', rfl, he', he0', rfl⟩
    · rw [h1] at h; cases h
    · omega
    · have : T = T' := by
        rcases Nat.lt_trichotomy T T' with hlt | heq | hlt
        · have := hT' T hlt; omega
        · exact heq
        · have := hT T' hlt; omega
      subst this
      rw [← he'] at he
      subst he
      exact ⟨rfl, rfl, rfl⟩
theorem frs_stop {most : Int} {l l' : List Int} {bg : Bool} {ov o' : Int} {f : S67} {e : Int} (k : Nat) (ha : ansI most l bg ov = (f, e)) (he : e ≠ 0) (hn : nextI most l bg ov = (l', o')) : frs most (k + 1) l bg ov = ([], (l', o'), e) := by
  rw [frs, ha, hn, if_pos (show (f, e).2 ≠ 0 from he)]
theorem frs_go {most : Int} {l l' : List Int} {bg : Bool} {ov o' : Int} {f : S67} (k : Nat) (ha : ansI most l bg ov = (f, 0)) (hn : nextI most l bg ov = (l', o')) : frs most (k + 1) l bg ov = (f :: (frs most k l' bg o').1, (frs most k l' bg o').2) := by
  rw [frs, ha, hn, if_neg (show ¬ (f, (0 : Int)).2 ≠ 0 from fun h => h rfl)]
theorem ansI_on {most : Int} {l : List Int} {bg : Bool} (h : bg = true) : ansI most l bg 0 = (nF (nx l most), nE (nx l most)) := by subst h; rfl
theorem nextI_on {most : Int} {l : List Int} {bg : Bool} (h : bg = true) : nextI most l bg 0 = if nE (nx l most) = 4 then ([], 4) else if nE (nx l most) = 0 then (l.drop (nN (nx l most)), 0) else (l, 0) := by subst h; rfl
theorem ansI_off {most : Int} {l : List Int} {bg : Bool} (h : bg = false) : ansI most l bg 0 = (zF, 2) := by subst h; rfl
theorem nextI_off {most : Int} {l : List Int} {bg : Bool} (h : bg = false) : nextI most l bg 0 = (l, 0) := by subst h; rfl
theorem Qs.ends {most : Int} {all : List Int} {bg : Bool} : ∀ (k : Nat) (fs : List S67) (l : List Int) (ov : Int), Qs most fs l bg ov all → l.length < 9 * k →
    Fin most all (fs ++ (frs most k l bg ov).1) (frs most k l bg ov).2.2 (frs most k l bg ov).2.1.1.length ∧ Qs most (fs ++ (frs most k l bg ov).1) (frs most k l bg ov).2.1.1 bg (frs most k l bg ov).2.1.2 all
  | 0, fs, l, ov, h, hk => by omega
  | k + 1, fs, l, ov, h, hk => by
    have hQ := h
    rcases h with ⟨ho, T, h, hf⟩ | ⟨ho, hw, hf, hl0, hbg, hb⟩ | ⟨ho, hl0, hbg, h24, hw, hb, T, hT, h4, hf⟩
    · subst ho
      obtain ⟨h1, hT, h3⟩ := h.ok rfl
      have hb := h.by_
      rcases h3 with ⟨h3, hl, hT0⟩ | ⟨h3, hl⟩
      · have hff : bg = false := by rw [h.bgE]; exact decide_eq_false (fun h => by omega)
        rw [frs_stop k (ansI_off hff) (by decide) (nextI_off hff)]
        refine ⟨.inr (.inl ⟨h1, h3, ?_, rfl, ?_⟩), ?_⟩
        · rw [hf, hT0]; rfl
        · rw [hl]
        · simpa using hQ
      · have ht : bg = true := by rw [h.bgE]; exact decide_eq_true ⟨h3, h1⟩
        have hle := at_le hb h3 T hT
        subst hl
        rcases nx_e (most := most) (hb.drop (at_ all most T)) with e | ⟨e | e, _⟩
        · have hn := nx_n (hb.drop (at_ all most T)) e
          have ea : ansI most (all.drop (at_ all most T)) bg 0 = (nF (nx (all.drop (at_ all most T)) most), 0) := by rw [ansI_on ht, e]
          have en : nextI most (all.drop (at_ all most T)) bg 0 = (all.drop (at_ all most (T + 1)), 0) := by
            rw [nextI_on ht, if_neg (by omega), if_pos e, List.drop_drop]
            rfl
          have hR := h.next
          have er : nextR most all T 0 = (T + 1, 0) := by
            unfold nextR
            rw [if_neg (by decide), if_neg (by omega), if_pos e]
          rw [en, er] at hR
          have hlen : at_ all most (T + 1) = at_ all most T + nN (nx (all.drop (at_ all most T)) most) := rfl
          have ih := Qs.ends k (tl all most (T + 1)) (all.drop (at_ all most (T + 1))) 0 (.inl ⟨rfl, T + 1, hR, rfl⟩) (by
            have h9 := hn.1
            have h10 := hn.2.1
            rw [List.length_drop] at hk h10 ⊢
            omega)
          rw [frs_go k ea en]
          simp only []
          rw [tl_succ, List.append_assoc, ← hf] at ih
          exact ih
        · have e0 := frs_stop (most := most) (l := all.drop (at_ all most T)) (bg := bg) (ov := 0) (f := nF (nx (all.drop (at_ all most T)) most)) (e := 2) (l' := all.drop (at_ all most T)) (o' := 0) k (by rw [ansI_on ht, e]) (by decide) (by rw [nextI_on ht, if_neg (by omega), if_neg (by omega)])
          rw [e0]
          refine ⟨.inr (.inr ⟨h1, h3, T, hT, by simp [hf], e.symm, show (2 : Int) ≠ 0 by decide, ?_⟩), by simpa using hQ⟩
          show (all.drop (at_ all most T)).length = _
          rw [if_neg (show ¬ (2 : Int) = 4 by decide), List.length_drop]
        · have e0 := frs_stop (most := most) (l := all.drop (at_ all most T)) (bg := bg) (ov := 0) (f := nF (nx (all.drop (at_ all most T)) most)) (e := 4) (l' := []) (o' := 4) k (by rw [ansI_on ht, e]) (by decide) (by rw [nextI_on ht, if_pos e])
          rw [e0]
          exact ⟨.inr (.inr ⟨h1, h3, T, hT, by simp [hf], e.symm, by decide, rfl⟩), .inr (.inr ⟨rfl, rfl, ht, h3, h1, hb, T, hT, e, by simp [hf]⟩)⟩
    · subst ho hl0
      have e0 := frs_stop (most := most) (l := []) (bg := bg) (ov := 3) (f := zF) (e := 3) (l' := []) (o' := 3) k rfl (by decide) rfl
      rw [e0]
      exact ⟨.inl ⟨hw, by simp [hf], rfl, rfl⟩, by simpa using hQ⟩
    · subst ho hl0
      have e0 := frs_stop (most := most) (l := []) (bg := bg) (ov := 4) (f := zF) (e := 4) (l' := []) (o' := 4) k rfl (by decide) rfl
      rw [e0]
      exact ⟨.inr (.inr ⟨hw, h24, T, hT, by simp [hf], h4.symm, by decide, rfl⟩), by simpa using hQ⟩
/-- gantletref02.All of what is behind the preface. -/
theorem all_tl {all : List Int} {most : Int} (hb : Bytes all) (h24 : 24 ≤ all.length) (hl : all.length ≤ 1000000) {T : Nat} (hT : Told all most T) (he : nE (nx (all.drop (at_ all most T)) most) ≠ 0) : ∀ (d j k : Nat), j + d = T → d + 1 < k →
    ∃ p, gantletref02_All.l0 k (all.drop 24) most (tl all most j) ((at_ all most j : Int) - 24) = some (tl all most T, p, if at_ all most T = all.length then 0 else nE (nx (all.drop (at_ all most T)) most)) := by
  intro d
  induction d with
  | zero =>
    intro j k hj hk
    obtain rfl : j = T := by omega
    obtain ⟨k, rfl⟩ : ∃ m, k = m + 1 := ⟨k - 1, by omega⟩
    have ha := at_le hb h24 j hT
    have h24a : 24 ≤ at_ all most j := by
      clear he ha hk
      induction j with
      | zero => exact Nat.le_refl _
      | succ j ih => have := ih (hT.less (by omega)) (by omega); show 24 ≤ at_ all most j + _; omega
    rw [rall_l0]
    by_cases hp : at_ all most j = all.length
    · rw [if_neg (by rw [List.length_drop]; omega), if_pos hp]
      exact ⟨_, rfl⟩
    · rw [if_pos (by rw [List.length_drop]; omega), if_pos (by omega), if_pos (by rw [List.length_drop]; omega), List.drop_drop, show 24 + ((at_ all most j : Int) - 24).toNat = at_ all most j by omega, rnextE _ _ (hb.drop _) (by rw [List.length_drop]; omega), if_neg hp]
      simp only [Option.bind_some]
      rw [if_neg (show ¬ (nx (all.drop (at_ all most j)) most).2.2.2.2.2 = 0 from he)]
      exact ⟨_, rfl⟩
  | succ d ih =>
    intro j k hj hk
    obtain ⟨k, rfl⟩ : ∃ m, k = m + 1 := ⟨k - 1, by omega⟩
    have ha := at_le hb h24 j (hT.less (by omega))
    have h24a : 24 ≤ at_ all most j := by
      clear he ha hk ih hj
      induction j with
      | zero => exact Nat.le_refl _
      | succ j ih => show 24 ≤ at_ all most j + _; omega
    have h0 := hT j (by omega)
    have hn := nx_n (hb.drop (at_ all most j)) h0
    rw [List.length_drop] at hn
    have htl : (tl all most j).length ≤ all.length := by
      rw [tl_length]
      have : ∀ i, i ≤ j → i ≤ at_ all most i := by
        intro i
        induction i with
        | zero => intro _; omega
        | succ i ih2 =>
          intro hi
          have h1 := ih2 (by omega)
          have h2 := (nx_n (hb.drop (at_ all most i)) (hT i (by omega))).1
          show i + 1 ≤ at_ all most i + _
          omega
      have := this j (Nat.le_refl _)
      omega
    rw [rall_l0, if_pos (by rw [List.length_drop]; omega), if_pos (by omega), if_pos (by rw [List.length_drop]; omega), List.drop_drop, show 24 + ((at_ all most j : Int) - 24).toNat = at_ all most j by omega, rnextE _ _ (hb.drop _) (by rw [List.length_drop]; omega)]
    simp only [Option.bind_some]
    rw [if_pos (show (nx (all.drop (at_ all most j)) most).2.2.2.2.2 = 0 from h0), if_pos (by omega)]
    have e1 : tl all most j ++ [(⟨(nx (all.drop (at_ all most j)) most).1, (nx (all.drop (at_ all most j)) most).2.1, (nx (all.drop (at_ all most j)) most).2.2.1, (nx (all.drop (at_ all most j)) most).2.2.2.1⟩ : S67)] = tl all most (j + 1) := (tl_succ _ _ _).symm
    have hnn : (nx (all.drop (at_ all most j)) most).2.2.2.2.1 = ((nN (nx (all.drop (at_ all most j)) most) : Nat) : Int) := by
      have : 0 ≤ (nx (all.drop (at_ all most j)) most).2.2.2.2.1 := by
        have h9 := hn.1
        unfold nN at h9
        omega
      unfold nN
      omega
    have e2 : wrap64 ((at_ all most j : Int) - 24 + (nx (all.drop (at_ all most j)) most).2.2.2.2.1) = ((at_ all most (j + 1) : Nat) : Int) - 24 := by
      have : at_ all most (j + 1) = at_ all most j + nN (nx (all.drop (at_ all most j)) most) := rfl
      rw [hnn, wr_in (by omega) (by omega)]
      omega
    rw [e1, e2]
    exact ih (j + 1) k (by omega) (by omega)
end Go.Proofs.Ytbmnplojpeabmaa.IntakePure
