/-
  THE LAW WindowTells: for any two numbers and any list of at most 100, the program's Grow, Take, Shift, Right and Room of package window answer as the reference does.
  Conditions: none but the row's own (64-bit numbers, the list's size).
-/
import Derived.Test.YtjkadheknjkkbaaPWindowTellsx2
import Derived.OpenShut
namespace Go.Proofs.Ytjkadheknjkkbaa.Pure
open Go.RowKit Go.Proofs.Ytjkadheknjkkbaa.PWindowTells Go.Proofs.YtjkadheknjkkbaaW.PrintWords Go.Proofs.YtjkadheknjkkbaaW.PrintLast

theorem wfi {a : Int} (h : (Lit.int .i64 a).wf = true) : -9223372036854775808 ≤ a ∧ a ≤ 9223372036854775807 := by
  exact bounds_i64 h
theorem wr_in {a : Int} (h0 : -9223372036854775808 ≤ a) (h1 : a ≤ 9223372036854775807) : wrap64 a = a := by
  unfold wrap64; omega
theorem within_eq (a lo hi : Int) : window_within_int.f a lo hi = some (decide (lo ≤ a ∧ a ≤ hi)) := by
  unfold window_within_int.f
  by_cases h : lo ≤ a
  · rw [if_pos h]; congr 1; simp [h]
  · rw [if_neg h]; congr 1; simp [h]
theorem right_eq (a : Int) : window_Right.f a = some (decide (-2147483648 ≤ a ∧ a ≤ 2147483647)) := by
  unfold window_Right.f; rw [within_eq]; rfl
theorem ref_right_eq (a : Int) : gantletref15_Right.f a = some (decide (-2147483648 ≤ a ∧ a ≤ 2147483647)) := by
  unfold gantletref15_Right.f
  by_cases h : -2147483648 ≤ a
  · rw [if_pos h]; congr 1; simp [h]
  · rw [if_neg h]; congr 1; simp [h]
theorem by_eq (w n : Int) (b : Bool) : window_by.f w n b = some (if b = true ∧ (-2147483648 ≤ w ∧ w ≤ 2147483647) ∧ (-2147483648 ≤ wrap64 (w + n) ∧ wrap64 (w + n) ≤ 2147483647) then (wrap64 (w + n), true) else (w, false)) := by
  unfold window_by.f
  rw [right_eq, right_eq]
  simp only [Option.bind_some, decide_eq_true_eq]
  by_cases hb : b = true
  · rw [if_pos hb]
    by_cases h1 : -2147483648 ≤ w ∧ w ≤ 2147483647
    · rw [if_pos h1]
      by_cases h2 : -2147483648 ≤ wrap64 (w + n) ∧ wrap64 (w + n) ≤ 2147483647
      · rw [if_pos h2, if_pos ⟨hb, h1, h2⟩]
      · rw [if_neg h2, if_neg (fun h => h2 h.2.2)]
    · rw [if_neg h1, if_neg (fun h => h1 h.2.1)]
  · rw [if_neg hb, if_neg (fun h => hb h.1)]
theorem grow_eq (w n : Int) (hw : (Lit.int .i64 w).wf = true) (hn : (Lit.int .i64 n).wf = true) : gantletref15_Grow.f w n = window_Grow.f w n := by
  have hw := wfi hw
  have hn := wfi hn
  unfold window_Grow.f gantletref15_Grow.f
  rw [within_eq, ref_right_eq]
  simp only [Option.bind_some, by_eq, decide_eq_true_eq]
  by_cases h1 : -2147483648 ≤ w ∧ w ≤ 2147483647
  · have e1 : wrap64 (2147483647 - w) = 2147483647 - w := wr_in (by omega) (by omega)
    rw [if_pos h1, e1]
    by_cases h2 : n < 0
    · rw [if_pos h2, if_neg (by omega)]
    · rw [if_neg h2]
      by_cases h3 : n > 2147483647
      · rw [if_pos h3, if_neg (by omega)]
      · have e2 : wrap64 (w + n) = w + n := wr_in (by omega) (by omega)
        rw [if_neg h3, e2]
        by_cases h4 : n > 2147483647 - w
        · rw [if_pos h4, if_neg (by omega)]
        · rw [if_neg h4, if_pos (by omega)]
  · rw [if_neg h1, if_neg (by omega)]
theorem take_eq (w n : Int) (hw : (Lit.int .i64 w).wf = true) (hn : (Lit.int .i64 n).wf = true) : gantletref15_Take.f w n = window_Take.f w n := by
  have hw := wfi hw
  have hn := wfi hn
  unfold window_Take.f gantletref15_Take.f
  rw [within_eq, ref_right_eq]
  simp only [Option.bind_some, by_eq, decide_eq_true_eq]
  by_cases h1 : -2147483648 ≤ w ∧ w ≤ 2147483647
  · rw [if_pos h1]
    by_cases h2 : n < 0
    · rw [if_pos h2, if_neg (by omega)]
    · rw [if_neg h2]
      by_cases h3 : n > w
      · rw [if_pos h3, if_neg (by omega)]
      · have e1 : wrap64 (-n) = -n := wr_in (by omega) (by omega)
        have e2 : wrap64 (w + -n) = w - n := by rw [wr_in (by omega) (by omega)]; omega
        have e3 : wrap64 (w - n) = w - n := wr_in (by omega) (by omega)
        rw [if_neg h3, e1, e2, e3, if_pos (by omega)]
  · rw [if_neg h1, if_neg (by omega)]
theorem shift_eq (k : Nat) (w n : Int) (hw : (Lit.int .i64 w).wf = true) (hn : (Lit.int .i64 n).wf = true) : gantletref15_Shift.f (k + 1) w n = window_Shift.f w n := by
  have hw := wfi hw
  have hn := wfi hn
  unfold window_Shift.f gantletref15_Shift.f
  simp only [gantletref15_Shift.j0]
  rw [within_eq, ref_right_eq, ref_right_eq]
  simp only [Option.bind_some, by_eq, decide_eq_true_eq]
  by_cases h1 : -2147483648 ≤ w ∧ w ≤ 2147483647
  · rw [if_pos h1]
    by_cases h2 : n < -2147483647
    · rw [if_pos h2, if_pos trivial, if_neg (by omega)]
    · rw [if_neg h2]
      by_cases h3 : n > 2147483647
      · rw [if_pos h3, if_neg (by omega)]
      · rw [if_neg h3]
        by_cases h4 : -2147483648 ≤ wrap64 (w + n) ∧ wrap64 (w + n) ≤ 2147483647
        · rw [if_pos h4, if_pos ⟨by omega, h1, h4⟩]
        · rw [if_neg h4, if_neg (fun h => h4 h.2.2)]
  · rw [if_neg h1, if_pos trivial, if_neg (by omega)]
theorem room_loop (xs : List Int) (hl : xs.length ≤ 100) (d : Nat) : ∀ (k : Nat) (x i : Int), 0 ≤ i → i ≤ xs.length → (xs.length : Int) - i = d → d < k →
    ∃ r, window_Room.l0 k x xs (xs.length : Int) i = some r ∧ gantletref15_Room.l0 k xs x i = some r := by
  induction d with
  | zero =>
    intro k x i h0 h1 hd hk
    obtain ⟨k, rfl⟩ : ∃ m, k = m + 1 := ⟨k - 1, by omega⟩
    refine ⟨mx 0 x, ?_, ?_⟩
    · simp only [window_Room.l0]; rw [if_neg (by omega)]
    · simp only [gantletref15_Room.l0]; rw [if_neg (by omega)]; congr 1; unfold mx; omega
  | succ d ih =>
    intro k x i h0 h1 hd hk
    obtain ⟨k, rfl⟩ : ∃ m, k = m + 1 := ⟨k - 1, by omega⟩
    obtain ⟨r, hr, hs⟩ := ih k (mn x (rd xs i)) (i + 1) (by omega) (by omega) (by omega) (by omega)
    have e : wrap64 (i + 1) = i + 1 := wr_in (by omega) (by omega)
    refine ⟨r, ?_, ?_⟩
    · simp only [window_Room.l0]; rw [if_pos (by omega), if_pos h0, if_pos (by omega), e]; exact hr
    · simp only [gantletref15_Room.l0]; rw [if_pos (by omega), if_pos h0, e]; exact hs
theorem alive_200 : gantletlaw15_alive.f 200 = some true := by kernel_rfl
theorem grow_some (w n : Int) : ∃ r, window_Grow.f w n = some r := by
  unfold window_Grow.f; rw [within_eq]; simp only [Option.bind_some, by_eq]; exact ⟨_, rfl⟩
theorem take_some (w n : Int) : ∃ r, window_Take.f w n = some r := by
  unfold window_Take.f; rw [within_eq]; simp only [Option.bind_some, by_eq]; exact ⟨_, rfl⟩
theorem shift_some (w n : Int) : ∃ r, window_Shift.f w n = some r := by
  unfold window_Shift.f; rw [within_eq]; simp only [Option.bind_some, by_eq]; exact ⟨_, rfl⟩

theorem WindowTells : gantletlaw15_WindowTells.Pure := by
  intro w n l hw hn hm hb hx
  refine ⟨200, ?_⟩
  unfold gantletlaw15_WindowTells.f
  rw [alive_200]
  by_cases hl : (l.length : Int) > 100
  · rw [if_pos hl]; rfl
  · rw [if_neg hl, grow_eq w n hw hn, take_eq w n hw hn, shift_eq 199 w n hw hn]
    obtain ⟨g, eg⟩ := grow_some w n
    obtain ⟨t, et⟩ := take_some w n
    obtain ⟨s, es⟩ := shift_some w n
    obtain ⟨r, h1, h2⟩ := room_loop l (by omega) l.length 200 n 0 (by omega) (by omega) (by omega) (by omega)
    have e1 : window_Room.f 200 n l = some r := h1
    have e2 : gantletref15_Room.f 200 n l = some r := h2
    rw [eg, et, es, right_eq, ref_right_eq, e1, e2]
    simp

end Go.Proofs.Ytjkadheknjkkbaa.Pure
