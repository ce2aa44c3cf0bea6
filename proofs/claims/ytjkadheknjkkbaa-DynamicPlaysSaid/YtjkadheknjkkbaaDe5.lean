/-
  DYNAMIC: the document's table.
  Conditions: none of its own; lemmas that the claim's row rests on.
-/
import Derived.Test.YtjkadheknjkkbaaDe4
import Derived.WalkKit
namespace Go.Proofs.Ytjkadheknjkkbaa.De
open Go.RowKit Go.Proofs.YtjkadheknjkkbaaW.PrintWords Go.Proofs.YtjkadheknjkkbaaW.PrintLast Go.Proofs.YtjkadheknjkkbaaW.PrintMore
attribute [local go_sem] max2_int min2_int max_two min_two max_three min_three max_four min_four
set_option linter.unusedVariables false
set_option linter.unusedSimpArgs false
open Go.Proofs.Ytjkadheknjkkbaa.Ob Go.Proofs.Ytjkadheknjkkbaa.QD
open Go.Proofs.YtjkadheknjkkbaaR
/-- As many of the first ones as there is room for, s of it taken. -/
def fitP (most : Int) : Int → List S78 → List S78
  | _, [] => []
  | s, x :: l => if s + szF x ≤ most then x :: fitP most (s + szF x) l else []
theorem fitP_len (most : Int) : ∀ (l : List S78) (s : Int), (fitP most s l).length ≤ l.length
  | [], _ => Nat.le_refl 0
  | x :: l, s => by
    unfold fitP
    split
    · have := fitP_len most l (s + szF x); simp; exact this
    · simp
theorem fitP_snoc (most : Int) (x : S78) : ∀ (m : List S78) (s : Int), fitP most s (m ++ [x]) = if s + sumY (m ++ [x]) ≤ most then m ++ [x] else fitP most s m
  | [], s => by simp [fitP, sumY]
  | y :: m, s => by
    have ih := fitP_snoc most x m (s + szF y)
    have e : sumY (y :: m ++ [x]) = szF y + sumY (m ++ [x]) := rfl
    rw [List.cons_append]
    unfold fitP
    by_cases h : s + szF y ≤ most
    · rw [if_pos h, if_pos h, ih]
      by_cases h2 : s + szF y + sumY (m ++ [x]) ≤ most
      · rw [if_pos h2, if_pos (by rw [← List.cons_append, e]; push_cast; omega)]
      · rw [if_neg h2, if_neg (by rw [← List.cons_append, e]; push_cast; omega)]
    · rw [if_neg h, if_neg h, if_neg (by rw [← List.cons_append, e]; push_cast; omega)]
theorem sumY_rev (l : List S78) : sumY l.reverse = sumY l := by
  induction l with
  | nil => rfl
  | cons x l ih => rw [List.reverse_cons, sumY_append, ih]; simp [sumY]; omega
/-- The oldest gone, or the newest kept: it is one. -/
theorem yE_fit (most room : Int) : ∀ l : List S78, (yE most room l).reverse = fitP most room l.reverse
  | [] => rfl
  | x :: t => by
    have ih := yE_fit most room t
    rw [List.reverse_cons, fitP_snoc]
    have e : sumY (t.reverse ++ [x]) = sumY (x :: t) := by rw [← List.reverse_cons, sumY_rev]
    have e2 : ((sumY (x :: t) : Nat) : Int) - szF x = (sumY t : Nat) := by simp only [sumY]; push_cast; omega
    rw [e]
    unfold yE evN
    by_cases h : ((sumY (x :: t) : Nat) : Int) + room ≤ most
    · rw [if_pos h, if_pos (by omega)]
      simp
    · rw [if_neg h, if_neg (by omega), e2]
      exact ih
theorem yA_fit (most : Int) (x : S78) (l : List S78) : (yA most x l).reverse = fitP most 0 (x :: l.reverse) := by
  unfold yA fitP
  by_cases h : (szF x : Int) ≤ most
  · rw [if_pos h, if_pos (by omega), List.reverse_append, yE_fit, Int.zero_add]
    rfl
  · rw [if_neg h, if_neg (by omega), yE_fit]
    cases l.reverse with
    | nil => rfl
    | cons y m => unfold fitP; rw [if_neg (by omega)]
theorem rd78_append (l m : List S78) (x : S78) : rd_T78 (l ++ x :: m) (l.length : Int) = x := by simp [rd_T78]
/-- The document's Sum and fit. -/
theorem sum_l0 (l : List S78) (hl : l.length ≤ 1000) (hs : ∀ x ∈ l, szF x ≤ 1000) : ∀ (m q : List S78) (k : Nat), q ++ m = l → m.length < k → gantletref07_Sum.l0 k l (sumY q : Nat) (q.length : Nat) = some (sumY l : Nat)
  | [], q, k, e, hk => by
    obtain ⟨j, rfl⟩ : ∃ j, k = j + 1 := ⟨k - 1, by omega⟩
    subst e
    unfold gantletref07_Sum.l0
    rw [if_neg (by simp)]
    simp
  | x :: m, q, k, e, hk => by
    obtain ⟨j, rfl⟩ : ∃ j, k = j + 1 := ⟨k - 1, by omega⟩
    have ih := sum_l0 l hl hs m (q ++ [x]) j (by simpa using e) (by simp at hk; omega)
    have hx : szF x ≤ 1000 := hs x (by rw [← e]; simp)
    have hq : q.length < l.length := by rw [← e]; simp
    have hsq : sumY q ≤ 1000000 := by
      have h1 := sumY_le l 1000 hs q.length
      rw [← e, List.take_left] at h1
      rw [e] at h1
      omega
    have hr : rd_T78 l (q.length : Int) = x := by rw [← e]; exact rd78_append q m x
    have hz : gantletref07_Size.f x.f0 x.f1 = some (szF x : Int) := by
      have h2 := hx
      unfold szF at h2
      unfold gantletref07_Size.f szF wrap64
      simp only [Option.some.injEq]
      push_cast
      omega
    have w1 : wrap64 ((q.length : Int) + 1) = ((q ++ [x]).length : Nat) := by
      rw [List.length_append, List.length_singleton]
      unfold wrap64
      push_cast
      omega
    have w2 : wrap64 ((sumY q : Int) + (szF x : Int)) = (sumY (q ++ [x]) : Nat) := by
      rw [sumY_append]
      simp only [sumY]
      unfold wrap64
      push_cast
      omega
    unfold gantletref07_Sum.l0
    rw [if_pos (by omega), if_pos (by omega), hr, hz, Option.bind_some, w1, w2]
    exact ih
theorem sum_f (l : List S78) (hl : l.length ≤ 1000) (hs : ∀ x ∈ l, szF x ≤ 1000) (k : Nat) (hk : l.length < k) : gantletref07_Sum.f k l = some (sumY l : Int) := sum_l0 l hl hs l [] k rfl hk
theorem fit_l0 (l : List S78) (most : Int) (hl : l.length ≤ 1000) (hs : ∀ x ∈ l, szF x ≤ 1000) : ∀ (m q : List S78) (k : Nat), q ++ m = l → l.length + m.length < k → gantletref07_fit.l0 k l most q (q.length : Nat) = some (q ++ fitP most (sumY q : Nat) m)
  | [], q, k, e, hk => by
    obtain ⟨j, rfl⟩ : ∃ j, k = j + 1 := ⟨k - 1, by omega⟩
    subst e
    unfold gantletref07_fit.l0
    rw [if_neg (by simp)]
    simp [fitP]
  | x :: m, q, k, e, hk => by
    obtain ⟨j, rfl⟩ : ∃ j, k = j + 1 := ⟨k - 1, by omega⟩
    have ih := fit_l0 l most hl hs m (q ++ [x]) j (by simpa using e) (by simp at hk; omega)
    have hq : q.length < l.length := by rw [← e]; simp
    have hr : rd_T78 l (q.length : Int) = x := by rw [← e]; exact rd78_append q m x
    have w1 : wrap64 ((q.length : Int) + 1) = ((q ++ [x]).length : Nat) := by
      rw [List.length_append, List.length_singleton]
      unfold wrap64
      push_cast
      omega
    have ht : l.take (((q ++ [x]).length : Nat) : Int).toNat = q ++ [x] := by
      rw [Int.toNat_natCast, ← e, show q ++ x :: m = (q ++ [x]) ++ m by simp]
      exact List.take_left
    have hsum : gantletref07_Sum.f j (q ++ [x]) = some (sumY (q ++ [x]) : Int) := sum_f _ (by simp; omega) (fun y hy => hs y (by rw [← e]; simp at hy ⊢; rcases hy with h | h <;> simp [h])) j (by simp at hk ⊢; omega)
    have hq2 : (q ++ [x]).length = q.length + 1 := by simp
    have e3 : ((sumY (q ++ [x]) : Nat) : Int) = (sumY q : Nat) + (szF x : Nat) := by rw [sumY_append]; simp only [sumY]; push_cast; omega
    unfold gantletref07_fit.l0
    rw [if_pos (by omega), w1, if_pos (by omega), if_pos (by omega), ht, hsum, Option.bind_some]
    by_cases h : (sumY (q ++ [x]) : Int) > most
    · rw [if_pos h]
      unfold fitP
      rw [if_neg (by omega)]
      simp
    · rw [if_neg h, if_pos (by omega), if_pos (by omega), hr]
      rw [show (⟨x.f0, x.f1⟩ : S78) = x from rfl, ih]
      conv => rhs; unfold fitP
      rw [if_pos (by omega), e3]
      simp
theorem fit_f (l : List S78) (most : Int) (hl : l.length ≤ 1000) (hs : ∀ x ∈ l, szF x ≤ 1000) (k : Nat) (hk : 2 * l.length < k) : gantletref07_fit.f k l most = some (fitP most 0 l) := by
  have h := fit_l0 l most hl hs l [] k rfl (by omega)
  unfold gantletref07_fit.f
  simpa [sumY] using h
set_option maxHeartbeats 4000000 in
set_option maxRecDepth 100000 in
theorem r07_SetMost.bad (w : World) (g : Nat) (bound most : Int) (v : Value) (l : List S78) (n : Int) (h : IsV w g bound most v l) (h0 : n < 0 ∨ bound < n) :
    Calls Try.prog 51 #[.pointer (some ⟨g, 0, none⟩), .int .i64 n] w fun e w' => e = .returned (.int .i64 1) ∧ w' = w := by
  have u2 : w.cell? ⟨g, 1, none⟩ = some (.int .i64 bound) := (blk_cell h.1 1).trans rfl
  by_cases c0 : n < 0
  · have b0 : decide (n < 0) = true := decide_eq_true c0
    go_enter Try.func51, Try.ntmps51
    go_wp2
    go_ret
    exact ⟨rfl, rfl⟩
  · have b0 : decide (n < 0) = false := decide_eq_false c0
    have b1 : decide (bound < n) = true := decide_eq_true (by omega)
    go_enter Try.func51, Try.ntmps51
    go_wp2
    go_ret
    exact ⟨rfl, rfl⟩
set_option maxHeartbeats 4000000 in
set_option maxRecDepth 100000 in
theorem r07_SetMost.is (w : World) (g : Nat) (bound most : Int) (v : Value) (l : List S78) (n : Int) (h : IsV w g bound most v l) (hl : l.length ≤ 1000) (hs : ∀ y ∈ l, szF y ≤ 1000) (h0 : 0 ≤ n) (h1 : n ≤ bound) :
    Calls Try.prog 51 #[.pointer (some ⟨g, 0, none⟩), .int .i64 n] w fun e w' => e = .returned (.int .i64 0) ∧ ∃ v', IsV w' g bound n v' (fitP n 0 l) ∧ Keeps w w' (One g) ∧ (∀ k, v'.ownBlock = some k → w.heap.size ≤ k) := by
  have b0 : decide (n < 0) = false := decide_eq_false (by omega)
  have b1 : decide (bound < n) = false := decide_eq_false (by omega)
  obtain ⟨A, c, rfl, hc, hC⟩ := h.2.1.reads
  have hg := h.1
  have u1 : w.cell? ⟨g, 1, none⟩ = some (.int .i64 bound) := (blk_cell hg 1).trans rfl
  have u2 : w.cell? ⟨g, 2, none⟩ = some (.int .i64 most) := (blk_cell hg 2).trans rfl
  have f2 := blk_frozen hg 2
  have hI1 := h.set2 n
  have hK1 := (Keeps.refl w (One g)).set (.inl rfl) 2 (.int .i64 n)
  obtain ⟨A_, c_, e_, _, hC1⟩ := hI1.2.1.reads
  obtain ⟨rfl, rfl⟩ : A = A_ ∧ c = c_ := by injection e_ with h1 _ h3; exact ⟨h1, h3⟩
  obtain ⟨w1, hw1⟩ : ∃ w1, w.setCell ⟨g, 2, none⟩ (.int .i64 n) = w1 := ⟨_, rfl⟩
  rw [hw1] at hI1 hK1 hC1
  have v0 : w1.cell? ⟨g, 0, none⟩ = some (.slice A l.length c) := (blk_cell hI1.1 0).trans rfl
  obtain ⟨k, hk⟩ : ∃ k, 2 * l.length < k := ⟨_, Nat.lt_succ_self _⟩
  have HF := Aside0.mk (gantletref07_fit.calls k A c l n _ w1 hC1 hc (fit_f l n hl hs k hk))
  have HI1 := Aside0.mk hI1
  have HK1 := Aside0.mk hK1
  clear h hs hC hC1 hI1 hK1 hg e_ hk
  go_enter Try.func51, Try.ntmps51
  go_wp2_with fail
  try rw [hw1]
  go_wp2_with fail
  refine HF.out.mono ?_
  rintro e_ w3 ⟨v3, rfl, hR3, hB3⟩
  have hr3 := RY.of_R hR3
  have hn3 : ∀ k, v3.ownBlock = some k → w1.heap.size ≤ k := fun k hk => (Kd.R_bound hR3).1 k hk |>.2.1
  obtain ⟨q, hq⟩ : ∃ q, fitP n 0 l = q := ⟨_, rfl⟩
  rw [hq] at hr3
  have HQ := Aside0.mk hq
  obtain ⟨A3, c3, rfl, _, _⟩ := hr3.reads
  have hb3 := blk_below HI1.out.1 hB3
  have y0 : w3.cell? ⟨g, 0, none⟩ = some (.slice A l.length c) := (blk_cell hb3 0).trans rfl
  have y1 := blk_frozen hb3 0
  have hne : ∀ k, (Value.slice A3 q.length c3).ownBlock = some k → k ≠ g := fun k hk => by have h1 := hn3 k hk; have h2 := blk_lt HI1.out.1; omega
  have HE : Aside0 (IsV (w3.setCell ⟨g, 0, none⟩ (.slice A3 q.length c3)) g bound n (.slice A3 q.length c3) q) := ⟨⟨(blk_put hb3 0 _ rfl).trans rfl, hr3.keeps (Keeps.set (S := One g) (Keeps.refl w3 _) (.inl rfl) 0 _) (fun k e hk => hne k e hk), fun e => hne g e rfl⟩⟩
  have HK3 := Aside0.mk ((HK1.out.below hB3).set (.inl rfl) 0 (.slice A3 q.length c3))
  have HN3 := Aside0.mk (fun k hk => Nat.le_trans HK1.out.size (hn3 k hk))
  clear hR3 hB3 hr3 hn3 hb3 hq hne
  go_wp2
  go_ret
  rw [HQ.out]
  exact ⟨rfl, _, HE.out, HK3.out, HN3.out⟩
set_option maxHeartbeats 4000000 in
set_option maxRecDepth 100000 in
theorem r07_Add.is (w : World) (g : Nat) (bound most : Int) (v : Value) (l : List S78) (x : S78) (h : IsV w g bound most v l) (hl : l.length ≤ 900) (hs : ∀ y ∈ l, szF y ≤ 1000) (hx : szF x ≤ 1000) :
    Calls Try.prog 54 #[.pointer (some ⟨g, 0, none⟩), .agg #[.string x.f0, .string x.f1]] w fun e w' => ∃ v0, e = .returned v0 ∧ ∃ v', IsV w' g bound most v' (fitP most 0 (x :: l)) ∧ Keeps w w' (One g) ∧ (∀ k, v'.ownBlock = some k → w.heap.size ≤ k) := by
  have hu134 := Try.underlying134
  obtain ⟨A, c, rfl, hc, hC⟩ := h.2.1.reads
  obtain ⟨k, hk⟩ : ∃ k, 2 * (x :: l).length < k := ⟨_, Nat.lt_succ_self _⟩
  have HFF := Aside0.mk (fit_f (x :: l) most (by simp; omega) (fun y hy => by rcases List.mem_cons.1 hy with rfl | hy; exact hx; exact hs y hy) k hk)
  obtain ⟨x0, x1⟩ := x
  have hB1 := below_alloc (Below.refl w.heap.size w) (.cells #[.string x0, .string x1] 78)
  have HB1 := Aside0.mk hB1
  have HX1 := Aside0.mk (blk_new w (.cells #[.string x0, .string x1] 78))
  have HI1 := Aside0.mk (h.below hB1)
  have HC1 := Aside0.mk (Kd.C_below hC hB1)
  clear h hs hB1 hC hk hx
  simp only []
  go_enter Try.func54, Try.ntmps54
  go_upto_region 1 with fail
  generalize (w.alloc (.cells #[.string x0, .string x1] 78)) = w1 at *
  refine start_ (n := 16) (S := fun w' => Below w1.heap.size w1 w') (ds := [15]) #[false, false, false, false, false, false, false, false, false, false, false, false, false, false, false, false] (by kernel_rfl) rfl rfl (below_drew1 (Below.refl _ _)) (fun hHeld => ?_)
  refine pure_ (i := 0) (N := some 4) (v := ?_) (a' := ?_) #[true, false, false, false, false, false, false, false, false, false, false, false, false, false, false, false] rfl rfl (by kernel_rfl) (fun _ _ _ h => h) (Or.inl ⟨by rfl, ?_⟩) ?_ ?_
  rotate_left
  · intro w'
    go_simp
    with_reducible rfl
  rotate_left
  · simp only [Act.put, List.getElem_toArray, List.getElem_cons_succ, List.getElem_cons_zero, List.setIfInBounds_toArray, List.set_cons_zero, List.set_cons_succ]
    rfl
  refine take_ (i := 1) (N := some 5) (v := ?_) (a' := ?_) #[true, true, false, false, false, false, false, false, false, false, false, false, false, false, false, false] rfl rfl (by kernel_rfl) (fun _ _ _ h => h) (Or.inl ⟨by rfl, ?_⟩) hHeld ?_ ?_
  rotate_left
  · intro w' hS_
    have e0_ : w'.cell? ⟨g, 0, none⟩ = some (.slice A l.length c) := (blk_cell (blk_below HI1.out.1 hS_) 0).trans rfl
    have e3_ : w'.cell? ⟨g, 2, none⟩ = some (.int .i64 most) := (blk_cell (blk_below HI1.out.1 hS_) 2).trans rfl
    have e1_ : w'.cell? ⟨w.heap.size, 0, none⟩ = some (.string x0) := (blk_cell (blk_below HX1.out hS_) 0).trans rfl
    have e2_ : w'.cell? ⟨w.heap.size, 1, none⟩ = some (.string x1) := (blk_cell (blk_below HX1.out hS_) 1).trans rfl
    go_simp
    with_reducible rfl
  rotate_left
  · simp only [Act.put, List.getElem_toArray, List.getElem_cons_succ, List.getElem_cons_zero, List.setIfInBounds_toArray, List.set_cons_zero, List.set_cons_succ]
    rfl
  refine pure_ (i := 3) (N := some 7) (v := ?_) (a' := ?_) #[true, true, false, true, false, false, false, false, false, false, false, false, false, false, false, false] rfl rfl (by kernel_rfl) (fun _ _ _ h => h) (Or.inl ⟨by rfl, ?_⟩) ?_ ?_
  rotate_left
  · intro w'
    go_simp
    with_reducible rfl
  rotate_left
  · simp only [Act.put, List.getElem_toArray, List.getElem_cons_succ, List.getElem_cons_zero, List.setIfInBounds_toArray, List.set_cons_zero, List.set_cons_succ]
    rfl
  refine pure_ (i := 4) (N := some 8) (v := ?_) (a' := ?_) #[true, true, false, true, true, false, false, false, false, false, false, false, false, false, false, false] rfl rfl (by kernel_rfl) (fun _ _ _ h => h) (Or.inl ⟨by rfl, ?_⟩) ?_ ?_
  rotate_left
  · intro w'
    go_simp
    with_reducible rfl
  rotate_left
  · simp only [Act.put, List.getElem_toArray, List.getElem_cons_succ, List.getElem_cons_zero, List.setIfInBounds_toArray, List.set_cons_zero, List.set_cons_succ]
    rfl
  refine pure_ (i := 5) (N := some 9) (v := ?_) (a' := ?_) #[true, true, false, true, true, true, false, false, false, false, false, false, false, false, false, false] rfl rfl (by kernel_rfl) (fun _ _ _ h => h) (Or.inl ⟨by rfl, ?_⟩) ?_ ?_
  rotate_left
  · intro w'
    go_simp
    with_reducible rfl
  rotate_left
  · simp only [Act.put, List.getElem_toArray, List.getElem_cons_succ, List.getElem_cons_zero, List.setIfInBounds_toArray, List.set_cons_zero, List.set_cons_succ]
    rfl
  refine take_ (i := 6) (N := some 10) (v := ?_) (a' := ?_) #[true, true, false, true, true, true, true, false, false, false, false, false, false, false, false, false] rfl rfl (by kernel_rfl) (fun _ _ _ h => h) (Or.inl ⟨by rfl, ?_⟩) hHeld ?_ ?_
  rotate_left
  · intro w' hS_
    have e0_ : w'.cell? ⟨g, 0, none⟩ = some (.slice A l.length c) := (blk_cell (blk_below HI1.out.1 hS_) 0).trans rfl
    have e3_ : w'.cell? ⟨g, 2, none⟩ = some (.int .i64 most) := (blk_cell (blk_below HI1.out.1 hS_) 2).trans rfl
    have e1_ : w'.cell? ⟨w.heap.size, 0, none⟩ = some (.string x0) := (blk_cell (blk_below HX1.out hS_) 0).trans rfl
    have e2_ : w'.cell? ⟨w.heap.size, 1, none⟩ = some (.string x1) := (blk_cell (blk_below HX1.out hS_) 1).trans rfl
    go_simp
    with_reducible rfl
  rotate_left
  · simp only [Act.put, List.getElem_toArray, List.getElem_cons_succ, List.getElem_cons_zero, List.setIfInBounds_toArray, List.set_cons_zero, List.set_cons_succ]
    rfl
  refine pure_ (i := 8) (N := some 12) (v := ?_) (a' := ?_) #[true, true, false, true, true, true, true, false, true, false, false, false, false, false, false, false] rfl rfl (by kernel_rfl) (fun _ _ _ h => h) (Or.inl ⟨by rfl, ?_⟩) ?_ ?_
  rotate_left
  · intro w'
    go_simp
    with_reducible rfl
  rotate_left
  · simp only [Act.put, List.getElem_toArray, List.getElem_cons_succ, List.getElem_cons_zero, List.setIfInBounds_toArray, List.set_cons_zero, List.set_cons_succ]
    rfl
  refine pure_ (i := 9) (N := some 13) (v := ?_) (a' := ?_) #[true, true, false, true, true, true, true, false, true, true, false, false, false, false, false, false] rfl rfl (by kernel_rfl) (fun _ _ _ h => h) (Or.inl ⟨by rfl, ?_⟩) ?_ ?_
  rotate_left
  · intro w'
    go_simp
    with_reducible rfl
  rotate_left
  · simp only [Act.put, List.getElem_toArray, List.getElem_cons_succ, List.getElem_cons_zero, List.setIfInBounds_toArray, List.set_cons_zero, List.set_cons_succ]
    rfl
  refine pure_ (i := 10) (N := some 14) (v := ?_) (a' := ?_) #[true, true, false, true, true, true, true, false, true, true, true, false, false, false, false, false] rfl rfl (by kernel_rfl) (fun _ _ _ h => h) (Or.inl ⟨by rfl, ?_⟩) ?_ ?_
  rotate_left
  · intro w'
    go_simp
    with_reducible rfl
  rotate_left
  · simp only [Act.put, List.getElem_toArray, List.getElem_cons_succ, List.getElem_cons_zero, List.setIfInBounds_toArray, List.set_cons_zero, List.set_cons_succ]
    rfl
  refine take_ (i := 11) (N := some 15) (v := ?_) (a' := ?_) #[true, true, false, true, true, true, true, false, true, true, true, true, false, false, false, false] rfl rfl (by kernel_rfl) (fun _ _ _ h => h) (Or.inl ⟨by rfl, ?_⟩) hHeld ?_ ?_
  rotate_left
  · intro w' hS_
    have e0_ : w'.cell? ⟨g, 0, none⟩ = some (.slice A l.length c) := (blk_cell (blk_below HI1.out.1 hS_) 0).trans rfl
    have e3_ : w'.cell? ⟨g, 2, none⟩ = some (.int .i64 most) := (blk_cell (blk_below HI1.out.1 hS_) 2).trans rfl
    have e1_ : w'.cell? ⟨w.heap.size, 0, none⟩ = some (.string x0) := (blk_cell (blk_below HX1.out hS_) 0).trans rfl
    have e2_ : w'.cell? ⟨w.heap.size, 1, none⟩ = some (.string x1) := (blk_cell (blk_below HX1.out hS_) 1).trans rfl
    go_simp
    with_reducible rfl
  rotate_left
  · simp only [Act.put, List.getElem_toArray, List.getElem_cons_succ, List.getElem_cons_zero, List.setIfInBounds_toArray, List.set_cons_zero, List.set_cons_succ]
    rfl
  refine one_ (i := 2) (N := some 6) #[true, true, true, true, true, true, true, false, true, true, true, true, false, false, false, false] rfl rfl (by kernel_rfl) (by decide) (fun K_ hK_ => ?_)
  have HD_ := Aside0.mk hHeld
  clear hHeld
  refine Kd.R_lit_step k78 (w0 := w1) w1.heap.size 78 (by rfl) (N := 6) rfl (xs := [(⟨x0, x1⟩ : S78)]) (inner := [.string x0, .string x1]) (ok := fun _ => True) (okp := fun _ => True) (by first | (go_simp; done) | (go_simp; exact ⟨rfl, rfl⟩)) (Reps.snoc (Reps.none _ _) (k78_mkM _ _ _ ⟨x0, x1⟩) rfl) (fun _ hk => hk) trivial HD_.out HD_.out.size (by simp) ?_
  intro v4 w4 hR4 hB4 _ _
  have HR4 := Aside0.mk hR4
  have HB4 := Aside0.mk hB4
  clear hR4 HD_
  refine hK_.out _ _ (hB4) (fun hHeld => ?_)
  clear hK_
  refine norm_ (a' := ?_) ?_ ?_
  rotate_left
  · simp only [Act.put, List.getElem_toArray, List.getElem_cons_succ, List.getElem_cons_zero, List.setIfInBounds_toArray, List.set_cons_zero, List.set_cons_succ]
    rfl
  refine one_ (i := 7) (N := some 11) #[true, true, true, true, true, true, true, true, true, true, true, true, false, false, false, false] rfl rfl (by kernel_rfl) (by decide) (fun K_ hK_ => ?_)
  clear hHeld
  refine Kd.R_append_rows_step k78 (w0 := w1) w1.heap.size (by rfl) (.tmp 6) (.tmp 10) 134 78 (.agg #[.string ⟨#[]⟩, .string ⟨#[]⟩]) 32 rfl hu134 info78c rfl (by decide) (by omega) v4 [(⟨x0, x1⟩ : S78)] l A l.length c (fun _ => True) (fun _ => False) rfl rfl HR4.out (Kd.C_below HC1.out HB4.out) (fun x cs hx => by rw [k78_open hx]; exact k78_mkM _ _ _ x) (fun _ hk => hk.elim) (fun _ _ => trivial) HB4.out HB4.out.size (by simp only [List.length_cons, List.length_nil]; omega) ?_
  intro v5 w5 hR5 hB5 _ _
  obtain ⟨xl, hxl⟩ : ∃ xl, [(⟨x0, x1⟩ : S78)] ++ l = xl := ⟨_, rfl⟩
  rw [hxl] at hR5
  have hff := HFF.out
  rw [show (⟨x0, x1⟩ : S78) :: l = xl from hxl] at hff
  obtain ⟨A5, c5, rfl, hc5, hC5⟩ := Kd.R_reads hR5
  have HXL := Aside0.mk hxl
  have HF5 := Aside0.mk hff
  have HC5 := Aside0.mk hC5
  have HB5 := Aside0.mk hB5
  clear hxl hff hC5 hR5
  refine hK_.out _ _ (hB5) (fun hHeld => ?_)
  clear hK_
  refine norm_ (a' := ?_) ?_ ?_
  rotate_left
  · simp only [Act.put, List.getElem_toArray, List.getElem_cons_succ, List.getElem_cons_zero, List.setIfInBounds_toArray, List.set_cons_zero, List.set_cons_succ]
    rfl
  refine one_ (i := 12) (N := some 16) #[true, true, true, true, true, true, true, true, true, true, true, true, true, false, false, false] rfl rfl (by kernel_rfl) (by decide) (fun K_ hK_ => ?_)
  have HD_ := Aside0.mk hHeld
  clear hHeld
  refine goes_ Try.func98 (by kernel_rfl) rfl #[.slice A5 xl.length c5, .int .i64 most] (by rfl) rfl rfl (by (try simp only [List.map_toArray, List.map_cons, List.map_nil]); first | done | rfl | (simp only [List.length_drop, List.length_take]; rfl)) ?_
  refine (gantletref07_fit.calls k A5 c5 xl most _ _ HC5.out hc5 HF5.out).mono ?_
  rintro e_ w6 ⟨v6, rfl, hR6, hB6⟩
  refine ⟨_, rfl, ?_⟩
  have hr6 := RY.of_R hR6
  have hb6 := below_step HB5.out hB6
  have HN6 : Aside0 (∀ k, v6.ownBlock = some k → w1.heap.size ≤ k) := ⟨fun k hk => Nat.le_trans HB5.out.size ((Kd.R_bound hR6).1 k hk |>.2.1)⟩
  obtain ⟨q, hq⟩ : ∃ q, fitP most 0 xl = q := ⟨_, rfl⟩
  rw [hq] at hr6
  obtain ⟨A6, c6, rfl, _, _⟩ := hr6.reads
  have HQ := Aside0.mk hq
  have HR6 := Aside0.mk hr6
  have HB6 := Aside0.mk hb6
  clear hR6 hB6 hr6 hq HD_
  refine hK_.out _ _ (hb6) (fun hHeld => ?_)
  clear hK_
  refine norm_ (a' := ?_) ?_ ?_
  rotate_left
  · simp only [Act.put, List.getElem_toArray, List.getElem_cons_succ, List.getElem_cons_zero, List.setIfInBounds_toArray, List.set_cons_zero, List.set_cons_succ]
    rfl
  refine pure_ (i := 13) (N := some 17) (v := ?_) (a' := ?_) #[true, true, true, true, true, true, true, true, true, true, true, true, true, true, false, false] rfl rfl (by kernel_rfl) (fun _ _ _ h => h) (Or.inl ⟨by rfl, ?_⟩) ?_ ?_
  rotate_left
  · intro w'
    go_simp
    with_reducible rfl
  rotate_left
  · simp only [Act.put, List.getElem_toArray, List.getElem_cons_succ, List.getElem_cons_zero, List.setIfInBounds_toArray, List.set_cons_zero, List.set_cons_succ]
    rfl
  refine pure_ (i := 14) (N := some 18) (v := ?_) (a' := ?_) #[true, true, true, true, true, true, true, true, true, true, true, true, true, true, true, false] rfl rfl (by kernel_rfl) (fun _ _ _ h => h) (Or.inl ⟨by rfl, ?_⟩) ?_ ?_
  rotate_left
  · intro w'
    go_simp
    with_reducible rfl
  rotate_left
  · simp only [Act.put, List.getElem_toArray, List.getElem_cons_succ, List.getElem_cons_zero, List.setIfInBounds_toArray, List.set_cons_zero, List.set_cons_succ]
    rfl
  refine last_ (i := 15) (N := none) #[true, true, true, true, true, true, true, true, true, true, true, true, true, true, true, true] rfl rfl (by kernel_rfl) (by decide) (fun K_ hK_ => ?_)
  clear hHeld
  have c6_ : w6.cell? ⟨g, 0, none⟩ = some (.slice A l.length c) := (blk_cell (blk_below HI1.out.1 HB6.out) 0).trans rfl
  have f6_ := blk_frozen (blk_below HI1.out.1 HB6.out) 0
  refine store_step (w1 := w6.setCell ⟨g, 0, none⟩ (.slice A6 q.length c6)) (by rfl) rfl (by first | (go_simp; done) | (go_simp; rfl)) ?_
  clear c6_ f6_
  refine hK_.out _ _ ?_
  clear hK_
  refine done_ (by kernel_rfl) ?_
  go_wp2
  have hne : ∀ k, (Value.slice A6 q.length c6).ownBlock = some k → k ≠ g := fun k hk => by have h1 := HN6.out k hk; have h2 := blk_lt HI1.out.1; omega
  go_end0
  rw [show (⟨x0, x1⟩ : S78) :: l = xl from HXL.out, HQ.out]
  exact ⟨_, rfl, .slice A6 q.length c6, ⟨(blk_put (blk_below HI1.out.1 HB6.out) 0 _ rfl).trans rfl, HR6.out.keeps (Keeps.set (S := One g) (Keeps.refl w6 _) (.inl rfl) 0 _) (fun k e hk => hne k e hk), fun e => hne g e rfl⟩, ((Keeps.of_below HB1.out (One g)).below HB6.out).set (.inl rfl) 0 _, fun k hk => Nat.le_trans HB1.out.size (HN6.out k hk)⟩
end Go.Proofs.Ytjkadheknjkkbaa.De
