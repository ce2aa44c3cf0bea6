/-
  INTAKE: Next, at any.
  Conditions: none of its own; lemmas that the claim's row rests on.
-/
import Derived.Test.YtbmnplojpeabmaaIu5
import Derived.WalkKit
namespace Go.Proofs.Ytbmnplojpeabmaa.It
open Go.RowKit Go.Proofs.YtbmnplojpeabmaaW.PrintWords Go.Proofs.YtbmnplojpeabmaaW.PrintLast Go.Proofs.YtbmnplojpeabmaaW.PrintMore
attribute [local go_sem] max2_int min2_int max_two min_two max_three min_three max_four min_four
set_option linter.unusedVariables false
set_option linter.unusedSimpArgs false
open Go.Proofs.Ytbmnplojpeabmaa.Ob Go.Proofs.Ytbmnplojpeabmaa.QI Go.Proofs.Ytbmnplojpeabmaa.FramePure Go.Proofs.Ytbmnplojpeabmaa.WirePure Go.Proofs.Ytbmnplojpeabmaa.IntakePure
section
variable {w : World} {g : Nat} {most ov T O : Int} {v : Value} {l B : List Int} {bg : Bool}
set_option maxHeartbeats 8000000 in
set_option maxRecDepth 100000 in
theorem intake_Next.over (h : IsT w g most v l bg ov) (ho : ov ≠ 0) : Calls Try.prog 70 #[.pointer (some ⟨g, 0, none⟩)] w fun e w' => e = .returned (.tuple #[.agg #[.int .i64 0, .int .i64 0, .int .i64 0, .slice none 0 0], .int .i64 ov]) ∧ Below w.heap.size w w' := by
  have hu67 := Try.underlying67
  have HB0 := Aside0.mk (below_alloc (Below.refl w.heap.size w) (.cells #[.int .i64 0, .int .i64 0, .int .i64 0, .slice none 0 0] 67))
  have HH0 := Aside0.mk h
  have HI0 := Aside0.mk (h.below HB0.out)
  have HZ0 := Aside0.mk (blk_new w (.cells #[.int .i64 0, .int .i64 0, .int .i64 0, .slice none 0 0] 67))
  have hcell : (w.alloc (.cells #[.int .i64 0, .int .i64 0, .int .i64 0, .slice none 0 0] 67)).cell? ⟨g, 3, none⟩ = some (.int .i64 ov) := (blk_cell HI0.out.1 3).trans rfl
  have b0 : (ov == 0) = false := beq_eq_false_iff_ne.mpr ho
  have b1 : (ov != 0) = true := bne_iff_ne.mpr ho
  clear h
  go_enter Try.func70, Try.ntmps70
  go_wp2_with fail
  clear hcell b0 b1
  obtain ⟨gz, hgz_⟩ : ∃ q_, w.heap.size = q_ := ⟨_, rfl⟩
  rw [hgz_] at HZ0 ⊢
  have HGZ := Aside0.mk hgz_
  clear hgz_
  obtain ⟨W0, hW0⟩ : ∃ W_ : World, W_ = w.alloc (.cells #[.int .i64 0, .int .i64 0, .int .i64 0, .slice none 0 0] 67) := ⟨_, rfl⟩
  rw [← hW0] at HB0 HI0 HZ0 ⊢
  clear hW0
  refine start_ (n := 7) (S := fun w' => Below w.heap.size w w' ∧ w'.heap[gz]? = some (.cells #[.int .i64 0, .int .i64 0, .int .i64 0, .slice none 0 0] 67 (0, 0))) (ds := []) #[false, false, false, false, false, false, false] (by kernel_rfl) rfl rfl (⟨below_step HB0.out (below_drew (Below.refl _ _)), blk_below HZ0.out (below_drew (Below.refl _ _))⟩) (fun hHeld => ?_)
  refine pure_ (i := 0) (N := some 17) (v := ?_) (a' := ?_) #[true, false, false, false, false, false, false] rfl rfl (by kernel_rfl) (fun _ _ _ h => h) (Or.inl ⟨by rfl, ?_⟩) ?_ ?_
  rotate_left
  · intro w'
    go_simp
    with_reducible rfl
  rotate_left
  · simp only [Act.put, List.setIfInBounds_toArray, List.set_cons_zero, List.set_cons_succ]
    rfl
  refine pure_ (i := 1) (N := some 18) (v := ?_) (a' := ?_) #[true, true, false, false, false, false, false] rfl rfl (by kernel_rfl) (fun _ _ _ h => h) (Or.inl ⟨by rfl, ?_⟩) ?_ ?_
  rotate_left
  · intro w'
    go_simp
    with_reducible rfl
  rotate_left
  · simp only [Act.put, List.setIfInBounds_toArray, List.set_cons_zero, List.set_cons_succ]
    rfl
  refine pure_ (i := 2) (N := some 19) (v := ?_) (a' := ?_) #[true, true, true, false, false, false, false] rfl rfl (by kernel_rfl) (fun _ _ _ h => h) (Or.inl ⟨by rfl, ?_⟩) ?_ ?_
  rotate_left
  · intro w'
    go_simp
    with_reducible rfl
  rotate_left
  · simp only [Act.put, List.setIfInBounds_toArray, List.set_cons_zero, List.set_cons_succ]
    rfl
  refine pure_ (i := 3) (N := some 20) (v := ?_) (a' := ?_) #[true, true, true, true, false, false, false] rfl rfl (by kernel_rfl) (fun _ _ _ h => h) (Or.inl ⟨by rfl, ?_⟩) ?_ ?_
  rotate_left
  · intro w'
    go_simp
    with_reducible rfl
  rotate_left
  · simp only [Act.put, List.setIfInBounds_toArray, List.set_cons_zero, List.set_cons_succ]
    rfl
  refine take_ (i := 4) (N := some 21) (v := ?_) (a' := ?_) #[true, true, true, true, true, false, false] rfl rfl (by kernel_rfl) (fun _ _ _ h => h) (Or.inl ⟨by rfl, ?_⟩) hHeld ?_ ?_
  rotate_left
  · intro w' hS_
    have q0_ : w'.cell? ⟨g, 0, none⟩ = some (.int .i64 most) := (blk_cell (blk_below HH0.out.1 hS_.1) 0).trans rfl
    have q1_ : w'.cell? ⟨g, 1, none⟩ = some (v) := (blk_cell (blk_below HH0.out.1 hS_.1) 1).trans rfl
    have q2_ : w'.cell? ⟨g, 2, none⟩ = some (.bool bg) := (blk_cell (blk_below HH0.out.1 hS_.1) 2).trans rfl
    have q3_ : w'.cell? ⟨g, 3, none⟩ = some (.int .i64 ov) := (blk_cell (blk_below HH0.out.1 hS_.1) 3).trans rfl
    go_simp
    with_reducible rfl
  rotate_left
  · simp only [Act.put, List.setIfInBounds_toArray, List.set_cons_zero, List.set_cons_succ]
    rfl
  refine one_ (i := 5) (N := none) #[true, true, true, true, true, true, false] rfl rfl (by kernel_rfl) (by decide) (fun K_ hK_ => ?_)
  have HD := Aside0.mk hHeld.2
  have HBD := Aside0.mk hHeld.1
  clear hHeld
  have z0_ : W0.cell? ⟨gz, 0, none⟩ = some (.int .i64 0) := (blk_cell HZ0.out 0).trans rfl
  have y0_ := blk_frozen HZ0.out 0
  have z1_ : W0.cell? ⟨gz, 1, none⟩ = some (.int .i64 0) := (blk_cell HZ0.out 1).trans rfl
  have y1_ := blk_frozen HZ0.out 1
  have z2_ : W0.cell? ⟨gz, 2, none⟩ = some (.int .i64 0) := (blk_cell HZ0.out 2).trans rfl
  have y2_ := blk_frozen HZ0.out 2
  have z3_ : W0.cell? ⟨gz, 3, none⟩ = some (.slice none 0 0) := (blk_cell HZ0.out 3).trans rfl
  have y3_ := blk_frozen HZ0.out 3
  refine skip_ (w1 := ((((W0.drew.setCell ⟨gz, 0, none⟩ (.int .i64 0)).setCell ⟨gz, 1, none⟩ (.int .i64 0)).setCell ⟨gz, 2, none⟩ (.int .i64 0)).setCell ⟨gz, 3, none⟩ (.slice none 0 0))) (by rfl) rfl (by first | (go_simp; done) | (go_simp; rfl)) ?_
  have HFS := Aside0.mk (four_sets (y0 := .int .i64 0) (y1 := .int .i64 0) (y2 := .int .i64 0) (y3 := .slice none 0 0) HD.out)
  have hbn_ := And.intro (HFS.out.2.under HBD.out (fun k hk => by rw [show k = gz from hk, HGZ.out]; exact Nat.le_refl _)) HFS.out.1
  clear z0_ z1_ z2_ z3_ y0_ y1_ y2_ y3_
  refine hK_.out _ _ (hbn_) (fun hHeld => ?_)
  clear hK_
  refine pure_ (i := 6) (N := some 3) (v := ?_) (a' := ?_) #[true, true, true, true, true, true, true] rfl rfl (by kernel_rfl) (fun _ _ _ h => h) (Or.inl ⟨by rfl, ?_⟩) ?_ ?_
  rotate_left
  · intro w'
    go_simp
    with_reducible rfl
  rotate_left
  · simp only [Act.put, List.setIfInBounds_toArray, List.set_cons_zero, List.set_cons_succ]
    rfl
  refine done_ (by kernel_rfl) ?_
  have HE := Aside0.mk hHeld
  clear hHeld
  go_wp2_with fail
  refine bodyPost_ret (results_ct rfl _ _ gz 67 _ (0, 0) _ rfl HE.out.2 Try.underlying67 rfl sz67c) rfl ?_
  exact ⟨rfl, HE.out.1⟩
set_option maxHeartbeats 8000000 in
set_option maxRecDepth 100000 in
theorem intake_Next.wait (h : IsT w g most v l false 0) : Calls Try.prog 70 #[.pointer (some ⟨g, 0, none⟩)] w fun e w' => e = .returned (.tuple #[.agg #[.int .i64 0, .int .i64 0, .int .i64 0, .slice none 0 0], .int .i64 2]) ∧ Below w.heap.size w w' := by
  have hu67 := Try.underlying67
  have hI0 := h.below (below_alloc (Below.refl w.heap.size w) (.cells #[.int .i64 0, .int .i64 0, .int .i64 0, .slice none 0 0] 67))
  have hcell : (w.alloc (.cells #[.int .i64 0, .int .i64 0, .int .i64 0, .slice none 0 0] 67)).cell? ⟨g, 3, none⟩ = some (.int .i64 0) := (blk_cell hI0.1 3).trans rfl
  have hc2 : (w.alloc (.cells #[.int .i64 0, .int .i64 0, .int .i64 0, .slice none 0 0] 67)).cell? ⟨g, 2, none⟩ = some (.bool false) := (blk_cell hI0.1 2).trans rfl
  clear h hI0
  go_enter Try.func70, Try.ntmps70
  go_wp2
  refine bodyPost_ret (results_ct rfl _ _ w.heap.size 67 _ (0, 0) _ rfl (blk_new w _) Try.underlying67 rfl sz67c) rfl ?_
  exact ⟨rfl, below_alloc (Below.refl _ _) _⟩
theorem intake_Next.none_ (w : World) : Calls Try.prog 70 #[.pointer none] w fun e w' => e = .returned (.tuple #[.agg #[.int .i64 0, .int .i64 0, .int .i64 0, .slice none 0 0], .int .i64 1]) ∧ Below w.heap.size w w' := by
  have hu67 := Try.underlying67
  go_enter Try.func70, Try.ntmps70
  go_wp2
  refine bodyPost_ret (results_ct rfl _ _ w.heap.size 67 _ (0, 0) _ rfl (blk_new w _) Try.underlying67 rfl sz67c) rfl ?_
  exact ⟨rfl, below_alloc (Below.refl _ _) _⟩
end
section
variable {w : World} {g : Nat} {most ov T O : Int} {v : Value} {l B : List Int} {bg : Bool}
/-- A frame, as a call hands it on: its payload lies in memory that is new. -/
def Hands (w w' : World) (e : Ending) (a : S67 × Int) : Prop := ∃ A3 c3, e = .returned (.tuple #[.agg #[.int .i64 a.1.f0, .int .i64 a.1.f1, .int .i64 a.1.f2, .slice A3 a.1.f3.length c3], .int .i64 a.2]) ∧ a.1.f3.length ≤ c3 ∧ Kd.F (Kd.int .u8) w' (fun k => w.heap.size ≤ k ∧ k < w'.heap.size) A3 a.1.f3.length a.1.f3
theorem Hands.zero (w w' : World) (x : Int) : Hands w w' (.returned (.tuple #[.agg #[.int .i64 0, .int .i64 0, .int .i64 0, .slice none 0 0], .int .i64 x])) (zF, x) := ⟨none, 0, rfl, Nat.le_refl 0, Kd.F_nil _ _ _⟩
theorem nx_all (most : Int) {l : List Int} (hb : Bytes l) : nx l most = (0, 0, 0, [], 0, 2) ∨ nx l most = (0, 0, 0, [], 0, 4) ∨ ∃ x0 x1 x2 x3, ∃ n : Nat, n ≤ l.length ∧ nx l most = (x0, x1, x2, x3, (n : Int), 0) := by
  rcases nx_ways most hb with e | ⟨h9, hv, e⟩ | ⟨v, hv, hm, hl, e⟩
  · exact .inl e
  · exact .inr (.inl e)
  · exact .inr (.inr ⟨rd l 3, rd l 4, val ((l.take 9).drop 5) 0 % 2147483648, (l.take (9 + v)).drop 9, 9 + v, hl, by rw [e]; simp⟩)
/-- The frame that comes next. -/
theorem intake_Next.is (h : IsT w g most v l bg ov) (hb : Bytes l) (hl : l.length ≤ 140737488350000) :
    Calls Try.prog 70 #[.pointer (some ⟨g, 0, none⟩)] w fun e w' => Hands w w' e (ansI most l bg ov) ∧ ∃ v', IsT w' g most v' (nextI most l bg ov).1 bg (nextI most l bg ov).2 ∧ Mn w g v w' v' := by
  by_cases ho : ov = 0
  · subst ho
    cases bg with
    | false =>
      refine (intake_Next.wait h).mono ?_
      rintro e w' ⟨rfl, hB⟩
      exact ⟨Hands.zero _ _ _, v, h.below hB, Keeps.of_below hB _, fun k hk => hk⟩
    | true =>
      rcases nx_all most hb with e | e | ⟨x0, x1, x2, x3, n, hn, e⟩
      · have ea : ansI most l true 0 = (zF, 2) := by show (nF (nx l most), nE (nx l most)) = _; rw [e]; rfl
        have en : nextI most l true 0 = (l, 0) := by show (if nE (nx l most) = 4 then _ else if nE (nx l most) = 0 then _ else _) = _; rw [e]; rfl
        rw [ea, en]
        refine (intake_Next.more h hb hl e).mono ?_
        rintro e w' ⟨A3, c3, rfl, h3, hF, v', hI, hm⟩
        exact ⟨⟨A3, c3, rfl, h3, hF⟩, v', hI, hm⟩
      · have ea : ansI most l true 0 = (zF, 4) := by show (nF (nx l most), nE (nx l most)) = _; rw [e]; rfl
        have en : nextI most l true 0 = ([], 4) := by show (if nE (nx l most) = 4 then _ else if nE (nx l most) = 0 then _ else _) = _; rw [e]; rfl
        rw [ea, en]
        refine (intake_Next.full h hb hl e).mono ?_
        rintro e w' ⟨A3, c3, rfl, h3, hF, v', hI, hm⟩
        exact ⟨⟨A3, c3, rfl, h3, hF⟩, v', hI, hm⟩
      · have ea : ansI most l true 0 = (⟨x0, x1, x2, x3⟩, 0) := by show (nF (nx l most), nE (nx l most)) = _; rw [e]; rfl
        have en : nextI most l true 0 = (l.drop n, 0) := by show (if nE (nx l most) = 4 then _ else if nE (nx l most) = 0 then _ else _) = _; rw [e]; rfl
        rw [ea, en]
        refine (intake_Next.ok x0 x1 x2 x3 n hn h hb hl e).mono ?_
        rintro e w' ⟨A3, c3, rfl, h3, hF, v', hI, hm⟩
        exact ⟨⟨A3, c3, rfl, h3, hF⟩, v', hI, hm⟩
  · have ea : ansI most l bg ov = (zF, ov) := if_pos ho
    have en : nextI most l bg ov = (l, ov) := if_pos ho
    rw [ea, en]
    refine (intake_Next.over h ho).mono ?_
    rintro e w' ⟨rfl, hB⟩
    exact ⟨Hands.zero _ _ _, v, h.below hB, Keeps.of_below hB _, fun k hk => hk⟩
end
end Go.Proofs.Ytbmnplojpeabmaa.It
