/-
  CONTROL: the document's Push, Last.
  Conditions: none of its own; lemmas that the claim's row rests on.
-/
import Derived.Test.YtbmnplojpeabmaaCtA
import Derived.WalkKit
namespace Go.Proofs.Ytbmnplojpeabmaa.QK
open Go.RowKit Go.Proofs.YtbmnplojpeabmaaW.PrintWords Go.Proofs.YtbmnplojpeabmaaW.PrintLast Go.Proofs.YtbmnplojpeabmaaW.PrintMore
attribute [local go_sem] max2_int min2_int max_two min_two max_three min_three max_four min_four
set_option linter.unusedVariables false
set_option linter.unusedSimpArgs false
open Go.Proofs.Ytbmnplojpeabmaa.Ob
theorem boxF {W : World} {b : Nat} {okp : Nat → Prop} {x0 x1 x2 : Int} {x3 : List Int} {A3 : Option Addr} {c3 : Nat} (hb : W.heap[b]? = some (.cells #[.int .i64 x0, .int .i64 x1, .int .i64 x2, .slice A3 x3.length c3] 67 (0, 0))) (hK : Kd.FK k67 W okp ⟨x0, x1, x2, x3⟩ [.int .i64 x0, .int .i64 x1, .int .i64 x2, .slice A3 x3.length c3]) :
    Kd.F k67 W (fun k => k = b ∨ okp k) (some ⟨b, 0, none⟩) 1 [⟨x0, x1, x2, x3⟩] := fun W' hW =>
  C_blk (d := k67) (xs := [⟨x0, x1, x2, x3⟩]) ((hW b (.inl rfl) (blk_lt hb)).trans hb) (Reps.snoc (c := [.int .i64 x0, .int .i64 x1, .int .i64 x2, .slice A3 x3.length c3]) (Reps.none _ _) (hK W' (fun k hk hlt => hW k (.inr hk) hlt)) rfl) (by simp)
theorem dF {w : World} {g : Nat} {room : Int} {A : Option Addr} {c : Nat} {l : List S67} {ended : Bool} {ok : Nat → Prop} (h : IsD w g room (.slice A l.length c) l ended ok) : Kd.F k67 w ok A l.length l := Kd.V_F h.row
theorem MvD.from {w w1 w2 : World} {g : Nat} {ok okp ok1 : Nat → Prop} (hb : Below w.heap.size w w1) (h : MvD w1 g ok okp w2 ok1) : MvD w g ok okp w2 ok1 :=
  ⟨(Keeps.of_below hb _).then_ h.1 (fun _ h => .inl h), fun k hk => (h.2 k hk).imp id (fun h => h.imp id (fun h => Nat.le_trans hb.size h))⟩
theorem MvD.end_ {w w1 : World} {g : Nat} {ok okp ok1 : Nat → Prop} (h : MvD w g ok okp w1 ok1) : MvD w g ok okp (w1.setCell ⟨g, 2, none⟩ (.bool true)) ok1 := ⟨h.1.set (.inl rfl) 2 _, h.2⟩
set_option maxHeartbeats 8000000 in
set_option maxRecDepth 100000 in
theorem r19_Push.ok (x0 x1 x2 : Int) (A3 : Option Addr) (c3 : Nat) (x3 : List Int) (w : World) (g : Nat) (room : Int) (v : Value) (l : List S67) (ok okp : Nat → Prop) (h : IsD w g room v l false ok) (hX : Kd.FK k67 w okp (⟨x0, x1, x2, x3⟩ : S67) [.int .i64 x0, .int .i64 x1, .int .i64 x2, .slice A3 x3.length c3]) (hpg : ¬ okp g) (hl : l.length ≤ 100000) (hr : (l.length : Int) < room) :
    Calls Try.prog 55 #[.pointer (some ⟨g, 0, none⟩), .agg #[.int .i64 x0, .int .i64 x1, .int .i64 x2, .slice A3 x3.length c3]] w fun e w' => e = .returned (.int .i64 0) ∧ ∃ v' ok', IsD w' g room v' (l ++ [(⟨x0, x1, x2, x3⟩ : S67)]) false ok' ∧ MvD w g ok okp w' ok' := by
  have hu67 := Try.underlying67
  obtain ⟨A, c, rfl⟩ := h.form
  have HB2 := Aside0.mk (below_alloc (Below.refl w.heap.size w) (.cells #[.int .i64 x0, .int .i64 x1, .int .i64 x2, .slice A3 x3.length c3] 67))
  have HI2 := Aside0.mk (h.below HB2.out)
  have HX2 := Aside0.mk (blk_new w (.cells #[.int .i64 x0, .int .i64 x1, .int .i64 x2, .slice A3 x3.length c3] 67))
  have HK2 := Aside0.mk (Kd.FK_below (Kd.FK_bound hX) HB2.out)
  have hgz : g ≠ w.heap.size := by have := blk_lt h.blk; omega
  have HPG := Aside0.mk hpg
  have b0_ : (w.alloc (.cells #[.int .i64 x0, .int .i64 x1, .int .i64 x2, .slice A3 x3.length c3] 67)).cell? ⟨g, 0, none⟩ = some (.int .i64 room) := (blk_cell HI2.out.blk 0).trans rfl
  have b1_ : (w.alloc (.cells #[.int .i64 x0, .int .i64 x1, .int .i64 x2, .slice A3 x3.length c3] 67)).cell? ⟨g, 1, none⟩ = some (.slice A l.length c) := (blk_cell HI2.out.blk 1).trans rfl
  have b2_ : (w.alloc (.cells #[.int .i64 x0, .int .i64 x1, .int .i64 x2, .slice A3 x3.length c3] 67)).cell? ⟨g, 2, none⟩ = some (.bool false) := (blk_cell HI2.out.blk 2).trans rfl
  have hrd : decide (room ≤ (l.length : Int)) = false := decide_eq_false (by omega)
  have HL := Aside0.mk hl
  clear h hX hl hpg
  go_enter Try.func55, Try.ntmps55
  go_wp2
  generalize (w.alloc (.cells #[.int .i64 x0, .int .i64 x1, .int .i64 x2, .slice A3 x3.length c3] 67)) = w1 at *
  clear b0_ b1_ b2_
  refine start_ (n := 10) (S := fun w' => Below w1.heap.size w1 w') (ds := []) #[false, false, false, false, false, false, false, false, false, false] (by kernel_rfl) rfl rfl (below_drew1 (Below.refl _ _)) (fun hHeld => ?_)
  refine pure_ (i := 0) (N := some 9) (v := ?_) (a' := ?_) #[true, false, false, false, false, false, false, false, false, false] rfl rfl (by kernel_rfl) (fun _ _ _ h => h) (Or.inl ⟨by rfl, ?_⟩) ?_ ?_
  rotate_left
  · intro w'
    go_simp
    with_reducible rfl
  rotate_left
  · simp only [Act.put, List.setIfInBounds_toArray, List.set_cons_zero, List.set_cons_succ]
    rfl
  refine pure_ (i := 1) (N := some 10) (v := ?_) (a' := ?_) #[true, true, false, false, false, false, false, false, false, false] rfl rfl (by kernel_rfl) (fun _ _ _ h => h) (Or.inl ⟨by rfl, ?_⟩) ?_ ?_
  rotate_left
  · intro w'
    go_simp
    with_reducible rfl
  rotate_left
  · simp only [Act.put, List.setIfInBounds_toArray, List.set_cons_zero, List.set_cons_succ]
    rfl
  refine pure_ (i := 2) (N := some 11) (v := ?_) (a' := ?_) #[true, true, true, false, false, false, false, false, false, false] rfl rfl (by kernel_rfl) (fun _ _ _ h => h) (Or.inl ⟨by rfl, ?_⟩) ?_ ?_
  rotate_left
  · intro w'
    go_simp
    with_reducible rfl
  rotate_left
  · simp only [Act.put, List.setIfInBounds_toArray, List.set_cons_zero, List.set_cons_succ]
    rfl
  refine take_ (i := 3) (N := some 12) (v := ?_) (a' := ?_) #[true, true, true, true, false, false, false, false, false, false] rfl rfl (by kernel_rfl) (fun _ _ _ h => h) (Or.inl ⟨by rfl, ?_⟩) hHeld ?_ ?_
  rotate_left
  · intro w' hS_
    have b0_ : w'.cell? ⟨g, 0, none⟩ = some (.int .i64 room) := (blk_cell (HI2.out.below hS_).blk 0).trans rfl
    have b1_ : w'.cell? ⟨g, 1, none⟩ = some (.slice A l.length c) := (blk_cell (HI2.out.below hS_).blk 1).trans rfl
    have b2_ : w'.cell? ⟨g, 2, none⟩ = some (.bool false) := (blk_cell (HI2.out.below hS_).blk 2).trans rfl
    go_simp
    with_reducible rfl
  rotate_left
  · simp only [Act.put, List.setIfInBounds_toArray, List.set_cons_zero, List.set_cons_succ]
    rfl
  refine pure_ (i := 4) (N := some 13) (v := ?_) (a' := ?_) #[true, true, true, true, true, false, false, false, false, false] rfl rfl (by kernel_rfl) (fun _ _ _ h => h) (Or.inl ⟨by rfl, ?_⟩) ?_ ?_
  rotate_left
  · intro w'
    go_simp
    with_reducible rfl
  rotate_left
  · simp only [Act.put, List.setIfInBounds_toArray, List.set_cons_zero, List.set_cons_succ]
    rfl
  refine pure_ (i := 5) (N := some 14) (v := ?_) (a' := ?_) #[true, true, true, true, true, true, false, false, false, false] rfl rfl (by kernel_rfl) (fun _ _ _ h => h) (Or.inl ⟨by rfl, ?_⟩) ?_ ?_
  rotate_left
  · intro w'
    go_simp
    with_reducible rfl
  rotate_left
  · simp only [Act.put, List.setIfInBounds_toArray, List.set_cons_zero, List.set_cons_succ]
    rfl
  refine pure_ (i := 6) (N := some 15) (v := ?_) (a' := ?_) #[true, true, true, true, true, true, true, false, false, false] rfl rfl (by kernel_rfl) (fun _ _ _ h => h) (Or.inl ⟨by rfl, ?_⟩) ?_ ?_
  rotate_left
  · intro w'
    go_simp
    with_reducible rfl
  rotate_left
  · simp only [Act.put, List.setIfInBounds_toArray, List.set_cons_zero, List.set_cons_succ]
    rfl
  refine pure_ (i := 7) (N := some 16) (v := ?_) (a' := ?_) #[true, true, true, true, true, true, true, true, false, false] rfl rfl (by kernel_rfl) (fun _ _ _ h => h) (Or.inl ⟨by rfl, ?_⟩) ?_ ?_
  rotate_left
  · intro w'
    go_simp
    with_reducible rfl
  rotate_left
  · simp only [Act.put, List.setIfInBounds_toArray, List.set_cons_zero, List.set_cons_succ]
    rfl
  refine take_ (i := 8) (N := some 17) (v := ?_) (a' := ?_) #[true, true, true, true, true, true, true, true, true, false] rfl rfl (by kernel_rfl) (fun _ _ _ h => h) (Or.inl ⟨by rfl, ?_⟩) hHeld ?_ ?_
  rotate_left
  · intro w' hS_
    have b0_ : w'.cell? ⟨g, 0, none⟩ = some (.int .i64 room) := (blk_cell (HI2.out.below hS_).blk 0).trans rfl
    have b1_ : w'.cell? ⟨g, 1, none⟩ = some (.slice A l.length c) := (blk_cell (HI2.out.below hS_).blk 1).trans rfl
    have b2_ : w'.cell? ⟨g, 2, none⟩ = some (.bool false) := (blk_cell (HI2.out.below hS_).blk 2).trans rfl
    go_simp
    with_reducible rfl
  rotate_left
  · simp only [Act.put, List.setIfInBounds_toArray, List.set_cons_zero, List.set_cons_succ]
    rfl
  refine pure_ (i := 9) (N := some 18) (v := ?_) (a' := ?_) #[true, true, true, true, true, true, true, true, true, true] rfl rfl (by kernel_rfl) (fun _ _ _ h => h) (Or.inl ⟨by rfl, ?_⟩) ?_ ?_
  rotate_left
  · intro w'
    go_simp
    with_reducible rfl
  rotate_left
  · simp only [Act.put, List.setIfInBounds_toArray, List.set_cons_zero, List.set_cons_succ]
    rfl
  refine done_ (by kernel_rfl) ?_
  go_wp2
  have HBd : Below w1.heap.size w1 w1.drew := below_drew (Below.refl _ _)
  have HI3 := Aside0.mk (HI2.out.below HBd)
  have HX3 := Aside0.mk (blk_below HX2.out HBd)
  have HK3 := Aside0.mk (Kd.FK_below HK2.out HBd)
  have HB3 := Aside0.mk (below_step HB2.out HBd)
  clear HI2 HX2 HK2 HB2 HBd
  generalize w1.drew = w2 at *
  have HSZ : Aside0 (w.heap.size < w2.heap.size) := ⟨blk_lt HX3.out⟩
  refine start_ (n := 13) (S := fun w' => Below w2.heap.size w2 w') (ds := [12]) #[false, false, false, false, false, false, false, false, false, false, false, false, false] (by kernel_rfl) rfl rfl (below_drew1 (Below.refl _ _)) (fun hHeld => ?_)
  refine pure_ (i := 0) (N := some 19) (v := ?_) (a' := ?_) #[true, false, false, false, false, false, false, false, false, false, false, false, false] rfl rfl (by kernel_rfl) (fun _ _ _ h => h) (Or.inl ⟨by rfl, ?_⟩) ?_ ?_
  rotate_left
  · intro w'
    go_simp
    with_reducible rfl
  rotate_left
  · simp only [Act.put, List.setIfInBounds_toArray, List.set_cons_zero, List.set_cons_succ]
    rfl
  refine pure_ (i := 2) (N := some 21) (v := ?_) (a' := ?_) #[true, false, true, false, false, false, false, false, false, false, false, false, false] rfl rfl (by kernel_rfl) (fun _ _ _ h => h) (Or.inl ⟨by rfl, ?_⟩) ?_ ?_
  rotate_left
  · intro w'
    go_simp
    with_reducible rfl
  rotate_left
  · simp only [Act.put, List.setIfInBounds_toArray, List.set_cons_zero, List.set_cons_succ]
    rfl
  refine pure_ (i := 3) (N := some 22) (v := ?_) (a' := ?_) #[true, false, true, true, false, false, false, false, false, false, false, false, false] rfl rfl (by kernel_rfl) (fun _ _ _ h => h) (Or.inl ⟨by rfl, ?_⟩) ?_ ?_
  rotate_left
  · intro w'
    go_simp
    with_reducible rfl
  rotate_left
  · simp only [Act.put, List.setIfInBounds_toArray, List.set_cons_zero, List.set_cons_succ]
    rfl
  refine pure_ (i := 4) (N := some 23) (v := ?_) (a' := ?_) #[true, false, true, true, true, false, false, false, false, false, false, false, false] rfl rfl (by kernel_rfl) (fun _ _ _ h => h) (Or.inl ⟨by rfl, ?_⟩) ?_ ?_
  rotate_left
  · intro w'
    go_simp
    with_reducible rfl
  rotate_left
  · simp only [Act.put, List.setIfInBounds_toArray, List.set_cons_zero, List.set_cons_succ]
    rfl
  refine take_ (i := 5) (N := some 24) (v := ?_) (a' := ?_) #[true, false, true, true, true, true, false, false, false, false, false, false, false] rfl rfl (by kernel_rfl) (fun _ _ _ h => h) (Or.inl ⟨by rfl, ?_⟩) hHeld ?_ ?_
  rotate_left
  · intro w' hS_
    have b0_ : w'.cell? ⟨g, 0, none⟩ = some (.int .i64 room) := (blk_cell (HI3.out.below hS_).blk 0).trans rfl
    have b1_ : w'.cell? ⟨g, 1, none⟩ = some (.slice A l.length c) := (blk_cell (HI3.out.below hS_).blk 1).trans rfl
    have b2_ : w'.cell? ⟨g, 2, none⟩ = some (.bool false) := (blk_cell (HI3.out.below hS_).blk 2).trans rfl
    go_simp
    with_reducible rfl
  rotate_left
  · simp only [Act.put, List.setIfInBounds_toArray, List.set_cons_zero, List.set_cons_succ]
    rfl
  refine take_ (i := 7) (N := some 26) (v := ?_) (a' := ?_) #[true, false, true, true, true, true, false, true, false, false, false, false, false] rfl rfl (by kernel_rfl) (fun _ _ _ h => h) (Or.inl ⟨by rfl, ?_⟩) hHeld ?_ ?_
  rotate_left
  · intro w' hS_
    have q0_ : w'.cell? ⟨w.heap.size, 0, none⟩ = some (.int .i64 x0) := (blk_cell (blk_below HX3.out hS_) 0).trans rfl
    have q1_ : w'.cell? ⟨w.heap.size, 1, none⟩ = some (.int .i64 x1) := (blk_cell (blk_below HX3.out hS_) 1).trans rfl
    have q2_ : w'.cell? ⟨w.heap.size, 2, none⟩ = some (.int .i64 x2) := (blk_cell (blk_below HX3.out hS_) 2).trans rfl
    have q3_ : w'.cell? ⟨w.heap.size, 3, none⟩ = some (.slice A3 x3.length c3) := (blk_cell (blk_below HX3.out hS_) 3).trans rfl
    go_simp
    with_reducible rfl
  rotate_left
  · simp only [Act.put, List.setIfInBounds_toArray, List.set_cons_zero, List.set_cons_succ]
    rfl
  refine two_ (i := 1) (j := 8) (Ni := some 20) (Nj := some 27) #[true, true, true, true, true, true, false, true, false, false, false, false, false] #[true, false, true, true, true, true, false, true, true, false, false, false, false] rfl rfl rfl rfl (by kernel_rfl) (by decide) (by decide) (fun K_ hK_ => ?_) (fun K_ hK_ => ?_)
  · skip
    have HH_ := Aside0.mk hHeld
    clear hHeld
    refine Kd.R_lit_step k67 (w0 := w2.drew) w2.drew.heap.size 67 ?hw (N := 20) ?hd (xs := ([] : List S67)) (inner := []) (ok := fun _ => True) (okp := fun _ => True) ?hr ?hp (fun _ hk => hk) trivial (Below.refl _ _) (Nat.le_refl _) (by simp) ?_
    case hw => rfl
    case hd => rfl
    case hr => first | (go_simp; done) | (go_simp; rfl)
    case hp => exact Reps.none _ _
    intro v20 w20 ho1 hb1 hg1 hn1
    clear hg1 hn1
    have HO20 := Aside0.mk (Kd.N_mono (ok' := fun k => w2.heap.size ≤ k) (Kd.R_N (Kd.R_bound ho1)) (fun k hk => Nat.le_trans HH_.out.size hk.2.1))
    have HN20 := Aside0.mk (Kd.R_base ho1)
    have HB20 := Aside0.mk (below_step HH_.out hb1)
    have hB20 := HB20.out
    clear ho1 hb1 HH_
    refine hK_.out _ _ (hB20) (fun hHeld => ?_)
    clear hK_
    refine norm_ (a' := ?_) ?_ ?_
    rotate_left
    · simp only [Act.put, List.setIfInBounds_toArray, List.set_cons_zero, List.set_cons_succ]
      rfl
    refine two_ (i := 6) (j := 8) (Ni := some 25) (Nj := some 27) #[true, true, true, true, true, true, true, true, false, false, false, false, false] #[true, true, true, true, true, true, false, true, true, false, false, false, false] rfl rfl rfl rfl (by kernel_rfl) (by decide) (by decide) (fun K_ hK_ => ?_) (fun K_ hK_ => ?_)
    · skip
      have HBL20 : Aside0 (w2.heap.size ≤ w2.drew.heap.size) := ⟨by first | exact Nat.le_refl _ | exact HB27.out.size | exact HB20.out.size⟩
      have HBN20 := HBL20.out
      have HH_ := Aside0.mk hHeld
      clear hHeld
      refine Kd.N_append_rows_step k67 (w0 := w2) w2.heap.size ?hw (.tmp 20) (.tmp 24) 56 67 (.agg #[(.int .i64 0), (.int .i64 0), (.int .i64 0), (.slice none 0 0)]) 48 rfl Try.underlying56 info67c rfl (by decide) (by decide) v20 [] l A l.length c (fun k => ok k ∨ w2.heap.size ≤ k) (fun k => ok k ∧ k < w2.heap.size) rfl rfl (Kd.N_mono (Kd.N_lower HO20.out (by first | exact HBN20 | exact Nat.le_refl _ | exact Nat.zero_le _)) (fun k hk => .inr hk)) (Kd.F_below (Kd.F_bound (dF HI3.out)) HH_.out) (fun k hk => ⟨.inl hk.1, fun e => by have h1 := HN20.out k e.symm; have := hk.2; have := HBL20.out; omega⟩) (fun k hk => .inr (Nat.le_trans HH_.out.size hk)) HH_.out HH_.out.size (by have := HL.out; simp only [List.length_nil]; omega) ?_
      case hw => rfl
      intro v25 w25 hN25 hb25 hg25 hat25
      rw [List.nil_append] at hN25
      have HO25 := Aside0.mk hN25
      have hB25 := hb25
      have HB25 := Aside0.mk hb25
      clear hN25 hb25 hg25 hat25 HH_
      refine hK_.out _ _ (hB25) (fun hHeld => ?_)
      clear hK_
      refine norm_ (a' := ?_) ?_ ?_
      rotate_left
      · simp only [Act.put, List.setIfInBounds_toArray, List.set_cons_zero, List.set_cons_succ]
        rfl
      refine one_ (i := 8) (N := some 27) #[true, true, true, true, true, true, true, true, true, false, false, false, false] rfl rfl (by kernel_rfl) (by decide) (fun K_ hK_ => ?_)
      have HH_ := Aside0.mk hHeld
      clear hHeld
      refine event_step (by rfl) (by go_simp; exact ⟨rfl, rfl⟩) ?_
      have hb8 : Below w25.heap.size w25 (w25.alloc (.cells #[.int .i64 x0, .int .i64 x1, .int .i64 x2, .slice A3 x3.length c3] 67)) := below_alloc (Below.refl _ _) _
      have hB27 : Below w2.heap.size w2 (w25.alloc (.cells #[.int .i64 x0, .int .i64 x1, .int .i64 x2, .slice A3 x3.length c3] 67)) := below_step HH_.out hb8
      have HF27 : Aside0 (Kd.F k67 (w25.alloc (.cells #[.int .i64 x0, .int .i64 x1, .int .i64 x2, .slice A3 x3.length c3] 67)) (fun k => k = w25.heap.size ∨ (okp k ∧ k < w.heap.size)) (some ⟨w25.heap.size, 0, none⟩) 1 [(⟨x0, x1, x2, x3⟩ : S67)]) := Aside0.mk (boxF (blk_new w25 (.cells #[.int .i64 x0, .int .i64 x1, .int .i64 x2, .slice A3 x3.length c3] 67)) (Kd.FK_below (Kd.FK_below HK3.out HH_.out) hb8))
      obtain ⟨b8, hb8e⟩ : ∃ b, w25.heap.size = b := ⟨_, rfl⟩
      have HB8 : Aside0 (b8 < (w25.alloc (.cells #[.int .i64 x0, .int .i64 x1, .int .i64 x2, .slice A3 x3.length c3] 67)).heap.size ∧ w2.heap.size ≤ b8) := ⟨by rw [← hb8e]; simp, by rw [← hb8e]; exact HH_.out.size⟩
      rw [hb8e] at HF27 ⊢
      have HO25b := Aside0.mk (Kd.N_below HO25.out hb8)
      have HNE : Aside0 (∀ k, v25.ownBlock = some k → k ≠ b8) := ⟨fun k hk => by have h1 := Kd.N_lt HO25.out k hk; omega⟩
      clear HO25
      have HO25 := HO25b
      clear HO25b
      generalize (w25.alloc (.cells #[.int .i64 x0, .int .i64 x1, .int .i64 x2, .slice A3 x3.length c3] 67)) = w27 at *
      have HB27 := Aside0.mk hB27
      clear hb8 hb8e HH_
      refine hK_.out _ _ (hB27) (fun hHeld => ?_)
      clear hK_
      refine norm_ (a' := ?_) ?_ ?_
      rotate_left
      · simp only [Act.put, List.setIfInBounds_toArray, List.set_cons_zero, List.set_cons_succ]
        rfl
      refine one_ (i := 9) (N := some 28) #[true, true, true, true, true, true, true, true, true, true, false, false, false] rfl rfl (by kernel_rfl) (by decide) (fun K_ hK_ => ?_)
      have HH_ := Aside0.mk hHeld
      clear hHeld
      refine Kd.N_append_rows_step k67 (w0 := w2) w2.heap.size ?hw (.tmp 25) (.tmp 27) 56 67 (.agg #[(.int .i64 0), (.int .i64 0), (.int .i64 0), (.slice none 0 0)]) 48 rfl Try.underlying56 info67c rfl (by decide) (by decide) v25 l [(⟨x0, x1, x2, x3⟩ : S67)] (some ⟨b8, 0, none⟩) 1 1 (fun k => ok k ∨ okp k ∨ w2.heap.size ≤ k) (fun k => k = b8 ∨ (okp k ∧ k < w.heap.size)) rfl rfl (Kd.N_mono HO25.out (fun k hk => hk.imp id .inr)) HF27.out (fun k hk => ⟨by rcases hk with h1 | h1; (have := HB8.out.2; exact .inr (.inr (by omega))); exact .inr (.inl h1.1), fun e => by rcases hk with h1 | h1; exact HNE.out k e.symm h1; (have h2 := Kd.N_base HO25.out k e.symm; have := HSZ.out; have := h1.2; omega)⟩) (fun k hk => .inr (.inr (Nat.le_trans HH_.out.size hk))) HH_.out HH_.out.size (by have := HL.out; omega) ?_
      case hw => rfl
      intro v28 w28 hN28 hb28 hg28 hat28
      obtain ⟨l6, hl6⟩ : ∃ l6, l ++ [(⟨x0, x1, x2, x3⟩ : S67)] = l6 := ⟨_, rfl⟩
      rw [hl6] at hN28
      have HL6 := Aside0.mk hl6
      clear hl6 hg28 hat28 HH_
      obtain ⟨A28, c28, e28⟩ := Kd.N_slice hN28
      subst e28
      have HN28 := Aside0.mk hN28
      have HB28 := Aside0.mk hb28
      clear hN28
      refine hK_.out _ _ (hb28) (fun hHeld => ?_)
      clear hK_
      refine norm_ (a' := ?_) ?_ ?_
      rotate_left
      · simp only [Act.put, List.setIfInBounds_toArray, List.set_cons_zero, List.set_cons_succ]
        rfl
      refine pure_ (i := 10) (N := some 29) (v := ?_) (a' := ?_) #[true, true, true, true, true, true, true, true, true, true, true, false, false] rfl rfl (by kernel_rfl) (fun _ _ _ h => h) (Or.inl ⟨by rfl, ?_⟩) ?_ ?_
      rotate_left
      · intro w'
        go_simp
        with_reducible rfl
      rotate_left
      · simp only [Act.put, List.setIfInBounds_toArray, List.set_cons_zero, List.set_cons_succ]
        rfl
      refine pure_ (i := 11) (N := some 30) (v := ?_) (a' := ?_) #[true, true, true, true, true, true, true, true, true, true, true, true, false] rfl rfl (by kernel_rfl) (fun _ _ _ h => h) (Or.inl ⟨by rfl, ?_⟩) ?_ ?_
      rotate_left
      · intro w'
        go_simp
        with_reducible rfl
      rotate_left
      · simp only [Act.put, List.setIfInBounds_toArray, List.set_cons_zero, List.set_cons_succ]
        rfl
      have hbk := blk_below HI3.out.blk HB28.out
      have hc6_ : w28.cell? ⟨g, 1, none⟩ = some (.slice A l.length c) := (blk_cell hbk 1).trans rfl
      have hf6_ := blk_frozen hbk 1
      have HP6 := Aside0.mk (HI3.out.put (okp := okp) (Kd.N_V (base' := 0) HN28.out) HB28.out (fun k hk => hk) HPG.out)
      refine last_store (i := 12) (w1 := w28.setCell ⟨g, 1, none⟩ (.slice A28 l6.length c28)) #[true, true, true, true, true, true, true, true, true, true, true, true, true] rfl rfl (by kernel_rfl) (by decide) (by rfl) (by first | (go_simp; done) | (go_simp; rfl)) ?_
      clear hc6_ hf6_ hbk
      refine done_ (by kernel_rfl) ?_
      go_wp2
      go_ret
      rw [HL6.out]
      exact ⟨rfl, _, _, HP6.out.1, MvD.from HB3.out HP6.out.2⟩
    · skip
      have HH_ := Aside0.mk hHeld
      clear hHeld
      refine event_step (by rfl) (by go_simp; exact ⟨rfl, rfl⟩) ?_
      have hb8 : Below w20.heap.size w20 (w20.alloc (.cells #[.int .i64 x0, .int .i64 x1, .int .i64 x2, .slice A3 x3.length c3] 67)) := below_alloc (Below.refl _ _) _
      have hB27 : Below w2.heap.size w2 (w20.alloc (.cells #[.int .i64 x0, .int .i64 x1, .int .i64 x2, .slice A3 x3.length c3] 67)) := below_step HH_.out hb8
      have HF27 : Aside0 (Kd.F k67 (w20.alloc (.cells #[.int .i64 x0, .int .i64 x1, .int .i64 x2, .slice A3 x3.length c3] 67)) (fun k => k = w20.heap.size ∨ (okp k ∧ k < w.heap.size)) (some ⟨w20.heap.size, 0, none⟩) 1 [(⟨x0, x1, x2, x3⟩ : S67)]) := Aside0.mk (boxF (blk_new w20 (.cells #[.int .i64 x0, .int .i64 x1, .int .i64 x2, .slice A3 x3.length c3] 67)) (Kd.FK_below (Kd.FK_below HK3.out HH_.out) hb8))
      obtain ⟨b8, hb8e⟩ : ∃ b, w20.heap.size = b := ⟨_, rfl⟩
      have HB8 : Aside0 (b8 < (w20.alloc (.cells #[.int .i64 x0, .int .i64 x1, .int .i64 x2, .slice A3 x3.length c3] 67)).heap.size ∧ w2.heap.size ≤ b8) := ⟨by rw [← hb8e]; simp, by rw [← hb8e]; exact HH_.out.size⟩
      rw [hb8e] at HF27 ⊢
      have HO20b := Aside0.mk (Kd.N_below HO20.out hb8)
      have HNE : Aside0 (∀ k, v20.ownBlock = some k → k ≠ b8) := ⟨fun k hk => by have h1 := Kd.N_lt HO20.out k hk; omega⟩
      clear HO20
      have HO20 := HO20b
      clear HO20b
      generalize (w20.alloc (.cells #[.int .i64 x0, .int .i64 x1, .int .i64 x2, .slice A3 x3.length c3] 67)) = w27 at *
      have HB27 := Aside0.mk hB27
      clear hb8 hb8e HH_
      refine hK_.out _ _ (hB27) (fun hHeld => ?_)
      clear hK_
      refine norm_ (a' := ?_) ?_ ?_
      rotate_left
      · simp only [Act.put, List.setIfInBounds_toArray, List.set_cons_zero, List.set_cons_succ]
        rfl
      refine one_ (i := 6) (N := some 25) #[true, true, true, true, true, true, true, true, true, false, false, false, false] rfl rfl (by kernel_rfl) (by decide) (fun K_ hK_ => ?_)
      have HBL20 : Aside0 (w2.heap.size ≤ w2.drew.heap.size) := ⟨by first | exact Nat.le_refl _ | exact HB27.out.size | exact HB20.out.size⟩
      have HBN20 := HBL20.out
      have HBW8 : Aside0 (b8 < w27.heap.size) := ⟨by have := HB8.out.1; have := HB27.out.size; omega⟩
      have HH_ := Aside0.mk hHeld
      clear hHeld
      refine Kd.N_append_rows_step k67 (w0 := w2) w2.heap.size ?hw (.tmp 20) (.tmp 24) 56 67 (.agg #[(.int .i64 0), (.int .i64 0), (.int .i64 0), (.slice none 0 0)]) 48 rfl Try.underlying56 info67c rfl (by decide) (by decide) v20 [] l A l.length c (fun k => ok k ∨ w2.heap.size ≤ k) (fun k => ok k ∧ k < w2.heap.size) rfl rfl (Kd.N_mono (Kd.N_lower HO20.out (by first | exact HBN20 | exact Nat.le_refl _ | exact Nat.zero_le _)) (fun k hk => .inr hk)) (Kd.F_below (Kd.F_bound (dF HI3.out)) HH_.out) (fun k hk => ⟨.inl hk.1, fun e => by have h1 := HN20.out k e.symm; have := hk.2; have := HBL20.out; omega⟩) (fun k hk => .inr (Nat.le_trans HH_.out.size hk)) HH_.out HH_.out.size (by have := HL.out; simp only [List.length_nil]; omega) ?_
      case hw => rfl
      intro v25 w25 hN25 hb25 hg25 hat25
      rw [List.nil_append] at hN25
      have HO25 := Aside0.mk hN25
      have hB25 := hb25
      have HB25 := Aside0.mk hb25
      have HF27b := Aside0.mk (Kd.F_grown (Kd.F_mono (ok' := fun k => (k = b8 ∨ (okp k ∧ k < w.heap.size)) ∧ some k ≠ v20.ownBlock) HF27.out (fun k hk => ⟨hk, fun e => by rcases hk with h1 | h1; exact HNE.out k e.symm h1; (have h2 := HN20.out k e.symm; have := HBL20.out; have := HSZ.out; have := h1.2; omega)⟩)) hg25 (fun k hk => hk.2))
      clear HF27
      have HF27 := Aside0.mk (Kd.F_mono (ok' := fun k => k = b8 ∨ (okp k ∧ k < w.heap.size)) HF27b.out (fun k hk => hk.1))
      clear HF27b
      have HNEb : Aside0 (∀ k, v25.ownBlock = some k → k ≠ b8) := ⟨fun k hk => by rcases hat25 with e | ⟨b, e, hb⟩; exact HNE.out k (by rw [← e]; exact hk); (rw [e] at hk; cases hk; have := HBW8.out; omega)⟩
      clear HNE
      have HNE := HNEb
      clear HNEb
      clear hN25 hb25 hg25 hat25 HH_
      refine hK_.out _ _ (hB25) (fun hHeld => ?_)
      clear hK_
      refine norm_ (a' := ?_) ?_ ?_
      rotate_left
      · simp only [Act.put, List.setIfInBounds_toArray, List.set_cons_zero, List.set_cons_succ]
        rfl
      refine one_ (i := 9) (N := some 28) #[true, true, true, true, true, true, true, true, true, true, false, false, false] rfl rfl (by kernel_rfl) (by decide) (fun K_ hK_ => ?_)
      have HH_ := Aside0.mk hHeld
      clear hHeld
      refine Kd.N_append_rows_step k67 (w0 := w2) w2.heap.size ?hw (.tmp 25) (.tmp 27) 56 67 (.agg #[(.int .i64 0), (.int .i64 0), (.int .i64 0), (.slice none 0 0)]) 48 rfl Try.underlying56 info67c rfl (by decide) (by decide) v25 l [(⟨x0, x1, x2, x3⟩ : S67)] (some ⟨b8, 0, none⟩) 1 1 (fun k => ok k ∨ okp k ∨ w2.heap.size ≤ k) (fun k => k = b8 ∨ (okp k ∧ k < w.heap.size)) rfl rfl (Kd.N_mono HO25.out (fun k hk => hk.imp id .inr)) HF27.out (fun k hk => ⟨by rcases hk with h1 | h1; (have := HB8.out.2; exact .inr (.inr (by omega))); exact .inr (.inl h1.1), fun e => by rcases hk with h1 | h1; exact HNE.out k e.symm h1; (have h2 := Kd.N_base HO25.out k e.symm; have := HSZ.out; have := h1.2; omega)⟩) (fun k hk => .inr (.inr (Nat.le_trans HH_.out.size hk))) HH_.out HH_.out.size (by have := HL.out; omega) ?_
      case hw => rfl
      intro v28 w28 hN28 hb28 hg28 hat28
      obtain ⟨l6, hl6⟩ : ∃ l6, l ++ [(⟨x0, x1, x2, x3⟩ : S67)] = l6 := ⟨_, rfl⟩
      rw [hl6] at hN28
      have HL6 := Aside0.mk hl6
      clear hl6 hg28 hat28 HH_
      obtain ⟨A28, c28, e28⟩ := Kd.N_slice hN28
      subst e28
      have HN28 := Aside0.mk hN28
      have HB28 := Aside0.mk hb28
      clear hN28
      refine hK_.out _ _ (hb28) (fun hHeld => ?_)
      clear hK_
      refine norm_ (a' := ?_) ?_ ?_
      rotate_left
      · simp only [Act.put, List.setIfInBounds_toArray, List.set_cons_zero, List.set_cons_succ]
        rfl
      refine pure_ (i := 10) (N := some 29) (v := ?_) (a' := ?_) #[true, true, true, true, true, true, true, true, true, true, true, false, false] rfl rfl (by kernel_rfl) (fun _ _ _ h => h) (Or.inl ⟨by rfl, ?_⟩) ?_ ?_
      rotate_left
      · intro w'
        go_simp
        with_reducible rfl
      rotate_left
      · simp only [Act.put, List.setIfInBounds_toArray, List.set_cons_zero, List.set_cons_succ]
        rfl
      refine pure_ (i := 11) (N := some 30) (v := ?_) (a' := ?_) #[true, true, true, true, true, true, true, true, true, true, true, true, false] rfl rfl (by kernel_rfl) (fun _ _ _ h => h) (Or.inl ⟨by rfl, ?_⟩) ?_ ?_
      rotate_left
      · intro w'
        go_simp
        with_reducible rfl
      rotate_left
      · simp only [Act.put, List.setIfInBounds_toArray, List.set_cons_zero, List.set_cons_succ]
        rfl
      have hbk := blk_below HI3.out.blk HB28.out
      have hc6_ : w28.cell? ⟨g, 1, none⟩ = some (.slice A l.length c) := (blk_cell hbk 1).trans rfl
      have hf6_ := blk_frozen hbk 1
      have HP6 := Aside0.mk (HI3.out.put (okp := okp) (Kd.N_V (base' := 0) HN28.out) HB28.out (fun k hk => hk) HPG.out)
      refine last_store (i := 12) (w1 := w28.setCell ⟨g, 1, none⟩ (.slice A28 l6.length c28)) #[true, true, true, true, true, true, true, true, true, true, true, true, true] rfl rfl (by kernel_rfl) (by decide) (by rfl) (by first | (go_simp; done) | (go_simp; rfl)) ?_
      clear hc6_ hf6_ hbk
      refine done_ (by kernel_rfl) ?_
      go_wp2
      go_ret
      rw [HL6.out]
      exact ⟨rfl, _, _, HP6.out.1, MvD.from HB3.out HP6.out.2⟩
  · skip
    have HH_ := Aside0.mk hHeld
    clear hHeld
    refine event_step (by rfl) (by go_simp; exact ⟨rfl, rfl⟩) ?_
    have hb8 : Below w2.heap.size w2 (w2.alloc (.cells #[.int .i64 x0, .int .i64 x1, .int .i64 x2, .slice A3 x3.length c3] 67)).drew := below_drew (below_alloc (Below.refl _ _) _)
    have hB27 : Below w2.heap.size w2 (w2.alloc (.cells #[.int .i64 x0, .int .i64 x1, .int .i64 x2, .slice A3 x3.length c3] 67)).drew := hb8
    have HF27 : Aside0 (Kd.F k67 (w2.alloc (.cells #[.int .i64 x0, .int .i64 x1, .int .i64 x2, .slice A3 x3.length c3] 67)).drew (fun k => k = w2.heap.size ∨ (okp k ∧ k < w.heap.size)) (some ⟨w2.heap.size, 0, none⟩) 1 [(⟨x0, x1, x2, x3⟩ : S67)]) := Aside0.mk (boxF (blk_new w2 (.cells #[.int .i64 x0, .int .i64 x1, .int .i64 x2, .slice A3 x3.length c3] 67)) (Kd.FK_below HK3.out hb8))
    obtain ⟨b8, hb8e⟩ : ∃ b, w2.heap.size = b := ⟨_, rfl⟩
    have HB8 : Aside0 (b8 < (w2.alloc (.cells #[.int .i64 x0, .int .i64 x1, .int .i64 x2, .slice A3 x3.length c3] 67)).drew.heap.size ∧ w2.heap.size ≤ b8) := ⟨by rw [← hb8e]; simp, by rw [← hb8e]; exact HH_.out.size⟩
    rw [hb8e] at HF27 ⊢
    generalize (w2.alloc (.cells #[.int .i64 x0, .int .i64 x1, .int .i64 x2, .slice A3 x3.length c3] 67)).drew = w27 at *
    have HB27 := Aside0.mk hB27
    clear hb8 hb8e HH_
    refine hK_.out _ _ (hB27) (fun hHeld => ?_)
    clear hK_
    refine norm_ (a' := ?_) ?_ ?_
    rotate_left
    · simp only [Act.put, List.setIfInBounds_toArray, List.set_cons_zero, List.set_cons_succ]
      rfl
    refine one_ (i := 1) (N := some 20) #[true, true, true, true, true, true, false, true, true, false, false, false, false] rfl rfl (by kernel_rfl) (by decide) (fun K_ hK_ => ?_)
    have HH_ := Aside0.mk hHeld
    clear hHeld
    refine Kd.R_lit_step k67 (w0 := w27) w27.heap.size 67 ?hw (N := 20) ?hd (xs := ([] : List S67)) (inner := []) (ok := fun _ => True) (okp := fun _ => True) ?hr ?hp (fun _ hk => hk) trivial (Below.refl _ _) (Nat.le_refl _) (by simp) ?_
    case hw => rfl
    case hd => rfl
    case hr => first | (go_simp; done) | (go_simp; rfl)
    case hp => exact Reps.none _ _
    intro v20 w20 ho1 hb1 hg1 hn1
    clear hg1 hn1
    have HO20 := Aside0.mk (Kd.N_mono (ok' := fun k => w2.heap.size ≤ k) (Kd.R_N (Kd.R_bound ho1)) (fun k hk => Nat.le_trans HH_.out.size hk.2.1))
    have HN20 := Aside0.mk (Kd.R_base ho1)
    have HB20 := Aside0.mk (below_step HH_.out hb1)
    have hB20 := HB20.out
    have HS2720 := Aside0.mk hb1.size
    have HF27b := Aside0.mk (Kd.F_below HF27.out hb1)
    clear HF27
    have HF27 := HF27b
    clear HF27b
    have HNE : Aside0 (∀ k, v20.ownBlock = some k → k ≠ b8) := ⟨fun k hk => by have h1 := HN20.out k hk; have := HB8.out; omega⟩
    clear ho1 hb1 HH_
    refine hK_.out _ _ (hB20) (fun hHeld => ?_)
    clear hK_
    refine norm_ (a' := ?_) ?_ ?_
    rotate_left
    · simp only [Act.put, List.setIfInBounds_toArray, List.set_cons_zero, List.set_cons_succ]
      rfl
    refine one_ (i := 6) (N := some 25) #[true, true, true, true, true, true, true, true, true, false, false, false, false] rfl rfl (by kernel_rfl) (by decide) (fun K_ hK_ => ?_)
    have HBL20 : Aside0 (w2.heap.size ≤ w27.heap.size) := ⟨by first | exact Nat.le_refl _ | exact HB27.out.size | exact HB20.out.size⟩
    have HBN20 := HBL20.out
    have HBW8 : Aside0 (b8 < w20.heap.size) := ⟨by have := HB8.out.1; have := HB27.out.size; have := HS2720.out; omega⟩
    have HH_ := Aside0.mk hHeld
    clear hHeld
    refine Kd.N_append_rows_step k67 (w0 := w2) w2.heap.size ?hw (.tmp 20) (.tmp 24) 56 67 (.agg #[(.int .i64 0), (.int .i64 0), (.int .i64 0), (.slice none 0 0)]) 48 rfl Try.underlying56 info67c rfl (by decide) (by decide) v20 [] l A l.length c (fun k => ok k ∨ w2.heap.size ≤ k) (fun k => ok k ∧ k < w2.heap.size) rfl rfl (Kd.N_mono (Kd.N_lower HO20.out (by first | exact HBN20 | exact Nat.le_refl _ | exact Nat.zero_le _)) (fun k hk => .inr hk)) (Kd.F_below (Kd.F_bound (dF HI3.out)) HH_.out) (fun k hk => ⟨.inl hk.1, fun e => by have h1 := HN20.out k e.symm; have := hk.2; have := HBL20.out; omega⟩) (fun k hk => .inr (Nat.le_trans HH_.out.size hk)) HH_.out HH_.out.size (by have := HL.out; simp only [List.length_nil]; omega) ?_
    case hw => rfl
    intro v25 w25 hN25 hb25 hg25 hat25
    rw [List.nil_append] at hN25
    have HO25 := Aside0.mk hN25
    have hB25 := hb25
    have HB25 := Aside0.mk hb25
    have HF27b := Aside0.mk (Kd.F_grown (Kd.F_mono (ok' := fun k => (k = b8 ∨ (okp k ∧ k < w.heap.size)) ∧ some k ≠ v20.ownBlock) HF27.out (fun k hk => ⟨hk, fun e => by rcases hk with h1 | h1; exact HNE.out k e.symm h1; (have h2 := HN20.out k e.symm; have := HBL20.out; have := HSZ.out; have := h1.2; omega)⟩)) hg25 (fun k hk => hk.2))
    clear HF27
    have HF27 := Aside0.mk (Kd.F_mono (ok' := fun k => k = b8 ∨ (okp k ∧ k < w.heap.size)) HF27b.out (fun k hk => hk.1))
    clear HF27b
    have HNEb : Aside0 (∀ k, v25.ownBlock = some k → k ≠ b8) := ⟨fun k hk => by rcases hat25 with e | ⟨b, e, hb⟩; exact HNE.out k (by rw [← e]; exact hk); (rw [e] at hk; cases hk; have := HBW8.out; omega)⟩
    clear HNE
    have HNE := HNEb
    clear HNEb
    clear hN25 hb25 hg25 hat25 HH_
    refine hK_.out _ _ (hB25) (fun hHeld => ?_)
    clear hK_
    refine norm_ (a' := ?_) ?_ ?_
    rotate_left
    · simp only [Act.put, List.setIfInBounds_toArray, List.set_cons_zero, List.set_cons_succ]
      rfl
    refine one_ (i := 9) (N := some 28) #[true, true, true, true, true, true, true, true, true, true, false, false, false] rfl rfl (by kernel_rfl) (by decide) (fun K_ hK_ => ?_)
    have HH_ := Aside0.mk hHeld
    clear hHeld
    refine Kd.N_append_rows_step k67 (w0 := w2) w2.heap.size ?hw (.tmp 25) (.tmp 27) 56 67 (.agg #[(.int .i64 0), (.int .i64 0), (.int .i64 0), (.slice none 0 0)]) 48 rfl Try.underlying56 info67c rfl (by decide) (by decide) v25 l [(⟨x0, x1, x2, x3⟩ : S67)] (some ⟨b8, 0, none⟩) 1 1 (fun k => ok k ∨ okp k ∨ w2.heap.size ≤ k) (fun k => k = b8 ∨ (okp k ∧ k < w.heap.size)) rfl rfl (Kd.N_mono HO25.out (fun k hk => hk.imp id .inr)) HF27.out (fun k hk => ⟨by rcases hk with h1 | h1; (have := HB8.out.2; exact .inr (.inr (by omega))); exact .inr (.inl h1.1), fun e => by rcases hk with h1 | h1; exact HNE.out k e.symm h1; (have h2 := Kd.N_base HO25.out k e.symm; have := HSZ.out; have := h1.2; omega)⟩) (fun k hk => .inr (.inr (Nat.le_trans HH_.out.size hk))) HH_.out HH_.out.size (by have := HL.out; omega) ?_
    case hw => rfl
    intro v28 w28 hN28 hb28 hg28 hat28
    obtain ⟨l6, hl6⟩ : ∃ l6, l ++ [(⟨x0, x1, x2, x3⟩ : S67)] = l6 := ⟨_, rfl⟩
    rw [hl6] at hN28
    have HL6 := Aside0.mk hl6
    clear hl6 hg28 hat28 HH_
    obtain ⟨A28, c28, e28⟩ := Kd.N_slice hN28
    subst e28
    have HN28 := Aside0.mk hN28
    have HB28 := Aside0.mk hb28
    clear hN28
    refine hK_.out _ _ (hb28) (fun hHeld => ?_)
    clear hK_
    refine norm_ (a' := ?_) ?_ ?_
    rotate_left
    · simp only [Act.put, List.setIfInBounds_toArray, List.set_cons_zero, List.set_cons_succ]
      rfl
    refine pure_ (i := 10) (N := some 29) (v := ?_) (a' := ?_) #[true, true, true, true, true, true, true, true, true, true, true, false, false] rfl rfl (by kernel_rfl) (fun _ _ _ h => h) (Or.inl ⟨by rfl, ?_⟩) ?_ ?_
    rotate_left
    · intro w'
      go_simp
      with_reducible rfl
    rotate_left
    · simp only [Act.put, List.setIfInBounds_toArray, List.set_cons_zero, List.set_cons_succ]
      rfl
    refine pure_ (i := 11) (N := some 30) (v := ?_) (a' := ?_) #[true, true, true, true, true, true, true, true, true, true, true, true, false] rfl rfl (by kernel_rfl) (fun _ _ _ h => h) (Or.inl ⟨by rfl, ?_⟩) ?_ ?_
    rotate_left
    · intro w'
      go_simp
      with_reducible rfl
    rotate_left
    · simp only [Act.put, List.setIfInBounds_toArray, List.set_cons_zero, List.set_cons_succ]
      rfl
    have hbk := blk_below HI3.out.blk HB28.out
    have hc6_ : w28.cell? ⟨g, 1, none⟩ = some (.slice A l.length c) := (blk_cell hbk 1).trans rfl
    have hf6_ := blk_frozen hbk 1
    have HP6 := Aside0.mk (HI3.out.put (okp := okp) (Kd.N_V (base' := 0) HN28.out) HB28.out (fun k hk => hk) HPG.out)
    refine last_store (i := 12) (w1 := w28.setCell ⟨g, 1, none⟩ (.slice A28 l6.length c28)) #[true, true, true, true, true, true, true, true, true, true, true, true, true] rfl rfl (by kernel_rfl) (by decide) (by rfl) (by first | (go_simp; done) | (go_simp; rfl)) ?_
    clear hc6_ hf6_ hbk
    refine done_ (by kernel_rfl) ?_
    go_wp2
    go_ret
    rw [HL6.out]
    exact ⟨rfl, _, _, HP6.out.1, MvD.from HB3.out HP6.out.2⟩
set_option maxHeartbeats 8000000 in
set_option maxRecDepth 100000 in
theorem r19_Last.ok (x0 x1 x2 : Int) (A3 : Option Addr) (c3 : Nat) (x3 : List Int) (w : World) (g : Nat) (room : Int) (v : Value) (l : List S67) (ok okp : Nat → Prop) (h : IsD w g room v l false ok) (hX : Kd.FK k67 w okp (⟨x0, x1, x2, x3⟩ : S67) [.int .i64 x0, .int .i64 x1, .int .i64 x2, .slice A3 x3.length c3]) (hpg : ¬ okp g) (hl : l.length ≤ 100000) :
    Calls Try.prog 53 #[.pointer (some ⟨g, 0, none⟩), .agg #[.int .i64 x0, .int .i64 x1, .int .i64 x2, .slice A3 x3.length c3]] w fun e w' => e = .returned (.int .i64 0) ∧ ∃ v' ok', IsD w' g room v' (l ++ [(⟨x0, x1, x2, x3⟩ : S67)]) true ok' ∧ MvD w g ok okp w' ok' := by
  have hu67 := Try.underlying67
  obtain ⟨A, c, rfl⟩ := h.form
  have HB2 := Aside0.mk (below_alloc (Below.refl w.heap.size w) (.cells #[.int .i64 x0, .int .i64 x1, .int .i64 x2, .slice A3 x3.length c3] 67))
  have HI2 := Aside0.mk (h.below HB2.out)
  have HX2 := Aside0.mk (blk_new w (.cells #[.int .i64 x0, .int .i64 x1, .int .i64 x2, .slice A3 x3.length c3] 67))
  have HK2 := Aside0.mk (Kd.FK_below (Kd.FK_bound hX) HB2.out)
  have hgz : g ≠ w.heap.size := by have := blk_lt h.blk; omega
  have HPG := Aside0.mk hpg
  have b0_ : (w.alloc (.cells #[.int .i64 x0, .int .i64 x1, .int .i64 x2, .slice A3 x3.length c3] 67)).cell? ⟨g, 0, none⟩ = some (.int .i64 room) := (blk_cell HI2.out.blk 0).trans rfl
  have b1_ : (w.alloc (.cells #[.int .i64 x0, .int .i64 x1, .int .i64 x2, .slice A3 x3.length c3] 67)).cell? ⟨g, 1, none⟩ = some (.slice A l.length c) := (blk_cell HI2.out.blk 1).trans rfl
  have b2_ : (w.alloc (.cells #[.int .i64 x0, .int .i64 x1, .int .i64 x2, .slice A3 x3.length c3] 67)).cell? ⟨g, 2, none⟩ = some (.bool false) := (blk_cell HI2.out.blk 2).trans rfl
  have HL := Aside0.mk hl
  clear h hX hl hpg
  go_enter Try.func53, Try.ntmps53
  go_wp2
  have HBd : Below (w.alloc (.cells #[.int .i64 x0, .int .i64 x1, .int .i64 x2, .slice A3 x3.length c3] 67)).heap.size (w.alloc (.cells #[.int .i64 x0, .int .i64 x1, .int .i64 x2, .slice A3 x3.length c3] 67)) (w.alloc (.cells #[.int .i64 x0, .int .i64 x1, .int .i64 x2, .slice A3 x3.length c3] 67)) := Below.refl _ _
  have HI3 := Aside0.mk (HI2.out.below HBd)
  have HX3 := Aside0.mk (blk_below HX2.out HBd)
  have HK3 := Aside0.mk (Kd.FK_below HK2.out HBd)
  have HB3 := Aside0.mk (below_step HB2.out HBd)
  clear b0_ b1_ b2_ HI2 HX2 HK2 HB2 HBd
  generalize (w.alloc (.cells #[.int .i64 x0, .int .i64 x1, .int .i64 x2, .slice A3 x3.length c3] 67)) = w2 at *
  have HSZ : Aside0 (w.heap.size < w2.heap.size) := ⟨blk_lt HX3.out⟩
  refine start_ (n := 13) (S := fun w' => Below w2.heap.size w2 w') (ds := [12]) #[false, false, false, false, false, false, false, false, false, false, false, false, false] (by kernel_rfl) rfl rfl (below_drew1 (Below.refl _ _)) (fun hHeld => ?_)
  refine pure_ (i := 0) (N := some 9) (v := ?_) (a' := ?_) #[true, false, false, false, false, false, false, false, false, false, false, false, false] rfl rfl (by kernel_rfl) (fun _ _ _ h => h) (Or.inl ⟨by rfl, ?_⟩) ?_ ?_
  rotate_left
  · intro w'
    go_simp
    with_reducible rfl
  rotate_left
  · simp only [Act.put, List.setIfInBounds_toArray, List.set_cons_zero, List.set_cons_succ]
    rfl
  refine pure_ (i := 2) (N := some 11) (v := ?_) (a' := ?_) #[true, false, true, false, false, false, false, false, false, false, false, false, false] rfl rfl (by kernel_rfl) (fun _ _ _ h => h) (Or.inl ⟨by rfl, ?_⟩) ?_ ?_
  rotate_left
  · intro w'
    go_simp
    with_reducible rfl
  rotate_left
  · simp only [Act.put, List.setIfInBounds_toArray, List.set_cons_zero, List.set_cons_succ]
    rfl
  refine pure_ (i := 3) (N := some 12) (v := ?_) (a' := ?_) #[true, false, true, true, false, false, false, false, false, false, false, false, false] rfl rfl (by kernel_rfl) (fun _ _ _ h => h) (Or.inl ⟨by rfl, ?_⟩) ?_ ?_
  rotate_left
  · intro w'
    go_simp
    with_reducible rfl
  rotate_left
  · simp only [Act.put, List.setIfInBounds_toArray, List.set_cons_zero, List.set_cons_succ]
    rfl
  refine pure_ (i := 4) (N := some 13) (v := ?_) (a' := ?_) #[true, false, true, true, true, false, false, false, false, false, false, false, false] rfl rfl (by kernel_rfl) (fun _ _ _ h => h) (Or.inl ⟨by rfl, ?_⟩) ?_ ?_
  rotate_left
  · intro w'
    go_simp
    with_reducible rfl
  rotate_left
  · simp only [Act.put, List.setIfInBounds_toArray, List.set_cons_zero, List.set_cons_succ]
    rfl
  refine take_ (i := 5) (N := some 14) (v := ?_) (a' := ?_) #[true, false, true, true, true, true, false, false, false, false, false, false, false] rfl rfl (by kernel_rfl) (fun _ _ _ h => h) (Or.inl ⟨by rfl, ?_⟩) hHeld ?_ ?_
  rotate_left
  · intro w' hS_
    have b0_ : w'.cell? ⟨g, 0, none⟩ = some (.int .i64 room) := (blk_cell (HI3.out.below hS_).blk 0).trans rfl
    have b1_ : w'.cell? ⟨g, 1, none⟩ = some (.slice A l.length c) := (blk_cell (HI3.out.below hS_).blk 1).trans rfl
    have b2_ : w'.cell? ⟨g, 2, none⟩ = some (.bool false) := (blk_cell (HI3.out.below hS_).blk 2).trans rfl
    go_simp
    with_reducible rfl
  rotate_left
  · simp only [Act.put, List.setIfInBounds_toArray, List.set_cons_zero, List.set_cons_succ]
    rfl
  refine take_ (i := 7) (N := some 16) (v := ?_) (a' := ?_) #[true, false, true, true, true, true, false, true, false, false, false, false, false] rfl rfl (by kernel_rfl) (fun _ _ _ h => h) (Or.inl ⟨by rfl, ?_⟩) hHeld ?_ ?_
  rotate_left
  · intro w' hS_
    have q0_ : w'.cell? ⟨w.heap.size, 0, none⟩ = some (.int .i64 x0) := (blk_cell (blk_below HX3.out hS_) 0).trans rfl
    have q1_ : w'.cell? ⟨w.heap.size, 1, none⟩ = some (.int .i64 x1) := (blk_cell (blk_below HX3.out hS_) 1).trans rfl
    have q2_ : w'.cell? ⟨w.heap.size, 2, none⟩ = some (.int .i64 x2) := (blk_cell (blk_below HX3.out hS_) 2).trans rfl
    have q3_ : w'.cell? ⟨w.heap.size, 3, none⟩ = some (.slice A3 x3.length c3) := (blk_cell (blk_below HX3.out hS_) 3).trans rfl
    go_simp
    with_reducible rfl
  rotate_left
  · simp only [Act.put, List.setIfInBounds_toArray, List.set_cons_zero, List.set_cons_succ]
    rfl
  refine two_ (i := 1) (j := 8) (Ni := some 10) (Nj := some 17) #[true, true, true, true, true, true, false, true, false, false, false, false, false] #[true, false, true, true, true, true, false, true, true, false, false, false, false] rfl rfl rfl rfl (by kernel_rfl) (by decide) (by decide) (fun K_ hK_ => ?_) (fun K_ hK_ => ?_)
  · skip
    have HH_ := Aside0.mk hHeld
    clear hHeld
    refine Kd.R_lit_step k67 (w0 := w2.drew) w2.drew.heap.size 67 ?hw (N := 10) ?hd (xs := ([] : List S67)) (inner := []) (ok := fun _ => True) (okp := fun _ => True) ?hr ?hp (fun _ hk => hk) trivial (Below.refl _ _) (Nat.le_refl _) (by simp) ?_
    case hw => rfl
    case hd => rfl
    case hr => first | (go_simp; done) | (go_simp; rfl)
    case hp => exact Reps.none _ _
    intro v20 w20 ho1 hb1 hg1 hn1
    clear hg1 hn1
    have HO20 := Aside0.mk (Kd.N_mono (ok' := fun k => w2.heap.size ≤ k) (Kd.R_N (Kd.R_bound ho1)) (fun k hk => Nat.le_trans HH_.out.size hk.2.1))
    have HN20 := Aside0.mk (Kd.R_base ho1)
    have HB20 := Aside0.mk (below_step HH_.out hb1)
    have hB20 := HB20.out
    clear ho1 hb1 HH_
    refine hK_.out _ _ (hB20) (fun hHeld => ?_)
    clear hK_
    refine norm_ (a' := ?_) ?_ ?_
    rotate_left
    · simp only [Act.put, List.setIfInBounds_toArray, List.set_cons_zero, List.set_cons_succ]
      rfl
    refine two_ (i := 6) (j := 8) (Ni := some 15) (Nj := some 17) #[true, true, true, true, true, true, true, true, false, false, false, false, false] #[true, true, true, true, true, true, false, true, true, false, false, false, false] rfl rfl rfl rfl (by kernel_rfl) (by decide) (by decide) (fun K_ hK_ => ?_) (fun K_ hK_ => ?_)
    · skip
      have HBL20 : Aside0 (w2.heap.size ≤ w2.drew.heap.size) := ⟨by first | exact Nat.le_refl _ | exact HB27.out.size | exact HB20.out.size⟩
      have HBN20 := HBL20.out
      have HH_ := Aside0.mk hHeld
      clear hHeld
      refine Kd.N_append_rows_step k67 (w0 := w2) w2.heap.size ?hw (.tmp 10) (.tmp 14) 56 67 (.agg #[(.int .i64 0), (.int .i64 0), (.int .i64 0), (.slice none 0 0)]) 48 rfl Try.underlying56 info67c rfl (by decide) (by decide) v20 [] l A l.length c (fun k => ok k ∨ w2.heap.size ≤ k) (fun k => ok k ∧ k < w2.heap.size) rfl rfl (Kd.N_mono (Kd.N_lower HO20.out (by first | exact HBN20 | exact Nat.le_refl _ | exact Nat.zero_le _)) (fun k hk => .inr hk)) (Kd.F_below (Kd.F_bound (dF HI3.out)) HH_.out) (fun k hk => ⟨.inl hk.1, fun e => by have h1 := HN20.out k e.symm; have := hk.2; have := HBL20.out; omega⟩) (fun k hk => .inr (Nat.le_trans HH_.out.size hk)) HH_.out HH_.out.size (by have := HL.out; simp only [List.length_nil]; omega) ?_
      case hw => rfl
      intro v25 w25 hN25 hb25 hg25 hat25
      rw [List.nil_append] at hN25
      have HO25 := Aside0.mk hN25
      have hB25 := hb25
      have HB25 := Aside0.mk hb25
      clear hN25 hb25 hg25 hat25 HH_
      refine hK_.out _ _ (hB25) (fun hHeld => ?_)
      clear hK_
      refine norm_ (a' := ?_) ?_ ?_
      rotate_left
      · simp only [Act.put, List.setIfInBounds_toArray, List.set_cons_zero, List.set_cons_succ]
        rfl
      refine one_ (i := 8) (N := some 17) #[true, true, true, true, true, true, true, true, true, false, false, false, false] rfl rfl (by kernel_rfl) (by decide) (fun K_ hK_ => ?_)
      have HH_ := Aside0.mk hHeld
      clear hHeld
      refine event_step (by rfl) (by go_simp; exact ⟨rfl, rfl⟩) ?_
      have hb8 : Below w25.heap.size w25 (w25.alloc (.cells #[.int .i64 x0, .int .i64 x1, .int .i64 x2, .slice A3 x3.length c3] 67)) := below_alloc (Below.refl _ _) _
      have hB27 : Below w2.heap.size w2 (w25.alloc (.cells #[.int .i64 x0, .int .i64 x1, .int .i64 x2, .slice A3 x3.length c3] 67)) := below_step HH_.out hb8
      have HF27 : Aside0 (Kd.F k67 (w25.alloc (.cells #[.int .i64 x0, .int .i64 x1, .int .i64 x2, .slice A3 x3.length c3] 67)) (fun k => k = w25.heap.size ∨ (okp k ∧ k < w.heap.size)) (some ⟨w25.heap.size, 0, none⟩) 1 [(⟨x0, x1, x2, x3⟩ : S67)]) := Aside0.mk (boxF (blk_new w25 (.cells #[.int .i64 x0, .int .i64 x1, .int .i64 x2, .slice A3 x3.length c3] 67)) (Kd.FK_below (Kd.FK_below HK3.out HH_.out) hb8))
      obtain ⟨b8, hb8e⟩ : ∃ b, w25.heap.size = b := ⟨_, rfl⟩
      have HB8 : Aside0 (b8 < (w25.alloc (.cells #[.int .i64 x0, .int .i64 x1, .int .i64 x2, .slice A3 x3.length c3] 67)).heap.size ∧ w2.heap.size ≤ b8) := ⟨by rw [← hb8e]; simp, by rw [← hb8e]; exact HH_.out.size⟩
      rw [hb8e] at HF27 ⊢
      have HO25b := Aside0.mk (Kd.N_below HO25.out hb8)
      have HNE : Aside0 (∀ k, v25.ownBlock = some k → k ≠ b8) := ⟨fun k hk => by have h1 := Kd.N_lt HO25.out k hk; omega⟩
      clear HO25
      have HO25 := HO25b
      clear HO25b
      generalize (w25.alloc (.cells #[.int .i64 x0, .int .i64 x1, .int .i64 x2, .slice A3 x3.length c3] 67)) = w27 at *
      have HB27 := Aside0.mk hB27
      clear hb8 hb8e HH_
      refine hK_.out _ _ (hB27) (fun hHeld => ?_)
      clear hK_
      refine norm_ (a' := ?_) ?_ ?_
      rotate_left
      · simp only [Act.put, List.setIfInBounds_toArray, List.set_cons_zero, List.set_cons_succ]
        rfl
      refine one_ (i := 9) (N := some 18) #[true, true, true, true, true, true, true, true, true, true, false, false, false] rfl rfl (by kernel_rfl) (by decide) (fun K_ hK_ => ?_)
      have HH_ := Aside0.mk hHeld
      clear hHeld
      refine Kd.N_append_rows_step k67 (w0 := w2) w2.heap.size ?hw (.tmp 15) (.tmp 17) 56 67 (.agg #[(.int .i64 0), (.int .i64 0), (.int .i64 0), (.slice none 0 0)]) 48 rfl Try.underlying56 info67c rfl (by decide) (by decide) v25 l [(⟨x0, x1, x2, x3⟩ : S67)] (some ⟨b8, 0, none⟩) 1 1 (fun k => ok k ∨ okp k ∨ w2.heap.size ≤ k) (fun k => k = b8 ∨ (okp k ∧ k < w.heap.size)) rfl rfl (Kd.N_mono HO25.out (fun k hk => hk.imp id .inr)) HF27.out (fun k hk => ⟨by rcases hk with h1 | h1; (have := HB8.out.2; exact .inr (.inr (by omega))); exact .inr (.inl h1.1), fun e => by rcases hk with h1 | h1; exact HNE.out k e.symm h1; (have h2 := Kd.N_base HO25.out k e.symm; have := HSZ.out; have := h1.2; omega)⟩) (fun k hk => .inr (.inr (Nat.le_trans HH_.out.size hk))) HH_.out HH_.out.size (by have := HL.out; omega) ?_
      case hw => rfl
      intro v28 w28 hN28 hb28 hg28 hat28
      obtain ⟨l6, hl6⟩ : ∃ l6, l ++ [(⟨x0, x1, x2, x3⟩ : S67)] = l6 := ⟨_, rfl⟩
      rw [hl6] at hN28
      have HL6 := Aside0.mk hl6
      clear hl6 hg28 hat28 HH_
      obtain ⟨A28, c28, e28⟩ := Kd.N_slice hN28
      subst e28
      have HN28 := Aside0.mk hN28
      have HB28 := Aside0.mk hb28
      clear hN28
      refine hK_.out _ _ (hb28) (fun hHeld => ?_)
      clear hK_
      refine norm_ (a' := ?_) ?_ ?_
      rotate_left
      · simp only [Act.put, List.setIfInBounds_toArray, List.set_cons_zero, List.set_cons_succ]
        rfl
      refine pure_ (i := 10) (N := some 19) (v := ?_) (a' := ?_) #[true, true, true, true, true, true, true, true, true, true, true, false, false] rfl rfl (by kernel_rfl) (fun _ _ _ h => h) (Or.inl ⟨by rfl, ?_⟩) ?_ ?_
      rotate_left
      · intro w'
        go_simp
        with_reducible rfl
      rotate_left
      · simp only [Act.put, List.setIfInBounds_toArray, List.set_cons_zero, List.set_cons_succ]
        rfl
      refine pure_ (i := 11) (N := some 20) (v := ?_) (a' := ?_) #[true, true, true, true, true, true, true, true, true, true, true, true, false] rfl rfl (by kernel_rfl) (fun _ _ _ h => h) (Or.inl ⟨by rfl, ?_⟩) ?_ ?_
      rotate_left
      · intro w'
        go_simp
        with_reducible rfl
      rotate_left
      · simp only [Act.put, List.setIfInBounds_toArray, List.set_cons_zero, List.set_cons_succ]
        rfl
      have hbk := blk_below HI3.out.blk HB28.out
      have hc6_ : w28.cell? ⟨g, 1, none⟩ = some (.slice A l.length c) := (blk_cell hbk 1).trans rfl
      have hf6_ := blk_frozen hbk 1
      have HP6 := Aside0.mk (HI3.out.put (okp := okp) (Kd.N_V (base' := 0) HN28.out) HB28.out (fun k hk => hk) HPG.out)
      refine last_store (i := 12) (w1 := w28.setCell ⟨g, 1, none⟩ (.slice A28 l6.length c28)) #[true, true, true, true, true, true, true, true, true, true, true, true, true] rfl rfl (by kernel_rfl) (by decide) (by rfl) (by first | (go_simp; done) | (go_simp; rfl)) ?_
      clear hc6_ hf6_ hbk
      refine done_ (by kernel_rfl) ?_
      have hc7_ : (w28.setCell ⟨g, 1, none⟩ (.slice A28 l6.length c28)).cell? ⟨g, 2, none⟩ = some (.bool false) := (blk_cell HP6.out.1.blk 2).trans rfl
      have hf7_ := blk_frozen HP6.out.1.blk 2
      go_wp2
      go_ret
      rw [HL6.out]
      exact ⟨rfl, _, _, HP6.out.1.end_, (MvD.from HB3.out HP6.out.2).end_⟩
    · skip
      have HH_ := Aside0.mk hHeld
      clear hHeld
      refine event_step (by rfl) (by go_simp; exact ⟨rfl, rfl⟩) ?_
      have hb8 : Below w20.heap.size w20 (w20.alloc (.cells #[.int .i64 x0, .int .i64 x1, .int .i64 x2, .slice A3 x3.length c3] 67)) := below_alloc (Below.refl _ _) _
      have hB27 : Below w2.heap.size w2 (w20.alloc (.cells #[.int .i64 x0, .int .i64 x1, .int .i64 x2, .slice A3 x3.length c3] 67)) := below_step HH_.out hb8
      have HF27 : Aside0 (Kd.F k67 (w20.alloc (.cells #[.int .i64 x0, .int .i64 x1, .int .i64 x2, .slice A3 x3.length c3] 67)) (fun k => k = w20.heap.size ∨ (okp k ∧ k < w.heap.size)) (some ⟨w20.heap.size, 0, none⟩) 1 [(⟨x0, x1, x2, x3⟩ : S67)]) := Aside0.mk (boxF (blk_new w20 (.cells #[.int .i64 x0, .int .i64 x1, .int .i64 x2, .slice A3 x3.length c3] 67)) (Kd.FK_below (Kd.FK_below HK3.out HH_.out) hb8))
      obtain ⟨b8, hb8e⟩ : ∃ b, w20.heap.size = b := ⟨_, rfl⟩
      have HB8 : Aside0 (b8 < (w20.alloc (.cells #[.int .i64 x0, .int .i64 x1, .int .i64 x2, .slice A3 x3.length c3] 67)).heap.size ∧ w2.heap.size ≤ b8) := ⟨by rw [← hb8e]; simp, by rw [← hb8e]; exact HH_.out.size⟩
      rw [hb8e] at HF27 ⊢
      have HO20b := Aside0.mk (Kd.N_below HO20.out hb8)
      have HNE : Aside0 (∀ k, v20.ownBlock = some k → k ≠ b8) := ⟨fun k hk => by have h1 := Kd.N_lt HO20.out k hk; omega⟩
      clear HO20
      have HO20 := HO20b
      clear HO20b
      generalize (w20.alloc (.cells #[.int .i64 x0, .int .i64 x1, .int .i64 x2, .slice A3 x3.length c3] 67)) = w27 at *
      have HB27 := Aside0.mk hB27
      clear hb8 hb8e HH_
      refine hK_.out _ _ (hB27) (fun hHeld => ?_)
      clear hK_
      refine norm_ (a' := ?_) ?_ ?_
      rotate_left
      · simp only [Act.put, List.setIfInBounds_toArray, List.set_cons_zero, List.set_cons_succ]
        rfl
      refine one_ (i := 6) (N := some 15) #[true, true, true, true, true, true, true, true, true, false, false, false, false] rfl rfl (by kernel_rfl) (by decide) (fun K_ hK_ => ?_)
      have HBL20 : Aside0 (w2.heap.size ≤ w2.drew.heap.size) := ⟨by first | exact Nat.le_refl _ | exact HB27.out.size | exact HB20.out.size⟩
      have HBN20 := HBL20.out
      have HBW8 : Aside0 (b8 < w27.heap.size) := ⟨by have := HB8.out.1; have := HB27.out.size; omega⟩
      have HH_ := Aside0.mk hHeld
      clear hHeld
      refine Kd.N_append_rows_step k67 (w0 := w2) w2.heap.size ?hw (.tmp 10) (.tmp 14) 56 67 (.agg #[(.int .i64 0), (.int .i64 0), (.int .i64 0), (.slice none 0 0)]) 48 rfl Try.underlying56 info67c rfl (by decide) (by decide) v20 [] l A l.length c (fun k => ok k ∨ w2.heap.size ≤ k) (fun k => ok k ∧ k < w2.heap.size) rfl rfl (Kd.N_mono (Kd.N_lower HO20.out (by first | exact HBN20 | exact Nat.le_refl _ | exact Nat.zero_le _)) (fun k hk => .inr hk)) (Kd.F_below (Kd.F_bound (dF HI3.out)) HH_.out) (fun k hk => ⟨.inl hk.1, fun e => by have h1 := HN20.out k e.symm; have := hk.2; have := HBL20.out; omega⟩) (fun k hk => .inr (Nat.le_trans HH_.out.size hk)) HH_.out HH_.out.size (by have := HL.out; simp only [List.length_nil]; omega) ?_
      case hw => rfl
      intro v25 w25 hN25 hb25 hg25 hat25
      rw [List.nil_append] at hN25
      have HO25 := Aside0.mk hN25
      have hB25 := hb25
      have HB25 := Aside0.mk hb25
      have HF27b := Aside0.mk (Kd.F_grown (Kd.F_mono (ok' := fun k => (k = b8 ∨ (okp k ∧ k < w.heap.size)) ∧ some k ≠ v20.ownBlock) HF27.out (fun k hk => ⟨hk, fun e => by rcases hk with h1 | h1; exact HNE.out k e.symm h1; (have h2 := HN20.out k e.symm; have := HBL20.out; have := HSZ.out; have := h1.2; omega)⟩)) hg25 (fun k hk => hk.2))
      clear HF27
      have HF27 := Aside0.mk (Kd.F_mono (ok' := fun k => k = b8 ∨ (okp k ∧ k < w.heap.size)) HF27b.out (fun k hk => hk.1))
      clear HF27b
      have HNEb : Aside0 (∀ k, v25.ownBlock = some k → k ≠ b8) := ⟨fun k hk => by rcases hat25 with e | ⟨b, e, hb⟩; exact HNE.out k (by rw [← e]; exact hk); (rw [e] at hk; cases hk; have := HBW8.out; omega)⟩
      clear HNE
      have HNE := HNEb
      clear HNEb
      clear hN25 hb25 hg25 hat25 HH_
      refine hK_.out _ _ (hB25) (fun hHeld => ?_)
      clear hK_
      refine norm_ (a' := ?_) ?_ ?_
      rotate_left
      · simp only [Act.put, List.setIfInBounds_toArray, List.set_cons_zero, List.set_cons_succ]
        rfl
      refine one_ (i := 9) (N := some 18) #[true, true, true, true, true, true, true, true, true, true, false, false, false] rfl rfl (by kernel_rfl) (by decide) (fun K_ hK_ => ?_)
      have HH_ := Aside0.mk hHeld
      clear hHeld
      refine Kd.N_append_rows_step k67 (w0 := w2) w2.heap.size ?hw (.tmp 15) (.tmp 17) 56 67 (.agg #[(.int .i64 0), (.int .i64 0), (.int .i64 0), (.slice none 0 0)]) 48 rfl Try.underlying56 info67c rfl (by decide) (by decide) v25 l [(⟨x0, x1, x2, x3⟩ : S67)] (some ⟨b8, 0, none⟩) 1 1 (fun k => ok k ∨ okp k ∨ w2.heap.size ≤ k) (fun k => k = b8 ∨ (okp k ∧ k < w.heap.size)) rfl rfl (Kd.N_mono HO25.out (fun k hk => hk.imp id .inr)) HF27.out (fun k hk => ⟨by rcases hk with h1 | h1; (have := HB8.out.2; exact .inr (.inr (by omega))); exact .inr (.inl h1.1), fun e => by rcases hk with h1 | h1; exact HNE.out k e.symm h1; (have h2 := Kd.N_base HO25.out k e.symm; have := HSZ.out; have := h1.2; omega)⟩) (fun k hk => .inr (.inr (Nat.le_trans HH_.out.size hk))) HH_.out HH_.out.size (by have := HL.out; omega) ?_
      case hw => rfl
      intro v28 w28 hN28 hb28 hg28 hat28
      obtain ⟨l6, hl6⟩ : ∃ l6, l ++ [(⟨x0, x1, x2, x3⟩ : S67)] = l6 := ⟨_, rfl⟩
      rw [hl6] at hN28
      have HL6 := Aside0.mk hl6
      clear hl6 hg28 hat28 HH_
      obtain ⟨A28, c28, e28⟩ := Kd.N_slice hN28
      subst e28
      have HN28 := Aside0.mk hN28
      have HB28 := Aside0.mk hb28
      clear hN28
      refine hK_.out _ _ (hb28) (fun hHeld => ?_)
      clear hK_
      refine norm_ (a' := ?_) ?_ ?_
      rotate_left
      · simp only [Act.put, List.setIfInBounds_toArray, List.set_cons_zero, List.set_cons_succ]
        rfl
      refine pure_ (i := 10) (N := some 19) (v := ?_) (a' := ?_) #[true, true, true, true, true, true, true, true, true, true, true, false, false] rfl rfl (by kernel_rfl) (fun _ _ _ h => h) (Or.inl ⟨by rfl, ?_⟩) ?_ ?_
      rotate_left
      · intro w'
        go_simp
        with_reducible rfl
      rotate_left
      · simp only [Act.put, List.setIfInBounds_toArray, List.set_cons_zero, List.set_cons_succ]
        rfl
      refine pure_ (i := 11) (N := some 20) (v := ?_) (a' := ?_) #[true, true, true, true, true, true, true, true, true, true, true, true, false] rfl rfl (by kernel_rfl) (fun _ _ _ h => h) (Or.inl ⟨by rfl, ?_⟩) ?_ ?_
      rotate_left
      · intro w'
        go_simp
        with_reducible rfl
      rotate_left
      · simp only [Act.put, List.setIfInBounds_toArray, List.set_cons_zero, List.set_cons_succ]
        rfl
      have hbk := blk_below HI3.out.blk HB28.out
      have hc6_ : w28.cell? ⟨g, 1, none⟩ = some (.slice A l.length c) := (blk_cell hbk 1).trans rfl
      have hf6_ := blk_frozen hbk 1
      have HP6 := Aside0.mk (HI3.out.put (okp := okp) (Kd.N_V (base' := 0) HN28.out) HB28.out (fun k hk => hk) HPG.out)
      refine last_store (i := 12) (w1 := w28.setCell ⟨g, 1, none⟩ (.slice A28 l6.length c28)) #[true, true, true, true, true, true, true, true, true, true, true, true, true] rfl rfl (by kernel_rfl) (by decide) (by rfl) (by first | (go_simp; done) | (go_simp; rfl)) ?_
      clear hc6_ hf6_ hbk
      refine done_ (by kernel_rfl) ?_
      have hc7_ : (w28.setCell ⟨g, 1, none⟩ (.slice A28 l6.length c28)).cell? ⟨g, 2, none⟩ = some (.bool false) := (blk_cell HP6.out.1.blk 2).trans rfl
      have hf7_ := blk_frozen HP6.out.1.blk 2
      go_wp2
      go_ret
      rw [HL6.out]
      exact ⟨rfl, _, _, HP6.out.1.end_, (MvD.from HB3.out HP6.out.2).end_⟩
  · skip
    have HH_ := Aside0.mk hHeld
    clear hHeld
    refine event_step (by rfl) (by go_simp; exact ⟨rfl, rfl⟩) ?_
    have hb8 : Below w2.heap.size w2 (w2.alloc (.cells #[.int .i64 x0, .int .i64 x1, .int .i64 x2, .slice A3 x3.length c3] 67)).drew := below_drew (below_alloc (Below.refl _ _) _)
    have hB27 : Below w2.heap.size w2 (w2.alloc (.cells #[.int .i64 x0, .int .i64 x1, .int .i64 x2, .slice A3 x3.length c3] 67)).drew := hb8
    have HF27 : Aside0 (Kd.F k67 (w2.alloc (.cells #[.int .i64 x0, .int .i64 x1, .int .i64 x2, .slice A3 x3.length c3] 67)).drew (fun k => k = w2.heap.size ∨ (okp k ∧ k < w.heap.size)) (some ⟨w2.heap.size, 0, none⟩) 1 [(⟨x0, x1, x2, x3⟩ : S67)]) := Aside0.mk (boxF (blk_new w2 (.cells #[.int .i64 x0, .int .i64 x1, .int .i64 x2, .slice A3 x3.length c3] 67)) (Kd.FK_below HK3.out hb8))
    obtain ⟨b8, hb8e⟩ : ∃ b, w2.heap.size = b := ⟨_, rfl⟩
    have HB8 : Aside0 (b8 < (w2.alloc (.cells #[.int .i64 x0, .int .i64 x1, .int .i64 x2, .slice A3 x3.length c3] 67)).drew.heap.size ∧ w2.heap.size ≤ b8) := ⟨by rw [← hb8e]; simp, by rw [← hb8e]; exact HH_.out.size⟩
    rw [hb8e] at HF27 ⊢
    generalize (w2.alloc (.cells #[.int .i64 x0, .int .i64 x1, .int .i64 x2, .slice A3 x3.length c3] 67)).drew = w27 at *
    have HB27 := Aside0.mk hB27
    clear hb8 hb8e HH_
    refine hK_.out _ _ (hB27) (fun hHeld => ?_)
    clear hK_
    refine norm_ (a' := ?_) ?_ ?_
    rotate_left
    · simp only [Act.put, List.setIfInBounds_toArray, List.set_cons_zero, List.set_cons_succ]
      rfl
    refine one_ (i := 1) (N := some 10) #[true, true, true, true, true, true, false, true, true, false, false, false, false] rfl rfl (by kernel_rfl) (by decide) (fun K_ hK_ => ?_)
    have HH_ := Aside0.mk hHeld
    clear hHeld
    refine Kd.R_lit_step k67 (w0 := w27) w27.heap.size 67 ?hw (N := 10) ?hd (xs := ([] : List S67)) (inner := []) (ok := fun _ => True) (okp := fun _ => True) ?hr ?hp (fun _ hk => hk) trivial (Below.refl _ _) (Nat.le_refl _) (by simp) ?_
    case hw => rfl
    case hd => rfl
    case hr => first | (go_simp; done) | (go_simp; rfl)
    case hp => exact Reps.none _ _
    intro v20 w20 ho1 hb1 hg1 hn1
    clear hg1 hn1
    have HO20 := Aside0.mk (Kd.N_mono (ok' := fun k => w2.heap.size ≤ k) (Kd.R_N (Kd.R_bound ho1)) (fun k hk => Nat.le_trans HH_.out.size hk.2.1))
    have HN20 := Aside0.mk (Kd.R_base ho1)
    have HB20 := Aside0.mk (below_step HH_.out hb1)
    have hB20 := HB20.out
    have HS2720 := Aside0.mk hb1.size
    have HF27b := Aside0.mk (Kd.F_below HF27.out hb1)
    clear HF27
    have HF27 := HF27b
    clear HF27b
    have HNE : Aside0 (∀ k, v20.ownBlock = some k → k ≠ b8) := ⟨fun k hk => by have h1 := HN20.out k hk; have := HB8.out; omega⟩
    clear ho1 hb1 HH_
    refine hK_.out _ _ (hB20) (fun hHeld => ?_)
    clear hK_
    refine norm_ (a' := ?_) ?_ ?_
    rotate_left
    · simp only [Act.put, List.setIfInBounds_toArray, List.set_cons_zero, List.set_cons_succ]
      rfl
    refine one_ (i := 6) (N := some 15) #[true, true, true, true, true, true, true, true, true, false, false, false, false] rfl rfl (by kernel_rfl) (by decide) (fun K_ hK_ => ?_)
    have HBL20 : Aside0 (w2.heap.size ≤ w27.heap.size) := ⟨by first | exact Nat.le_refl _ | exact HB27.out.size | exact HB20.out.size⟩
    have HBN20 := HBL20.out
    have HBW8 : Aside0 (b8 < w20.heap.size) := ⟨by have := HB8.out.1; have := HB27.out.size; have := HS2720.out; omega⟩
    have HH_ := Aside0.mk hHeld
    clear hHeld
    refine Kd.N_append_rows_step k67 (w0 := w2) w2.heap.size ?hw (.tmp 10) (.tmp 14) 56 67 (.agg #[(.int .i64 0), (.int .i64 0), (.int .i64 0), (.slice none 0 0)]) 48 rfl Try.underlying56 info67c rfl (by decide) (by decide) v20 [] l A l.length c (fun k => ok k ∨ w2.heap.size ≤ k) (fun k => ok k ∧ k < w2.heap.size) rfl rfl (Kd.N_mono (Kd.N_lower HO20.out (by first | exact HBN20 | exact Nat.le_refl _ | exact Nat.zero_le _)) (fun k hk => .inr hk)) (Kd.F_below (Kd.F_bound (dF HI3.out)) HH_.out) (fun k hk => ⟨.inl hk.1, fun e => by have h1 := HN20.out k e.symm; have := hk.2; have := HBL20.out; omega⟩) (fun k hk => .inr (Nat.le_trans HH_.out.size hk)) HH_.out HH_.out.size (by have := HL.out; simp only [List.length_nil]; omega) ?_
    case hw => rfl
    intro v25 w25 hN25 hb25 hg25 hat25
    rw [List.nil_append] at hN25
    have HO25 := Aside0.mk hN25
    have hB25 := hb25
    have HB25 := Aside0.mk hb25
    have HF27b := Aside0.mk (Kd.F_grown (Kd.F_mono (ok' := fun k => (k = b8 ∨ (okp k ∧ k < w.heap.size)) ∧ some k ≠ v20.ownBlock) HF27.out (fun k hk => ⟨hk, fun e => by rcases hk with h1 | h1; exact HNE.out k e.symm h1; (have h2 := HN20.out k e.symm; have := HBL20.out; have := HSZ.out; have := h1.2; omega)⟩)) hg25 (fun k hk => hk.2))
    clear HF27
    have HF27 := Aside0.mk (Kd.F_mono (ok' := fun k => k = b8 ∨ (okp k ∧ k < w.heap.size)) HF27b.out (fun k hk => hk.1))
    clear HF27b
    have HNEb : Aside0 (∀ k, v25.ownBlock = some k → k ≠ b8) := ⟨fun k hk => by rcases hat25 with e | ⟨b, e, hb⟩; exact HNE.out k (by rw [← e]; exact hk); (rw [e] at hk; cases hk; have := HBW8.out; omega)⟩
    clear HNE
    have HNE := HNEb
    clear HNEb
    clear hN25 hb25 hg25 hat25 HH_
    refine hK_.out _ _ (hB25) (fun hHeld => ?_)
    clear hK_
    refine norm_ (a' := ?_) ?_ ?_
    rotate_left
    · simp only [Act.put, List.setIfInBounds_toArray, List.set_cons_zero, List.set_cons_succ]
      rfl
    refine one_ (i := 9) (N := some 18) #[true, true, true, true, true, true, true, true, true, true, false, false, false] rfl rfl (by kernel_rfl) (by decide) (fun K_ hK_ => ?_)
    have HH_ := Aside0.mk hHeld
    clear hHeld
    refine Kd.N_append_rows_step k67 (w0 := w2) w2.heap.size ?hw (.tmp 15) (.tmp 17) 56 67 (.agg #[(.int .i64 0), (.int .i64 0), (.int .i64 0), (.slice none 0 0)]) 48 rfl Try.underlying56 info67c rfl (by decide) (by decide) v25 l [(⟨x0, x1, x2, x3⟩ : S67)] (some ⟨b8, 0, none⟩) 1 1 (fun k => ok k ∨ okp k ∨ w2.heap.size ≤ k) (fun k => k = b8 ∨ (okp k ∧ k < w.heap.size)) rfl rfl (Kd.N_mono HO25.out (fun k hk => hk.imp id .inr)) HF27.out (fun k hk => ⟨by rcases hk with h1 | h1; (have := HB8.out.2; exact .inr (.inr (by omega))); exact .inr (.inl h1.1), fun e => by rcases hk with h1 | h1; exact HNE.out k e.symm h1; (have h2 := Kd.N_base HO25.out k e.symm; have := HSZ.out; have := h1.2; omega)⟩) (fun k hk => .inr (.inr (Nat.le_trans HH_.out.size hk))) HH_.out HH_.out.size (by have := HL.out; omega) ?_
    case hw => rfl
    intro v28 w28 hN28 hb28 hg28 hat28
    obtain ⟨l6, hl6⟩ : ∃ l6, l ++ [(⟨x0, x1, x2, x3⟩ : S67)] = l6 := ⟨_, rfl⟩
    rw [hl6] at hN28
    have HL6 := Aside0.mk hl6
    clear hl6 hg28 hat28 HH_
    obtain ⟨A28, c28, e28⟩ := Kd.N_slice hN28
    subst e28
    have HN28 := Aside0.mk hN28
    have HB28 := Aside0.mk hb28
    clear hN28
    refine hK_.out _ _ (hb28) (fun hHeld => ?_)
    clear hK_
    refine norm_ (a' := ?_) ?_ ?_
    rotate_left
    · simp only [Act.put, List.setIfInBounds_toArray, List.set_cons_zero, List.set_cons_succ]
      rfl
    refine pure_ (i := 10) (N := some 19) (v := ?_) (a' := ?_) #[true, true, true, true, true, true, true, true, true, true, true, false, false] rfl rfl (by kernel_rfl) (fun _ _ _ h => h) (Or.inl ⟨by rfl, ?_⟩) ?_ ?_
    rotate_left
    · intro w'
      go_simp
      with_reducible rfl
    rotate_left
    · simp only [Act.put, List.setIfInBounds_toArray, List.set_cons_zero, List.set_cons_succ]
      rfl
    refine pure_ (i := 11) (N := some 20) (v := ?_) (a' := ?_) #[true, true, true, true, true, true, true, true, true, true, true, true, false] rfl rfl (by kernel_rfl) (fun _ _ _ h => h) (Or.inl ⟨by rfl, ?_⟩) ?_ ?_
    rotate_left
    · intro w'
      go_simp
      with_reducible rfl
    rotate_left
    · simp only [Act.put, List.setIfInBounds_toArray, List.set_cons_zero, List.set_cons_succ]
      rfl
    have hbk := blk_below HI3.out.blk HB28.out
    have hc6_ : w28.cell? ⟨g, 1, none⟩ = some (.slice A l.length c) := (blk_cell hbk 1).trans rfl
    have hf6_ := blk_frozen hbk 1
    have HP6 := Aside0.mk (HI3.out.put (okp := okp) (Kd.N_V (base' := 0) HN28.out) HB28.out (fun k hk => hk) HPG.out)
    refine last_store (i := 12) (w1 := w28.setCell ⟨g, 1, none⟩ (.slice A28 l6.length c28)) #[true, true, true, true, true, true, true, true, true, true, true, true, true] rfl rfl (by kernel_rfl) (by decide) (by rfl) (by first | (go_simp; done) | (go_simp; rfl)) ?_
    clear hc6_ hf6_ hbk
    refine done_ (by kernel_rfl) ?_
    have hc7_ : (w28.setCell ⟨g, 1, none⟩ (.slice A28 l6.length c28)).cell? ⟨g, 2, none⟩ = some (.bool false) := (blk_cell HP6.out.1.blk 2).trans rfl
    have hf7_ := blk_frozen HP6.out.1.blk 2
    go_wp2
    go_ret
    rw [HL6.out]
    exact ⟨rfl, _, _, HP6.out.1.end_, (MvD.from HB3.out HP6.out.2).end_⟩
end Go.Proofs.Ytbmnplojpeabmaa.QK
