/-
  CONTROL: New, Begin, Len, Ended, Pop.
  Conditions: none of its own; lemmas that the claim's row rests on.
-/
import Derived.Test.YtbmnplojpeabmaaCtA
import Derived.WalkKit
namespace Go.Proofs.Ytbmnplojpeabmaa.QK
open Go.RowKit Go.Proofs.YtbmnplojpeabmaaW.PrintWords Go.Proofs.YtbmnplojpeabmaaW.PrintLast Go.Proofs.YtbmnplojpeabmaaW.PrintMore
attribute [local go_sem] max2_int min2_int max_two min_two max_three min_three max_four min_four
set_option linter.unusedVariables false
set_option linter.unusedSimpArgs false
open Go.Proofs.Ytbmnplojpeabmaa.Ob
theorem sz67c : (Try.prog.info? 67).map (·.size) = some 4 := by kernel_rfl
theorem control_New.ok (n : Int) (w : World) (h1 : 1 ≤ n) (h2 : n ≤ 64) : Calls Try.prog 47 #[.int .i64 n] w fun e w' => ∃ g, e = .returned (.tuple #[.pointer (some ⟨g, 0, none⟩), .int .i64 0]) ∧ IsC w' g n (.slice none 0 0) [] false (fun _ => False) ∧ w.heap.size ≤ g ∧ Below w.heap.size w w' := by
  have b1 : decide (n < 1) = false := decide_eq_false (by omega)
  have b2 : decide (64 < n) = false := decide_eq_false (by omega)
  go_enter Try.func47, Try.ntmps47
  go_wp2
  go_ret2
  exact ⟨_, rfl, ⟨blk_new _ _, Kd.N_nil _ _ _ _ _, id, fun _ h => h.elim⟩, Nat.le_refl _, below_alloc (Below.refl _ _) _⟩
theorem control_New.bad (n : Int) (w : World) (h : n < 1 ∨ 64 < n) : Calls Try.prog 47 #[.int .i64 n] w fun e w' => e = .returned (.tuple #[.pointer none, .int .i64 1]) ∧ w' = w := by
  by_cases h1 : n < 1
  · have b1 : decide (n < 1) = true := decide_eq_true h1
    go_enter Try.func47, Try.ntmps47
    go_wp2
    go_ret2
    exact ⟨rfl, rfl⟩
  · have b1 : decide (n < 1) = false := decide_eq_false h1
    have b2 : decide (64 < n) = true := decide_eq_true (by omega)
    go_enter Try.func47, Try.ntmps47
    go_wp2
    go_ret2
    exact ⟨rfl, rfl⟩
theorem r19_Begin.is (n : Int) (w : World) : Calls Try.prog 48 #[.int .i64 n] w fun e w' => ∃ g, e = .returned (.pointer (some ⟨g, 0, none⟩)) ∧ IsD w' g n (.slice none 0 0) [] false (fun _ => False) ∧ w.heap.size ≤ g ∧ Below w.heap.size w w' := by
  go_enter Try.func48, Try.ntmps48
  go_wp2
  go_ret
  exact ⟨_, rfl, ⟨blk_new _ _, Kd.V_nil _ _ _ _ _, id, fun _ h => h.elim⟩, Nat.le_refl _, below_alloc (Below.refl _ _) _⟩
section
variable {w : World} {g : Nat} {room : Int} {v : Value} {l : List S67} {ended : Bool} {ok : Nat → Prop}
theorem control_Len.is (h : IsC w g room v l ended ok) : Calls Try.prog 56 #[.pointer (some ⟨g, 0, none⟩)] w fun e w' => e = .returned (.int .i64 l.length) ∧ w' = w := by
  obtain ⟨A, c, rfl⟩ := h.form
  have hc : w.cell? ⟨g, 1, none⟩ = some (.slice A l.length c) := (blk_cell h.blk 1).trans rfl
  go_enter Try.func56, Try.ntmps56
  go_wp2
  go_ret
  exact ⟨rfl, rfl⟩
theorem control_Len.none_ (w : World) : Calls Try.prog 56 #[.pointer none] w fun e w' => e = .returned (.int .i64 0) ∧ w' = w := by
  go_enter Try.func56, Try.ntmps56
  go_wp2
  go_ret
  exact ⟨rfl, rfl⟩
theorem control_Ended.is (h : IsC w g room v l ended ok) : Calls Try.prog 59 #[.pointer (some ⟨g, 0, none⟩)] w fun e w' => e = .returned (.bool ended) ∧ w' = w := by
  have hc : w.cell? ⟨g, 2, none⟩ = some (.bool ended) := (blk_cell h.blk 2).trans rfl
  go_enter Try.func59, Try.ntmps59
  go_wp2
  go_ret
  exact ⟨rfl, rfl⟩
theorem control_Ended.none_ (w : World) : Calls Try.prog 59 #[.pointer none] w fun e w' => e = .returned (.bool false) ∧ w' = w := by
  go_enter Try.func59, Try.ntmps59
  go_wp2
  go_ret
  exact ⟨rfl, rfl⟩
end
section
variable (x0 x1 x2 : Int) (A3 : Option Addr) (c3 : Nat) (x3 : List Int) (w : World)
theorem control_Push.none_ : Calls Try.prog 54 #[.pointer none, .agg #[.int .i64 x0, .int .i64 x1, .int .i64 x2, .slice A3 x3.length c3]] w fun e w' => e = .returned (.int .i64 1) ∧ Below w.heap.size w w' := by
  go_enter Try.func54, Try.ntmps54
  go_wp2
  go_ret
  exact ⟨rfl, below_alloc (Below.refl _ _) _⟩
theorem control_Last.none_ : Calls Try.prog 52 #[.pointer none, .agg #[.int .i64 x0, .int .i64 x1, .int .i64 x2, .slice A3 x3.length c3]] w fun e w' => e = .returned (.int .i64 1) ∧ Below w.heap.size w w' := by
  go_enter Try.func52, Try.ntmps52
  go_wp2
  go_ret
  exact ⟨rfl, below_alloc (Below.refl _ _) _⟩
variable (g : Nat) (room : Int) (v : Value) (l : List S67) (ok : Nat → Prop)
theorem control_Push.over (h : IsC w g room v l true ok) : Calls Try.prog 54 #[.pointer (some ⟨g, 0, none⟩), .agg #[.int .i64 x0, .int .i64 x1, .int .i64 x2, .slice A3 x3.length c3]] w fun e w' => e = .returned (.int .i64 7) ∧ Below w.heap.size w w' := by
  have hB := below_alloc (Below.refl w.heap.size w) (.cells #[.int .i64 x0, .int .i64 x1, .int .i64 x2, .slice A3 x3.length c3] 67)
  have hc := (blk_cell (h.below hB).blk 2).trans rfl
  clear hB
  go_enter Try.func54, Try.ntmps54
  go_wp2
  go_ret
  exact ⟨rfl, below_alloc (Below.refl _ _) _⟩
theorem control_Last.over (h : IsC w g room v l true ok) : Calls Try.prog 52 #[.pointer (some ⟨g, 0, none⟩), .agg #[.int .i64 x0, .int .i64 x1, .int .i64 x2, .slice A3 x3.length c3]] w fun e w' => e = .returned (.int .i64 7) ∧ Below w.heap.size w w' := by
  have hB := below_alloc (Below.refl w.heap.size w) (.cells #[.int .i64 x0, .int .i64 x1, .int .i64 x2, .slice A3 x3.length c3] 67)
  have hc := (blk_cell (h.below hB).blk 2).trans rfl
  clear hB
  go_enter Try.func52, Try.ntmps52
  go_wp2
  go_ret
  exact ⟨rfl, below_alloc (Below.refl _ _) _⟩
theorem control_Push.full (h : IsC w g room v l false ok) (hr : room ≤ (l.length : Int)) : Calls Try.prog 54 #[.pointer (some ⟨g, 0, none⟩), .agg #[.int .i64 x0, .int .i64 x1, .int .i64 x2, .slice A3 x3.length c3]] w fun e w' => e = .returned (.int .i64 4) ∧ Below w.heap.size w w' := by
  obtain ⟨A, c, rfl⟩ := h.form
  have hB := below_alloc (Below.refl w.heap.size w) (.cells #[.int .i64 x0, .int .i64 x1, .int .i64 x2, .slice A3 x3.length c3] 67)
  have hc0 := (blk_cell (h.below hB).blk 0).trans rfl
  have hc1 := (blk_cell (h.below hB).blk 1).trans rfl
  have hc2 := (blk_cell (h.below hB).blk 2).trans rfl
  have hrd : decide (room ≤ (l.length : Int)) = true := decide_eq_true hr
  clear hB
  go_enter Try.func54, Try.ntmps54
  go_wp2
  go_region
  go_wp2
  go_ret
  exact ⟨rfl, below_drew (below_alloc (Below.refl _ _) _)⟩
end
set_option maxHeartbeats 1000000 in
set_option maxRecDepth 100000 in
theorem clone67 (A : Option Addr) (c : Nat) (l : List S67) (ok : Nat → Prop) (w : World) (hF : Kd.F k67 w ok A l.length l) (hl : l.length ≤ 100000) :
    Calls Try.prog 91 #[.slice A l.length c] w fun e w' => ∃ v ok', e = .returned v ∧ Kd.N k67 67 w' w.heap.size ok' v l ∧ Below w.heap.size w w' ∧ ∀ k, ok' k → ok k ∨ w.heap.size ≤ k := by
  have HF := Aside0.mk hF
  have HL := Aside0.mk hl
  have HB := Aside0.mk (Below.refl w.heap.size w)
  clear hl
  cases A with
  | none =>
    obtain rfl : l = [] := by
      rcases Nat.eq_zero_or_pos l.length with h0 | h0
      · exact List.eq_nil_of_length_eq_zero h0
      · obtain ⟨ad, e, _⟩ := (Kd.F_now hF).2.2 h0
        cases e
    clear hF
    have he : ∀ W : World, (binOp .eql 56 (.slice none 0 c) (.slice none 0 0)).run Try.prog W = .ok (.bool true) W := fun W => Lib.run_eql_slice_nil (P := Try.prog) W 56 67 none 0 c 0 0 Try.underlying56
    go_enter Try.func91, Try.ntmps91
    go_wp2_with fail
    go_ret
    exact ⟨_, fun _ => False, rfl, Kd.N_nil _ _ _ _ _, Below.refl _ _, fun _ h => h.elim⟩
  | some ad =>
    clear hF
    have he : ∀ W : World, (binOp .eql 56 (.slice (some ad) l.length c) (.slice none 0 0)).run Try.prog W = .ok (.bool false) W := fun W => Lib.run_eql_slice_nil (P := Try.prog) W 56 67 (some ad) l.length c 0 0 Try.underlying56
    go_enter Try.func91, Try.ntmps91
    go_wp2_with (first
      | ((with_reducible refine gate_dst (N := 5) rfl ?_); refine Kd.R_lit k67 _ 67 ?hg (N := 5) ?hd (xs := ([] : List S67)) (inner := []) (ok := fun _ => True) (okp := fun _ => True) ?hr ?hp (fun _ hk => hk) trivial (Below.refl _ _) (Nat.le_refl _) (by simp) ?_; (case hd => rfl); (case hg => rfl); (case hr => first | (go_simp; done) | (go_simp; rfl)); (case hp => exact Reps.none _ _); intro v1 w1 ho1 hb1 hg1 hn1; clear hg1 hn1; have HO1 := Aside0.mk (Kd.N_mono (ok' := fun k => ok k ∨ w.heap.size ≤ k) (Kd.R_N (Kd.R_bound ho1)) (fun k hk => .inr hk.2.1)); have HN1 := Aside0.mk (Kd.R_base ho1); have HB1 := Aside0.mk hb1; clear ho1 hb1)
      | ((with_reducible refine gate_builtin (b := .append) (xs := #[.tmp 5, .tmp 6]) rfl ?_); at_builtin; refine Kd.N_append_rows k67 (w0 := w) w.heap.size rfl (.tmp 5) (.tmp 6) 56 67 (.agg #[(.int .i64 0), (.int .i64 0), (.int .i64 0), (.slice none 0 0)]) 48 rfl Try.underlying56 info67c rfl (by decide) (by omega) v1 [] l _ _ _ (fun k => ok k ∨ w.heap.size ≤ k) (fun k => ok k ∧ k < w.heap.size) rfl rfl HO1.out (Kd.F_below (Kd.F_bound HF.out) HB1.out) (fun k hk => ⟨.inl hk.1, fun e => by have := HN1.out k e.symm; have := hk.2; omega⟩) (fun k hk => .inr (Nat.le_trans (below_size HB1.out) hk)) HB1.out (below_size HB1.out) (by have := HL.out; simp only [List.length_nil]; omega) ?_; intro v2 w2 ho2 hb2 hg2 hat2))
    go_ret
    exact ⟨_, _, rfl, by simpa using ho2, hb2, fun _ h => h⟩
theorem four_sets {W : World} {b t : Nat} {z0 z1 z2 z3 y0 y1 y2 y3 : Value} (hz : W.heap[b]? = some (.cells #[z0, z1, z2, z3] t (0, 0))) :
    ((((W.setCell ⟨b, 0, none⟩ y0).setCell ⟨b, 1, none⟩ y1).setCell ⟨b, 2, none⟩ y2).setCell ⟨b, 3, none⟩ y3).heap[b]? = some (.cells #[y0, y1, y2, y3] t (0, 0)) ∧ Keeps W ((((W.setCell ⟨b, 0, none⟩ y0).setCell ⟨b, 1, none⟩ y1).setCell ⟨b, 2, none⟩ y2).setCell ⟨b, 3, none⟩ y3) (One b) :=
  ⟨(blk_put (blk_put (blk_put (blk_put hz 0 y0 rfl) 1 y1 rfl) 2 y2 rfl) 3 y3 rfl).trans rfl, ((((Keeps.refl W (One b)).set (.inl rfl) 0 y0).set (.inl rfl) 1 y1).set (.inl rfl) 2 y2).set (.inl rfl) 3 y3⟩
set_option maxHeartbeats 4000000 in
set_option maxRecDepth 100000 in
theorem control_Pop.is (x : S67) (l : List S67) (w : World) (g : Nat) (room : Int) (v : Value) (ended : Bool) (ok : Nat → Prop) (h : IsC w g room v (x :: l) ended ok) (hl : l.length ≤ 10000) :
    Calls Try.prog 49 #[.pointer (some ⟨g, 0, none⟩)] w fun e w' => ∃ A3 c3 v' ok', e = .returned (.tuple #[.agg #[.int .i64 x.f0, .int .i64 x.f1, .int .i64 x.f2, .slice A3 x.f3.length c3], .bool true]) ∧ x.f3.length ≤ c3 ∧ Kd.F (Kd.int .u8) w' ok A3 x.f3.length x.f3 ∧ IsC w' g room v' l ended ok' ∧ MvC w g v ok w' v' ok' ∧ ∀ k, v'.ownBlock = some k → w.heap.size ≤ k := by
  have hu67 := Try.underlying67
  obtain ⟨A, c, rfl⟩ := h.form
  have hF : Kd.F k67 w ok A (x :: l).length (x :: l) := Kd.N_F h.row
  obtain ⟨ad, cs, rfl, hcl, hK, hcell, _⟩ := Kd.F_get hF x 0 (by omega) (by first | (simp; done) | (simp; omega))
  have hle := (Kd.N_reads' h.row).2.1
  have hx0 : (x :: l).getD (0 : Int).toNat x = x := rfl
  rw [hx0] at hK
  obtain ⟨A3, c3, rfl, hc3, _⟩ := k67_open (Kd.FK_now hK)
  have hF3 : Kd.F (Kd.int .u8) w ok A3 x.f3.length x.f3 := fun W' hW => by
    obtain ⟨A4, c4, e, _, hC⟩ := k67_open (hK W' hW)
    simp only [List.cons.injEq, and_true, true_and, Value.slice.injEq] at e
    obtain ⟨rfl, _⟩ := e
    exact hC
  obtain ⟨x0, x1, x2, x3⟩ := x
  simp only [] at hcl hK hcell hc3 hF3 hx0 ⊢
  have y0 : w.cell? ad = some (.int .i64 x0) := by have := hcell 0 _ rfl; simpa [Addr.add_zero'] using this
  have y1 : w.cell? ⟨ad.block, ad.off + 1, none⟩ = some (.int .i64 x1) := by have := hcell 1 _ rfl; rw [show (0 : Int).toNat * k67.sz + 1 = 0 + 1 from rfl, add_field _ _ _ (by omega)] at this; simpa [Addr.add_zero'] using this
  have y2 : w.cell? ⟨ad.block, ad.off + 2, none⟩ = some (.int .i64 x2) := by have := hcell 2 _ rfl; rw [show (0 : Int).toNat * k67.sz + 2 = 0 + 2 from rfl, add_field _ _ _ (by omega)] at this; simpa [Addr.add_zero'] using this
  have y3 : w.cell? ⟨ad.block, ad.off + 3, none⟩ = some (.slice A3 x3.length c3) := by have := hcell 3 _ rfl; rw [show (0 : Int).toNat * k67.sz + 3 = 0 + 3 from rfl, add_field _ _ _ (by omega)] at this; simpa [Addr.add_zero'] using this
  have HI := Aside0.mk h
  have HF3 := Aside0.mk hF3
  have HFF := Aside0.mk hF
  have hB1 := below_alloc (Below.refl w.heap.size w) (.cells #[.int .i64 0, .int .i64 0, .int .i64 0, .slice none 0 0] 67)
  have hB2 := below_step hB1 (below_alloc (Below.refl _ _) (.cells #[.int .i64 x0, .int .i64 x1, .int .i64 x2, .slice A3 x3.length c3] 67))
  have z0 := (hB1.cell (World.block_lt_of_cell? w _ y0)).trans y0
  have z1 := (hB1.cell (World.block_lt_of_cell? w _ y1)).trans y1
  have z2 := (hB1.cell (World.block_lt_of_cell? w _ y2)).trans y2
  have z3 := (hB1.cell (World.block_lt_of_cell? w _ y3)).trans y3
  have b1 : (w.alloc (.cells #[.int .i64 0, .int .i64 0, .int .i64 0, .slice none 0 0] 67)).cell? ⟨g, 1, none⟩ = some (.slice (some ad) (l.length + 1) c) := (blk_cell (h.below hB1).blk 1).trans rfl
  have b2 : ((w.alloc (.cells #[.int .i64 0, .int .i64 0, .int .i64 0, .slice none 0 0] 67)).alloc (.cells #[.int .i64 x0, .int .i64 x1, .int .i64 x2, .slice A3 x3.length c3] 67)).cell? ⟨g, 1, none⟩ = some (.slice (some ad) (l.length + 1) c) := (blk_cell (h.below hB2).blk 1).trans rfl
  have HB2 := Aside0.mk hB2
  have hle2 : l.length + 1 ≤ c := hle
  have q1 : ((0 : Int) < (l.length : Int) + 1) = True := eq_true (by omega)
  have e1 : (((l.length : Int) + 1) == 0) = false := beq_eq_false_iff_ne.mpr (by omega)
  clear hB1 hB2 y0 y1 y2 y3 h hF hF3 hcl hK hcell hx0 hle
  have fin : ∀ (A' : Option Addr) (cc : Nat), Kd.F k67 w ok A' l.length l → ∀ W2, Below w.heap.size w W2 → W2.heap[w.heap.size + 1]? = some (.cells #[.int .i64 x0, .int .i64 x1, .int .i64 x2, .slice A3 x3.length c3] 67 (0, 0)) → W2.heap[w.heap.size]? = some (.cells #[.int .i64 0, .int .i64 0, .int .i64 0, .slice none 0 0] 67 (0, 0)) →
      Calls Try.prog 91 #[.slice A' l.length cc] W2 fun e w3 => ∃ A6 c6 ok6, e = .returned (.slice A6 l.length c6) ∧ Below w.heap.size w w3 ∧ w3.heap[w.heap.size + 1]? = some (.cells #[.int .i64 x0, .int .i64 x1, .int .i64 x2, .slice A3 x3.length c3] 67 (0, 0)) ∧ w3.heap[w.heap.size]? = some (.cells #[.int .i64 0, .int .i64 0, .int .i64 0, .slice none 0 0] 67 (0, 0)) ∧ IsC (w3.setCell ⟨g, 1, none⟩ (.slice A6 l.length c6)) g room (.slice A6 l.length c6) l ended ok6 ∧ (∀ k, (Value.slice A6 l.length c6).ownBlock = some k → w.heap.size ≤ k) ∧ (∀ k, ok6 k → ok k ∨ w.heap.size ≤ k) ∧ ¬ ok6 w.heap.size := by
    intro A' cc hFT W2 hB hx hz
    have hs1 : w.heap.size + 1 < W2.heap.size := blk_lt hx
    refine (clone67 A' cc l ok W2 (Kd.F_below hFT hB) (by omega)).mono ?_
    rintro e w3 ⟨v6, ok6, rfl, hN, hB3, hok⟩
    have hb3 := below_step hB hB3
    have hbase := Kd.N_base hN
    obtain ⟨A6, c6, rfl⟩ := Kd.N_slice hN
    have hput := HI.out.put (Kd.N_lower hN (Nat.zero_le _)) (blk_below HI.out.blk hb3) (Keeps.of_below hb3 _) (fun k hk => .inr (by have := hbase k hk; omega)) (fun k hk => (hok k hk).imp id (fun h => by omega))
    refine ⟨A6, c6, _, rfl, hb3, blk_below hx hB3, blk_below hz hB3, hput.1, fun k hk => by have := hbase k hk; omega, fun k hk => (hok k hk.1).imp id (fun h => by omega), fun hk => ?_⟩
    rcases hok _ hk.1 with h1 | h1
    · have := HI.out.lt _ h1; omega
    · omega
  have HFIN := Aside0.mk fin
  clear fin
  by_cases hc1 : c = 1
  · subst hc1
    have hl0 : l = [] := List.eq_nil_of_length_eq_zero (by omega)
    subst hl0
    have HFT : Aside0 (Kd.F k67 w ok (some ad) ([] : List S67).length []) := ⟨fun W' _ => ⟨rfl, by simp, fun h => absurd h (Nat.lt_irrefl 0)⟩⟩
    go_enter Try.func49, Try.ntmps49
    go_wp2_with (go_at_call 91; refine (HFIN.out _ _ HFT.out _ HB2.out (by have h_ := blk_new (w.alloc (.cells #[.int .i64 0, .int .i64 0, .int .i64 0, .slice none 0 0] 67)) (.cells #[.int .i64 x0, .int .i64 x1, .int .i64 x2, .slice A3 x3.length c3] 67); rw [World.size_alloc] at h_; exact h_) (blk_below (blk_new w _) (below_alloc (Below.refl _ _) _))).mono ?_; rintro e_ w3 ⟨A6, c6, ok6, rfl, hb3, hx3, hz3, hI3, hn3, ho3, hm3⟩; have g1_ : w3.cell? ⟨g, 1, none⟩ = some (.slice (some ad) 1 1) := (blk_cell (blk_below HI.out.blk hb3) 1).trans rfl; have g2_ := blk_frozen (blk_below HI.out.blk hb3) 1; have HI3 := Aside0.mk hI3; have HX3 := Aside0.mk hx3; have HZ3 := Aside0.mk hz3; have HB3 := Aside0.mk hb3; have HN3 := Aside0.mk hn3; have HO3 := Aside0.mk ho3; have HM3 := Aside0.mk hm3; have hgz : g ≠ w.heap.size := (by have := blk_lt HI.out.blk; omega); have hgz1 : g ≠ w.heap.size + 1 := (by have := blk_lt HI.out.blk; omega); have d0_ : w3.cell? ⟨w.heap.size + 1, 0, none⟩ = some (.int .i64 x0) := (blk_cell hx3 0).trans rfl; have d1_ : w3.cell? ⟨w.heap.size + 1, 1, none⟩ = some (.int .i64 x1) := (blk_cell hx3 1).trans rfl; have d2_ : w3.cell? ⟨w.heap.size + 1, 2, none⟩ = some (.int .i64 x2) := (blk_cell hx3 2).trans rfl; have d3_ : w3.cell? ⟨w.heap.size + 1, 3, none⟩ = some (.slice A3 x3.length c3) := (blk_cell hx3 3).trans rfl; have k0_ : w3.cell? ⟨w.heap.size, 0, none⟩ = some (.int .i64 0) := (blk_cell hz3 0).trans rfl; have k1_ : w3.cell? ⟨w.heap.size, 1, none⟩ = some (.int .i64 0) := (blk_cell hz3 1).trans rfl; have k2_ : w3.cell? ⟨w.heap.size, 2, none⟩ = some (.int .i64 0) := (blk_cell hz3 2).trans rfl; have k3_ : w3.cell? ⟨w.heap.size, 3, none⟩ = some (.slice none 0 0) := (blk_cell hz3 3).trans rfl; have k4_ := blk_frozen hz3 0; have k5_ := blk_frozen hz3 1; have k6_ := blk_frozen hz3 2; have k7_ := blk_frozen hz3 3; clear hb3 hx3 hz3 hI3 hn3 ho3 hm3)
    have hfs := four_sets (y0 := .int .i64 x0) (y1 := .int .i64 x1) (y2 := .int .i64 x2) (y3 := .slice A3 x3.length c3) ((blk_far HZ3.out (p := ⟨g, 1, none⟩) (fun e => hgz e.symm) (.slice A6 0 c6)) : (w3.setCell ⟨g, 1, none⟩ (.slice A6 0 c6)).heap[w.heap.size]? = _)
    refine bodyPost_ret (results_ct rfl _ _ w.heap.size 67 _ (0, 0) _ rfl hfs.1 Try.underlying67 rfl sz67c) rfl ?_
    have hk5 : Keeps w ((((w3.setCell ⟨g, 1, none⟩ (.slice A6 0 c6)).setCell ⟨w.heap.size, 0, none⟩ (.int .i64 x0)).setCell ⟨w.heap.size, 1, none⟩ (.int .i64 x1)).setCell ⟨w.heap.size, 2, none⟩ (.int .i64 x2) |>.setCell ⟨w.heap.size, 3, none⟩ (.slice A3 x3.length c3)) (One g) := ((Keeps.of_below HB3.out (One g)).set (.inl rfl) 1 _).then_ hfs.2 (fun i hi => .inr (Nat.le_of_eq hi.symm))
    refine ⟨A3, c3, _, ok6, rfl, hc3, Kd.F_step HF3.out (fun k hk hlt => hk5.block k hlt (fun e => HI.out.ng (by rw [show k = g from e] at hk; exact hk))), HI3.out.keeps hfs.2 (fun k hk e => ?_), ⟨hk5.mono (fun k e => .inl e), fun k hk => .inr (HN3.out k hk), HO3.out⟩, HN3.out⟩
    rcases hk with h1 | h1
    · exact hgz (h1.symm.trans e)
    · rw [show k = w.heap.size from e] at h1; exact HM3.out h1
  · have HFT : Aside0 (Kd.F k67 w ok (some ⟨ad.block, ad.off + 4, none⟩) l.length l) := ⟨fun W' hW => by
      have hd := Kd.C_drop (HFF.out W' hW) (show 1 ≤ (⟨x0, x1, x2, x3⟩ :: l : List S67).length by simp) hle2
      rw [if_neg hc1] at hd
      have e4 : (Option.map (fun x => Addr.add x (1 * k67.sz)) (some ad)) = some ⟨ad.block, ad.off + 4, none⟩ := by
        rw [show 1 * k67.sz = 4 from rfl]
        simp [Addr.add]
      rw [e4] at hd
      simpa using hd⟩
    have hc1b : (c == 1) = false := beq_eq_false_iff_ne.mpr hc1
    go_enter Try.func49, Try.ntmps49
    go_wp2_with (go_at_call 91; refine (HFIN.out _ _ HFT.out _ HB2.out (by have h_ := blk_new (w.alloc (.cells #[.int .i64 0, .int .i64 0, .int .i64 0, .slice none 0 0] 67)) (.cells #[.int .i64 x0, .int .i64 x1, .int .i64 x2, .slice A3 x3.length c3] 67); rw [World.size_alloc] at h_; exact h_) (blk_below (blk_new w _) (below_alloc (Below.refl _ _) _))).mono ?_; rintro e_ w3 ⟨A6, c6, ok6, rfl, hb3, hx3, hz3, hI3, hn3, ho3, hm3⟩; have g1_ : w3.cell? ⟨g, 1, none⟩ = some (.slice (some ad) (l.length + 1) c) := (blk_cell (blk_below HI.out.blk hb3) 1).trans rfl; have g2_ := blk_frozen (blk_below HI.out.blk hb3) 1; have HI3 := Aside0.mk hI3; have HX3 := Aside0.mk hx3; have HZ3 := Aside0.mk hz3; have HB3 := Aside0.mk hb3; have HN3 := Aside0.mk hn3; have HO3 := Aside0.mk ho3; have HM3 := Aside0.mk hm3; have hgz : g ≠ w.heap.size := (by have := blk_lt HI.out.blk; omega); have hgz1 : g ≠ w.heap.size + 1 := (by have := blk_lt HI.out.blk; omega); have d0_ : w3.cell? ⟨w.heap.size + 1, 0, none⟩ = some (.int .i64 x0) := (blk_cell hx3 0).trans rfl; have d1_ : w3.cell? ⟨w.heap.size + 1, 1, none⟩ = some (.int .i64 x1) := (blk_cell hx3 1).trans rfl; have d2_ : w3.cell? ⟨w.heap.size + 1, 2, none⟩ = some (.int .i64 x2) := (blk_cell hx3 2).trans rfl; have d3_ : w3.cell? ⟨w.heap.size + 1, 3, none⟩ = some (.slice A3 x3.length c3) := (blk_cell hx3 3).trans rfl; have k0_ : w3.cell? ⟨w.heap.size, 0, none⟩ = some (.int .i64 0) := (blk_cell hz3 0).trans rfl; have k1_ : w3.cell? ⟨w.heap.size, 1, none⟩ = some (.int .i64 0) := (blk_cell hz3 1).trans rfl; have k2_ : w3.cell? ⟨w.heap.size, 2, none⟩ = some (.int .i64 0) := (blk_cell hz3 2).trans rfl; have k3_ : w3.cell? ⟨w.heap.size, 3, none⟩ = some (.slice none 0 0) := (blk_cell hz3 3).trans rfl; have k4_ := blk_frozen hz3 0; have k5_ := blk_frozen hz3 1; have k6_ := blk_frozen hz3 2; have k7_ := blk_frozen hz3 3; clear hb3 hx3 hz3 hI3 hn3 ho3 hm3)
    have hfs := four_sets (y0 := .int .i64 x0) (y1 := .int .i64 x1) (y2 := .int .i64 x2) (y3 := .slice A3 x3.length c3) ((blk_far HZ3.out (p := ⟨g, 1, none⟩) (fun e => hgz e.symm) (.slice A6 l.length c6)) : (w3.setCell ⟨g, 1, none⟩ (.slice A6 l.length c6)).heap[w.heap.size]? = _)
    refine bodyPost_ret (results_ct rfl _ _ w.heap.size 67 _ (0, 0) _ rfl hfs.1 Try.underlying67 rfl sz67c) rfl ?_
    have hk5 : Keeps w ((((w3.setCell ⟨g, 1, none⟩ (.slice A6 l.length c6)).setCell ⟨w.heap.size, 0, none⟩ (.int .i64 x0)).setCell ⟨w.heap.size, 1, none⟩ (.int .i64 x1)).setCell ⟨w.heap.size, 2, none⟩ (.int .i64 x2) |>.setCell ⟨w.heap.size, 3, none⟩ (.slice A3 x3.length c3)) (One g) := ((Keeps.of_below HB3.out (One g)).set (.inl rfl) 1 _).then_ hfs.2 (fun i hi => .inr (Nat.le_of_eq hi.symm))
    refine ⟨A3, c3, _, ok6, rfl, hc3, Kd.F_step HF3.out (fun k hk hlt => hk5.block k hlt (fun e => HI.out.ng (by rw [show k = g from e] at hk; exact hk))), HI3.out.keeps hfs.2 (fun k hk e => ?_), ⟨hk5.mono (fun k e => .inl e), fun k hk => .inr (HN3.out k hk), HO3.out⟩, HN3.out⟩
    rcases hk with h1 | h1
    · exact hgz (h1.symm.trans e)
    · rw [show k = w.heap.size from e] at h1; exact HM3.out h1
theorem control_Pop.empty (w : World) (g : Nat) (room : Int) (v : Value) (ended : Bool) (ok : Nat → Prop) (h : IsC w g room v [] ended ok) :
    Calls Try.prog 49 #[.pointer (some ⟨g, 0, none⟩)] w fun e w' => e = .returned (.tuple #[.agg #[.int .i64 0, .int .i64 0, .int .i64 0, .slice none 0 0], .bool false]) ∧ Below w.heap.size w w' := by
  have hu67 := Try.underlying67
  obtain ⟨A, c, rfl⟩ := h.form
  have hB1 := below_alloc (Below.refl w.heap.size w) (.cells #[.int .i64 0, .int .i64 0, .int .i64 0, .slice none 0 0] 67)
  have b1 : (w.alloc (.cells #[.int .i64 0, .int .i64 0, .int .i64 0, .slice none 0 0] 67)).cell? ⟨g, 1, none⟩ = some (.slice A 0 c) := (blk_cell (h.below hB1).blk 1).trans rfl
  clear hB1
  go_enter Try.func49, Try.ntmps49
  go_wp2
  refine bodyPost_ret (results_ct rfl _ _ w.heap.size 67 _ (0, 0) _ rfl (blk_new w _) Try.underlying67 rfl sz67c) rfl ?_
  exact ⟨rfl, below_alloc (Below.refl _ _) _⟩
theorem control_Pop.none_ (w : World) :
    Calls Try.prog 49 #[.pointer none] w fun e w' => e = .returned (.tuple #[.agg #[.int .i64 0, .int .i64 0, .int .i64 0, .slice none 0 0], .bool false]) ∧ Below w.heap.size w w' := by
  have hu67 := Try.underlying67
  go_enter Try.func49, Try.ntmps49
  go_wp2
  refine bodyPost_ret (results_ct rfl _ _ w.heap.size 67 _ (0, 0) _ rfl (blk_new w _) Try.underlying67 rfl sz67c) rfl ?_
  exact ⟨rfl, below_alloc (Below.refl _ _) _⟩
section
variable (x0 x1 x2 : Int) (A3 : Option Addr) (c3 : Nat) (x3 : List Int) (w : World) (g : Nat) (room : Int) (v : Value) (l : List S67) (ok : Nat → Prop)
theorem r19_Push.over (h : IsD w g room v l true ok) : Calls Try.prog 55 #[.pointer (some ⟨g, 0, none⟩), .agg #[.int .i64 x0, .int .i64 x1, .int .i64 x2, .slice A3 x3.length c3]] w fun e w' => e = .returned (.int .i64 7) ∧ Below w.heap.size w w' := by
  have hB := below_alloc (Below.refl w.heap.size w) (.cells #[.int .i64 x0, .int .i64 x1, .int .i64 x2, .slice A3 x3.length c3] 67)
  have hc := (blk_cell (h.below hB).blk 2).trans rfl
  clear hB
  go_enter Try.func55, Try.ntmps55
  go_wp2
  go_ret
  exact ⟨rfl, below_alloc (Below.refl _ _) _⟩
theorem r19_Last.over (h : IsD w g room v l true ok) : Calls Try.prog 53 #[.pointer (some ⟨g, 0, none⟩), .agg #[.int .i64 x0, .int .i64 x1, .int .i64 x2, .slice A3 x3.length c3]] w fun e w' => e = .returned (.int .i64 7) ∧ Below w.heap.size w w' := by
  have hB := below_alloc (Below.refl w.heap.size w) (.cells #[.int .i64 x0, .int .i64 x1, .int .i64 x2, .slice A3 x3.length c3] 67)
  have hc := (blk_cell (h.below hB).blk 2).trans rfl
  clear hB
  go_enter Try.func53, Try.ntmps53
  go_wp2
  go_ret
  exact ⟨rfl, below_alloc (Below.refl _ _) _⟩
theorem r19_Push.full (h : IsD w g room v l false ok) (hr : room ≤ (l.length : Int)) : Calls Try.prog 55 #[.pointer (some ⟨g, 0, none⟩), .agg #[.int .i64 x0, .int .i64 x1, .int .i64 x2, .slice A3 x3.length c3]] w fun e w' => e = .returned (.int .i64 4) ∧ Below w.heap.size w w' := by
  obtain ⟨A, c, rfl⟩ := h.form
  have hB := below_alloc (Below.refl w.heap.size w) (.cells #[.int .i64 x0, .int .i64 x1, .int .i64 x2, .slice A3 x3.length c3] 67)
  have hc0 := (blk_cell (h.below hB).blk 0).trans rfl
  have hc1 := (blk_cell (h.below hB).blk 1).trans rfl
  have hc2 := (blk_cell (h.below hB).blk 2).trans rfl
  have hrd : decide (room ≤ (l.length : Int)) = true := decide_eq_true hr
  clear hB
  go_enter Try.func55, Try.ntmps55
  go_wp2
  go_region
  go_wp2
  go_ret
  exact ⟨rfl, below_drew (below_alloc (Below.refl _ _) _)⟩
end
/-- What the document's Pop hands back of a queue that has one. -/
def PopD (x : S67) (l : List S67) (w : World) (g : Nat) (room : Int) (ended : Bool) (ok : Nat → Prop) (e : Ending) (w' : World) : Prop :=
  ∃ A3 c3 v' ok', e = .returned (.tuple #[.agg #[.int .i64 x.f0, .int .i64 x.f1, .int .i64 x.f2, .slice A3 x.f3.length c3], .bool true]) ∧ x.f3.length ≤ c3 ∧ Kd.F (Kd.int .u8) w' ok A3 x.f3.length x.f3 ∧ IsD w' g room v' l ended ok' ∧ MvD w g ok (fun _ => False) w' ok'
set_option maxHeartbeats 4000000 in
set_option maxRecDepth 100000 in
theorem r19_Pop.is (x : S67) (l : List S67) (w : World) (g : Nat) (room : Int) (v : Value) (ended : Bool) (ok : Nat → Prop) (h : IsD w g room v (x :: l) ended ok) (hl : l.length ≤ 10000) :
    Calls Try.prog 50 #[.pointer (some ⟨g, 0, none⟩)] w fun e w' => PopD x l w g room ended ok e w' := by
  have hu67 := Try.underlying67
  obtain ⟨A, c, rfl⟩ := h.form
  have hF : Kd.F k67 w ok A (x :: l).length (x :: l) := Kd.V_F h.row
  obtain ⟨ad, cs, rfl, hcl, hK, hcell, _⟩ := Kd.F_get hF x 0 (by omega) (by first | (simp; done) | (simp; omega))
  have hle := (Kd.V_reads' h.row).2.1
  have hx0 : (x :: l).getD (0 : Int).toNat x = x := rfl
  rw [hx0] at hK
  obtain ⟨A3, c3, rfl, hc3, _⟩ := k67_open (Kd.FK_now hK)
  have hF3 : Kd.F (Kd.int .u8) w ok A3 x.f3.length x.f3 := fun W' hW => by
    obtain ⟨A4, c4, e, _, hC⟩ := k67_open (hK W' hW)
    simp only [List.cons.injEq, and_true, true_and, Value.slice.injEq] at e
    obtain ⟨rfl, _⟩ := e
    exact hC
  obtain ⟨x0, x1, x2, x3⟩ := x
  simp only [] at hcl hK hcell hc3 hF3 hx0 ⊢
  have y0 : w.cell? ad = some (.int .i64 x0) := by have := hcell 0 _ rfl; simpa [Addr.add_zero'] using this
  have y1 : w.cell? ⟨ad.block, ad.off + 1, none⟩ = some (.int .i64 x1) := by have := hcell 1 _ rfl; rw [show (0 : Int).toNat * k67.sz + 1 = 0 + 1 from rfl, add_field _ _ _ (by omega)] at this; simpa [Addr.add_zero'] using this
  have y2 : w.cell? ⟨ad.block, ad.off + 2, none⟩ = some (.int .i64 x2) := by have := hcell 2 _ rfl; rw [show (0 : Int).toNat * k67.sz + 2 = 0 + 2 from rfl, add_field _ _ _ (by omega)] at this; simpa [Addr.add_zero'] using this
  have y3 : w.cell? ⟨ad.block, ad.off + 3, none⟩ = some (.slice A3 x3.length c3) := by have := hcell 3 _ rfl; rw [show (0 : Int).toNat * k67.sz + 3 = 0 + 3 from rfl, add_field _ _ _ (by omega)] at this; simpa [Addr.add_zero'] using this
  have HI := Aside0.mk h
  have HF3 := Aside0.mk hF3
  have HFF := Aside0.mk hF
  have hB1 := below_alloc (Below.refl w.heap.size w) (.cells #[.int .i64 0, .int .i64 0, .int .i64 0, .slice none 0 0] 67)
  have hB2 := below_step hB1 (below_alloc (Below.refl _ _) (.cells #[.int .i64 x0, .int .i64 x1, .int .i64 x2, .slice A3 x3.length c3] 67))
  have z0 := (hB1.cell (World.block_lt_of_cell? w _ y0)).trans y0
  have z1 := (hB1.cell (World.block_lt_of_cell? w _ y1)).trans y1
  have z2 := (hB1.cell (World.block_lt_of_cell? w _ y2)).trans y2
  have z3 := (hB1.cell (World.block_lt_of_cell? w _ y3)).trans y3
  have b1 : (w.alloc (.cells #[.int .i64 0, .int .i64 0, .int .i64 0, .slice none 0 0] 67)).cell? ⟨g, 1, none⟩ = some (.slice (some ad) (l.length + 1) c) := (blk_cell (h.below hB1).blk 1).trans rfl
  have b2 : ((w.alloc (.cells #[.int .i64 0, .int .i64 0, .int .i64 0, .slice none 0 0] 67)).alloc (.cells #[.int .i64 x0, .int .i64 x1, .int .i64 x2, .slice A3 x3.length c3] 67)).cell? ⟨g, 1, none⟩ = some (.slice (some ad) (l.length + 1) c) := (blk_cell (h.below hB2).blk 1).trans rfl
  have b3 := blk_frozen (h.below hB2).blk 1
  have HB2 := Aside0.mk hB2
  have hle2 : l.length + 1 ≤ c := hle
  have q1 : ((0 : Int) < (l.length : Int) + 1) = True := eq_true (by omega)
  have e1 : (((l.length : Int) + 1) == 0) = false := beq_eq_false_iff_ne.mpr (by omega)
  have hgz : g ≠ w.heap.size := by have := blk_lt h.blk; omega
  have hgz1 : g ≠ w.heap.size + 1 := by have := blk_lt h.blk; omega
  clear hB1 hB2 y0 y1 y2 y3 h hF hF3 hcl hK hcell hx0 hle
  by_cases hc1 : c = 1
  · subst hc1
    have hl0 : l = [] := List.eq_nil_of_length_eq_zero (by omega)
    subst hl0
    have HFT : Aside0 (Kd.F k67 w ok (some ad) ([] : List S67).length []) := ⟨fun W' _ => ⟨rfl, by simp, fun h => absurd h (Nat.lt_irrefl 0)⟩⟩
    go_enter Try.func50, Try.ntmps50
    go_wp2
    have hp := HI.out.put (okf := fun k => ok k ∧ k < w.heap.size) (okp := fun _ => False) (Kd.V_mk (e := 67) (base := 0) (c := 0) (by first | exact Nat.le_refl _ | (simp; done) | omega) (Kd.F_below (Kd.F_bound HFT.out) HB2.out)) HB2.out (fun k hk => .inl hk.1) id
    have hz2 : ((w.alloc (.cells #[.int .i64 0, .int .i64 0, .int .i64 0, .slice none 0 0] 67)).alloc (.cells #[.int .i64 x0, .int .i64 x1, .int .i64 x2, .slice A3 x3.length c3] 67)).heap[w.heap.size]? = some (.cells #[.int .i64 0, .int .i64 0, .int .i64 0, .slice none 0 0] 67 (0, 0)) := blk_below (blk_new w _) (below_alloc (Below.refl _ _) _)
    have hfs := four_sets (y0 := .int .i64 x0) (y1 := .int .i64 x1) (y2 := .int .i64 x2) (y3 := .slice A3 x3.length c3) (blk_far hz2 (p := ⟨g, 1, none⟩) (fun e => hgz e.symm) (.slice (some ad) 0 0))
    refine bodyPost_ret (results_ct rfl _ _ w.heap.size 67 _ (0, 0) _ rfl hfs.1 Try.underlying67 rfl sz67c) rfl ?_
    have hk5 := hp.2.1.then_ hfs.2 (fun i hi => .inr (Nat.le_of_eq hi.symm))
    refine ⟨A3, c3, _, _, rfl, hc3, Kd.F_step HF3.out (fun k hk hlt => hk5.block k hlt (fun e => HI.out.ng (by rw [show k = g from e] at hk; exact hk))), hp.1.keeps hfs.2 (fun k hk e => ?_), hk5, hp.2.2⟩
    rcases hk with h1 | h1
    · exact hgz (h1.symm.trans e)
    · rw [show k = w.heap.size from e] at h1; exact Nat.lt_irrefl _ h1.1.2
  · have HFT : Aside0 (Kd.F k67 w ok (some ⟨ad.block, ad.off + 4, none⟩) l.length l) := ⟨fun W' hW => by
      have hd := Kd.C_drop (HFF.out W' hW) (show 1 ≤ (⟨x0, x1, x2, x3⟩ :: l : List S67).length by simp) hle2
      rw [if_neg hc1] at hd
      have e4 : (Option.map (fun x => Addr.add x (1 * k67.sz)) (some ad)) = some ⟨ad.block, ad.off + 4, none⟩ := by
        rw [show 1 * k67.sz = 4 from rfl]
        simp [Addr.add]
      rw [e4] at hd
      simpa using hd⟩
    have hc1b : (c == 1) = false := beq_eq_false_iff_ne.mpr hc1
    go_enter Try.func50, Try.ntmps50
    go_wp2
    have hp := HI.out.put (okf := fun k => ok k ∧ k < w.heap.size) (okp := fun _ => False) (Kd.V_mk (e := 67) (base := 0) (c := c - 1) (by first | exact Nat.le_refl _ | (simp; done) | omega) (Kd.F_below (Kd.F_bound HFT.out) HB2.out)) HB2.out (fun k hk => .inl hk.1) id
    have hz2 : ((w.alloc (.cells #[.int .i64 0, .int .i64 0, .int .i64 0, .slice none 0 0] 67)).alloc (.cells #[.int .i64 x0, .int .i64 x1, .int .i64 x2, .slice A3 x3.length c3] 67)).heap[w.heap.size]? = some (.cells #[.int .i64 0, .int .i64 0, .int .i64 0, .slice none 0 0] 67 (0, 0)) := blk_below (blk_new w _) (below_alloc (Below.refl _ _) _)
    have hfs := four_sets (y0 := .int .i64 x0) (y1 := .int .i64 x1) (y2 := .int .i64 x2) (y3 := .slice A3 x3.length c3) (blk_far hz2 (p := ⟨g, 1, none⟩) (fun e => hgz e.symm) (.slice (some ⟨ad.block, ad.off + 4, none⟩) l.length (c - 1)))
    refine bodyPost_ret (results_ct rfl _ _ w.heap.size 67 _ (0, 0) _ rfl hfs.1 Try.underlying67 rfl sz67c) rfl ?_
    have hk5 := hp.2.1.then_ hfs.2 (fun i hi => .inr (Nat.le_of_eq hi.symm))
    refine ⟨A3, c3, _, _, rfl, hc3, Kd.F_step HF3.out (fun k hk hlt => hk5.block k hlt (fun e => HI.out.ng (by rw [show k = g from e] at hk; exact hk))), hp.1.keeps hfs.2 (fun k hk e => ?_), hk5, hp.2.2⟩
    rcases hk with h1 | h1
    · exact hgz (h1.symm.trans e)
    · rw [show k = w.heap.size from e] at h1; exact Nat.lt_irrefl _ h1.1.2
theorem r19_Pop.empty (w : World) (g : Nat) (room : Int) (v : Value) (ended : Bool) (ok : Nat → Prop) (h : IsD w g room v [] ended ok) :
    Calls Try.prog 50 #[.pointer (some ⟨g, 0, none⟩)] w fun e w' => e = .returned (.tuple #[.agg #[.int .i64 0, .int .i64 0, .int .i64 0, .slice none 0 0], .bool false]) ∧ Below w.heap.size w w' := by
  have hu67 := Try.underlying67
  obtain ⟨A, c, rfl⟩ := h.form
  have hB1 := below_alloc (Below.refl w.heap.size w) (.cells #[.int .i64 0, .int .i64 0, .int .i64 0, .slice none 0 0] 67)
  have b1 : (w.alloc (.cells #[.int .i64 0, .int .i64 0, .int .i64 0, .slice none 0 0] 67)).cell? ⟨g, 1, none⟩ = some (.slice A 0 c) := (blk_cell (h.below hB1).blk 1).trans rfl
  clear hB1
  go_enter Try.func50, Try.ntmps50
  go_wp2
  refine bodyPost_ret (results_ct rfl _ _ w.heap.size 67 _ (0, 0) _ rfl (blk_new w _) Try.underlying67 rfl sz67c) rfl ?_
  exact ⟨rfl, below_alloc (Below.refl _ _) _⟩
end Go.Proofs.Ytbmnplojpeabmaa.QK
