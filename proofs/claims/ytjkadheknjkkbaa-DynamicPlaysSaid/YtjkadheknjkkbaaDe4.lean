/-
  DYNAMIC: the acts on a table.
  Conditions: none of its own; lemmas that the claim's row rests on.
-/
import Derived.Test.YtjkadheknjkkbaaDe3
import Derived.WalkKit
namespace Go.Proofs.Ytjkadheknjkkbaa.De
open Go.RowKit Go.Proofs.YtjkadheknjkkbaaW.PrintWords Go.Proofs.YtjkadheknjkkbaaW.PrintLast Go.Proofs.YtjkadheknjkkbaaW.PrintMore
attribute [local go_sem] max2_int min2_int max_two min_two max_three min_three max_four min_four
set_option linter.unusedVariables false
set_option linter.unusedSimpArgs false
open Go.Proofs.Ytjkadheknjkkbaa.Ob Go.Proofs.Ytjkadheknjkkbaa.QD
open Go.Proofs.YtjkadheknjkkbaaR
/-- What stays where the oldest go till there is room; a field added. -/
def yE (most room : Int) (l : List S78) : List S78 := l.drop (evN most room (sumY l) l)
def yA (most : Int) (x : S78) (l : List S78) : List S78 := if (szF x : Int) ≤ most then yE most (szF x) l ++ [x] else yE most (szF x) l
theorem sumY_cut (l : List S78) (k : Nat) : sumY (l.take k) + sumY (l.drop k) = sumY l := by rw [← sumY_append, List.take_append_drop]
theorem yE_size (most room : Int) (l : List S78) : (sumY l : Int) - (sumY (l.take (evN most room (sumY l) l)) : Nat) = (sumY (yE most room l) : Nat) := by
  have h := sumY_cut l (evN most room (sumY l) l)
  unfold yE
  omega
theorem yE_len (most room : Int) (l : List S78) : (yE most room l).length ≤ l.length := by
  unfold yE
  rw [List.length_drop]
  omega
theorem yE_sum (most room : Int) (l : List S78) : sumY (yE most room l) ≤ sumY l := by
  have h := sumY_cut l (evN most room (sumY l) l)
  unfold yE
  omega
theorem dynamic_Clone.none_ (w : World) : Calls Try.prog 52 #[.pointer none] w fun e w' => e = .returned (.pointer none) ∧ w' = w := by
  go_enter Try.func52, Try.ntmps52
  go_wp2
  go_ret
  exact ⟨rfl, rfl⟩
theorem dynamic_SetMost.none_ (n : Int) (w : World) : Calls Try.prog 50 #[.pointer none, .int .i64 n] w fun e w' => e = .returned (.int .i64 1) ∧ w' = w := by
  go_enter Try.func50, Try.ntmps50
  go_wp2
  go_ret
  exact ⟨rfl, rfl⟩
theorem dynamic_Add.none_ (x0 x1 : ByteArray) (w : World) : Calls Try.prog 53 #[.pointer none, .agg #[.string x0, .string x1]] w fun e w' => e = .returned (.int .i64 1) ∧ Below w.heap.size w w' := by
  go_enter Try.func53, Try.ntmps53
  go_wp2
  go_ret
  exact ⟨rfl, below_alloc (Below.refl _ _) _⟩
set_option maxHeartbeats 4000000 in
set_option maxRecDepth 100000 in
theorem dynamic_Clone.is (w : World) (g : Nat) (bound most size : Int) (v : Value) (l : List S78) (h : IsY w g bound most v l size) (hl : l.length ≤ 100000) :
    Calls Try.prog 52 #[.pointer (some ⟨g, 0, none⟩)] w fun e w' => ∃ g', e = .returned (.pointer (some ⟨g', 0, none⟩)) ∧ ∃ v', IsY w' g' bound most v' l size ∧ w.heap.size ≤ g' ∧ (∀ k, v'.ownBlock = some k → w.heap.size ≤ k) ∧ Below w.heap.size w w' := by
  obtain ⟨A, c, rfl, hc, hC⟩ := h.2.1.reads
  have HI := Aside0.mk h
  have HC := Aside0.mk hC
  clear h hC
  go_enter Try.func52, Try.ntmps52
  go_upto_region 3 with fail
  refine start_ (n := 20) (S := fun w' => Below w.heap.size w w') (ds := []) #[false, false, false, false, false, false, false, false, false, false, false, false, false, false, false, false, false, false, false, false] (by kernel_rfl) rfl rfl (below_drew1 (Below.refl _ _)) (fun hHeld => ?_)
  refine pure_ (i := 0) (N := some 5) (v := ?_) (a' := ?_) #[true, false, false, false, false, false, false, false, false, false, false, false, false, false, false, false, false, false, false, false] rfl rfl (by kernel_rfl) (fun _ _ _ h => h) (Or.inl ⟨by rfl, ?_⟩) ?_ ?_
  rotate_left
  · intro w'
    go_simp
    with_reducible rfl
  rotate_left
  · simp only [Act.put, List.getElem_toArray, List.getElem_cons_succ, List.getElem_cons_zero, List.setIfInBounds_toArray, List.set_cons_zero, List.set_cons_succ]
    rfl
  refine pure_ (i := 1) (N := some 6) (v := ?_) (a' := ?_) #[true, true, false, false, false, false, false, false, false, false, false, false, false, false, false, false, false, false, false, false] rfl rfl (by kernel_rfl) (fun _ _ _ h => h) (Or.inl ⟨by rfl, ?_⟩) ?_ ?_
  rotate_left
  · intro w'
    go_simp
    with_reducible rfl
  rotate_left
  · simp only [Act.put, List.getElem_toArray, List.getElem_cons_succ, List.getElem_cons_zero, List.setIfInBounds_toArray, List.set_cons_zero, List.set_cons_succ]
    rfl
  refine pure_ (i := 2) (N := some 7) (v := ?_) (a' := ?_) #[true, true, true, false, false, false, false, false, false, false, false, false, false, false, false, false, false, false, false, false] rfl rfl (by kernel_rfl) (fun _ _ _ h => h) (Or.inl ⟨by rfl, ?_⟩) ?_ ?_
  rotate_left
  · intro w'
    go_simp
    with_reducible rfl
  rotate_left
  · simp only [Act.put, List.getElem_toArray, List.getElem_cons_succ, List.getElem_cons_zero, List.setIfInBounds_toArray, List.set_cons_zero, List.set_cons_succ]
    rfl
  refine take_ (i := 3) (N := some 8) (v := ?_) (a' := ?_) #[true, true, true, true, false, false, false, false, false, false, false, false, false, false, false, false, false, false, false, false] rfl rfl (by kernel_rfl) (fun _ _ _ h => h) (Or.inl ⟨by rfl, ?_⟩) hHeld ?_ ?_
  rotate_left
  · intro w' hS_
    have e0_ : w'.cell? ⟨g, 0, none⟩ = some (.slice A l.length c) := (blk_cell (blk_below HI.out.1 hS_) 0).trans rfl
    have e1_ : w'.cell? ⟨g, 1, none⟩ = some (.int .i64 size) := (blk_cell (blk_below HI.out.1 hS_) 1).trans rfl
    have e2_ : w'.cell? ⟨g, 2, none⟩ = some (.int .i64 bound) := (blk_cell (blk_below HI.out.1 hS_) 2).trans rfl
    have e3_ : w'.cell? ⟨g, 3, none⟩ = some (.int .i64 most) := (blk_cell (blk_below HI.out.1 hS_) 3).trans rfl
    go_simp
    with_reducible rfl
  rotate_left
  · simp only [Act.put, List.getElem_toArray, List.getElem_cons_succ, List.getElem_cons_zero, List.setIfInBounds_toArray, List.set_cons_zero, List.set_cons_succ]
    rfl
  refine pure_ (i := 5) (N := some 10) (v := ?_) (a' := ?_) #[true, true, true, true, false, true, false, false, false, false, false, false, false, false, false, false, false, false, false, false] rfl rfl (by kernel_rfl) (fun _ _ _ h => h) (Or.inl ⟨by rfl, ?_⟩) ?_ ?_
  rotate_left
  · intro w'
    go_simp
    with_reducible rfl
  rotate_left
  · simp only [Act.put, List.getElem_toArray, List.getElem_cons_succ, List.getElem_cons_zero, List.setIfInBounds_toArray, List.set_cons_zero, List.set_cons_succ]
    rfl
  refine pure_ (i := 6) (N := some 11) (v := ?_) (a' := ?_) #[true, true, true, true, false, true, true, false, false, false, false, false, false, false, false, false, false, false, false, false] rfl rfl (by kernel_rfl) (fun _ _ _ h => h) (Or.inl ⟨by rfl, ?_⟩) ?_ ?_
  rotate_left
  · intro w'
    go_simp
    with_reducible rfl
  rotate_left
  · simp only [Act.put, List.getElem_toArray, List.getElem_cons_succ, List.getElem_cons_zero, List.setIfInBounds_toArray, List.set_cons_zero, List.set_cons_succ]
    rfl
  refine pure_ (i := 7) (N := some 12) (v := ?_) (a' := ?_) #[true, true, true, true, false, true, true, true, false, false, false, false, false, false, false, false, false, false, false, false] rfl rfl (by kernel_rfl) (fun _ _ _ h => h) (Or.inl ⟨by rfl, ?_⟩) ?_ ?_
  rotate_left
  · intro w'
    go_simp
    with_reducible rfl
  rotate_left
  · simp only [Act.put, List.getElem_toArray, List.getElem_cons_succ, List.getElem_cons_zero, List.setIfInBounds_toArray, List.set_cons_zero, List.set_cons_succ]
    rfl
  refine take_ (i := 8) (N := some 13) (v := ?_) (a' := ?_) #[true, true, true, true, false, true, true, true, true, false, false, false, false, false, false, false, false, false, false, false] rfl rfl (by kernel_rfl) (fun _ _ _ h => h) (Or.inl ⟨by rfl, ?_⟩) hHeld ?_ ?_
  rotate_left
  · intro w' hS_
    have e0_ : w'.cell? ⟨g, 0, none⟩ = some (.slice A l.length c) := (blk_cell (blk_below HI.out.1 hS_) 0).trans rfl
    have e1_ : w'.cell? ⟨g, 1, none⟩ = some (.int .i64 size) := (blk_cell (blk_below HI.out.1 hS_) 1).trans rfl
    have e2_ : w'.cell? ⟨g, 2, none⟩ = some (.int .i64 bound) := (blk_cell (blk_below HI.out.1 hS_) 2).trans rfl
    have e3_ : w'.cell? ⟨g, 3, none⟩ = some (.int .i64 most) := (blk_cell (blk_below HI.out.1 hS_) 3).trans rfl
    go_simp
    with_reducible rfl
  rotate_left
  · simp only [Act.put, List.getElem_toArray, List.getElem_cons_succ, List.getElem_cons_zero, List.setIfInBounds_toArray, List.set_cons_zero, List.set_cons_succ]
    rfl
  refine pure_ (i := 9) (N := some 14) (v := ?_) (a' := ?_) #[true, true, true, true, false, true, true, true, true, true, false, false, false, false, false, false, false, false, false, false] rfl rfl (by kernel_rfl) (fun _ _ _ h => h) (Or.inl ⟨by rfl, ?_⟩) ?_ ?_
  rotate_left
  · intro w'
    go_simp
    with_reducible rfl
  rotate_left
  · simp only [Act.put, List.getElem_toArray, List.getElem_cons_succ, List.getElem_cons_zero, List.setIfInBounds_toArray, List.set_cons_zero, List.set_cons_succ]
    rfl
  refine pure_ (i := 10) (N := some 15) (v := ?_) (a' := ?_) #[true, true, true, true, false, true, true, true, true, true, true, false, false, false, false, false, false, false, false, false] rfl rfl (by kernel_rfl) (fun _ _ _ h => h) (Or.inl ⟨by rfl, ?_⟩) ?_ ?_
  rotate_left
  · intro w'
    go_simp
    with_reducible rfl
  rotate_left
  · simp only [Act.put, List.getElem_toArray, List.getElem_cons_succ, List.getElem_cons_zero, List.setIfInBounds_toArray, List.set_cons_zero, List.set_cons_succ]
    rfl
  refine pure_ (i := 11) (N := some 16) (v := ?_) (a' := ?_) #[true, true, true, true, false, true, true, true, true, true, true, true, false, false, false, false, false, false, false, false] rfl rfl (by kernel_rfl) (fun _ _ _ h => h) (Or.inl ⟨by rfl, ?_⟩) ?_ ?_
  rotate_left
  · intro w'
    go_simp
    with_reducible rfl
  rotate_left
  · simp only [Act.put, List.getElem_toArray, List.getElem_cons_succ, List.getElem_cons_zero, List.setIfInBounds_toArray, List.set_cons_zero, List.set_cons_succ]
    rfl
  refine take_ (i := 12) (N := some 17) (v := ?_) (a' := ?_) #[true, true, true, true, false, true, true, true, true, true, true, true, true, false, false, false, false, false, false, false] rfl rfl (by kernel_rfl) (fun _ _ _ h => h) (Or.inl ⟨by rfl, ?_⟩) hHeld ?_ ?_
  rotate_left
  · intro w' hS_
    have e0_ : w'.cell? ⟨g, 0, none⟩ = some (.slice A l.length c) := (blk_cell (blk_below HI.out.1 hS_) 0).trans rfl
    have e1_ : w'.cell? ⟨g, 1, none⟩ = some (.int .i64 size) := (blk_cell (blk_below HI.out.1 hS_) 1).trans rfl
    have e2_ : w'.cell? ⟨g, 2, none⟩ = some (.int .i64 bound) := (blk_cell (blk_below HI.out.1 hS_) 2).trans rfl
    have e3_ : w'.cell? ⟨g, 3, none⟩ = some (.int .i64 most) := (blk_cell (blk_below HI.out.1 hS_) 3).trans rfl
    go_simp
    with_reducible rfl
  rotate_left
  · simp only [Act.put, List.getElem_toArray, List.getElem_cons_succ, List.getElem_cons_zero, List.setIfInBounds_toArray, List.set_cons_zero, List.set_cons_succ]
    rfl
  refine pure_ (i := 13) (N := some 18) (v := ?_) (a' := ?_) #[true, true, true, true, false, true, true, true, true, true, true, true, true, true, false, false, false, false, false, false] rfl rfl (by kernel_rfl) (fun _ _ _ h => h) (Or.inl ⟨by rfl, ?_⟩) ?_ ?_
  rotate_left
  · intro w'
    go_simp
    with_reducible rfl
  rotate_left
  · simp only [Act.put, List.getElem_toArray, List.getElem_cons_succ, List.getElem_cons_zero, List.setIfInBounds_toArray, List.set_cons_zero, List.set_cons_succ]
    rfl
  refine pure_ (i := 14) (N := some 19) (v := ?_) (a' := ?_) #[true, true, true, true, false, true, true, true, true, true, true, true, true, true, true, false, false, false, false, false] rfl rfl (by kernel_rfl) (fun _ _ _ h => h) (Or.inl ⟨by rfl, ?_⟩) ?_ ?_
  rotate_left
  · intro w'
    go_simp
    with_reducible rfl
  rotate_left
  · simp only [Act.put, List.getElem_toArray, List.getElem_cons_succ, List.getElem_cons_zero, List.setIfInBounds_toArray, List.set_cons_zero, List.set_cons_succ]
    rfl
  refine pure_ (i := 15) (N := some 20) (v := ?_) (a' := ?_) #[true, true, true, true, false, true, true, true, true, true, true, true, true, true, true, true, false, false, false, false] rfl rfl (by kernel_rfl) (fun _ _ _ h => h) (Or.inl ⟨by rfl, ?_⟩) ?_ ?_
  rotate_left
  · intro w'
    go_simp
    with_reducible rfl
  rotate_left
  · simp only [Act.put, List.getElem_toArray, List.getElem_cons_succ, List.getElem_cons_zero, List.setIfInBounds_toArray, List.set_cons_zero, List.set_cons_succ]
    rfl
  refine take_ (i := 16) (N := some 21) (v := ?_) (a' := ?_) #[true, true, true, true, false, true, true, true, true, true, true, true, true, true, true, true, true, false, false, false] rfl rfl (by kernel_rfl) (fun _ _ _ h => h) (Or.inl ⟨by rfl, ?_⟩) hHeld ?_ ?_
  rotate_left
  · intro w' hS_
    have e0_ : w'.cell? ⟨g, 0, none⟩ = some (.slice A l.length c) := (blk_cell (blk_below HI.out.1 hS_) 0).trans rfl
    have e1_ : w'.cell? ⟨g, 1, none⟩ = some (.int .i64 size) := (blk_cell (blk_below HI.out.1 hS_) 1).trans rfl
    have e2_ : w'.cell? ⟨g, 2, none⟩ = some (.int .i64 bound) := (blk_cell (blk_below HI.out.1 hS_) 2).trans rfl
    have e3_ : w'.cell? ⟨g, 3, none⟩ = some (.int .i64 most) := (blk_cell (blk_below HI.out.1 hS_) 3).trans rfl
    go_simp
    with_reducible rfl
  rotate_left
  · simp only [Act.put, List.getElem_toArray, List.getElem_cons_succ, List.getElem_cons_zero, List.setIfInBounds_toArray, List.set_cons_zero, List.set_cons_succ]
    rfl
  refine one_ (i := 4) (N := some 9) #[true, true, true, true, true, true, true, true, true, true, true, true, true, true, true, true, true, false, false, false] rfl rfl (by kernel_rfl) (by decide) (fun K_ hK_ => ?_)
  have HH_ := Aside0.mk hHeld
  clear hHeld
  refine goes_ Try.func99 (by kernel_rfl) rfl #[.slice A l.length c] (by rfl) rfl rfl (by (try simp only [List.map_toArray, List.map_cons, List.map_nil]); first | done | rfl | (simp only [List.length_drop, List.length_take]; rfl)) ?_
  refine (clone78 A c l _ (Kd.C_below HC.out HH_.out) hc hl).mono ?_
  rintro e_ w3 ⟨v3, rfl, hR3_, hn3_, hbe_⟩
  refine ⟨_, rfl, ?_⟩
  obtain ⟨A3, c3, rfl, _, _⟩ := hR3_.reads
  have HR3 := Aside0.mk hR3_
  have HN3 : Aside0 (∀ k, (Value.slice A3 l.length c3).ownBlock = some k → w.heap.size ≤ k) := ⟨fun k hk_ => Nat.le_trans HH_.out.size (hn3_ k hk_)⟩
  have hbn_ := below_step HH_.out hbe_
  have HB3 := Aside0.mk hbn_
  clear HH_ hbe_ hR3_ hn3_
  refine hK_.out _ _ (hbn_) (fun hHeld => ?_)
  clear hK_
  refine norm_ (a' := ?_) ?_ ?_
  rotate_left
  · simp only [Act.put, List.getElem_toArray, List.getElem_cons_succ, List.getElem_cons_zero, List.setIfInBounds_toArray, List.set_cons_zero, List.set_cons_succ]
    rfl
  refine pure_ (i := 17) (N := some 22) (v := ?_) (a' := ?_) #[true, true, true, true, true, true, true, true, true, true, true, true, true, true, true, true, true, true, false, false] rfl rfl (by kernel_rfl) (fun _ _ _ h => h) (Or.inl ⟨by rfl, ?_⟩) ?_ ?_
  rotate_left
  · intro w'
    go_simp
    with_reducible rfl
  rotate_left
  · simp only [Act.put, List.getElem_toArray, List.getElem_cons_succ, List.getElem_cons_zero, List.setIfInBounds_toArray, List.set_cons_zero, List.set_cons_succ]
    rfl
  refine one_ (i := 18) (N := some 23) #[true, true, true, true, true, true, true, true, true, true, true, true, true, true, true, true, true, true, true, false] rfl rfl (by kernel_rfl) (by decide) (fun K_ hK_ => ?_)
  refine box_step (by rfl) (N := 23) rfl (cs := #[.slice A3 l.length c3, .int .i64 size, .int .i64 bound, .int .i64 most]) (t := 136) (by first | (go_simp; done) | (go_simp; rfl)) ?_
  intro gb hgb w5 hbox hb
  have hb5 := below_step HB3.out hb
  have HBX := Aside0.mk hbox
  have HB5 := Aside0.mk hb
  have HGB := Aside0.mk hgb
  clear hHeld hbox hb hgb
  refine hK_.out _ _ (hb5) (fun hHeld => ?_)
  clear hK_
  refine norm_ (a' := ?_) ?_ ?_
  rotate_left
  · simp only [Act.put, List.getElem_toArray, List.getElem_cons_succ, List.getElem_cons_zero, List.setIfInBounds_toArray, List.set_cons_zero, List.set_cons_succ]
    rfl
  refine pure_ (i := 19) (N := some 2) (v := ?_) (a' := ?_) #[true, true, true, true, true, true, true, true, true, true, true, true, true, true, true, true, true, true, true, true] rfl rfl (by kernel_rfl) (fun _ _ _ h => h) (Or.inl ⟨by rfl, ?_⟩) ?_ ?_
  rotate_left
  · intro w'
    go_simp
    with_reducible rfl
  rotate_left
  · simp only [Act.put, List.getElem_toArray, List.getElem_cons_succ, List.getElem_cons_zero, List.setIfInBounds_toArray, List.set_cons_zero, List.set_cons_succ]
    rfl
  refine done_ (by kernel_rfl) ?_
  go_wp2
  go_ret
  refine ⟨_, rfl, .slice A3 l.length c3, ⟨HBX.out, HR3.out.below HB5.out, fun e => ?_⟩, by rw [HGB.out]; exact HB3.out.size, HN3.out, hHeld⟩
  have h1 := HR3.out.lt _ e
  rw [HGB.out] at h1
  exact Nat.lt_irrefl _ h1
set_option maxHeartbeats 4000000 in
set_option maxRecDepth 100000 in
theorem dynamic_Add.is (w : World) (g : Nat) (bound most : Int) (v : Value) (l : List S78) (x : S78) (h : IsY w g bound most v l (sumY l)) (hl : l.length ≤ 1000) (hs : ∀ y ∈ l, szF y ≤ 1000) (h0 : x.f0.size ≤ 300) (h1 : x.f1.size ≤ 300) :
    Calls Try.prog 53 #[.pointer (some ⟨g, 0, none⟩), .agg #[.string x.f0, .string x.f1]] w fun e w' => e = .returned (.int .i64 0) ∧ ∃ v', IsY w' g bound most v' (yA most x l) (sumY (yA most x l)) ∧ Keeps w w' (One g) ∧ (∀ k, v'.ownBlock = some k → w.heap.size ≤ k) := by
  have hu78 := Try.underlying78
  have hu134 := Try.underlying134
  obtain ⟨x0, x1⟩ := x
  simp only [] at h0 h1 ⊢
  have HS := Aside0.mk hs
  have hle := sumY_le l 1000 hs l.length
  rw [List.take_length] at hle
  have hxs : szF ⟨x0, x1⟩ ≤ 1000 := by unfold szF; simp only []; omega
  obtain ⟨n, hn⟩ : ∃ n : Nat, szF ⟨x0, x1⟩ = n := ⟨_, rfl⟩
  have HN := Aside0.mk hn
  rw [hn] at hxs
  have hB1 := below_alloc (Below.refl w.heap.size w) (.cells #[.string x0, .string x1] 78)
  have HB1 := Aside0.mk hB1
  have HX1 := Aside0.mk (blk_new w (.cells #[.string x0, .string x1] 78))
  have HI1 := Aside0.mk (h.below hB1)
  have hgw := blk_lt h.1
  clear h hs hn hB1
  have u0 : (w.alloc (.cells #[.string x0, .string x1] 78)).cell? ⟨w.heap.size, 0, none⟩ = some (.string x0) := (blk_cell HX1.out 0).trans rfl
  have u1 : (w.alloc (.cells #[.string x0, .string x1] 78)).cell? ⟨w.heap.size, 1, none⟩ = some (.string x1) := (blk_cell HX1.out 1).trans rfl
  go_enter Try.func53, Try.ntmps53
  go_wp2_with fail
  have hE1 := dynamic_Size.is ⟨x0, x1⟩ (w.alloc (.cells #[.string x0, .string x1] 78)) (by simp only []; omega) (by simp only []; omega)
  rw [HN.out] at hE1
  refine hE1.mono ?_
  rintro e_ w2 ⟨rfl, hb2⟩
  have HB2 := Aside0.mk (below_step HB1.out hb2)
  have HX2 := Aside0.mk (blk_below HX1.out hb2)
  have HI2 := Aside0.mk (HI1.out.below hb2)
  clear hE1 hb2 u0 u1 HX1 HI1 HB1
  go_wp2_with fail
  refine (dynamic_evict.is w2 g bound most (n : Int) v l (sumY l : Int) HI2.out (by omega) HS.out (by omega) (by omega)).mono ?_
  rintro e_ w3 ⟨v0, rfl, v', hI3, hK3, hN3⟩
  rw [yE_size] at hI3
  have HQ : Aside0 (l.drop (evN most n (sumY l) l) = yE most n l) := ⟨rfl⟩
  rw [HQ.out] at hI3
  obtain ⟨q, hq⟩ : ∃ q, yE most n l = q := ⟨_, rfl⟩
  have hql : q.length ≤ 1000 := by rw [← hq]; exact Nat.le_trans (yE_len most n l) hl
  have hqs : sumY q ≤ 1000000 := by rw [← hq]; exact Nat.le_trans (yE_sum most n l) (by omega)
  rw [hq] at hI3
  have HX3 := Aside0.mk (blk_keeps HX2.out hK3 (fun e => by have e2 : w.heap.size = g := e; omega))
  have HK3 := Aside0.mk ((Keeps.of_below HB2.out (One g)).then_ hK3 (fun i hi => .inl hi))
  have HN3 : Aside0 (∀ k, v'.ownBlock = some k → w.heap.size ≤ k ∧ w.heap.size ≠ k) := ⟨fun k hk => by have h1 := hN3 k hk; have h2 := HB2.out.size; have h3 := blk_lt HX2.out; constructor <;> omega⟩
  have HI3 := Aside0.mk hI3
  clear hI3 hK3 hN3 HX2 HB2 HI2 HQ
  have u3 : w3.cell? ⟨g, 3, none⟩ = some (.int .i64 most) := (blk_cell HI3.out.1 3).trans rfl
  by_cases hm : (n : Int) ≤ most
  · have bm : decide ((n : Int) ≤ most) = true := decide_eq_true hm
    have HYA : Aside0 (yA most ⟨x0, x1⟩ l = q ++ [⟨x0, x1⟩]) := ⟨by unfold yA; rw [HN.out, if_pos hm, hq]⟩
    have HYS : Aside0 (((sumY (q ++ [⟨x0, x1⟩]) : Nat) : Int) = (sumY q : Int) + n) := ⟨by rw [sumY_append]; simp only [sumY, HN.out]; push_cast; omega⟩
    have HWR : Aside0 (IntKind.i64.wrap ((sumY q : Int) + n) = (sumY q : Int) + n) := ⟨by rw [i64_w]; unfold wrap64; omega⟩
    obtain ⟨A3, c3, rfl, hc3, _⟩ := HI3.out.2.1.reads
    clear hq hm
    go_upto_region 6 with fail
    clear u3 bm
    refine start_ (n := 11) (S := fun w' => Below w3.heap.size w3 w') (ds := [7, 10]) #[false, false, false, false, false, false, false, false, false, false, false] (by kernel_rfl) rfl rfl (below_drew1 (Below.refl _ _)) (fun hHeld => ?_)
    refine pure_ (i := 0) (N := some 19) (v := ?_) (a' := ?_) #[true, false, false, false, false, false, false, false, false, false, false] rfl rfl (by kernel_rfl) (fun _ _ _ h => h) (Or.inl ⟨by rfl, ?_⟩) ?_ ?_
    rotate_left
    · intro w'
      go_simp
      with_reducible rfl
    rotate_left
    · simp only [Act.put, List.setIfInBounds_toArray, List.set_cons_zero, List.set_cons_succ]
      rfl
    refine pure_ (i := 1) (N := some 20) (v := ?_) (a' := ?_) #[true, true, false, false, false, false, false, false, false, false, false] rfl rfl (by kernel_rfl) (fun _ _ _ h => h) (Or.inl ⟨by rfl, ?_⟩) ?_ ?_
    rotate_left
    · intro w'
      go_simp
      with_reducible rfl
    rotate_left
    · simp only [Act.put, List.setIfInBounds_toArray, List.set_cons_zero, List.set_cons_succ]
      rfl
    refine pure_ (i := 2) (N := some 21) (v := ?_) (a' := ?_) #[true, true, true, false, false, false, false, false, false, false, false] rfl rfl (by kernel_rfl) (fun _ _ _ h => h) (Or.inl ⟨by rfl, ?_⟩) ?_ ?_
    rotate_left
    · intro w'
      go_simp
      with_reducible rfl
    rotate_left
    · simp only [Act.put, List.setIfInBounds_toArray, List.set_cons_zero, List.set_cons_succ]
      rfl
    refine pure_ (i := 3) (N := some 22) (v := ?_) (a' := ?_) #[true, true, true, true, false, false, false, false, false, false, false] rfl rfl (by kernel_rfl) (fun _ _ _ h => h) (Or.inl ⟨by rfl, ?_⟩) ?_ ?_
    rotate_left
    · intro w'
      go_simp
      with_reducible rfl
    rotate_left
    · simp only [Act.put, List.setIfInBounds_toArray, List.set_cons_zero, List.set_cons_succ]
      rfl
    refine take_ (i := 4) (N := some 23) (v := ?_) (a' := ?_) #[true, true, true, true, true, false, false, false, false, false, false] rfl rfl (by kernel_rfl) (fun _ _ _ h => h) (Or.inl ⟨by rfl, ?_⟩) hHeld ?_ ?_
    rotate_left
    · intro w' hS_
      have e0_ : w'.cell? ⟨g, 0, none⟩ = some (.slice A3 q.length c3) := (blk_cell (blk_below HI3.out.1 hS_) 0).trans rfl
      have e1_ : w'.cell? ⟨w.heap.size, 0, none⟩ = some (.string x0) := (blk_cell (blk_below HX3.out hS_) 0).trans rfl
      have e2_ : w'.cell? ⟨w.heap.size, 1, none⟩ = some (.string x1) := (blk_cell (blk_below HX3.out hS_) 1).trans rfl
      go_simp
      with_reducible rfl
    rotate_left
    · simp only [Act.put, List.setIfInBounds_toArray, List.set_cons_zero, List.set_cons_succ]
      rfl
    refine take_ (i := 5) (N := some 24) (v := ?_) (a' := ?_) #[true, true, true, true, true, true, false, false, false, false, false] rfl rfl (by kernel_rfl) (fun _ _ _ h => h) (Or.inl ⟨by rfl, ?_⟩) hHeld ?_ ?_
    rotate_left
    · intro w' hS_
      have e0_ : w'.cell? ⟨g, 0, none⟩ = some (.slice A3 q.length c3) := (blk_cell (blk_below HI3.out.1 hS_) 0).trans rfl
      have e1_ : w'.cell? ⟨w.heap.size, 0, none⟩ = some (.string x0) := (blk_cell (blk_below HX3.out hS_) 0).trans rfl
      have e2_ : w'.cell? ⟨w.heap.size, 1, none⟩ = some (.string x1) := (blk_cell (blk_below HX3.out hS_) 1).trans rfl
      go_simp
      with_reducible rfl
    rotate_left
    · simp only [Act.put, List.setIfInBounds_toArray, List.set_cons_zero, List.set_cons_succ]
      rfl
    refine one_ (i := 6) (N := some 25) #[true, true, true, true, true, true, true, false, false, false, false] rfl rfl (by kernel_rfl) (by decide) (fun K_ hK_ => ?_)
    have HD4 := Aside0.mk hHeld
    refine event_step (by rfl) (by go_simp; exact ⟨rfl, rfl⟩) ?_
    have hB5 := below_step HD4.out (below_alloc (Below.refl w3.drew.heap.size w3.drew) (.cells #[.string x0, .string x1] 78))
    clear hHeld
    refine hK_.out _ _ (hB5) (fun hHeld => ?_)
    clear hK_
    refine norm_ (a' := ?_) ?_ ?_
    rotate_left
    · simp only [Act.put, List.setIfInBounds_toArray, List.set_cons_zero, List.set_cons_succ]
      rfl
    refine last_ (i := 7) (N := some 26) #[true, true, true, true, true, true, true, true, false, false, false] rfl rfl (by kernel_rfl) (by decide) (fun K_ hK_ => ?_)
    clear hHeld
    refine OwnRow.append_step (w0 := w3.drew) (W := w3.drew) 0 (by rfl) (.tmp 23) (.tmp 25) 134 78 (.agg #[.string ⟨#[]⟩, .string ⟨#[]⟩]) 2 32 rfl hu134 info78c rfl (by decide) (by decide) (.slice A3 q.length c3) q ⟨x0, x1⟩ [.string x0, .string x1] rfl rfl rfl rfl (by intro u hu; simp only [List.mem_cons, List.not_mem_nil, or_false] at hu; rcases hu with rfl | rfl <;> rfl) (HI3.out.below HD4.out).2.1 ⟨rfl, rfl, rfl, Nat.le_refl _, fun _ _ => rfl⟩ (Nat.zero_le _) (by omega) ?_
    intro v6 w6 hO6 _ hg6 hat6
    have hR6 : RY w6 v6 (q ++ [⟨x0, x1⟩]) := hO6
    obtain ⟨q6, hq6⟩ : ∃ q6, q ++ [(⟨x0, x1⟩ : S78)] = q6 := ⟨_, rfl⟩
    rw [hq6] at hR6
    obtain ⟨A6, c6, rfl, _, _⟩ := hR6.reads
    have HQ6 := Aside0.mk hq6
    have HR6 := Aside0.mk hR6
    have hb6 := blk_grown (HI3.out.below HD4.out).1 hg6 (fun e => HI3.out.2.2 e.symm)
    have HK6 := Aside0.mk ((HK3.out.below HD4.out).grown hg6 (fun k e => .inr ((HN3.out k e).1)))
    have HB6 := Aside0.mk hb6
    have HAT : Aside0 (∀ k, (Value.slice A6 q6.length c6).ownBlock = some k → w.heap.size ≤ k ∧ k ≠ g) := ⟨fun k hk => by
      rcases hat6 with e | ⟨b, e, hb⟩
      · rw [e] at hk; have h1 := (HN3.out k hk).1; constructor <;> omega
      · rw [e] at hk; cases hk; have h1 := HK3.out.size; have h2 := HD4.out.size; constructor <;> omega⟩
    clear hO6 hR6 hg6 hat6 hq6 hb6
    refine hK_.out _ _ ?_
    clear hK_
    refine norm_ (a' := ?_) ?_ ?_
    rotate_left
    · simp only [Act.put, List.setIfInBounds_toArray, List.set_cons_zero, List.set_cons_succ]
      rfl
    refine pure_ (i := 8) (N := some 27) (v := ?_) (a' := ?_) #[true, true, true, true, true, true, true, true, true, false, false] rfl rfl (by kernel_rfl) (fun _ _ _ h => h) (Or.inl ⟨by rfl, ?_⟩) ?_ ?_
    rotate_left
    · intro w'
      go_simp
      with_reducible rfl
    rotate_left
    · simp only [Act.put, List.setIfInBounds_toArray, List.set_cons_zero, List.set_cons_succ]
      rfl
    refine pure_ (i := 9) (N := some 28) (v := ?_) (a' := ?_) #[true, true, true, true, true, true, true, true, true, true, false] rfl rfl (by kernel_rfl) (fun _ _ _ h => h) (Or.inl ⟨by rfl, ?_⟩) ?_ ?_
    rotate_left
    · intro w'
      go_simp
      with_reducible rfl
    rotate_left
    · simp only [Act.put, List.setIfInBounds_toArray, List.set_cons_zero, List.set_cons_succ]
      rfl
    refine last_ (i := 10) (N := none) #[true, true, true, true, true, true, true, true, true, true, true] rfl rfl (by kernel_rfl) (by decide) (fun K_ hK_ => ?_)
    have c6_ : w6.cell? ⟨g, 0, none⟩ = some (.slice A3 q.length c3) := (blk_cell HB6.out 0).trans rfl
    have f6_ := blk_frozen HB6.out 0
    refine store_step (w1 := w6.setCell ⟨g, 0, none⟩ (.slice A6 q6.length c6)) (by rfl) rfl (by first | (go_simp; done) | (go_simp; rfl)) ?_
    clear c6_ f6_
    refine hK_.out _ _ ?_
    clear hK_
    refine done_ (by kernel_rfl) ?_
    have hI7 : IsY (w6.setCell ⟨g, 0, none⟩ (.slice A6 q6.length c6)) g bound most (.slice A6 q6.length c6) q6 (sumY q) := ⟨(blk_put HB6.out 0 _ rfl).trans rfl, HR6.out.keeps (Keeps.set (S := One g) (Keeps.refl w6 _) (.inl rfl) 0 _) (fun k e hk => (HAT.out k e).2 hk), fun e => (HAT.out g e).2 rfl⟩
    have c7_ : (w6.setCell ⟨g, 0, none⟩ (.slice A6 q6.length c6)).cell? ⟨g, 1, none⟩ = some (.int .i64 (sumY q : Int)) := (blk_cell hI7.1 1).trans rfl
    have f7_ := blk_frozen hI7.1 1
    have HI7 := Aside0.mk hI7
    clear hI7
    go_wp2
    try simp only [HWR.out]
    go_ret
    refine ⟨rfl, .slice A6 q6.length c6, ?_, (HK6.out.set (.inl rfl) 0 _).set (.inl rfl) 1 _, fun k e => (HAT.out k e).1⟩
    have h8 := HI7.out.set1 ((sumY q : Int) + n)
    rw [HYA.out, HYS.out, HQ6.out]
    exact h8
  · have bm : decide ((n : Int) ≤ most) = false := decide_eq_false hm
    have HYA : Aside0 (yA most ⟨x0, x1⟩ l = q) := ⟨by unfold yA; rw [HN.out, if_neg hm, hq]⟩
    clear hq hm
    go_wp2
    go_ret
    rw [HYA.out]
    exact ⟨rfl, v', HI3.out, HK3.out, fun k e => (HN3.out k e).1⟩
set_option maxHeartbeats 4000000 in
set_option maxRecDepth 100000 in
theorem dynamic_SetMost.is (w : World) (g : Nat) (bound most : Int) (v : Value) (l : List S78) (n : Int) (h : IsY w g bound most v l (sumY l)) (hl : l.length ≤ 1000) (hs : ∀ y ∈ l, szF y ≤ 1000) (h0 : 0 ≤ n) (h1 : n ≤ bound) :
    Calls Try.prog 50 #[.pointer (some ⟨g, 0, none⟩), .int .i64 n] w fun e w' => e = .returned (.int .i64 0) ∧ ∃ v', IsY w' g bound n v' (yE n 0 l) (sumY (yE n 0 l)) ∧ Keeps w w' (One g) ∧ (∀ k, v'.ownBlock = some k → w.heap.size ≤ k) := by
  have HI := Aside0.mk h
  have HS := Aside0.mk hs
  have hle := sumY_le l 1000 hs l.length
  rw [List.take_length] at hle
  have b0 : decide (n < 0) = false := decide_eq_false (by omega)
  have b1 : decide (bound < n) = false := decide_eq_false (by omega)
  have u2 : w.cell? ⟨g, 2, none⟩ = some (.int .i64 bound) := (blk_cell h.1 2).trans rfl
  have u3 : w.cell? ⟨g, 3, none⟩ = some (.int .i64 most) := (blk_cell h.1 3).trans rfl
  have f3 := blk_frozen h.1 3
  have HI1 := Aside0.mk (h.set3 n)
  have HK1 := Aside0.mk ((Keeps.refl w (One g)).set (.inl rfl) 3 (.int .i64 n))
  clear h hs
  go_enter Try.func50, Try.ntmps50
  go_wp2_with fail
  refine (dynamic_evict.is _ g bound n 0 v l (sumY l : Int) HI1.out (by omega) HS.out (by omega) (by omega)).mono ?_
  rintro e_ w3 ⟨v0, rfl, v', hI3, hK3, hN3⟩
  rw [yE_size] at hI3
  have HQ : Aside0 (l.drop (evN n 0 (sumY l) l) = yE n 0 l) := ⟨rfl⟩
  rw [HQ.out] at hI3
  have HI3 := Aside0.mk hI3
  have HK3 := Aside0.mk (HK1.out.then_ hK3 (fun i hi => .inl hi))
  have HN3 : Aside0 (∀ k, v'.ownBlock = some k → w.heap.size ≤ k) := ⟨fun k hk => Nat.le_trans HK1.out.size (hN3 k hk)⟩
  clear hI3 hK3 hN3
  go_wp2
  go_ret
  exact ⟨rfl, v', HI3.out, HK3.out, HN3.out⟩
set_option maxHeartbeats 4000000 in
set_option maxRecDepth 100000 in
theorem dynamic_SetMost.bad (w : World) (g : Nat) (bound most size : Int) (v : Value) (l : List S78) (n : Int) (h : IsY w g bound most v l size) (h0 : n < 0 ∨ bound < n) :
    Calls Try.prog 50 #[.pointer (some ⟨g, 0, none⟩), .int .i64 n] w fun e w' => e = .returned (.int .i64 1) ∧ w' = w := by
  have u2 : w.cell? ⟨g, 2, none⟩ = some (.int .i64 bound) := (blk_cell h.1 2).trans rfl
  by_cases c0 : n < 0
  · have b0 : decide (n < 0) = true := decide_eq_true c0
    go_enter Try.func50, Try.ntmps50
    go_wp2
    go_ret
    exact ⟨rfl, rfl⟩
  · have b0 : decide (n < 0) = false := decide_eq_false c0
    have b1 : decide (bound < n) = true := decide_eq_true (by omega)
    go_enter Try.func50, Try.ntmps50
    go_wp2
    go_ret
    exact ⟨rfl, rfl⟩
end Go.Proofs.Ytjkadheknjkkbaa.De
