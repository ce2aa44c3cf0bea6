/-
  DYNAMIC: the oldest go.
  Conditions: none of its own; lemmas that the claim's row rests on.
-/
import Derived.Test.YtjkadheknjkkbaaDe1
import Derived.Test.YtjkadheknjkkbaaRangeOk
import Derived.Test.YtjkadheknjkkbaaRegionRound
import Derived.TacticsInMore
import Derived.LoopNIn
import Derived.LoopIn
import Derived.OwnWalkIn
import Derived.Shelf.RegionOpen
import Derived.WalkKit
import Derived.Sort.CutIn
import Derived.Stop.RegionWithIn
namespace Go.Proofs.Ytjkadheknjkkbaa.De
open Go.RowKit Go.Proofs.YtjkadheknjkkbaaW.PrintWords Go.Proofs.YtjkadheknjkkbaaW.PrintLast Go.Proofs.YtjkadheknjkkbaaW.PrintMore
attribute [local go_sem] max2_int min2_int max_two min_two max_three min_three max_four min_four
set_option linter.unusedVariables false
set_option linter.unusedSimpArgs false
open Go.Proofs.Ytjkadheknjkkbaa.Ob Go.Proofs.Ytjkadheknjkkbaa.QD
open Go.Proofs.YtjkadheknjkkbaaR
theorem oldest.calls (p : Option Addr) (room : Int) (w : World) : Calls Try.prog 116 #[.pointer p, .int .i64 room] w fun e w' => ∃ bt br, e = .returned (.func (.func 123) #[] #[.pointer (some ⟨bt, 0, none⟩), .pointer (some ⟨br, 0, none⟩)]) ∧ w'.heap[bt]? = some (.cells #[.pointer p] 72 (0, 0)) ∧ w'.heap[br]? = some (.cells #[.int .i64 room] 3 (0, 0)) ∧ w.heap.size ≤ bt ∧ w.heap.size ≤ br ∧ Below w.heap.size w w' := by
  go_enter Try.func116, Try.ntmps116
  go_wp2
  go_ret
  exact ⟨_, _, rfl, blk_below (blk_new w _) (below_alloc (Below.refl _ _) _), by have h_ := blk_new (w.alloc (.cells #[.pointer p] 72)) (.cells #[.int .i64 room] 3); rw [World.size_alloc] at h_; exact h_, Nat.le_refl _, by omega, below_alloc (below_alloc (Below.refl _ _) _) _⟩
theorem blk_turn {W W' : World} {g t : Nat} {cs : Array Value} {row : Option Nat} (h : W.heap[g]? = some (.cells cs t (0, 0))) (hg : W.grownBy W' row) (hr : ∀ r, row = some r → ∃ o : Obj, W.heap[r]? = some o ∧ o.isCells = false) : W'.heap[g]? = some (.cells cs t (0, 0)) :=
  (hg.block g (blk_lt h) (fun e => by
    obtain ⟨o, ho, hc⟩ := hr g e.symm
    rw [h] at ho
    cases ho
    cases hc)).trans h
theorem results_no {fn : Func} (h : fn.results = #[]) (t t' : Array Value) : results fn t = results fn t' := by
  unfold results
  rw [h]
  simp
theorem leavesIn_t {P : Program} {F : Fence} {n : Nat} {fn : Func} {R : Ending → World → Prop} {t t' : Array Value} (h : results fn t = results fn t') : ∀ ds : List Deferred, LeavesIn F n P fn t R ds = LeavesIn F n P fn t' R ds
  | [] => by funext u w; cases u <;> simp only [LeavesIn, h]
  | d :: ds => by funext u w; simp only [LeavesIn, leavesIn_t h ds]
theorem leavesInM_t {P : Program} {F : Fence} {n : Nat} {fn : Func} {R : Ending → World → Prop} {t t' : Array Value} (h : results fn t = results fn t') : ∀ ds : List Deferred, LeavesInM F n P fn t R ds = LeavesInM F n P fn t' R ds
  | [] => by funext u w; simp only [LeavesInM, leavesIn_t h]
  | d :: ds => by funext u w; simp only [LeavesInM, leavesInM_t h ds]
/-- A function without results: its post at a panic doesn't look at the temporaries. -/
theorem postM_put {P : Program} {F : Fence} {n : Nat} {fn : Func} {R : Ending → World → Prop} (h : ∀ t t', results fn t = results fn t') (N : Option Tmp) (v : Value) (c : List PanicEntry) (a : Act) (w : World)
    (hp : bodyPostM F n P fn R (.panic c) (a.put N v) w) : bodyPostM F n P fn R (.panic c) a w := by
  unfold bodyPostM at hp ⊢
  simp only [] at hp ⊢
  have e : (a.put N v).defers = a.defers := by cases N <;> rfl
  rw [e] at hp
  rw [leavesInM_t (h a.tmps (a.put N v).tmps)]
  exact hp
theorem start_round {id n m l : Nat} {P : Program} {ops : Array Oper} {Q : Exit → Act → World → Prop} {S : World → Prop} {ds : List Nat} {a : Act} {w : World} (lst : Array Bool) (hm : P.follows .mixedOrders = true) (hn : ops.size = n) (hl : Array.replicate n false = lst)
    (hdef : ops.all Oper.plain = true) (hQ : ¬ LetsOut Q) (hS : S w.drew) (h : S w.drew → wpAnyLast P .any ops Q S ds n lst a w.drew) : (Code.region id ops true).wpIn (Fence.wide.inRound l) m P Q a w := by
  subst hn
  subst hl
  exact region_round hm hdef hQ (wpAny_of_last _ _ _ _ (h hS))
theorem sumY_append (l m : List S78) : sumY (l ++ m) = sumY l + sumY m := by
  induction l with
  | nil => simp [sumY]
  | cons x l ih => simp only [List.cons_append, sumY, ih]; omega
theorem sumY_take (l : List S78) (j : Nat) (hj : j < l.length) : sumY (l.take (j + 1)) = sumY (l.take j) + szF (rd_T78 l (j : Int)) := by
  have e : rd_T78 l (j : Int) = l[j] := by simp [rd_T78, hj]
  rw [List.take_succ_eq_append_getElem hj, sumY_append, e]
  simp [sumY]
theorem sumY_le (l : List S78) (B : Nat) (h : ∀ x ∈ l, szF x ≤ B) (j : Nat) : sumY (l.take j) ≤ B * l.length := by
  induction l generalizing j with
  | nil => simp [sumY]
  | cons x l ih =>
    cases j with
    | zero => simp [sumY]
    | succ j =>
      have h1 := ih (fun y hy => h y (List.mem_cons_of_mem _ hy)) j
      have h2 := h x List.mem_cons_self
      simp only [List.take_succ_cons, sumY, List.length_cons, Nat.mul_add, Nat.mul_one]
      omega
/-- Between two rounds: how many are gone, what the table has. -/
def EvJ (w : World) (g : Nat) (v : Value) (bound most z0 : Int) (l : List S78) (s : Nat) (W : World) : Prop :=
  W.heap[w.heap.size + 1]? = some (.cells #[.int .i64 (s : Int)] 3 (0, 0)) ∧ W.heap[w.heap.size]? = some (.cells #[.pointer (some ⟨g, 0, none⟩)] 72 (0, 0)) ∧ W.heap[g]? = some (Yc v bound most (z0 - sumY (l.take s))) ∧ Keeps w W (One g) ∧ s ≤ l.length
theorem EvJ.own {w : World} {g : Nat} {v : Value} {bound most z0 : Int} {l : List S78} {B : Nat} (hB : w.heap.size ≤ B) : OwnFrom B (EvJ w g v bound most z0 l) := fun s A C row hs hg hr => by
  have hr' : ∀ r, row = some r → ∃ o : Obj, A.heap[r]? = some o ∧ o.isCells = false := fun r e => (hr r e).2
  exact ⟨blk_turn hs.1 hg hr', blk_turn hs.2.1 hg hr', blk_turn hs.2.2.1 hg hr', hs.2.2.2.1.grown hg (fun k e => .inr (Nat.le_trans hB (hr k e).1)), hs.2.2.2.2⟩
/-- What a round has at hand. -/
def EvA (w : World) (g bt br : Nat) (room : Int) (x : S78) (a' : Act) (W : World) : Prop := ∃ gx, W.heap[gx]? = some (.cells #[.string x.f0, .string x.f1] 78 (0, 0)) ∧ a' = { tmps := #[.pointer (some ⟨g, 0, none⟩), .int .i64 room, .pointer (some ⟨w.heap.size, 0, none⟩), undef, .pointer (some ⟨w.heap.size + 1, 0, none⟩), .pointer (some ⟨gx, 0, none⟩), .pointer (some ⟨g, 0, none⟩), .int .i64 room, .func (.func 123) #[] #[.pointer (some ⟨bt, 0, none⟩), .pointer (some ⟨br, 0, none⟩)], .agg #[.string x.f0, .string x.f1], undef, undef, undef, undef, undef, undef, undef, undef, undef, undef, undef, undef, undef, undef, undef, undef, undef, undef, undef, undef, undef], defers := [] }
section
attribute [local go_sem] Oper.semAt_some
set_option maxHeartbeats 4000000 in
set_option maxRecDepth 100000 in
theorem dynamic_evict.is (w : World) (g : Nat) (bound most room : Int) (v : Value) (l : List S78) (z0 : Int) (h : IsY w g bound most v l z0) (hl : l.length ≤ 10000) (hs : ∀ x ∈ l, szF x ≤ 1000) (hz : 0 ≤ z0 ∧ z0 ≤ 1000000000) (hr : 0 ≤ room ∧ room ≤ 1000000) :
    Calls Try.prog 97 #[.pointer (some ⟨g, 0, none⟩), .int .i64 room] w fun e w' => ∃ v0, e = .returned v0 ∧ ∃ v', IsY w' g bound most v' (l.drop (evN most room z0 l)) (z0 - sumY (l.take (evN most room z0 l))) ∧ Keeps w w' (One g) ∧ (∀ k, v'.ownBlock = some k → w.heap.size ≤ k) := by
  have hu78 := Try.underlying78
  obtain ⟨A, c, rfl, hc, hC⟩ := h.2.1.reads
  have HI := Aside0.mk h
  have HC := Aside0.mk hC
  have HS := Aside0.mk hs
  clear h hC hs
  refine (callsIn_wide (n := 3)).1 (callsIn_of_wp_marks Try.func97 rfl trivial (wpIn_wide.2 ?_))
  simp only [Try.ntmps97, List.size_toArray, List.length_cons, List.length_nil, Nat.reduceAdd, Nat.reduceSub, Array.replicate_succ, Array.replicate_zero, List.push_toArray, List.append_toArray, List.nil_append, List.cons_append]
  go_wp2_with (first | go_step3 | (go_at_call 116; refine (oldest.calls (some ⟨g, 0, none⟩) room _).mono ?_; rintro e_ w_ ⟨bt, br, rfl, hbt, hbr, hgt, hgr, hb⟩))
  have h1 := blk_new (w.alloc (.cells #[.pointer (some ⟨g, 0, none⟩)] 72)) (.cells #[.int .i64 0] 3)
  rw [World.size_alloc] at h1
  have h2 := blk_below (blk_new w (.cells #[.pointer (some ⟨g, 0, none⟩)] 72)) (below_alloc (Below.refl _ _) (.cells #[.int .i64 0] 3))
  have hB0 := below_step (below_alloc (below_alloc (Below.refl w.heap.size w) (.cells #[.pointer (some ⟨g, 0, none⟩)] 72)) (.cells #[.int .i64 0] 3)) hb
  have HB := Aside0.mk hB0
  have hBw := HB.out.size
  simp only [World.size_alloc] at hgt hgr
  have hgw := blk_lt HI.out.1
  have hI0 : EvJ w g (.slice A l.length c) bound most z0 l 0 w_ := ⟨blk_below h1 hb, blk_below h2 hb, by have h_ := blk_below HI.out.1 HB.out; simpa [Yc, sumY] using h_, Keeps.of_below HB.out _, Nat.zero_le _⟩
  have HI_ := Aside0.mk (HI.out.below HB.out)
  clear h1 h2 hB0 hb
  refine (wpIn_wide (n := 3)).1 ?_
  refine rangeFunc_ok (s0 := (0 : Nat)) rfl (by omega) (gf := 123) (lb := #[.pointer (some ⟨bt, 0, none⟩), .pointer (some ⟨br, 0, none⟩)]) rfl trivial (enters_of Try.func123 (by kernel_rfl) rfl)
    (oldest1.stops g bound most room A c l z0 w_ bt br (w.heap.size + 1) HI_.out hbt hbr (by omega) (fun x hx => Nat.le_trans (HS.out x hx) (by omega)) (by omega) hr ⟨by omega, by omega, (fun e => by have := HI.out.2.1.lt _ e; omega), by omega⟩)
    (fun x A' C l' o o' hl' ho hc hw hk => ⟨hk.1.grown (grownBy_putObj' C l' o') (fun k e => .inl (.inr (by cases e; exact hl'))), fun z hz => (World.putObj_heap_other (by omega)).trans (hk.2 z hz)⟩) (Below.refl _ _) (fun _ => rfl)
    (EvJ w g (.slice A l.length c) bound most z0 l) (fun _ _ _ => False) (EvJ.own hBw) (fun _ _ _ _ _ h _ _ => h.elim) hI0
    (EvA w g bt br room) (fun x a' _ A' C row hs hg hr => by
      obtain ⟨gx, hx, e⟩ := hs
      exact ⟨gx, blk_turn hx hg (fun r e => (hr r e).2), e⟩) ?assign ?body ?done ?stop
  case assign =>
    rintro L s x W K hle hI hok hK
    simp only [Fy.encs]
    gi_wp2
    exact hK _ _ (below_alloc (Below.refl _ _) _) (EvJ.own hBw s _ _ none hI (below_grown (below_alloc (Below.refl _ _) _)) (fun r e => by cases e)) ⟨W.heap.size, blk_new W _, rfl⟩
  case body =>
    rintro L s x a' W0 W hle hst hbw hI hok ⟨gx, hx, rfl⟩
    obtain ⟨x0, x1⟩ := x
    have HBW := Aside0.mk hbw
    have HX := Aside0.mk hx
    have hsx := HS.out ⟨x0, x1⟩ (by rw [hok.2]; have e : rd_T78 l (s : Int) = l[s]'hok.1 := by simp [rd_T78, hok.1]
                                    rw [e]; exact List.getElem_mem hok.1)
    have hsT := sumY_take l s hok.1
    rw [← hok.2] at hsT
    have hsl := sumY_le l 1000 HS.out s
    have hso := hok.1
    obtain ⟨z, hzz⟩ : ∃ z, z0 - (sumY (l.take s) : Int) = z := ⟨_, rfl⟩
    obtain ⟨hJ1, hJ2, hJ3, hJ4, hJ5⟩ := hI
    rw [hzz] at hJ3
    have HJ := Aside0.mk (And.intro hJ1 (And.intro hJ2 (And.intro hJ3 hJ4)))
    have HX0 : Aside0 (x0.size ≤ 100000) := ⟨by unfold szF at hsx; simp only [] at hsx; omega⟩
    have HX1 : Aside0 (x1.size ≤ 100000) := ⟨by unfold szF at hsx; simp only [] at hsx; omega⟩
    have HWR : Aside0 (IntKind.i64.wrap (z - (szF ⟨x0, x1⟩ : Int)) = z - (szF ⟨x0, x1⟩ : Int)) := ⟨by rw [i64_w]; unfold wrap64; omega⟩
    have HNZ : Aside0 (z - (szF ⟨x0, x1⟩ : Int) = z0 - (sumY (l.take (s + 1)) : Int)) := ⟨by rw [hsT]; push_cast; omega⟩
    have HWS : Aside0 (IntKind.i64.wrap ((s : Int) + 1) = ((s + 1 : Nat) : Int)) := ⟨by rw [i64_w]; unfold wrap64; push_cast; omega⟩
    clear hJ1 hJ2 hJ3 hJ4 hx hsx hsT hsl hzz hbw hok
    gi_wp2
    refine start_round (n := 10) (S := fun w' => Below W.heap.size W w') (ds := [9]) #[false, false, false, false, false, false, false, false, false, false] (by kernel_rfl) rfl rfl (by kernel_rfl) (by rintro ⟨a_, w_, h_⟩; exact h_) (below_drew1 (Below.refl _ _)) (fun hHeld => ?_)
    refine take_ (i := 0) (N := some 10) (v := ?_) (a' := ?_) #[true, false, false, false, false, false, false, false, false, false] rfl rfl (by kernel_rfl) (fun _ _ _ h => h) (Or.inl ⟨by rfl, ?_⟩) hHeld ?_ ?_
    rotate_left
    · intro w' hS_
      have e0_ : w'.cell? ⟨w.heap.size, 0, none⟩ = some (.pointer (some ⟨g, 0, none⟩)) := (blk_cell (blk_below HJ.out.2.1 hS_) 0).trans rfl
      have e1_ : w'.cell? ⟨g, 1, none⟩ = some (.int .i64 z) := (blk_cell (blk_below HJ.out.2.2.1 hS_) 1).trans rfl
      have e2_ : w'.cell? ⟨gx, 0, none⟩ = some (.string x0) := (blk_cell (blk_below HX.out hS_) 0).trans rfl
      have e3_ : w'.cell? ⟨gx, 1, none⟩ = some (.string x1) := (blk_cell (blk_below HX.out hS_) 1).trans rfl
      go_simp
      with_reducible rfl
    rotate_left
    · simp only [Act.put, List.setIfInBounds_toArray, List.set_cons_zero, List.set_cons_succ]
      rfl
    refine pure_ (i := 1) (N := some 11) (v := ?_) (a' := ?_) #[true, true, false, false, false, false, false, false, false, false] rfl rfl (by kernel_rfl) (fun _ _ _ h => h) (Or.inl ⟨by rfl, ?_⟩) ?_ ?_
    rotate_left
    · intro w'
      go_simp
      with_reducible rfl
    rotate_left
    · simp only [Act.put, List.setIfInBounds_toArray, List.set_cons_zero, List.set_cons_succ]
      rfl
    refine pure_ (i := 2) (N := some 12) (v := ?_) (a' := ?_) #[true, true, true, false, false, false, false, false, false, false] rfl rfl (by kernel_rfl) (fun _ _ _ h => h) (Or.inl ⟨by rfl, ?_⟩) ?_ ?_
    rotate_left
    · intro w'
      go_simp
      with_reducible rfl
    rotate_left
    · simp only [Act.put, List.setIfInBounds_toArray, List.set_cons_zero, List.set_cons_succ]
      rfl
    refine take_ (i := 3) (N := some 13) (v := ?_) (a' := ?_) #[true, true, true, true, false, false, false, false, false, false] rfl rfl (by kernel_rfl) (fun _ _ _ h => h) (Or.inl ⟨by rfl, ?_⟩) hHeld ?_ ?_
    rotate_left
    · intro w' hS_
      have e0_ : w'.cell? ⟨w.heap.size, 0, none⟩ = some (.pointer (some ⟨g, 0, none⟩)) := (blk_cell (blk_below HJ.out.2.1 hS_) 0).trans rfl
      have e1_ : w'.cell? ⟨g, 1, none⟩ = some (.int .i64 z) := (blk_cell (blk_below HJ.out.2.2.1 hS_) 1).trans rfl
      have e2_ : w'.cell? ⟨gx, 0, none⟩ = some (.string x0) := (blk_cell (blk_below HX.out hS_) 0).trans rfl
      have e3_ : w'.cell? ⟨gx, 1, none⟩ = some (.string x1) := (blk_cell (blk_below HX.out hS_) 1).trans rfl
      go_simp
      with_reducible rfl
    rotate_left
    · simp only [Act.put, List.setIfInBounds_toArray, List.set_cons_zero, List.set_cons_succ]
      rfl
    refine take_ (i := 4) (N := some 14) (v := ?_) (a' := ?_) #[true, true, true, true, true, false, false, false, false, false] rfl rfl (by kernel_rfl) (fun _ _ _ h => h) (Or.inl ⟨by rfl, ?_⟩) hHeld ?_ ?_
    rotate_left
    · intro w' hS_
      have e0_ : w'.cell? ⟨w.heap.size, 0, none⟩ = some (.pointer (some ⟨g, 0, none⟩)) := (blk_cell (blk_below HJ.out.2.1 hS_) 0).trans rfl
      have e1_ : w'.cell? ⟨g, 1, none⟩ = some (.int .i64 z) := (blk_cell (blk_below HJ.out.2.2.1 hS_) 1).trans rfl
      have e2_ : w'.cell? ⟨gx, 0, none⟩ = some (.string x0) := (blk_cell (blk_below HX.out hS_) 0).trans rfl
      have e3_ : w'.cell? ⟨gx, 1, none⟩ = some (.string x1) := (blk_cell (blk_below HX.out hS_) 1).trans rfl
      go_simp
      with_reducible rfl
    rotate_left
    · simp only [Act.put, List.setIfInBounds_toArray, List.set_cons_zero, List.set_cons_succ]
      rfl
    refine one_ (i := 5) (N := some 15) #[true, true, true, true, true, true, false, false, false, false] rfl rfl (by kernel_rfl) (by decide) (fun K_ hK_ => ?_)
    have HH_ := Aside0.mk hHeld
    clear hHeld
    refine goes_ Try.func56 (by kernel_rfl) rfl #[.agg #[.string x0, .string x1]] (by rfl) rfl rfl (by (try simp only [List.map_toArray, List.map_cons, List.map_nil]); first | done | rfl | (simp only [List.length_drop, List.length_take]; rfl)) ?_
    refine (dynamic_Size.is ⟨x0, x1⟩ _ HX0.out HX1.out).mono ?_
    rintro e_ w3 ⟨rfl, hbe_⟩
    refine ⟨_, rfl, ?_⟩
    have hbn_ := below_step HH_.out hbe_
    clear HH_ hbe_
    refine hK_.out _ _ (hbn_) (fun hHeld => ?_)
    clear hK_
    refine norm_ (a' := ?_) ?_ ?_
    rotate_left
    · simp only [Act.put, List.setIfInBounds_toArray, List.set_cons_zero, List.set_cons_succ]
      rfl
    refine pure_ (i := 6) (N := some 16) (v := ?_) (a' := ?_) #[true, true, true, true, true, true, true, false, false, false] rfl rfl (by kernel_rfl) (fun _ _ _ h => h) (Or.inl ⟨by rfl, ?_⟩) ?_ ?_
    rotate_left
    · intro w'
      (try simp only [HWR.out])
      go_simp
      (try simp only [HWR.out])
      with_reducible rfl
    rotate_left
    · simp only [Act.put, List.setIfInBounds_toArray, List.set_cons_zero, List.set_cons_succ]
      rfl
    refine pure_ (i := 7) (N := some 17) (v := ?_) (a' := ?_) #[true, true, true, true, true, true, true, true, false, false] rfl rfl (by kernel_rfl) (fun _ _ _ h => h) (Or.inl ⟨by rfl, ?_⟩) ?_ ?_
    rotate_left
    · intro w'
      go_simp
      with_reducible rfl
    rotate_left
    · simp only [Act.put, List.setIfInBounds_toArray, List.set_cons_zero, List.set_cons_succ]
      rfl
    refine pure_ (i := 8) (N := some 18) (v := ?_) (a' := ?_) #[true, true, true, true, true, true, true, true, true, false] rfl rfl (by kernel_rfl) (fun _ _ _ h => h) (Or.inl ⟨by rfl, ?_⟩) ?_ ?_
    rotate_left
    · intro w'
      go_simp
      with_reducible rfl
    rotate_left
    · simp only [Act.put, List.setIfInBounds_toArray, List.set_cons_zero, List.set_cons_succ]
      rfl
    have HD := Aside0.mk hHeld
    clear hHeld
    have s1_ : w3.cell? ⟨g, 1, none⟩ = some (.int .i64 z) := (blk_cell (blk_below HJ.out.2.2.1 HD.out) 1).trans rfl
    have f1_ := blk_frozen (blk_below HJ.out.2.2.1 HD.out) 1
    refine last_store (i := 9) (w1 := (w3.setCell ⟨g, 1, none⟩ (.int .i64 (z - (szF ⟨x0, x1⟩ : Int))))) #[true, true, true, true, true, true, true, true, true, true] rfl rfl (by kernel_rfl) (by decide) (by rfl) (by first | (go_simp; done) | (go_simp; rfl)) ?_
    clear s1_ f1_
    refine done_ (by kernel_rfl) ?_
    have hKO : KeepsOthers W w3 := KeepsOthers.of_grownBy (below_grown HD.out) (fun j o e => by cases e)
    have hj1 := blk_below HJ.out.1 HD.out
    have hj2 := blk_below HJ.out.2.1 HD.out
    have hj3 := blk_below HJ.out.2.2.1 HD.out
    have hg4 := blk_far hj1 (p := ⟨g, 1, none⟩) (fun e => by simp only [] at e; omega) (.int .i64 (z - (szF ⟨x0, x1⟩ : Int)))
    have i0_ : (w3.setCell ⟨g, 1, none⟩ (.int .i64 (z - (szF ⟨x0, x1⟩ : Int)))).cell? ⟨w.heap.size + 1, 0, none⟩ = some (.int .i64 (s : Int)) := (blk_cell hg4 0).trans rfl
    have i1_ := blk_frozen hg4 0
    have HKO := Aside0.mk hKO
    have HJ1 := Aside0.mk hj1
    have HJ2 := Aside0.mk hj2
    have HJ3 := Aside0.mk hj3
    have HG4 := Aside0.mk hg4
    have HKP := Aside0.mk HJ.out.2.2.2
    have HJG := Aside0.mk HJ.out.2.2.1
    clear hKO hj1 hj2 hj3 hg4 HJ HX
    gi_wp2
    try rw [HWS.out]
    refine ⟨(HKO.out.trans (KeepsOthers.setCell _ _ _)).trans (KeepsOthers.setCell _ _ _), ⟨?_, ?_⟩, ?_, ?_, ?_, ?_, hso⟩
    · have hk0 : Keeps W0 W (fun k => (k = g ∨ k = w.heap.size + 1) ∨ w_.heap.size ≤ k) := ⟨HBW.out.os, HBW.out.tape, HBW.out.output, HBW.out.size, fun k hk hn => HBW.out.block k (Nat.lt_of_not_le (fun h => hn (.inr h)))⟩
      exact ((hk0.below HD.out).set (.inl (.inl (.inl rfl))) 1 _).set (.inl (.inl (.inr rfl))) 0 _
    · intro z' hz'
      have h1 := (HBW.out.block g (by omega)).trans hz'
      rw [HJG.out] at h1
      obtain rfl : z = z' := by
        simp only [Yc, Option.some.injEq, Obj.cells.injEq, Array.mk.injEq, List.cons.injEq, Value.int.injEq, true_and, and_true] at h1
        exact h1
      exact blk_far ((blk_put HJ3.out 1 (.int .i64 (z - (szF ⟨x0, x1⟩ : Int))) rfl).trans rfl) (p := ⟨w.heap.size + 1, 0, none⟩) (fun e => by simp only [] at e; omega) _
    · exact (blk_put HG4.out 0 (.int .i64 ((s + 1 : Nat) : Int)) rfl).trans rfl
    · exact blk_far (blk_far HJ2.out (p := ⟨g, 1, none⟩) (fun e => by simp only [] at e; omega) _) (p := ⟨w.heap.size + 1, 0, none⟩) (fun e => by simp only [] at e; omega) _
    · rw [← HNZ.out]
      exact blk_far ((blk_put HJ3.out 1 (.int .i64 (z - (szF ⟨x0, x1⟩ : Int))) rfl).trans rfl) (p := ⟨w.heap.size + 1, 0, none⟩) (fun e => by simp only [] at e; omega) _
    · exact ((HKP.out.below HD.out).set (.inl rfl) 1 _).set (.inr (by omega)) 0 _

  case done =>
    rintro D s W hD hS ⟨hJ1, hJ2, hJ3, hJ4, hJ5⟩ hK
    subst hS
    obtain ⟨s, hs_⟩ : ∃ s, evN most room z0 l = s := ⟨_, rfl⟩
    rw [hs_] at hJ1 hJ3 hJ5
    have HS_ := Aside0.mk hs_
    clear hs_
    obtain ⟨z, hzz⟩ : ∃ z, z0 - (sumY (l.take s) : Int) = z := ⟨_, rfl⟩
    rw [hzz] at hJ3
    have HZZ := Aside0.mk hzz
    clear hzz
    have HJ := Aside0.mk (And.intro hJ1 (And.intro hJ2 (And.intro hJ3 (And.intro hJ4 hK))))
    obtain ⟨A', hA'⟩ : ∃ A', (if c = s then A else Option.map (fun x => x.add (s * 2)) A) = A' := ⟨_, rfl⟩
    have hrow : RY W (.slice A l.length c) l := HI.out.2.1.keeps hJ4 (fun k hk hs => HI.out.2.2 (by rw [hk, show k = g from hs]))
    obtain ⟨_, _, e2_, _, hCl⟩ := hrow.reads
    obtain ⟨rfl, rfl⟩ : A = _ ∧ c = _ := by injection e2_ with h1 _ h3; exact ⟨h1, h3⟩
    have hd_ := Kd.C_drop hCl hJ5 hc
    rw [show k78.sz = 2 from rfl, hA'] at hd_
    have HCD := Aside0.mk hd_
    clear hd_ e2_ hrow hCl hJ1 hJ2 hJ3 hJ4 hK hI0
    have hlT : ((s : Int) ≤ (l.length : Int)) = True := eq_true (by omega)
    have hlC : ((l.length : Int) ≤ (c : Int)) = True := eq_true (by omega)
    go_wp2
    refine start_ (n := 11) (S := fun w' => Below W.heap.size W w') (ds := [10]) #[false, false, false, false, false, false, false, false, false, false, false] (by kernel_rfl) rfl rfl (below_drew1 (Below.refl _ _)) (fun hHeld => ?_)
    refine take_ (i := 0) (N := some 21) (v := ?_) (a' := ?_) #[true, false, false, false, false, false, false, false, false, false, false] rfl rfl (by kernel_rfl) (fun c_ a_ w_ h_ => postM_put (results_no rfl) _ _ c_ a_ w_ h_) (Or.inl ⟨by rfl, ?_⟩) hHeld ?_ ?_
    rotate_left
    · intro w' hS_
      have e0_ : w'.cell? ⟨w.heap.size, 0, none⟩ = some (.pointer (some ⟨g, 0, none⟩)) := (blk_cell (blk_below HJ.out.2.1 hS_) 0).trans rfl
      have e1_ : w'.cell? ⟨g, 0, none⟩ = some (.slice A l.length c) := (blk_cell (blk_below HJ.out.2.2.1 hS_) 0).trans rfl
      have e2_ : w'.cell? ⟨w.heap.size + 1, 0, none⟩ = some (.int .i64 (s : Int)) := (blk_cell (blk_below HJ.out.1 hS_) 0).trans rfl
      go_simp
      with_reducible rfl
    rotate_left
    · simp only [Act.put, List.setIfInBounds_toArray, List.set_cons_zero, List.set_cons_succ]
      rfl
    refine take_ (i := 1) (N := some 22) (v := ?_) (a' := ?_) #[true, true, false, false, false, false, false, false, false, false, false] rfl rfl (by kernel_rfl) (fun c_ a_ w_ h_ => postM_put (results_no rfl) _ _ c_ a_ w_ h_) (Or.inl ⟨by rfl, ?_⟩) hHeld ?_ ?_
    rotate_left
    · intro w' hS_
      have e0_ : w'.cell? ⟨w.heap.size, 0, none⟩ = some (.pointer (some ⟨g, 0, none⟩)) := (blk_cell (blk_below HJ.out.2.1 hS_) 0).trans rfl
      have e1_ : w'.cell? ⟨g, 0, none⟩ = some (.slice A l.length c) := (blk_cell (blk_below HJ.out.2.2.1 hS_) 0).trans rfl
      have e2_ : w'.cell? ⟨w.heap.size + 1, 0, none⟩ = some (.int .i64 (s : Int)) := (blk_cell (blk_below HJ.out.1 hS_) 0).trans rfl
      go_simp
      with_reducible rfl
    rotate_left
    · simp only [Act.put, List.setIfInBounds_toArray, List.set_cons_zero, List.set_cons_succ]
      rfl
    refine pure_ (i := 2) (N := some 23) (v := ?_) (a' := ?_) #[true, true, true, false, false, false, false, false, false, false, false] rfl rfl (by kernel_rfl) (fun c_ a_ w_ h_ => postM_put (results_no rfl) _ _ c_ a_ w_ h_) (Or.inl ⟨by rfl, ?_⟩) ?_ ?_
    rotate_left
    · intro w'
      go_simp
      with_reducible rfl
    rotate_left
    · simp only [Act.put, List.setIfInBounds_toArray, List.set_cons_zero, List.set_cons_succ]
      rfl
    refine pure_ (i := 3) (N := some 24) (v := ?_) (a' := ?_) #[true, true, true, true, false, false, false, false, false, false, false] rfl rfl (by kernel_rfl) (fun c_ a_ w_ h_ => postM_put (results_no rfl) _ _ c_ a_ w_ h_) (Or.inl ⟨by rfl, ?_⟩) ?_ ?_
    rotate_left
    · intro w'
      go_simp
      with_reducible rfl
    rotate_left
    · simp only [Act.put, List.setIfInBounds_toArray, List.set_cons_zero, List.set_cons_succ]
      rfl
    refine take_ (i := 4) (N := some 25) (v := ?_) (a' := ?_) #[true, true, true, true, true, false, false, false, false, false, false] rfl rfl (by kernel_rfl) (fun c_ a_ w_ h_ => postM_put (results_no rfl) _ _ c_ a_ w_ h_) (Or.inl ⟨by rfl, ?_⟩) hHeld ?_ ?_
    rotate_left
    · intro w' hS_
      have e0_ : w'.cell? ⟨w.heap.size, 0, none⟩ = some (.pointer (some ⟨g, 0, none⟩)) := (blk_cell (blk_below HJ.out.2.1 hS_) 0).trans rfl
      have e1_ : w'.cell? ⟨g, 0, none⟩ = some (.slice A l.length c) := (blk_cell (blk_below HJ.out.2.2.1 hS_) 0).trans rfl
      have e2_ : w'.cell? ⟨w.heap.size + 1, 0, none⟩ = some (.int .i64 (s : Int)) := (blk_cell (blk_below HJ.out.1 hS_) 0).trans rfl
      go_simp
      with_reducible rfl
    rotate_left
    · simp only [Act.put, List.setIfInBounds_toArray, List.set_cons_zero, List.set_cons_succ]
      rfl
    refine take_ (i := 5) (N := some 26) (v := ?_) (a' := ?_) #[true, true, true, true, true, true, false, false, false, false, false] rfl rfl (by kernel_rfl) (fun c_ a_ w_ h_ => postM_put (results_no rfl) _ _ c_ a_ w_ h_) (Or.inl ⟨by rfl, ?_⟩) hHeld ?_ ?_
    rotate_left
    · intro w' hS_
      have e0_ : w'.cell? ⟨w.heap.size, 0, none⟩ = some (.pointer (some ⟨g, 0, none⟩)) := (blk_cell (blk_below HJ.out.2.1 hS_) 0).trans rfl
      have e1_ : w'.cell? ⟨g, 0, none⟩ = some (.slice A l.length c) := (blk_cell (blk_below HJ.out.2.2.1 hS_) 0).trans rfl
      have e2_ : w'.cell? ⟨w.heap.size + 1, 0, none⟩ = some (.int .i64 (s : Int)) := (blk_cell (blk_below HJ.out.1 hS_) 0).trans rfl
      go_simp
      with_reducible rfl
    rotate_left
    · simp only [Act.put, List.setIfInBounds_toArray, List.set_cons_zero, List.set_cons_succ]
      rfl
    refine pure_ (i := 6) (N := some 27) (v := ?_) (a' := ?_) #[true, true, true, true, true, true, true, false, false, false, false] rfl rfl (by kernel_rfl) (fun c_ a_ w_ h_ => postM_put (results_no rfl) _ _ c_ a_ w_ h_) (Or.inl ⟨by rfl, ?_⟩) ?_ ?_
    rotate_left
    · intro w'
      (try simp only [hA'])
      go_simp
      (try simp only [hA'])
      with_reducible rfl
    rotate_left
    · simp only [Act.put, List.setIfInBounds_toArray, List.set_cons_zero, List.set_cons_succ]
      rfl
    refine one_ (i := 7) (N := some 28) #[true, true, true, true, true, true, true, true, false, false, false] rfl rfl (by kernel_rfl) (by decide) (fun K_ hK_ => ?_)
    have HH_ := Aside0.mk hHeld
    clear hHeld
    have hE_ := clone78 A' (c - s) (l.drop s) _ (Kd.C_below HCD.out HH_.out) (by rw [List.length_drop]; omega) (by rw [List.length_drop]; omega)
    rw [List.length_drop] at hE_
    refine goes_ Try.func99 (by kernel_rfl) rfl #[.slice A' (l.length - s) (c - s)] (by rfl) rfl rfl (by (try simp only [List.map_toArray, List.map_cons, List.map_nil]); first | done | rfl | (simp only [List.length_drop, List.length_take]; rfl)) ?_
    refine hE_.mono ?_
    rintro e_ w3 ⟨v3, rfl, hR3_, hn3_, hbe_⟩
    refine ⟨_, rfl, ?_⟩
    obtain ⟨A3, c3, rfl, _, _⟩ := hR3_.reads
    have HR3 := Aside0.mk hR3_
    have HN3 : Aside0 (∀ k, (Value.slice A3 (l.drop s).length c3).ownBlock = some k → W.heap.size ≤ k) := ⟨fun k hk_ => Nat.le_trans HH_.out.size (hn3_ k hk_)⟩
    have hbn_ := below_step HH_.out hbe_
    clear HH_ hbe_ hE_ hR3_ hn3_
    refine hK_.out _ _ (hbn_) (fun hHeld => ?_)
    clear hK_
    refine norm_ (a' := ?_) ?_ ?_
    rotate_left
    · simp only [Act.put, List.setIfInBounds_toArray, List.set_cons_zero, List.set_cons_succ]
      rfl
    refine pure_ (i := 8) (N := some 29) (v := ?_) (a' := ?_) #[true, true, true, true, true, true, true, true, true, false, false] rfl rfl (by kernel_rfl) (fun c_ a_ w_ h_ => postM_put (results_no rfl) _ _ c_ a_ w_ h_) (Or.inl ⟨by rfl, ?_⟩) ?_ ?_
    rotate_left
    · intro w'
      go_simp
      with_reducible rfl
    rotate_left
    · simp only [Act.put, List.setIfInBounds_toArray, List.set_cons_zero, List.set_cons_succ]
      rfl
    refine pure_ (i := 9) (N := some 30) (v := ?_) (a' := ?_) #[true, true, true, true, true, true, true, true, true, true, false] rfl rfl (by kernel_rfl) (fun c_ a_ w_ h_ => postM_put (results_no rfl) _ _ c_ a_ w_ h_) (Or.inl ⟨by rfl, ?_⟩) ?_ ?_
    rotate_left
    · intro w'
      go_simp
      with_reducible rfl
    rotate_left
    · simp only [Act.put, List.setIfInBounds_toArray, List.set_cons_zero, List.set_cons_succ]
      rfl
    have HD := Aside0.mk hHeld
    clear hHeld
    have s1_ : w3.cell? ⟨g, 0, none⟩ = some (.slice A l.length c) := (blk_cell (blk_below HJ.out.2.2.1 HD.out) 0).trans rfl
    have f1_ := blk_frozen (blk_below HJ.out.2.2.1 HD.out) 0
    refine last_store (i := 10) (w1 := (w3.setCell ⟨g, 0, none⟩ (.slice A3 (l.drop s).length c3))) #[true, true, true, true, true, true, true, true, true, true, true] rfl rfl (by kernel_rfl) (by decide) (by rfl) (by first | (go_simp; done) | (go_simp; rfl)) ?_
    clear s1_ f1_
    refine done_ (by kernel_rfl) ?_
    have hb3_ := blk_below HJ.out.2.2.1 HD.out
    have hD3_ := blk_below HJ.out.2.2.2.2 HD.out
    have hDl_ := blk_lt HJ.out.2.2.2.2
    have hD4_ : (w3.setCell ⟨g, 0, none⟩ (.slice A3 (l.drop s).length c3)).heap[D]? = some (.deferred (some [])) := (Below.heap_setCell w3 ⟨g, 0, none⟩ (.slice A3 (l.drop s).length c3) D (fun e => by have e2 : D = g := e; omega)).trans hD3_
    refine ⟨by simp, .inl ⟨_, _, rfl, run_takeDeferred hD4_, ?_⟩⟩
    have hg5_ := grownBy_putObj' (w3.setCell ⟨g, 0, none⟩ (.slice A3 (l.drop s).length c3)) D (.deferred none)
    have hk5_ : Keeps (w3.setCell ⟨g, 0, none⟩ (.slice A3 (l.drop s).length c3)) ((w3.setCell ⟨g, 0, none⟩ (.slice A3 (l.drop s).length c3)).putObj D (.deferred none)) (One D) := (Keeps.refl _ _).grown hg5_ (fun k e => by cases e; exact .inl rfl)
    have hY4_ : IsY (w3.setCell ⟨g, 0, none⟩ (.slice A3 (l.drop s).length c3)) g bound most (.slice A3 (l.drop s).length c3) (l.drop s) z :=
      ⟨(blk_put hb3_ 0 _ rfl).trans rfl, HR3.out.keeps (Keeps.set (S := One g) (Keeps.refl w3 _) (.inl rfl) 0 _) (fun k e hk => by have h1 := HN3.out k e; have h2 : k = g := hk; omega), fun e => by have h1 := HN3.out g e; omega⟩
    refine ⟨.tuple #[], by simp [results], ?_⟩
    refine ⟨_, rfl, .slice A3 (l.drop s).length c3, ?_, ?_, ?_⟩
    · rw [HS_.out, HZZ.out]
      exact hY4_.keeps hk5_ (fun k hk e => by
        have h2 : k = D := e
        rcases hk with rfl | hk
        · omega
        · have h1 := HN3.out k hk; omega)
    · exact ((HJ.out.2.2.2.1.below HD.out).set (.inl rfl) 0 _).grown hg5_ (fun k e => by cases e; right; omega)
    · intro k hk
      have h1 := HN3.out k hk
      omega

  case stop => exact fun _ _ _ _ _ h => h.elim
end
end Go.Proofs.Ytjkadheknjkkbaa.De
