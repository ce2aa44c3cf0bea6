/-
  CONTROL: payloads, Bytes.
  Conditions: none of its own; lemmas that the claim's row rests on.
-/
import Derived.Test.YtbmnplojpeabmaaCtC
import Derived.Test.YtbmnplojpeabmaaRangeOk
import Derived.Test.YtbmnplojpeabmaaRegionRound
import Derived.TacticsInMore
import Derived.LoopNIn
import Derived.LoopIn
import Derived.OwnWalkIn
import Derived.Shelf.RegionOpen
import Derived.WalkKit
import Derived.Sort.CutIn
namespace Go.Proofs.Ytbmnplojpeabmaa.QK
open Go.RowKit Go.Proofs.YtbmnplojpeabmaaW.PrintWords Go.Proofs.YtbmnplojpeabmaaW.PrintLast Go.Proofs.YtbmnplojpeabmaaW.PrintMore
attribute [local go_sem] max2_int min2_int max_two min_two max_three min_three max_four min_four
set_option linter.unusedVariables false
set_option linter.unusedSimpArgs false
open Go.Proofs.Ytbmnplojpeabmaa.Ob
open Go.Proofs.YtbmnplojpeabmaaR
/-- How many bytes the payloads have. -/
def sumF : List S67 → Nat
  | [] => 0
  | x :: l => x.f3.length + sumF l
theorem sumF_append (l m : List S67) : sumF (l ++ m) = sumF l + sumF m := by
  induction l with
  | nil => simp [sumF]
  | cons x l ih => simp only [List.cons_append, sumF, ih]; omega
theorem sumF_take (l : List S67) (j : Nat) (hj : j < l.length) : sumF (l.take (j + 1)) = sumF (l.take j) + (rd_T67 l (j : Int)).f3.length := by
  have e : rd_T67 l (j : Int) = l[j] := by simp [rd_T67, hj]
  rw [List.take_succ_eq_append_getElem hj, sumF_append, e]
  rfl
theorem sumF_le (l : List S67) (j : Nat) : sumF (l.take j) ≤ sumF l := by
  have h := sumF_append (l.take j) (l.drop j)
  rw [List.take_append_drop] at h
  omega
abbrev Pl := Option Addr × Nat × Nat
def Pl.encs (x : Pl) : Array Value := #[.slice x.1 x.2.1 x.2.2]
def Pl.Ok (l : List S67) (s : Nat) (x : Pl) (_ : World) : Prop := s < l.length ∧ x.2.1 = (rd_T67 l (s : Int)).f3.length
def Pl.Kp (B Bq : Nat) (_ : Pl) (W W' : World) : Prop := Below B W W' ∧ W'.heap[Bq]? = W.heap[Bq]?
theorem below_grown {w w' : World} (h : Below w.heap.size w w') : w.grownBy w' none := ⟨h.os, h.tape, h.output, h.size, fun k hk _ => h.block k hk⟩
theorem IsC.C {w : World} {g : Nat} {room : Int} {A : Option Addr} {c : Nat} {l : List S67} {ended : Bool} {ok : Nat → Prop} (h : IsC w g room (.slice A l.length c) l ended ok) : Kd.C k67 w A l.length l := (Kd.N_reads' h.row).2.2
set_option maxHeartbeats 4000000 in
set_option maxRecDepth 100000 in
theorem payloads1.stops (g : Nat) (room : Int) (A : Option Addr) (c : Nat) (l : List S67) (ended : Bool) (ok : Nat → Prop) (w0 w : World) (Bq : Nat) (hI : IsC w0 g room (.slice A l.length c) l ended ok) (hbel : Below w0.heap.size w0 w) (hq : w.heap[Bq]? = some (.cells #[.pointer (some ⟨g, 0, none⟩)] 76 (0, 0))) (hl : l.length ≤ 100000) :
    SeqOk Fence.wide 2 Try.prog 100 #[.pointer (some ⟨Bq, 0, none⟩)] Pl.encs (Pl.Ok l) (Pl.Kp w0.heap.size Bq) (0 : Nat) (fun s _ _ => s + 1) (fun s => ¬ s < l.length) w := by
  intro L J Jx W hW hJ hJx hY h0
  refine callsIn_wide.2 ?_
  have hu67 := Try.underlying67
  have HI := Aside0.mk hI
  have HBq := Aside0.mk (blk_below hq hW)
  have HY := Aside0.mk hY
  have HJ := Aside0.mk hJ
  have HJx := Aside0.mk hJx
  clear hI hq hY hJ hJx
  have HB := Aside0.mk (below_step hbel hW)
  clear hbel
  have H0 := Aside0.mk h0
  clear h0 hW
  have hcq : W.cell? ⟨Bq, 0, none⟩ = some (.pointer (some ⟨g, 0, none⟩)) := (blk_cell HBq.out 0).trans rfl
  have hcr : W.cell? ⟨g, 1, none⟩ = some (.slice A l.length c) := (blk_cell (HI.out.below HB.out).blk 1).trans rfl
  simp only [List.append_toArray, List.cons_append, List.nil_append]
  go_enter Try.func100, Try.ntmps100
  go_wp2
  clear hcq hcr
  go_loopg [12] (l.length + 1) (fun kq v12 w' => ∃ (j : Nat), v12 = .int .i64 j ∧ Aside0 (J j w') ∧ Aside0 (j + kq = l.length + 1 ∧ j ≤ l.length) ∧ Aside0 (Below w0.heap.size w0 w') ∧ Aside0 (w'.heap[Bq]? = some (.cells #[.pointer (some ⟨g, 0, none⟩)] 76 (0, 0))))
  case atStart => exact ⟨0, rfl, H0, ⟨by omega⟩, HB, HBq⟩
  case round =>
    clear HB H0 HBq
    obtain ⟨j, rfl, HJs, HK, HB, HBq⟩ := hrel
    by_cases c1 : j < l.length
    · obtain ⟨k1, hk1⟩ : ∃ q, gk = q + 1 := ⟨gk - 1, by have := HK.out; omega⟩
      subst hk1
      obtain ⟨ad, A3, c3, e1, hy0, hy1, hy2, hy3, hc3, hrp⟩ := at_T67 (HI.out.below HB.out).C (j : Int) (by omega) (by omega)
      subst e1
      rw [Int.toNat_natCast] at hy0 hy1 hy2 hy3
      have q1 : ((j : Int) < (l.length : Int)) = True := eq_true (by omega)
      have q0 : ((0 : Int) ≤ (j : Int)) = True := eq_true (by omega)
      have hwr : wrap64 ((j : Int) + 1) = (j : Int) + 1 := by unfold wrap64; omega
      have HW := Aside0.mk hwr
      clear hwr hrp
      have HX : Aside0 (∃ X, rd_T67 l (j : Int) = X) := ⟨_, rfl⟩
      obtain ⟨X, hX⟩ := HX.out
      have HXE := Aside0.mk hX
      rw [hX] at hy0 hy1 hy2 hy3 hc3
      clear hX HX
      obtain ⟨x0, x1, x2, x3⟩ := X
      simp only [] at hy0 hy1 hy2 hy3 hc3
      go_upto_region 4 with fail
      have hBa := below_alloc (Below.refl wr.heap.size wr) (.cells #[.int .i64 x0, .int .i64 x1, .int .i64 x2, .slice A3 x3.length c3] 67)
      obtain ⟨fn_, tmps_, assign_, body_, hy, hR⟩ := HY.out j (A3, x3.length, c3) _ (HJ.out _ _ _ none HJs.out (below_grown hBa) (fun r e => by cases e)) ⟨c1, by rw [HXE.out]⟩
      simp only [Pl.encs, Pl.Kp] at hy hR
      have HBa := Aside0.mk (below_step HB.out hBa)
      have HBq2 := Aside0.mk (blk_below HBq.out hBa)
      clear HY HJ HJx HBq hBa HJs HB hu67 hy0 hy1 hy2 hy3
      refine (wpIn_wide (n := 2)).1 ?_
      gi_wp2
      refine hR.mono ?_
      clear hR hy
      rintro e_ W3 (⟨rfl, hJ3, hk3, hk4⟩ | ⟨rfl, hJx3⟩)
      · gi_wp2
        go_wp2
        go_roundg k1
        case measure => omega
        case rel => exact ⟨j + 1, (by first | rfl | (rw [HW.out]; rfl) | (push_cast; rfl)), ⟨hJ3⟩, ⟨by have := HK.out; omega⟩, ⟨HBa.out.trans hk3⟩, ⟨hk4.trans HBq2.out⟩⟩
      · gi_wp2
        go_wp2
        refine bodyPost_ret (results_none rfl _ _ _) rfl ?_
        exact ⟨⟨_, rfl⟩, .inr ⟨_, hJx3⟩⟩
    · have c1b : decide ((j : Int) < (l.length : Int)) = false := decide_eq_false (by omega)
      go_wp2
      go_end0
      exact ⟨⟨_, rfl⟩, .inl ⟨j, c1, HJs.out⟩⟩
theorem payloads.calls (p : Option Addr) (w : World) : Calls Try.prog 93 #[.pointer p] w fun e w' => ∃ Bq, e = .returned (.func (.func 100) #[] #[.pointer (some ⟨Bq, 0, none⟩)]) ∧ w'.heap[Bq]? = some (.cells #[.pointer p] 76 (0, 0)) ∧ w.heap.size ≤ Bq ∧ Below w.heap.size w w' := by
  go_enter Try.func93, Try.ntmps93
  go_wp2
  go_ret
  exact ⟨_, rfl, blk_new _ _, Nat.le_refl _, below_alloc (Below.refl _ _) _⟩
section
attribute [local go_sem] Oper.semAt_some
theorem blk_turn {W W' : World} {g t : Nat} {cs : Array Value} {row : Option Nat} (h : W.heap[g]? = some (.cells cs t (0, 0))) (hg : W.grownBy W' row) (hr : ∀ r, row = some r → ∃ o : Obj, W.heap[r]? = some o ∧ o.isCells = false) : W'.heap[g]? = some (.cells cs t (0, 0)) :=
  (hg.block g (blk_lt h) (fun e => by
    obtain ⟨o, ho, hc⟩ := hr g e.symm
    rw [h] at ho
    cases ho
    cases hc)).trans h
/-- Between two rounds: the sum so far. -/
def BytesJ (w : World) (g Bq : Nat) (l : List S67) (s : Nat) (W : World) : Prop :=
  W.heap[w.heap.size]? = some (.cells #[.int .i64 ((sumF (l.take s) : Nat) : Int)] 3 (0, 0)) ∧ W.heap[Bq]? = some (.cells #[.pointer (some ⟨g, 0, none⟩)] 76 (0, 0)) ∧ Below w.heap.size w W ∧ s ≤ l.length
theorem BytesJ.own {w : World} {g Bq : Nat} {l : List S67} {B : Nat} (hB : w.heap.size ≤ B) : OwnFrom B (BytesJ w g Bq l) := fun s A C row hs hg hr => by
  have hr' : ∀ r, row = some r → ∃ o : Obj, A.heap[r]? = some o ∧ o.isCells = false := fun r e => (hr r e).2
  exact ⟨blk_turn hs.1 hg hr', blk_turn hs.2.1 hg hr', hs.2.2.1.grown hg hs.2.2.1.size (fun k e => Nat.le_trans hB (hr k e).1), hs.2.2.2⟩
set_option maxHeartbeats 4000000 in
set_option maxRecDepth 100000 in
theorem control_Bytes.is (w : World) (g : Nat) (room : Int) (v : Value) (l : List S67) (ended : Bool) (ok : Nat → Prop) (h : IsC w g room v l ended ok) (hl : l.length ≤ 100000) (hs : sumF l ≤ 1000000000) :
    Calls Try.prog 57 #[.pointer (some ⟨g, 0, none⟩)] w fun e w' => e = .returned (.int .i64 ((sumF l : Nat) : Int)) ∧ Below w.heap.size w w' := by
  obtain ⟨A, c, rfl⟩ := h.form
  have HI := Aside0.mk h
  clear h
  refine (callsIn_wide (n := 3)).1 (callsIn_of_wp_marks Try.func57 rfl trivial (wpIn_wide.2 ?_))
  simp only [Try.ntmps57, List.size_toArray, List.length_cons, List.length_nil, Nat.reduceAdd, Nat.reduceSub, Array.replicate_succ, Array.replicate_zero, List.push_toArray, List.append_toArray, List.nil_append, List.cons_append]
  go_wp2_with (first | go_step3 | (go_at_call 93; refine (payloads.calls (some ⟨g, 0, none⟩) _).mono ?_; rintro e_ w_ ⟨Bq, rfl, hb1, hgb, hb⟩))
  have h1 := blk_new w (.cells #[.int .i64 0] 3)
  simp only [World.size_alloc] at hgb
  have HB := Aside0.mk (below_step (below_alloc (Below.refl w.heap.size w) _) hb)
  have hBw := HB.out.size
  have hI0 : BytesJ w g Bq l 0 w_ := ⟨blk_below h1 hb, hb1, HB.out, Nat.zero_le _⟩
  have hbq : w.heap.size + 1 ≤ Bq := hgb
  refine (wpIn_wide (n := 3)).1 ?_
  refine rangeFunc_ok (s0 := (0 : Nat)) rfl (by omega) (gf := 100) (lb := #[.pointer (some ⟨Bq, 0, none⟩)]) rfl trivial (enters_of Try.func100 (by kernel_rfl) rfl)
    (payloads1.stops g room A c l ended ok w w_ Bq HI.out HB.out hb1 hl)
    (fun x A' C l' o o' hl' ho hc hw hk => ⟨hk.1.grown (grownBy_putObj' C l' o') (Nat.le_trans hBw (Nat.le_trans hl' (Nat.le_of_lt (blk_lt ho)))) (fun k e => by cases e; exact Nat.le_trans hBw hl'), (World.putObj_heap_other (by have := blk_lt hb1; omega)).trans hk.2⟩) (Below.refl _ _) (fun _ => rfl)
    (BytesJ w g Bq l) (fun _ _ _ => False) (BytesJ.own hBw) (fun _ _ _ _ _ h _ _ => h.elim) hI0
    (fun x a' W => a' = { tmps := #[.pointer (some ⟨g, 0, none⟩), undef, .int .i64 0, .pointer (some ⟨w.heap.size, 0, none⟩), .slice x.1 x.2.1 x.2.2, .pointer (some ⟨g, 0, none⟩), .func (.func 100) #[] #[.pointer (some ⟨Bq, 0, none⟩)], .slice x.1 x.2.1 x.2.2, undef, undef, undef, undef, undef], defers := [] }) (fun x a' _ A' C row hs hg hr => hs) ?assign ?body ?done ?stop
  case assign =>
    rintro L s x W K hle hI hok hK
    have e0 : ((#[7] : Array Tmp).zip (Pl.encs x)).foldl (fun t (p, v) => t.setIfInBounds p v) (#[.pointer (some ⟨g, 0, none⟩), undef, .int .i64 0, .pointer (some ⟨w.heap.size, 0, none⟩), undef, .pointer (some ⟨g, 0, none⟩), .func (.func 100) #[] #[.pointer (some ⟨Bq, 0, none⟩)], undef, undef, undef, undef, undef, undef] : Array Value) = #[.pointer (some ⟨g, 0, none⟩), undef, .int .i64 0, .pointer (some ⟨w.heap.size, 0, none⟩), undef, .pointer (some ⟨g, 0, none⟩), .func (.func 100) #[] #[.pointer (some ⟨Bq, 0, none⟩)], .slice x.1 x.2.1 x.2.2, undef, undef, undef, undef, undef] := by simp [Pl.encs]
    rw [e0]
    clear e0
    gi_wp2
    exact hK _ _ (Below.refl _ _) hI rfl
  case body =>
    rintro L s x a' W0 W hle hst hbw hI hok rfl
    obtain ⟨hJ1, hJ2, hJ3, hJ4⟩ := hI
    obtain ⟨hok1, hok2⟩ := hok
    obtain ⟨xa, xn, xc⟩ := x
    simp only [] at hok2
    have hst := sumF_take l s hok1
    have hle1 := sumF_le l (s + 1)
    obtain ⟨sm, hsm⟩ : ∃ sm, sumF (l.take s) = sm := ⟨_, rfl⟩
    obtain ⟨sn, hsn⟩ : ∃ sn, sumF (l.take (s + 1)) = sn := ⟨_, rfl⟩
    rw [hsm] at hJ1 hst
    rw [hsn] at hst hle1
    rw [← hok2] at hst
    have q0 : W.cell? ⟨w.heap.size, 0, none⟩ = some (.int .i64 (sm : Int)) := (blk_cell hJ1 0).trans rfl
    have q1 := blk_frozen hJ1 0
    have hwr : wrap64 ((sm : Int) + (xn : Int)) = (sn : Int) := by unfold wrap64; omega
    have HJ := Aside0.mk (And.intro hJ1 (And.intro hJ2 (And.intro hJ3 hJ4)))
    have HW := Aside0.mk hwr
    have HSN := Aside0.mk hsn
    have HO := Aside0.mk hok1
    have HBW := Aside0.mk hbw
    clear hJ1 hJ2 hJ3 hJ4 hst hsm hsn hok2 hwr hok1 hbw
    gi_wp2
    obtain ⟨hJ1, hJ2, hJ3, hJ4⟩ := HJ.out
    rw [HW.out]
    have hBqw : Bq < w_.heap.size := blk_lt hb1
    refine ⟨KeepsOthers.setCell _ _ _, ⟨(HBW.out.mono hBw).setCell (p := ⟨w.heap.size, 0, none⟩) (Nat.le_refl _) _, (Below.heap_setCell W ⟨w.heap.size, 0, none⟩ _ Bq (by simp only []; omega)).trans (HBW.out.block Bq hBqw)⟩, ?_⟩
    refine ⟨?_, (Below.heap_setCell W ⟨w.heap.size, 0, none⟩ _ Bq (by simp only []; omega)).trans hJ2, hJ3.setCell (p := ⟨w.heap.size, 0, none⟩) (Nat.le_refl _) _, HO.out⟩
    rw [HSN.out]
    exact (blk_put hJ1 0 _ rfl).trans rfl
  case done =>
    rintro D s W hD hS ⟨hJ1, hJ2, hJ3, hJ4⟩ hK
    have hse : s = l.length := by omega
    subst hse
    rw [List.take_length] at hJ1
    have q0 : W.cell? ⟨w.heap.size, 0, none⟩ = some (.int .i64 ((sumF l : Nat) : Int)) := (blk_cell hJ1 0).trans rfl
    have hbel := hJ3.grown (grownBy_putObj' W D (.deferred none)) hJ3.size (fun k_ e => by cases e; exact Nat.le_trans hBw hD)
    clear hJ1 hJ2 hJ3 hS hI0 HI
    go_wp2
    refine ⟨by simp, .inl ⟨_, _, rfl, run_takeDeferred hK, ?_⟩⟩
    exact ⟨.int .i64 ((sumF l : Nat) : Int), by simp [results, Try.results57], ⟨rfl, hbel⟩⟩
  case stop => exact fun _ _ _ _ _ h => h.elim
end
end Go.Proofs.Ytbmnplojpeabmaa.QK
