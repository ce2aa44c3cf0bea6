/-
  CONTROL: the document's Bytes.
  Conditions: none of its own; lemmas that the claim's row rests on.
-/
import Derived.Test.YtbmnplojpeabmaaCtD
import Derived.TacticsInMore
import Derived.LoopNIn
import Derived.LoopIn
import Derived.OwnWalkIn
import Derived.Shelf.RegionOpen
import Derived.WalkKit
import Derived.Sort.CutIn
namespace Go.Proofs.Ytbmnplojpeabmaa.QK
open Go.RowKit Go.Proofs.YtbmnplojpeabmaaW.PrintWords Go.Proofs.YtbmnplojpeabmaaW.PrintLast Go.Proofs.YtbmnplojpeabmaaW.PrintMore
attribute [local go_sem] max2_int min2_int max_two min_two max_three min_three max_four min_four
set_option linter.unusedVariables false
set_option linter.unusedSimpArgs false
open Go.Proofs.Ytbmnplojpeabmaa.Ob
open Go.Proofs.YtbmnplojpeabmaaR
theorem IsD.C {w : World} {g : Nat} {room : Int} {A : Option Addr} {c : Nat} {l : List S67} {ended : Bool} {ok : Nat → Prop} (h : IsD w g room (.slice A l.length c) l ended ok) : Kd.C k67 w A l.length l := (Kd.V_reads' h.row).2.2
set_option maxHeartbeats 4000000 in
set_option maxRecDepth 100000 in
theorem r19_Bytes.is (w : World) (g : Nat) (room : Int) (v : Value) (l : List S67) (ended : Bool) (ok : Nat → Prop) (h : IsD w g room v l ended ok) (hl : l.length ≤ 100000) (hs : sumF l ≤ 1000000000) :
    Calls Try.prog 58 #[.pointer (some ⟨g, 0, none⟩)] w fun e w' => e = .returned (.int .i64 ((sumF l : Nat) : Int)) ∧ w' = w := by
  obtain ⟨A, c, rfl⟩ := h.form
  have hc1 : w.cell? ⟨g, 1, none⟩ = some (.slice A l.length c) := (blk_cell h.blk 1).trans rfl
  have HC := Aside0.mk h.C
  clear h
  go_enter Try.func58, Try.ntmps58
  go_wp2
  go_loopg [3, 4] (l.length + 1) (fun kq v3 v4 w' => ∃ j : Nat, v4 = .int .i64 j ∧ v3 = .int .i64 ((sumF (l.take j) : Nat) : Int) ∧ Aside0 (j + kq = l.length + 1 ∧ j ≤ l.length) ∧ w' = w)
  case atStart => exact ⟨0, rfl, rfl, ⟨by omega⟩, rfl⟩
  case round =>
    obtain ⟨j, rfl, rfl, HK, rfl⟩ := hrel
    by_cases c8 : j < l.length
    · obtain ⟨k2, rfl⟩ : ∃ q, gk = q + 1 := ⟨gk - 1, by have := HK.out; omega⟩
      obtain ⟨ad, A3, c3, e1, hy0, hy1, hy2, hy3, hc3, hrp⟩ := at_T67 HC.out (j : Int) (by omega) (by omega)
      subst e1
      rw [Int.toNat_natCast] at hy0 hy1 hy2 hy3
      have q1 : ((j : Int) < (l.length : Int)) = True := eq_true (by omega)
      have q0 : ((0 : Int) ≤ (j : Int)) = True := eq_true (by omega)
      have hst := sumF_take l j c8
      have hle1 := sumF_le l (j + 1)
      obtain ⟨sm, hsm⟩ : ∃ sm, sumF (l.take j) = sm := ⟨_, rfl⟩
      obtain ⟨sn, hsn⟩ : ∃ sn, sumF (l.take (j + 1)) = sn := ⟨_, rfl⟩
      rw [hsm] at hst ⊢
      rw [hsn] at hst hle1
      have HSN := Aside0.mk hsn
      generalize (rd_T67 l (j : Int)).f3.length = xn at *
      have hwr : wrap64 ((sm : Int) + (xn : Int)) = (sn : Int) := by unfold wrap64; omega
      have HW := Aside0.mk hwr
      have hwr2 : wrap64 ((j : Int) + 1) = (j : Int) + 1 := by unfold wrap64; omega
      have HW2 := Aside0.mk hwr2
      have hsl : sm ≤ 1000000000 := by omega
      have hxl : xn ≤ 1000000000 := by omega
      have HSX : Aside0 (sm + xn = sn) := ⟨by omega⟩
      clear hst hle1 hsm hsn hwr hwr2 hrp
      go_wp2
      go_roundg k2
      case measure => omega
      case rel =>
        refine ⟨j + 1, ?_, ?_, ⟨by have := HK.out; omega⟩, rfl⟩
        · rw [Int.natCast_add]; exact congrArg _ rfl
        · rw [HSN.out, ← HSX.out, Int.natCast_add]
    · obtain rfl : j = l.length := by have := HK.out; omega
      rw [List.take_length]
      clear c8
      go_wp2
      go_ret
      exact ⟨rfl, rfl⟩
theorem payloads1.none_ (w : World) (Bq : Nat) (hq : w.heap[Bq]? = some (.cells #[.pointer none] 76 (0, 0))) :
    SeqOk Fence.wide 2 Try.prog 100 #[.pointer (some ⟨Bq, 0, none⟩)] Pl.encs (fun (_ : Nat) (_ : Pl) _ => False) (fun _ _ _ => True) (0 : Nat) (fun s _ _ => s + 1) (fun _ => True) w := by
  intro L J Jx W hW hJ hJx hY h0
  refine callsIn_wide.2 ?_
  have hcq : W.cell? ⟨Bq, 0, none⟩ = some (.pointer none) := (blk_cell (blk_below hq hW) 0).trans rfl
  have H0 := Aside0.mk h0
  clear hY hJ hJx h0 hq hW
  simp only [List.append_toArray, List.cons_append, List.nil_append]
  go_enter Try.func100, Try.ntmps100
  go_wp2
  refine bodyPost_ret (results_none rfl _ _ _) rfl ?_
  exact ⟨⟨_, rfl⟩, .inl ⟨0, trivial, H0.out⟩⟩
section
attribute [local go_sem] Oper.semAt_some
set_option maxHeartbeats 4000000 in
set_option maxRecDepth 100000 in
theorem control_Bytes.none_ (w : World) : Calls Try.prog 57 #[.pointer none] w fun e w' => e = .returned (.int .i64 0) ∧ Below w.heap.size w w' := by
  refine (callsIn_wide (n := 3)).1 (callsIn_of_wp_marks Try.func57 rfl trivial (wpIn_wide.2 ?_))
  simp only [Try.ntmps57, List.size_toArray, List.length_cons, List.length_nil, Nat.reduceAdd, Nat.reduceSub, Array.replicate_succ, Array.replicate_zero, List.push_toArray, List.append_toArray, List.nil_append, List.cons_append]
  go_wp2_with (first | go_step3 | (go_at_call 93; refine (payloads.calls none _).mono ?_; rintro e_ w_ ⟨Bq, rfl, hb1, hgb, hb⟩))
  have h1 := blk_new w (.cells #[.int .i64 0] 3)
  simp only [World.size_alloc] at hgb
  have HB := Aside0.mk (below_step (below_alloc (Below.refl w.heap.size w) _) hb)
  have hBw := HB.out.size
  have hI0 : w_.heap[w.heap.size]? = some (.cells #[.int .i64 0] 3 (0, 0)) ∧ Below w.heap.size w w_ := ⟨blk_below h1 hb, HB.out⟩
  refine (wpIn_wide (n := 3)).1 ?_
  refine rangeFunc_ok (s0 := (0 : Nat)) rfl (by omega) (gf := 100) (lb := #[.pointer (some ⟨Bq, 0, none⟩)]) rfl trivial (enters_of Try.func100 (by kernel_rfl) rfl)
    (payloads1.none_ w_ Bq hb1) (fun _ _ _ _ _ _ _ _ _ _ _ => trivial) (Below.refl _ _) (fun _ => rfl)
    (fun _ W => W.heap[w.heap.size]? = some (.cells #[.int .i64 0] 3 (0, 0)) ∧ Below w.heap.size w W) (fun _ _ _ => False) (fun s A' C row hs hg hr => ⟨blk_turn hs.1 hg (fun r e => (hr r e).2), hs.2.grown hg hs.2.size (fun k e => Nat.le_trans hBw (hr k e).1)⟩) (fun _ _ _ _ _ h _ _ => h.elim) hI0
    (fun _ _ _ => True) (fun _ _ _ _ _ _ _ _ _ => trivial) ?assign ?body ?done ?stop
  case assign => exact fun _ _ _ _ _ _ _ h _ => h.elim
  case body => exact fun _ _ _ _ _ _ _ _ _ _ h _ => h.elim
  case done =>
    rintro D s W hD hS ⟨hJ1, hJ3⟩ hK
    have q0 : W.cell? ⟨w.heap.size, 0, none⟩ = some (.int .i64 0) := (blk_cell hJ1 0).trans rfl
    have hbel := hJ3.grown (grownBy_putObj' W D (.deferred none)) hJ3.size (fun k_ e => by cases e; exact Nat.le_trans hBw hD)
    clear hJ1 hJ3 hI0
    go_wp2
    refine ⟨by simp, .inl ⟨_, _, rfl, run_takeDeferred hK, ?_⟩⟩
    exact ⟨.int .i64 0, by simp [results, Try.results57], ⟨rfl, hbel⟩⟩
  case stop => exact fun _ _ _ _ _ h => h.elim
end
end Go.Proofs.Ytbmnplojpeabmaa.QK
