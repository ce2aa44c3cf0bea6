/-
  DYNAMIC: the field of an index.
  Conditions: none of its own; lemmas that the claim's row rests on.
-/
import Derived.Test.YtjkadheknjkkbaaDe2
import Derived.Test.YtjkadheknjkkbaaQD1
namespace Go.Proofs.Ytjkadheknjkkbaa.De
open Go.RowKit Go.Proofs.YtjkadheknjkkbaaW.PrintWords Go.Proofs.YtjkadheknjkkbaaW.PrintLast Go.Proofs.YtjkadheknjkkbaaW.PrintMore
attribute [local go_sem] max2_int min2_int max_two min_two max_three min_three max_four min_four
set_option linter.unusedVariables false
set_option linter.unusedSimpArgs false
open Go.Proofs.Ytjkadheknjkkbaa.Ob Go.Proofs.Ytjkadheknjkkbaa.QD
open Go.Proofs.YtjkadheknjkkbaaR
/-- The field of an index; and whether there is one. -/
def getY (l : List S78) (i : Int) : S78 := if 1 ≤ i ∧ i ≤ l.length then rd_T78 l ((l.length : Int) - i) else ⟨⟨#[]⟩, ⟨#[]⟩⟩
def getV (l : List S78) (i : Int) : S78 := if 1 ≤ i ∧ i ≤ l.length then rd_T78 l (i - 1) else ⟨⟨#[]⟩, ⟨#[]⟩⟩
def getE (n : Nat) (i : Int) : Int := if 1 ≤ i ∧ i ≤ n then 0 else 5
set_option maxHeartbeats 4000000 in
set_option maxRecDepth 100000 in
theorem dynamic_Get.none_ (i : Int) (w : World) : Calls Try.prog 58 #[.pointer none, .int .i64 i] w fun e w' => e = .returned (.tuple #[.agg #[.string ⟨#[]⟩, .string ⟨#[]⟩], .int .i64 1]) ∧ Below w.heap.size w w' := by
  have hu78 := Try.underlying78
  go_enter Try.func58, Try.ntmps58
  go_wp2
  have h_ := blk_new w (.cells #[.string ⟨#[]⟩, .string ⟨#[]⟩] 78)
  refine bodyPost_ret (results_ct rfl _ _ w.heap.size 78 _ (0, 0) _ rfl h_ Try.underlying78 rfl sz78) rfl ?_
  exact ⟨rfl, below_alloc (Below.refl _ _) _⟩
set_option maxHeartbeats 4000000 in
set_option maxRecDepth 100000 in
theorem dynamic_Get.is (w : World) (g : Nat) (bound most size : Int) (v : Value) (l : List S78) (h : IsY w g bound most v l size) (hl : l.length ≤ 100000) (i : Int) :
    Calls Try.prog 58 #[.pointer (some ⟨g, 0, none⟩), .int .i64 i] w fun e w' => e = .returned (.tuple #[.agg #[.string (getY l i).f0, .string (getY l i).f1], .int .i64 (getE l.length i)]) ∧ Below w.heap.size w w' := by
  have hu78 := Try.underlying78
  obtain ⟨A, c, rfl, hc, hC⟩ := h.2.1.reads
  have hB1 := below_alloc (Below.refl w.heap.size w) (.cells #[.string ⟨#[]⟩, .string ⟨#[]⟩] 78)
  have b1 : (w.alloc (.cells #[.string ⟨#[]⟩, .string ⟨#[]⟩] 78)).cell? ⟨g, 0, none⟩ = some (.slice A l.length c) := (blk_cell (h.below hB1).1 0).trans rfl
  by_cases h1 : i < 1
  · have b2 : decide (i < 1) = true := decide_eq_true h1
    have e1 : getY l i = ⟨⟨#[]⟩, ⟨#[]⟩⟩ := if_neg (by omega)
    have e2 : getE l.length i = 5 := if_neg (by omega)
    rw [e1, e2]
    clear h hC h1 hB1
    go_enter Try.func58, Try.ntmps58
    go_wp2
    have h_ := blk_new w (.cells #[.string ⟨#[]⟩, .string ⟨#[]⟩] 78)
    refine bodyPost_ret (results_ct rfl _ _ w.heap.size 78 _ (0, 0) _ rfl h_ Try.underlying78 rfl sz78) rfl ?_
    exact ⟨rfl, below_alloc (Below.refl _ _) _⟩
  · have b2 : decide (i < 1) = false := decide_eq_false h1
    by_cases h2 : (l.length : Int) < i
    · have b3 : decide ((l.length : Int) < i) = true := decide_eq_true h2
      have e1 : getY l i = ⟨⟨#[]⟩, ⟨#[]⟩⟩ := if_neg (by omega)
      have e2 : getE l.length i = 5 := if_neg (by omega)
      rw [e1, e2]
      clear h hC h1 hB1
      go_enter Try.func58, Try.ntmps58
      go_wp2
      have h_ := blk_new w (.cells #[.string ⟨#[]⟩, .string ⟨#[]⟩] 78)
      refine bodyPost_ret (results_ct rfl _ _ w.heap.size 78 _ (0, 0) _ rfl h_ Try.underlying78 rfl sz78) rfl ?_
      exact ⟨rfl, below_alloc (Below.refl _ _) _⟩
    · have b3 : decide ((l.length : Int) < i) = false := decide_eq_false h2
      have e1 : getY l i = rd_T78 l ((l.length : Int) - i) := if_pos (by omega)
      have e2 : getE l.length i = 0 := if_pos (by omega)
      rw [e1, e2]
      obtain ⟨ad, rfl, hy0, hy1⟩ := at_T78 (Kd.C_below hC hB1) ((l.length : Int) - i) (by omega) (by omega)
      obtain ⟨q, hq⟩ : ∃ q, (l.length : Int) - i = q := ⟨_, rfl⟩
      have hqw : IntKind.i64.wrap ((l.length : Int) - i) = q := by rw [i64_w]; unfold wrap64; omega
      have q0 : ((0 : Int) ≤ q) = True := eq_true (by omega)
      have q1 : (q < (l.length : Int)) = True := eq_true (by omega)
      rw [hq] at hy0 hy1 ⊢
      have HI := Aside0.mk h
      clear h hC h1 h2
      have HB1 := Aside0.mk hB1
      clear hB1 hq
      go_enter Try.func58, Try.ntmps58
      go_upto_region 5 with fail
      go_region
      go_wp2
      refine bodyPost_ret (results_ct rfl _ _ w.heap.size 78 _ (0, 0) _ rfl (blk_new w (.cells #[.string (rd_T78 l q).f0, .string (rd_T78 l q).f1] 78)) Try.underlying78 rfl sz78) rfl ?_
      exact ⟨rfl, below_drew (below_alloc (Below.refl _ _) _)⟩
set_option maxHeartbeats 4000000 in
set_option maxRecDepth 100000 in
theorem r07_Get.is (w : World) (g : Nat) (bound most : Int) (v : Value) (l : List S78) (h : IsV w g bound most v l) (hl : l.length ≤ 100000) (i : Int) :
    Calls Try.prog 100 #[.pointer (some ⟨g, 0, none⟩), .int .i64 i] w fun e w' => e = .returned (.tuple #[.agg #[.string (getV l i).f0, .string (getV l i).f1], .int .i64 (getE l.length i)]) ∧ Below w.heap.size w w' := by
  have hu78 := Try.underlying78
  obtain ⟨A, c, rfl, hc, hC⟩ := h.2.1.reads
  have hB1 := below_alloc (Below.refl w.heap.size w) (.cells #[.string ⟨#[]⟩, .string ⟨#[]⟩] 78)
  have b1 : (w.alloc (.cells #[.string ⟨#[]⟩, .string ⟨#[]⟩] 78)).cell? ⟨g, 0, none⟩ = some (.slice A l.length c) := (blk_cell (h.below hB1).1 0).trans rfl
  by_cases h1 : i < 1
  · have b2 : decide (i < 1) = true := decide_eq_true h1
    have e1 : getV l i = ⟨⟨#[]⟩, ⟨#[]⟩⟩ := if_neg (by omega)
    have e2 : getE l.length i = 5 := if_neg (by omega)
    rw [e1, e2]
    clear h hC h1 hB1
    go_enter Try.func100, Try.ntmps100
    go_wp2
    have h_ := blk_new w (.cells #[.string ⟨#[]⟩, .string ⟨#[]⟩] 78)
    refine bodyPost_ret (results_ct rfl _ _ w.heap.size 78 _ (0, 0) _ rfl h_ Try.underlying78 rfl sz78) rfl ?_
    exact ⟨rfl, below_alloc (Below.refl _ _) _⟩
  · have b2 : decide (i < 1) = false := decide_eq_false h1
    by_cases h2 : (l.length : Int) < i
    · have b3 : decide ((l.length : Int) < i) = true := decide_eq_true h2
      have e1 : getV l i = ⟨⟨#[]⟩, ⟨#[]⟩⟩ := if_neg (by omega)
      have e2 : getE l.length i = 5 := if_neg (by omega)
      rw [e1, e2]
      clear h hC h1 hB1
      go_enter Try.func100, Try.ntmps100
      go_wp2
      have h_ := blk_new w (.cells #[.string ⟨#[]⟩, .string ⟨#[]⟩] 78)
      refine bodyPost_ret (results_ct rfl _ _ w.heap.size 78 _ (0, 0) _ rfl h_ Try.underlying78 rfl sz78) rfl ?_
      exact ⟨rfl, below_alloc (Below.refl _ _) _⟩
    · have b3 : decide ((l.length : Int) < i) = false := decide_eq_false h2
      have e1 : getV l i = rd_T78 l (i - 1) := if_pos (by omega)
      have e2 : getE l.length i = 0 := if_pos (by omega)
      rw [e1, e2]
      obtain ⟨ad, rfl, hy0, hy1⟩ := at_T78 (Kd.C_below hC hB1) (i - 1) (by omega) (by omega)
      obtain ⟨q, hq⟩ : ∃ q, i - 1 = q := ⟨_, rfl⟩
      have hqw : IntKind.i64.wrap (i - 1) = q := by rw [i64_w]; unfold wrap64; omega
      have q0 : ((0 : Int) ≤ q) = True := eq_true (by omega)
      have q1 : (q < (l.length : Int)) = True := eq_true (by omega)
      rw [hq] at hy0 hy1 ⊢
      have HI := Aside0.mk h
      clear h hC h1 h2
      have HB1 := Aside0.mk hB1
      clear hB1 hq
      go_enter Try.func100, Try.ntmps100
      go_wp2
      refine bodyPost_ret (results_ct rfl _ _ w.heap.size 78 _ (0, 0) _ rfl (blk_new w (.cells #[.string (rd_T78 l q).f0, .string (rd_T78 l q).f1] 78)) Try.underlying78 rfl sz78) rfl ?_
      exact ⟨rfl, below_alloc (Below.refl _ _) _⟩
end Go.Proofs.Ytjkadheknjkkbaa.De
