-- written by a program of this session (wip/tools) out of the translation's own print and the session's texts; nothing here is trusted: Lean checks it
import Derived.Test.YtlbjhbanfpnogaaDoorQJ0
namespace Go.Proofs.YtlbjhbanfpnogaaDoor.QJ
open Go.Proofs.YtlbjhbanfpnogaaDoor.QH Go.Proofs.YtlbjhbanfpnogaaDoor.QI
open Go.RowKit Go.Proofs.YtlbjhbanfpnogaaDoorW.PrintWords Go.Proofs.YtlbjhbanfpnogaaDoorW.PrintLast Go.Proofs.YtlbjhbanfpnogaaDoorW.PrintMore
attribute [local go_sem] max2_int min2_int max_two min_two max_three min_three max_four min_four   -- for this text's walks alone
set_option linter.unusedVariables false
set_option linter.unusedSimpArgs false

/-! ### gantletref01_Same: function 15 (the session's own) -/

/-! ### prefix_right: function 58 (the session's own) -/

/-! ### prefix_Encode: function 50 (the session's own) -/

-- NOT PRINTED: function 44 (literal_laid)

/-! ### literal_Encode: function 23 (the session's own) -/

/-! ### literal_Short: function 25 (the session's own) -/
theorem literal_Short.calls (k : Nat) (a0 : ByteArray) (r : List Int) (w : World) (hG : GB w) (h : literal_Short.f k a0 = some r) :
  Calls Tryd.prog 25 #[.string a0] w fun e w' => ∃ v0_ : Value, e = .returned v0_ ∧ Kd.R (Kd.int .u8) 5 w' w.heap.size (fun _ => True) v0_ r ∧ Below w.heap.size w w' := QI.literal_Short.calls k a0 r w hG.huff h

/-! ### item_texts: function 51 -/
def item_texts.f (a0 : Int) : Option (Bool) := if a0 ≥ 1 then (some (decide (a0 ≤ 3))) else (some false)
set_option maxHeartbeats 8000000 in
set_option maxRecDepth 100000 in
theorem item_texts.calls (a0 : Int) (r : Bool) (w : World) (h : item_texts.f a0 = some r) :
  Calls Tryd.prog 51 #[.int .i64 a0] w fun e w' => e = .returned (.bool r) ∧ Drawn0 w w' := by
 have H : (if a0 ≥ 1 then (some (decide (a0 ≤ 3))) else (some false)) = some r := h
 clear h
 by_cases c2 : a0 ≥ 1
 ·
  rw [if_pos c2] at H
  have c2b0 : decide (1 ≤ a0) = true := decide_eq_true c2
  clear c2
  obtain rfl := Option.some.inj H
  go_enter Tryd.func51, Tryd.ntmps51
  go_wp2
  go_ret
  exact ⟨by first | rfl | (simp; done) | (simp [*]; done), by repeat (first | exact Drawn0.refl _ | apply Drawn0.step)⟩
 ·
  rw [if_neg c2] at H
  have c2b0 : decide (1 ≤ a0) = false := decide_eq_false c2
  clear c2
  obtain rfl := Option.some.inj H
  go_enter Tryd.func51, Tryd.ntmps51
  go_wp2
  go_ret
  exact ⟨by first | rfl | (simp; done) | (simp [*]; done), by repeat (first | exact Drawn0.refl _ | apply Drawn0.step)⟩

/-! ### item_Right: function 35 -/
def item_Right.j0 : Nat → Bool → Int → Int → ByteArray → ByteArray → Option (Bool)
 | 0, _, _, _, _, _ => none
 | k + 1, x22, x102000, x102001, x102002, x102003 => if x22 = true then (some false) else (if x102000 = 0 then (if x102001 > 0 then (if x102002.toList = ([] : List UInt8) then (some (x102003.toList == ([] : List UInt8))) else (some false)) else (some false)) else (if x102000 = 4 then (if x102002.toList = ([] : List UInt8) then (some (x102003.toList == ([] : List UInt8))) else (some false)) else ((item_texts.f x102000).bind fun t102 => (if t102 = true then (if x102001 = 0 then (some true) else (some (x102002.toList == ([] : List UInt8)))) else (some false)))))
def item_Right.f (k : Nat) (a0_0 : Int) (a0_1 : Int) (a0_2 : ByteArray) (a0_3 : ByteArray) : Option (Bool) := if a0_1 < 0 then (item_Right.j0 k true a0_0 a0_1 a0_2 a0_3) else (if a0_1 > 16777215 then (item_Right.j0 k true a0_0 a0_1 a0_2 a0_3) else (if (a0_2.size : Int) > 65536 then (item_Right.j0 k true a0_0 a0_1 a0_2 a0_3) else (item_Right.j0 k (decide ((a0_3.size : Int) > 65536)) a0_0 a0_1 a0_2 a0_3)))
theorem item_Right.mono_l : ∀ k, (∀ y0 y1 y2 y3 y4, LeO (item_Right.j0 k y0 y1 y2 y3 y4) (item_Right.j0 (k + 1) y0 y1 y2 y3 y4))
 | 0 => fun _ _ _ _ _ r h => by simp [item_Right.j0] at h
 | k + 1 => by
  have ih0 := item_Right.mono_l k
  ·
   intro y0 y1 y2 y3 y4
   unfold item_Right.j0
   repeat' first
   | (with_reducible exact ih0 _ _ _ _ _)
   | (with_reducible exact LeO.refl _)
   | (with_reducible exact LeO.none _)
   | (with_reducible refine LeO.ite ?_ ?_)
   | (with_reducible refine LeO.bind ?_ (fun _ => ?_))
   | exact ih0 _ _ _ _ _
   | exact LeO.none _
   | refine LeO.ite ?_ ?_
   | refine LeO.bind ?_ (fun _ => ?_)
theorem item_Right.mono : ∀ a0 a1 a2 a3 k, LeO (item_Right.f k a0 a1 a2 a3) (item_Right.f (k + 1) a0 a1 a2 a3) := by
 intro a0 a1 a2 a3 k
 have ih0 := item_Right.mono_l k
 unfold item_Right.f
 repeat' first
   | (with_reducible exact ih0 _ _ _ _ _)
   | (with_reducible exact LeO.refl _)
   | (with_reducible exact LeO.none _)
   | (with_reducible refine LeO.ite ?_ ?_)
   | (with_reducible refine LeO.bind ?_ (fun _ => ?_))
   | exact ih0 _ _ _ _ _
   | exact LeO.none _
   | refine LeO.ite ?_ ?_
   | refine LeO.bind ?_ (fun _ => ?_)
set_option maxHeartbeats 8000000 in
set_option maxRecDepth 100000 in
theorem item_Right.calls (k : Nat) (a0_0 : Int) (a0_1 : Int) (a0_2 : ByteArray) (a0_3 : ByteArray) (r : Bool) (w : World) (h : item_Right.f k a0_0 a0_1 a0_2 a0_3 = some r) :
  Calls Tryd.prog 35 #[.agg #[.int .i64 a0_0, .int .i64 a0_1, .string a0_2, .string a0_3]] w fun e w' => e = .returned (.bool r) ∧ Below w.heap.size w w' := by
 have hu44 := Tryd.underlying44
 have HB := Aside0.mk (Below.refl w.heap.size w)
 have H : (if a0_1 < 0 then (item_Right.j0 k true a0_0 a0_1 a0_2 a0_3) else (if a0_1 > 16777215 then (item_Right.j0 k true a0_0 a0_1 a0_2 a0_3) else (if (a0_2.size : Int) > 65536 then (item_Right.j0 k true a0_0 a0_1 a0_2 a0_3) else (item_Right.j0 k (decide ((a0_3.size : Int) > 65536)) a0_0 a0_1 a0_2 a0_3)))) = some r := h
 clear h
 have HC2 := Aside0.mk H
 clear H
 go_enter Tryd.func35, Tryd.ntmps35
 go_upto_region 1 with (first | ((with_reducible refine gate_dst (N := 1) rfl ?_); (try (refine gate_guard (by rfl) ?_; dsimp only)); refine box_event ?hg (N := 1) ?hd (cs := #[.int .i64 a0_0, .int .i64 a0_1, .string a0_2, .string a0_3]) (t := 44) ?hr ?_; (case hd => rfl); (case hg => rfl); (case hr => first | (go_simp; done) | (go_simp; rfl)); intro gb101 hg w3 hbox hb; have n0_ := Aside0.mk (below_step (by repeat (first | (with_reducible first | exact HB.out | apply below_alloc | apply pw_below_drewN | apply below_drew1) | exact HB.out)) hb); have n1_ := Aside0.mk (hbox); have n2_ := Aside0.mk ((by rw [hg]; exact (below_size (by repeat (first | (with_reducible first | exact HB.out | apply below_alloc | apply pw_below_drewN | apply below_drew1) | exact HB.out))) : w.heap.size ≤ gb101)); have n3_ := Aside0.mk ((by rw [hg]; exact (below_size (by repeat (first | (with_reducible first | exact HB.out | apply below_alloc | apply pw_below_drewN | apply below_drew1) | exact HB.out))) : w.heap.size ≤ gb101)); clear HB; have HB := n0_; have BK101 := n1_; have GW101 := n2_; have GE101 := n3_; clear n0_ n1_ n2_ n3_; clear hb hbox hg))
 (try simp only [Act.put, List.setIfInBounds_toArray, List.set_cons_zero, List.set_cons_succ])
 go_cut [22] (fun v22 wc => ∃ (kq : Nat) (x22_1 : Bool), v22 = .bool x22_1 ∧ Aside0 (item_Right.j0 kq x22_1 a0_0 a0_1 a0_2 a0_3 = some r) ∧ Aside0 (kq ≤ k) ∧ Aside0 (wc.heap[gb101]? = some (.cells #[.int .i64 a0_0, .int .i64 a0_1, .string a0_2, .string a0_3] 44 (0, 0))) ∧ Aside0 (Below w.heap.size w wc))
 case first =>
  have H := HC2.out
  clear HC2
  by_cases c4 : a0_1 < 0
  ·
   rw [if_pos c4] at H
   have c4b0 : decide (a0_1 < 0) = true := decide_eq_true c4
   clear c4
   (first | rw [c4b0] | (simp only [i64_w, i32_w]; rw [c4b0]) | skip)
   have H' := Aside0.mk H
   clear H
   have hcz5_0 : w3.cell? ⟨gb101, 0, none⟩ = some (.int .i64 a0_0) := (blk_cell BK101.out 0).trans rfl
   have hcz5_1 : w3.cell? ⟨gb101, 1, none⟩ = some (.int .i64 a0_1) := (blk_cell BK101.out 1).trans rfl
   have hcz5_2 : w3.cell? ⟨gb101, 2, none⟩ = some (.string a0_2) := (blk_cell BK101.out 2).trans rfl
   have hcz5_3 : w3.cell? ⟨gb101, 3, none⟩ = some (.string a0_3) := (blk_cell BK101.out 3).trans rfl
   have hfz5_0 := blk_frozen BK101.out 0
   have hfz5_1 := blk_frozen BK101.out 1
   have hfz5_2 := blk_frozen BK101.out 2
   have hfz5_3 := blk_frozen BK101.out 3
   go_wp2
   (first | go_meet | (refine Met.intro ?_; go_step; (repeat apply Exists.intro); refine ⟨?rel, ?frame⟩; (case frame => (try simp only [c4b0]); rfl)))
   case rel => exact ⟨_, (true), (by first | rfl | (simp; done) | (simp [*]; done)), H', ⟨by first | omega | exact Nat.le_refl _⟩, ⟨by (with_reducible repeat (first | refine blk_drewN ?_ _ | refine blk_drew ?_ | refine blk_alloc ?_ _)); exact BK101.out⟩, ⟨by repeat (first | (with_reducible first | exact HB.out | apply below_alloc | apply pw_below_drewN | apply below_drew1 | refine below_set ?_ GE101.out) | exact HB.out)⟩⟩
  ·
   rw [if_neg c4] at H
   have c4b0 : decide (a0_1 < 0) = false := decide_eq_false c4
   clear c4
   (first | rw [c4b0] | (simp only [i64_w, i32_w]; rw [c4b0]) | skip)
   by_cases c6 : a0_1 > 16777215
   ·
    rw [if_pos c6] at H
    have c6b0 : decide (16777215 < a0_1) = true := decide_eq_true c6
    clear c6
    have H' := Aside0.mk H
    clear H
    have hcz7_0 : w3.cell? ⟨gb101, 0, none⟩ = some (.int .i64 a0_0) := (blk_cell BK101.out 0).trans rfl
    have hcz7_1 : w3.cell? ⟨gb101, 1, none⟩ = some (.int .i64 a0_1) := (blk_cell BK101.out 1).trans rfl
    have hcz7_2 : w3.cell? ⟨gb101, 2, none⟩ = some (.string a0_2) := (blk_cell BK101.out 2).trans rfl
    have hcz7_3 : w3.cell? ⟨gb101, 3, none⟩ = some (.string a0_3) := (blk_cell BK101.out 3).trans rfl
    have hfz7_0 := blk_frozen BK101.out 0
    have hfz7_1 := blk_frozen BK101.out 1
    have hfz7_2 := blk_frozen BK101.out 2
    have hfz7_3 := blk_frozen BK101.out 3
    go_wp2
    (first | go_meet | (refine Met.intro ?_; go_step; (repeat apply Exists.intro); refine ⟨?rel, ?frame⟩; (case frame => (try simp only [c4b0]); (try simp only [c6b0]); rfl)))
    case rel => exact ⟨_, (true), (by first | rfl | (simp; done) | (simp [*]; done)), H', ⟨by first | omega | exact Nat.le_refl _⟩, ⟨by (with_reducible repeat (first | refine blk_drewN ?_ _ | refine blk_drew ?_ | refine blk_alloc ?_ _)); exact BK101.out⟩, ⟨by repeat (first | (with_reducible first | exact HB.out | apply below_alloc | apply pw_below_drewN | apply below_drew1 | refine below_set ?_ GE101.out) | exact HB.out)⟩⟩
   ·
    rw [if_neg c6] at H
    have c6b0 : decide (16777215 < a0_1) = false := decide_eq_false c6
    clear c6
    by_cases c8 : (a0_2.size : Int) > 65536
    ·
     rw [if_pos c8] at H
     have c8b0 : decide (65536 < (a0_2.size : Int)) = true := decide_eq_true c8
     have c8b1 : decide (65536 < a0_2.size) = true := decide_eq_true (by omega)
     clear c8
     have H' := Aside0.mk H
     clear H
     have hcz9_0 : w3.cell? ⟨gb101, 0, none⟩ = some (.int .i64 a0_0) := (blk_cell BK101.out 0).trans rfl
     have hcz9_1 : w3.cell? ⟨gb101, 1, none⟩ = some (.int .i64 a0_1) := (blk_cell BK101.out 1).trans rfl
     have hcz9_2 : w3.cell? ⟨gb101, 2, none⟩ = some (.string a0_2) := (blk_cell BK101.out 2).trans rfl
     have hcz9_3 : w3.cell? ⟨gb101, 3, none⟩ = some (.string a0_3) := (blk_cell BK101.out 3).trans rfl
     have hfz9_0 := blk_frozen BK101.out 0
     have hfz9_1 := blk_frozen BK101.out 1
     have hfz9_2 := blk_frozen BK101.out 2
     have hfz9_3 := blk_frozen BK101.out 3
     go_wp2
     (first | go_meet | (refine Met.intro ?_; go_step; (repeat apply Exists.intro); refine ⟨?rel, ?frame⟩; (case frame => (try simp only [c4b0]); (try simp only [c6b0]); (try simp only [c8b0]); (try simp only [c8b1]); rfl)))
     case rel => exact ⟨_, (true), (by first | rfl | (simp; done) | (simp [*]; done)), H', ⟨by first | omega | exact Nat.le_refl _⟩, ⟨by (with_reducible repeat (first | refine blk_drewN ?_ _ | refine blk_drew ?_ | refine blk_alloc ?_ _)); exact BK101.out⟩, ⟨by repeat (first | (with_reducible first | exact HB.out | apply below_alloc | apply pw_below_drewN | apply below_drew1 | refine below_set ?_ GE101.out) | exact HB.out)⟩⟩
    ·
     rw [if_neg c8] at H
     have c8b0 : decide (65536 < (a0_2.size : Int)) = false := decide_eq_false c8
     have c8b1 : decide (65536 < a0_2.size) = false := decide_eq_false (by omega)
     clear c8
     have H' := Aside0.mk H
     clear H
     have hcz10_0 : w3.cell? ⟨gb101, 0, none⟩ = some (.int .i64 a0_0) := (blk_cell BK101.out 0).trans rfl
     have hcz10_1 : w3.cell? ⟨gb101, 1, none⟩ = some (.int .i64 a0_1) := (blk_cell BK101.out 1).trans rfl
     have hcz10_2 : w3.cell? ⟨gb101, 2, none⟩ = some (.string a0_2) := (blk_cell BK101.out 2).trans rfl
     have hcz10_3 : w3.cell? ⟨gb101, 3, none⟩ = some (.string a0_3) := (blk_cell BK101.out 3).trans rfl
     have hfz10_0 := blk_frozen BK101.out 0
     have hfz10_1 := blk_frozen BK101.out 1
     have hfz10_2 := blk_frozen BK101.out 2
     have hfz10_3 := blk_frozen BK101.out 3
     go_wp2
     (first | go_meet | (refine Met.intro ?_; go_step; (repeat apply Exists.intro); refine ⟨?rel, ?frame⟩; (case frame => (try simp only [c4b0]); (try simp only [c6b0]); (try simp only [c8b0]); (try simp only [c8b1]); rfl)))
     case rel => exact ⟨_, (decide ((a0_3.size : Int) > 65536)), (by first | rfl | (simp; done) | (simp [*]; done)), H', ⟨by first | omega | exact Nat.le_refl _⟩, ⟨by (with_reducible repeat (first | refine blk_drewN ?_ _ | refine blk_drew ?_ | refine blk_alloc ?_ _)); exact BK101.out⟩, ⟨by repeat (first | (with_reducible first | exact HB.out | apply below_alloc | apply pw_below_drewN | apply below_drew1 | refine below_set ?_ GE101.out) | exact HB.out)⟩⟩
 case rest =>
  clear HC2
  try clear p2
  try clear c3
  try clear c4
  try clear c4b0
  try clear c6
  try clear c6b0
  try clear c8
  try clear c8b0
  try clear c8b1
  try clear hcz10_0
  try clear hcz10_1
  try clear hcz10_2
  try clear hcz10_3
  try clear hcz5_0
  try clear hcz5_1
  try clear hcz5_2
  try clear hcz5_3
  try clear hcz7_0
  try clear hcz7_1
  try clear hcz7_2
  try clear hcz7_3
  try clear hcz9_0
  try clear hcz9_1
  try clear hcz9_2
  try clear hcz9_3
  try clear hfz10_0
  try clear hfz10_1
  try clear hfz10_2
  try clear hfz10_3
  try clear hfz5_0
  try clear hfz5_1
  try clear hfz5_2
  try clear hfz5_3
  try clear hfz7_0
  try clear hfz7_1
  try clear hfz7_2
  try clear hfz7_3
  try clear hfz9_0
  try clear hfz9_1
  try clear hfz9_2
  try clear hfz9_3
  obtain ⟨kq, x22_1, rfl, HA, HJ1, BK101, HB⟩ := hcut
  cases kq with
  | zero => exact absurd HA.out (by simp [item_Right.j0])
  | succ kj1 =>
   have H := HA.out
   clear HA
   simp only [item_Right.j0] at H
   by_cases c11 : x22_1 = true
   ·
    subst c11
    have H1 : (some false) = some r := by rw [if_pos rfl] at H; exact H
    clear H
    have H := H1
    clear H1
    obtain rfl := Option.some.inj H
    go_wp2
    go_ret
    exact ⟨by first | rfl | (simp [errW_none, errW_some] <;> rfl) | (simp [*, errW_none, errW_some] <;> rfl), by repeat (first | (with_reducible first | exact HB.out | apply below_alloc | apply pw_below_drewN | apply below_drew1 | refine below_set ?_ GE101.out) | exact HB.out)⟩
   ·
    replace c11 := Bool.eq_false_iff.mpr c11
    subst c11
    have H1 : (if a0_0 = 0 then (if a0_1 > 0 then (if a0_2.toList = ([] : List UInt8) then (some (a0_3.toList == ([] : List UInt8))) else (some false)) else (some false)) else (if a0_0 = 4 then (if a0_2.toList = ([] : List UInt8) then (some (a0_3.toList == ([] : List UInt8))) else (some false)) else ((item_texts.f a0_0).bind fun t102 => (if t102 = true then (if a0_1 = 0 then (some true) else (some (a0_2.toList == ([] : List UInt8)))) else (some false))))) = some r := by rw [if_neg (show ¬ (false = true) by decide)] at H; exact H
    clear H
    have H := H1
    clear H1
    by_cases c12 : a0_0 = 0
    ·
     rw [if_pos c12] at H
     have c12b0 : (a0_0 == 0) = true := beq_iff_eq.mpr c12
     have c12b1 : (a0_0 != 0) = false := bne_eq_false_iff_eq.mpr c12
     clear c12
     by_cases c13 : a0_1 > 0
     ·
      rw [if_pos c13] at H
      have c13b0 : decide (0 < a0_1) = true := decide_eq_true c13
      clear c13
      by_cases c14 : a0_2.toList = ([] : List UInt8)
      ·
       rw [if_pos c14] at H
       have c14b0 : (a0_2.toList == ([] : List UInt8)) = true := beq_iff_eq.mpr c14
       have c14b1 : (a0_2.toList != ([] : List UInt8)) = false := bne_eq_false_iff_eq.mpr c14
       clear c14
       obtain rfl := Option.some.inj H
       have hcz15_0 : wc.cell? ⟨gb101, 0, none⟩ = some (.int .i64 a0_0) := (blk_cell BK101.out 0).trans rfl
       have hcz15_1 : wc.cell? ⟨gb101, 1, none⟩ = some (.int .i64 a0_1) := (blk_cell BK101.out 1).trans rfl
       have hcz15_2 : wc.cell? ⟨gb101, 2, none⟩ = some (.string a0_2) := (blk_cell BK101.out 2).trans rfl
       have hcz15_3 : wc.cell? ⟨gb101, 3, none⟩ = some (.string a0_3) := (blk_cell BK101.out 3).trans rfl
       have hfz15_0 := blk_frozen BK101.out 0
       have hfz15_1 := blk_frozen BK101.out 1
       have hfz15_2 := blk_frozen BK101.out 2
       have hfz15_3 := blk_frozen BK101.out 3
       go_wp2
       go_ret
       exact ⟨by first | rfl | (simp [errW_none, errW_some] <;> rfl) | (simp [*, errW_none, errW_some] <;> rfl), by repeat (first | (with_reducible first | exact HB.out | apply below_alloc | apply pw_below_drewN | apply below_drew1 | refine below_set ?_ GE101.out) | exact HB.out)⟩
      ·
       rw [if_neg c14] at H
       have c14b0 : (a0_2.toList == ([] : List UInt8)) = false := beq_eq_false_iff_ne.mpr c14
       have c14b1 : (a0_2.toList != ([] : List UInt8)) = true := bne_iff_ne.mpr c14
       obtain rfl := Option.some.inj H
       have hcz16_0 : wc.cell? ⟨gb101, 0, none⟩ = some (.int .i64 a0_0) := (blk_cell BK101.out 0).trans rfl
       have hcz16_1 : wc.cell? ⟨gb101, 1, none⟩ = some (.int .i64 a0_1) := (blk_cell BK101.out 1).trans rfl
       have hcz16_2 : wc.cell? ⟨gb101, 2, none⟩ = some (.string a0_2) := (blk_cell BK101.out 2).trans rfl
       have hcz16_3 : wc.cell? ⟨gb101, 3, none⟩ = some (.string a0_3) := (blk_cell BK101.out 3).trans rfl
       have hfz16_0 := blk_frozen BK101.out 0
       have hfz16_1 := blk_frozen BK101.out 1
       have hfz16_2 := blk_frozen BK101.out 2
       have hfz16_3 := blk_frozen BK101.out 3
       go_wp2
       go_ret
       exact ⟨by first | rfl | (simp [errW_none, errW_some] <;> rfl) | (simp [*, errW_none, errW_some] <;> rfl), by repeat (first | (with_reducible first | exact HB.out | apply below_alloc | apply pw_below_drewN | apply below_drew1 | refine below_set ?_ GE101.out) | exact HB.out)⟩
     ·
      rw [if_neg c13] at H
      have c13b0 : decide (0 < a0_1) = false := decide_eq_false c13
      clear c13
      obtain rfl := Option.some.inj H
      have hcz17_0 : wc.cell? ⟨gb101, 0, none⟩ = some (.int .i64 a0_0) := (blk_cell BK101.out 0).trans rfl
      have hcz17_1 : wc.cell? ⟨gb101, 1, none⟩ = some (.int .i64 a0_1) := (blk_cell BK101.out 1).trans rfl
      have hcz17_2 : wc.cell? ⟨gb101, 2, none⟩ = some (.string a0_2) := (blk_cell BK101.out 2).trans rfl
      have hcz17_3 : wc.cell? ⟨gb101, 3, none⟩ = some (.string a0_3) := (blk_cell BK101.out 3).trans rfl
      have hfz17_0 := blk_frozen BK101.out 0
      have hfz17_1 := blk_frozen BK101.out 1
      have hfz17_2 := blk_frozen BK101.out 2
      have hfz17_3 := blk_frozen BK101.out 3
      go_wp2
      go_ret
      exact ⟨by first | rfl | (simp [errW_none, errW_some] <;> rfl) | (simp [*, errW_none, errW_some] <;> rfl), by repeat (first | (with_reducible first | exact HB.out | apply below_alloc | apply pw_below_drewN | apply below_drew1 | refine below_set ?_ GE101.out) | exact HB.out)⟩
    ·
     rw [if_neg c12] at H
     have c12b0 : (a0_0 == 0) = false := beq_eq_false_iff_ne.mpr c12
     have c12b1 : (a0_0 != 0) = true := bne_iff_ne.mpr c12
     by_cases c18 : a0_0 = 4
     ·
      rw [if_pos c18] at H
      have c18b0 : (a0_0 == 4) = true := beq_iff_eq.mpr c18
      have c18b1 : (a0_0 != 4) = false := bne_eq_false_iff_eq.mpr c18
      clear c18
      by_cases c19 : a0_2.toList = ([] : List UInt8)
      ·
       rw [if_pos c19] at H
       have c19b0 : (a0_2.toList == ([] : List UInt8)) = true := beq_iff_eq.mpr c19
       have c19b1 : (a0_2.toList != ([] : List UInt8)) = false := bne_eq_false_iff_eq.mpr c19
       clear c19
       obtain rfl := Option.some.inj H
       have hcz20_0 : wc.cell? ⟨gb101, 0, none⟩ = some (.int .i64 a0_0) := (blk_cell BK101.out 0).trans rfl
       have hcz20_1 : wc.cell? ⟨gb101, 1, none⟩ = some (.int .i64 a0_1) := (blk_cell BK101.out 1).trans rfl
       have hcz20_2 : wc.cell? ⟨gb101, 2, none⟩ = some (.string a0_2) := (blk_cell BK101.out 2).trans rfl
       have hcz20_3 : wc.cell? ⟨gb101, 3, none⟩ = some (.string a0_3) := (blk_cell BK101.out 3).trans rfl
       have hfz20_0 := blk_frozen BK101.out 0
       have hfz20_1 := blk_frozen BK101.out 1
       have hfz20_2 := blk_frozen BK101.out 2
       have hfz20_3 := blk_frozen BK101.out 3
       go_wp2
       go_ret
       exact ⟨by first | rfl | (simp [errW_none, errW_some] <;> rfl) | (simp [*, errW_none, errW_some] <;> rfl), by repeat (first | (with_reducible first | exact HB.out | apply below_alloc | apply pw_below_drewN | apply below_drew1 | refine below_set ?_ GE101.out) | exact HB.out)⟩
      ·
       rw [if_neg c19] at H
       have c19b0 : (a0_2.toList == ([] : List UInt8)) = false := beq_eq_false_iff_ne.mpr c19
       have c19b1 : (a0_2.toList != ([] : List UInt8)) = true := bne_iff_ne.mpr c19
       obtain rfl := Option.some.inj H
       have hcz21_0 : wc.cell? ⟨gb101, 0, none⟩ = some (.int .i64 a0_0) := (blk_cell BK101.out 0).trans rfl
       have hcz21_1 : wc.cell? ⟨gb101, 1, none⟩ = some (.int .i64 a0_1) := (blk_cell BK101.out 1).trans rfl
       have hcz21_2 : wc.cell? ⟨gb101, 2, none⟩ = some (.string a0_2) := (blk_cell BK101.out 2).trans rfl
       have hcz21_3 : wc.cell? ⟨gb101, 3, none⟩ = some (.string a0_3) := (blk_cell BK101.out 3).trans rfl
       have hfz21_0 := blk_frozen BK101.out 0
       have hfz21_1 := blk_frozen BK101.out 1
       have hfz21_2 := blk_frozen BK101.out 2
       have hfz21_3 := blk_frozen BK101.out 3
       go_wp2
       go_ret
       exact ⟨by first | rfl | (simp [errW_none, errW_some] <;> rfl) | (simp [*, errW_none, errW_some] <;> rfl), by repeat (first | (with_reducible first | exact HB.out | apply below_alloc | apply pw_below_drewN | apply below_drew1 | refine below_set ?_ GE101.out) | exact HB.out)⟩
     ·
      rw [if_neg c18] at H
      have c18b0 : (a0_0 == 4) = false := beq_eq_false_iff_ne.mpr c18
      have c18b1 : (a0_0 != 4) = true := bne_iff_ne.mpr c18
      replace H := Option.bind_eq_some_iff.mp H
      obtain ⟨t102, A220, H⟩ := H
      replace H : (if t102 = true then (if a0_1 = 0 then (some true) else (some (a0_2.toList == ([] : List UInt8)))) else (some false)) = some r := H
      have A22 := Aside0.mk A220
      clear A220
      by_cases c23 : t102 = true
      ·
       subst c23
       have H1 : (if a0_1 = 0 then (some true) else (some (a0_2.toList == ([] : List UInt8)))) = some r := by rw [if_pos rfl] at H; exact H
       clear H
       have H := H1
       clear H1
       by_cases c24 : a0_1 = 0
       ·
        rw [if_pos c24] at H
        have c24b0 : (a0_1 == 0) = true := beq_iff_eq.mpr c24
        have c24b1 : (a0_1 != 0) = false := bne_eq_false_iff_eq.mpr c24
        clear c24
        obtain rfl := Option.some.inj H
        have hcz25_0 : wc.cell? ⟨gb101, 0, none⟩ = some (.int .i64 a0_0) := (blk_cell BK101.out 0).trans rfl
        have hcz25_1 : wc.cell? ⟨gb101, 1, none⟩ = some (.int .i64 a0_1) := (blk_cell BK101.out 1).trans rfl
        have hcz25_2 : wc.cell? ⟨gb101, 2, none⟩ = some (.string a0_2) := (blk_cell BK101.out 2).trans rfl
        have hcz25_3 : wc.cell? ⟨gb101, 3, none⟩ = some (.string a0_3) := (blk_cell BK101.out 3).trans rfl
        have hfz25_0 := blk_frozen BK101.out 0
        have hfz25_1 := blk_frozen BK101.out 1
        have hfz25_2 := blk_frozen BK101.out 2
        have hfz25_3 := blk_frozen BK101.out 3
        go_wp2_with (first | ((with_reducible refine gate_callee (f := 51) rfl ?_); refine goesL_ (some 54) rfl rfl Tryd.func51 (by kernel_rfl) rfl #[.int .i64 a0_0] rfl (by (try simp only [List.map_toArray, List.map_cons, List.map_nil]); first | done | rfl | (simp only [List.length_drop, List.length_take]; rfl)) ?_; (with_reducible refine (item_texts.calls a0_0 true _ A22.out).mono ?_); rintro e w' ⟨rfl, ⟨nd, rfl⟩⟩; refine ⟨_, rfl, ?_⟩))
        go_ret
        exact ⟨by first | rfl | (simp [errW_none, errW_some] <;> rfl) | (simp [*, errW_none, errW_some] <;> rfl), by repeat (first | (with_reducible first | exact HB.out | apply below_alloc | apply pw_below_drewN | apply below_drew1 | refine below_set ?_ GE101.out) | exact HB.out)⟩
       ·
        rw [if_neg c24] at H
        have c24b0 : (a0_1 == 0) = false := beq_eq_false_iff_ne.mpr c24
        have c24b1 : (a0_1 != 0) = true := bne_iff_ne.mpr c24
        obtain rfl := Option.some.inj H
        have hcz26_0 : wc.cell? ⟨gb101, 0, none⟩ = some (.int .i64 a0_0) := (blk_cell BK101.out 0).trans rfl
        have hcz26_1 : wc.cell? ⟨gb101, 1, none⟩ = some (.int .i64 a0_1) := (blk_cell BK101.out 1).trans rfl
        have hcz26_2 : wc.cell? ⟨gb101, 2, none⟩ = some (.string a0_2) := (blk_cell BK101.out 2).trans rfl
        have hcz26_3 : wc.cell? ⟨gb101, 3, none⟩ = some (.string a0_3) := (blk_cell BK101.out 3).trans rfl
        have hfz26_0 := blk_frozen BK101.out 0
        have hfz26_1 := blk_frozen BK101.out 1
        have hfz26_2 := blk_frozen BK101.out 2
        have hfz26_3 := blk_frozen BK101.out 3
        go_wp2_with (first | ((with_reducible refine gate_callee (f := 51) rfl ?_); refine goesL_ (some 54) rfl rfl Tryd.func51 (by kernel_rfl) rfl #[.int .i64 a0_0] rfl (by (try simp only [List.map_toArray, List.map_cons, List.map_nil]); first | done | rfl | (simp only [List.length_drop, List.length_take]; rfl)) ?_; (with_reducible refine (item_texts.calls a0_0 true _ A22.out).mono ?_); rintro e w' ⟨rfl, ⟨nd, rfl⟩⟩; refine ⟨_, rfl, ?_⟩))
        go_ret
        exact ⟨by first | rfl | (simp [errW_none, errW_some] <;> rfl) | (simp [*, errW_none, errW_some] <;> rfl), by repeat (first | (with_reducible first | exact HB.out | apply below_alloc | apply pw_below_drewN | apply below_drew1 | refine below_set ?_ GE101.out) | exact HB.out)⟩
      ·
       replace c23 := Bool.eq_false_iff.mpr c23
       subst c23
       have H1 : (some false) = some r := by rw [if_neg (show ¬ (false = true) by decide)] at H; exact H
       clear H
       have H := H1
       clear H1
       obtain rfl := Option.some.inj H
       have hcz27_0 : wc.cell? ⟨gb101, 0, none⟩ = some (.int .i64 a0_0) := (blk_cell BK101.out 0).trans rfl
       have hcz27_1 : wc.cell? ⟨gb101, 1, none⟩ = some (.int .i64 a0_1) := (blk_cell BK101.out 1).trans rfl
       have hcz27_2 : wc.cell? ⟨gb101, 2, none⟩ = some (.string a0_2) := (blk_cell BK101.out 2).trans rfl
       have hcz27_3 : wc.cell? ⟨gb101, 3, none⟩ = some (.string a0_3) := (blk_cell BK101.out 3).trans rfl
       have hfz27_0 := blk_frozen BK101.out 0
       have hfz27_1 := blk_frozen BK101.out 1
       have hfz27_2 := blk_frozen BK101.out 2
       have hfz27_3 := blk_frozen BK101.out 3
       go_wp2_with (first | ((with_reducible refine gate_callee (f := 51) rfl ?_); refine goesL_ (some 54) rfl rfl Tryd.func51 (by kernel_rfl) rfl #[.int .i64 a0_0] rfl (by (try simp only [List.map_toArray, List.map_cons, List.map_nil]); first | done | rfl | (simp only [List.length_drop, List.length_take]; rfl)) ?_; (with_reducible refine (item_texts.calls a0_0 false _ A22.out).mono ?_); rintro e w' ⟨rfl, ⟨nd, rfl⟩⟩; refine ⟨_, rfl, ?_⟩))
       go_ret
       exact ⟨by first | rfl | (simp [errW_none, errW_some] <;> rfl) | (simp [*, errW_none, errW_some] <;> rfl), by repeat (first | (with_reducible first | exact HB.out | apply below_alloc | apply pw_below_drewN | apply below_drew1 | refine below_set ?_ GE101.out) | exact HB.out)⟩

/-! ### item_Encode: function 30 (the session's own) -/
def item_Encode.f (k : Nat) (x0 x1 : Int) (x2 x3 : ByteArray) : Option (List Int × Int) := (item_Right.f k x0 x1 x2 x3).bind fun r => if r = true then (if 0 ≤ x0 ∧ x0 < 5 then ((prefix_Encode.f k x1 (shB x0.toNat : Int) (shA x0.toNat : Int)).bind fun p => (item_texts.f x0).bind fun t => if t = true then (if x1 = 0 then ((literal_Short.f k x2).bind fun n => if p.1.length + n.length < 140737488355328 then ((literal_Short.f k x3).bind fun v => if (p.1 ++ n).length + v.length < 140737488355328 then some (p.1 ++ n ++ v, 0) else none) else none) else ((literal_Short.f k x3).bind fun v => if p.1.length + v.length < 140737488355328 then some (p.1 ++ v, 0) else none)) else some (p.1, 0)) else none) else some (([] : List Int), 1)
theorem item_Encode.mono : ∀ a0 a1 a2 a3 k, LeO (item_Encode.f k a0 a1 a2 a3) (item_Encode.f (k + 1) a0 a1 a2 a3) := by
 intro a0 a1 a2 a3 k
 unfold item_Encode.f
 repeat' first
   | (with_reducible exact LeO.refl _)
   | (with_reducible exact LeO.none _)
   | exact item_Right.mono _ _ _ _ _
   | exact prefix_Encode.mono _ _ _ _
   | exact literal_Short.mono _ _
   | (with_reducible refine LeO.ite ?_ ?_)
   | (with_reducible refine LeO.bind ?_ (fun _ => ?_))
def Enc1 (w : World) (r1 : List Int) (r2 : Int) (e : Ending) (w' : World) : Prop := ∃ v0_ : Value, e = .returned (.tuple #[v0_, .int .i64 r2]) ∧ Kd.R (Kd.int .u8) 5 w' w.heap.size (fun _ => True) v0_ r1 ∧ Below w.heap.size w w'
set_option maxHeartbeats 8000000 in
set_option maxRecDepth 100000 in
theorem item_Encode.is (k : Nat) (a0_0 a0_1 : Int) (a0_2 a0_3 : ByteArray) (r1 : List Int) (r2 : Int) (w : World) (hG : GB w) (h : item_Encode.f k a0_0 a0_1 a0_2 a0_3 = some (r1, r2)) :
  Calls Tryd.prog 30 #[.agg #[.int .i64 a0_0, .int .i64 a0_1, .string a0_2, .string a0_3]] w (Enc1 w r1 r2) := by
 unfold item_Encode.f at h
 obtain ⟨r, hr, h1⟩ := Option.bind_eq_some_iff.mp h
 clear h
 have HR := Aside0.mk hr
 have HBw := Aside0.mk (below_alloc (Below.refl w.heap.size w) (.cells #[.int .i64 a0_0, .int .i64 a0_1, .string a0_2, .string a0_3] 44))
 have HXx := Aside0.mk (blk_new w (.cells #[.int .i64 a0_0, .int .i64 a0_1, .string a0_2, .string a0_3] 44))
 have HG := Aside0.mk (hG.alloc (.cells #[.int .i64 a0_0, .int .i64 a0_1, .string a0_2, .string a0_3] 44))
 clear hr hG
 have hu44 := Tryd.underlying44
 go_enter Tryd.func30, Tryd.ntmps30
 go_wp2_with fail
 obtain ⟨wx, hwx⟩ : ∃ W_ : World, W_ = w.alloc (.cells #[.int .i64 a0_0, .int .i64 a0_1, .string a0_2, .string a0_3] 44) := ⟨_, rfl⟩
 rw [← hwx] at HBw HXx HG ⊢
 clear hwx
 have HSZ : Aside0 (w.heap.size ≤ wx.heap.size) := ⟨HBw.out.size⟩
 obtain ⟨g, hg⟩ : ∃ g, w.heap.size = g := ⟨_, rfl⟩
 rw [hg] at HXx ⊢
 clear hg
 cases r with
 | false =>
  rw [if_neg (by decide)] at h1
  cases h1
  refine (item_Right.calls k a0_0 a0_1 a0_2 a0_3 false _ HR.out).mono ?_
  rintro e_ w1 ⟨rfl, hb1⟩
  have HB1 := Aside0.mk (below_step HBw.out hb1)
  clear hb1
  go_wp2_with fail
  go_ret2
  exact ⟨_, rfl, Kd.R_nil _ _ _ _ _, HB1.out⟩
 | true =>
  rw [if_pos rfl] at h1
  by_cases h5 : 0 ≤ a0_0 ∧ a0_0 < 5
  ·
   rw [if_pos h5] at h1
   obtain ⟨⟨p, pe⟩, hp, h2⟩ := Option.bind_eq_some_iff.mp h1
   obtain ⟨t, ht, h3⟩ := Option.bind_eq_some_iff.mp h2
   clear h1 h2
   obtain ⟨kk, rfl⟩ : ∃ kk : Nat, a0_0 = (kk : Int) := ⟨a0_0.toNat, by omega⟩
   rw [Int.toNat_natCast] at hp
   have HP := Aside0.mk hp
   have HT := Aside0.mk ht
   have hk5 : (kk : Int) < 5 := h5.2
   have hk0 : (0 : Int) ≤ (kk : Int) := h5.1
   have HK : Aside0 (kk < 5) := ⟨by omega⟩
   have H3 := Aside0.mk h3
   clear hp ht h3 h5
   refine (item_Right.calls k (kk : Int) a0_1 a0_2 a0_3 true _ HR.out).mono ?_
   rintro e_ w1 ⟨rfl, hb1⟩
   have HB1 := Aside0.mk hb1
   have HX1 := Aside0.mk (blk_below HXx.out hb1)
   have q0 : w1.cell? ⟨g, 0, none⟩ = some (.int .i64 (kk : Int)) := (blk_cell HX1.out 0).trans rfl
   obtain ⟨s0, s1⟩ := (HG.out.below HB1.out).sh kk HK.out
   have q1 : (w1.alloc (.cells #[.int .i64 (shB kk : Int), .int .i64 (shA kk : Int)] 77)).cell? ⟨g, 1, none⟩ = some (.int .i64 a0_1) := (blk_cell (blk_below HX1.out (below_alloc (Below.refl _ _) _)) 1).trans rfl
   clear hb1
   go_wp2_with fail
   refine (prefix_Encode.calls k a0_1 (shB kk : Int) (shA kk : Int) p pe _ HP.out).mono ?_
   rintro e_ w2 ⟨v2, rfl, hR2, hb2⟩
   have hb12 := below_step (below_alloc (Below.refl w1.heap.size w1) (.cells #[.int .i64 (shB kk : Int), .int .i64 (shA kk : Int)] 77)) hb2
   have HR2 := Aside0.mk (Kd.R_lower (Kd.R_lower hR2 (below_size (below_alloc (Below.refl w1.heap.size w1) (.cells #[.int .i64 (shB kk : Int), .int .i64 (shA kk : Int)] 77)))) (below_size HB1.out))
   have HB2 := Aside0.mk (below_step HB1.out hb12)
   clear hR2 hb2 hb12 s0 s1 q0 q1
   have q0 : w2.cell? ⟨g, 0, none⟩ = some (.int .i64 (kk : Int)) := (blk_cell (blk_below HXx.out HB2.out) 0).trans rfl
   go_wp2_with fail
   refine (item_texts.calls (kk : Int) t _ HT.out).mono ?_
   rintro e_ w3 ⟨rfl, hd⟩
   have HR3 := Aside0.mk (Kd.R_below HR2.out hd.below)
   have HB3 := Aside0.mk (below_step HB2.out hd.below)
   have HX3 := Aside0.mk (blk_below HXx.out HB3.out)
   clear hd q0 HR2 HB2 HX1 HB1
   have h3 := H3.out
   clear H3
   cases t with
   | false =>
    rw [if_neg (by decide)] at h3
    simp only [Option.some.injEq, Prod.mk.injEq] at h3
    obtain ⟨rfl, rfl⟩ := h3
    go_wp2_with fail
    go_ret2
    exact ⟨_, rfl, Kd.R_lower HR3.out HSZ.out, below_step HBw.out HB3.out⟩
   | true =>
    rw [if_pos rfl] at h3
    have q1 : w3.cell? ⟨g, 1, none⟩ = some (.int .i64 a0_1) := (blk_cell HX3.out 1).trans rfl
    by_cases hn : a0_1 = 0
    ·
     rw [if_pos hn] at h3
     obtain ⟨n, hn1, h4⟩ := Option.bind_eq_some_iff.mp h3
     clear h3
     by_cases hl1 : p.length + n.length < 140737488355328
     ·
      rw [if_pos hl1] at h4
      obtain ⟨v, hv1, h6⟩ := Option.bind_eq_some_iff.mp h4
      clear h4
      by_cases hl2 : (p ++ n).length + v.length < 140737488355328
      ·
       rw [if_pos hl2] at h6
       simp only [Option.some.injEq, Prod.mk.injEq] at h6
       obtain ⟨h6, rfl⟩ := h6
       have H6 := Aside0.mk h6
       have HN := Aside0.mk hn1
       have HV := Aside0.mk hv1
       have HL1 := Aside0.mk hl1
       have HL2 := Aside0.mk hl2
       have b0 : (a0_1 == 0) = true := beq_iff_eq.mpr hn
       have q2 : w3.cell? ⟨g, 2, none⟩ = some (.string a0_2) := (blk_cell HX3.out 2).trans rfl
       clear h6 hn1 hv1 hl1 hl2 hn
       go_wp2_with fail
       refine (literal_Short.calls k a0_2 n _ (HG.out.below HB3.out) HN.out).mono ?_
       rintro e_ w4 ⟨v4, rfl, hR4, hb4⟩
       obtain ⟨A4, c4, rfl⟩ := Kd.R_slice hR4
       have HC4 := Aside0.mk (Kd.R_reads' hR4).2.2
       have HR4 := Aside0.mk (Kd.R_below HR3.out hb4)
       have HB4 := Aside0.mk (below_step HB3.out hb4)
       clear hR4 hb4 q1 q2 HR3 HB3 HX3
       go_wp2_with (at_builtin; refine Kd.R_append_row (Value.int .u8) (0 : Int) (w0 := wx) wx.heap.size rfl (.tmp 32) (.tmp 35) 22 5 (.int .u8 0) 1 rfl Tryd.underlying22 info5 rfl (by decide) v2 p n A4 n.length c4 (fun _ => True) rfl rfl (fun _ _ => trivial) HR4.out HC4.out HB4.out (below_size HB4.out) (by have := HL1.out; omega) ?_; intro v5 w5 hR_ hb_ _ _; have HR5 := Aside0.mk hR_; have HB5 := Aside0.mk hb_; clear hR_ hb_; have q3 : w5.cell? ⟨g, 3, none⟩ = some (.string a0_3) := (blk_cell (blk_below HXx.out HB5.out) 3).trans rfl)
       obtain ⟨pn, hpn⟩ : ∃ pn, p ++ n = pn := ⟨_, rfl⟩
       rw [hpn] at HR5 HL2 H6
       clear hpn HR4 HB4 HC4
       refine (literal_Short.calls k a0_3 v _ (HG.out.below HB5.out) HV.out).mono ?_
       rintro e_ w6 ⟨v6, rfl, hR6, hb6⟩
       obtain ⟨A6, c6, rfl⟩ := Kd.R_slice hR6
       have HC6 := Aside0.mk (Kd.R_reads' hR6).2.2
       have HR6 := Aside0.mk (Kd.R_below HR5.out hb6)
       have HB6 := Aside0.mk (below_step HB5.out hb6)
       clear hR6 hb6 q3 HR5 HB5
       go_wp2_with (at_builtin; refine Kd.R_append_row (Value.int .u8) (0 : Int) (w0 := wx) wx.heap.size rfl (.tmp 37) (.tmp 40) 22 5 (.int .u8 0) 1 rfl Tryd.underlying22 info5 rfl (by decide) v5 pn v A6 v.length c6 (fun _ => True) rfl rfl (fun _ _ => trivial) HR6.out HC6.out HB6.out (below_size HB6.out) (by have := HL2.out; omega) ?_; intro v7 w7 hR_ hb_ _ _; have HR7 := Aside0.mk hR_; have HB7 := Aside0.mk hb_; clear hR_ hb_)
       go_ret2
       exact ⟨_, rfl, by rw [← H6.out]; exact Kd.R_lower HR7.out HSZ.out, below_step HBw.out HB7.out⟩
      ·
       rw [if_neg hl2] at h6; cases h6
     ·
      rw [if_neg hl1] at h4; cases h4
    ·
     rw [if_neg hn] at h3
     obtain ⟨v, hv1, h6⟩ := Option.bind_eq_some_iff.mp h3
     clear h3
     by_cases hl2 : p.length + v.length < 140737488355328
     ·
      rw [if_pos hl2] at h6
      simp only [Option.some.injEq, Prod.mk.injEq] at h6
      obtain ⟨h6, rfl⟩ := h6
      have H6 := Aside0.mk h6
      have HV := Aside0.mk hv1
      have HL2 := Aside0.mk hl2
      have b0 : (a0_1 == 0) = false := beq_eq_false_iff_ne.mpr hn
      have q3 : w3.cell? ⟨g, 3, none⟩ = some (.string a0_3) := (blk_cell HX3.out 3).trans rfl
      clear h6 hv1 hl2 hn
      go_wp2_with fail
      refine (literal_Short.calls k a0_3 v _ (HG.out.below HB3.out) HV.out).mono ?_
      rintro e_ w6 ⟨v6, rfl, hR6, hb6⟩
      obtain ⟨A6, c6, rfl⟩ := Kd.R_slice hR6
      have HC6 := Aside0.mk (Kd.R_reads' hR6).2.2
      have HR6 := Aside0.mk (Kd.R_below HR3.out hb6)
      have HB6 := Aside0.mk (below_step HB3.out hb6)
      clear hR6 hb6 q3 q1 HR3 HB3
      go_wp2_with (at_builtin; refine Kd.R_append_row (Value.int .u8) (0 : Int) (w0 := wx) wx.heap.size rfl (.tmp 37) (.tmp 40) 22 5 (.int .u8 0) 1 rfl Tryd.underlying22 info5 rfl (by decide) v2 p v A6 v.length c6 (fun _ => True) rfl rfl (fun _ _ => trivial) HR6.out HC6.out HB6.out (below_size HB6.out) (by have := HL2.out; omega) ?_; intro v7 w7 hR_ hb_ _ _; have HR7 := Aside0.mk hR_; have HB7 := Aside0.mk hb_; clear hR_ hb_)
      go_ret2
      exact ⟨_, rfl, by rw [← H6.out]; exact Kd.R_lower HR7.out HSZ.out, below_step HBw.out HB7.out⟩
     ·
      rw [if_neg hl2] at h6; cases h6
  ·
   rw [if_neg h5] at h1; cases h1
theorem item_Encode.calls (k : Nat) (a0_0 a0_1 : Int) (a0_2 a0_3 : ByteArray) (r1 : List Int) (r2 : Int) (w : World) (hG : GB w) (h : item_Encode.f k a0_0 a0_1 a0_2 a0_3 = some (r1, r2)) :
  Calls Tryd.prog 30 #[.agg #[.int .i64 a0_0, .int .i64 a0_1, .string a0_2, .string a0_3]] w fun e w' => ∃ v0_ : Value, e = .returned (.tuple #[v0_, .int .i64 r2]) ∧ Kd.R (Kd.int .u8) 5 w' w.heap.size (fun _ => True) v0_ r1 ∧ Below w.heap.size w w' :=
 (item_Encode.is k a0_0 a0_1 a0_2 a0_3 r1 r2 w hG h).mono fun _ _ h => h

-- NOT PRINTED: function 38 (huff_codes)

-- NOT PRINTED: function 41 (huff_texts)

-- NOT PRINTED: function 42 (huff_bits)

/-! ### huff_Decode: function 18 (the session's own) -/

/-! ### prefix_Decode: function 48 (the session's own) -/

/-! ### literal_Decode: function 27 (the session's own) -/
theorem literal_Decode.calls (k : Nat) (A0 : Option Addr) (c0 : Nat) (l0 : List Int) (a1 : Int) (r1 : ByteArray) (r2 : Int) (r3 : Int) (w : World) (hG : GB w) (hr0 : Kd.C (Kd.int .u8) w A0 l0.length l0) (hc0 : l0.length ≤ c0) (h : literal_Decode.f k l0 a1 = some (r1, r2, r3)) :
  Calls Tryd.prog 27 #[.slice A0 l0.length c0, .int .i64 a1] w fun e w' => e = .returned (.tuple #[.string r1, .int .i64 r2, .int .i64 r3]) ∧ Below w.heap.size w w' := QI.literal_Decode.calls k A0 c0 l0 a1 r1 r2 r3 w hG.huff hr0 hc0 h

/-! ### item_kind: function 54 (the session's own) -/
theorem ix_shapes0 (w : World) : (Instr.index 78 (.agg #[.int .i64 7, .int .i64 128, .int .i64 6, .int .i64 64, .int .i64 4, .int .i64 0, .int .i64 4, .int .i64 16, .int .i64 5, .int .i64 32]) (.int .i64 0)).run Tryd.prog w = .ok (.agg #[.int .i64 7, .int .i64 128]) w := by kernel_rfl
theorem ix_shapes1 (w : World) : (Instr.index 78 (.agg #[.int .i64 7, .int .i64 128, .int .i64 6, .int .i64 64, .int .i64 4, .int .i64 0, .int .i64 4, .int .i64 16, .int .i64 5, .int .i64 32]) (.int .i64 1)).run Tryd.prog w = .ok (.agg #[.int .i64 6, .int .i64 64]) w := by kernel_rfl
theorem ix_shapes2 (w : World) : (Instr.index 78 (.agg #[.int .i64 7, .int .i64 128, .int .i64 6, .int .i64 64, .int .i64 4, .int .i64 0, .int .i64 4, .int .i64 16, .int .i64 5, .int .i64 32]) (.int .i64 2)).run Tryd.prog w = .ok (.agg #[.int .i64 4, .int .i64 0]) w := by kernel_rfl
theorem ix_shapes3 (w : World) : (Instr.index 78 (.agg #[.int .i64 7, .int .i64 128, .int .i64 6, .int .i64 64, .int .i64 4, .int .i64 0, .int .i64 4, .int .i64 16, .int .i64 5, .int .i64 32]) (.int .i64 3)).run Tryd.prog w = .ok (.agg #[.int .i64 4, .int .i64 16]) w := by kernel_rfl
theorem ix_shapes4 (w : World) : (Instr.index 78 (.agg #[.int .i64 7, .int .i64 128, .int .i64 6, .int .i64 64, .int .i64 4, .int .i64 0, .int .i64 4, .int .i64 16, .int .i64 5, .int .i64 32]) (.int .i64 4)).run Tryd.prog w = .ok (.agg #[.int .i64 5, .int .i64 32]) w := by kernel_rfl
/-- That of a first byte. -/
def kdN (c : Nat) : Nat := if 128 ≤ c then 0 else if 64 ≤ c then 1 else if 32 ≤ c then 4 else if 16 ≤ c then 3 else 2
theorem kdN_lt (c : Nat) : kdN c < 5 := by unfold kdN; split <;> (try split) <;> (try split) <;> (try split) <;> omega
def item_kind.f (c : Int) : Option Int := if 0 ≤ c ∧ c < 256 then some ((kdN c.toNat : Nat) : Int) else none
set_option maxHeartbeats 4000000 in
set_option maxRecDepth 100000 in
theorem item_kind.is (c : Nat) (hc : c < 256) (w : World) (hG : GB w) :
  Calls Tryd.prog 54 #[.int .u8 (c : Int)] w fun e w' => e = .returned (.int .i64 ((kdN c : Nat) : Int)) ∧ Below w.heap.size w w' := by
 have HC := Aside0.mk hc
 obtain ⟨q0, q1⟩ := hG.sh 0 (by omega)
 obtain ⟨q2, q3⟩ := hG.sh 1 (by omega)
 obtain ⟨q4, q5⟩ := hG.sh 2 (by omega)
 obtain ⟨q6, q7⟩ := hG.sh 3 (by omega)
 obtain ⟨q8, q9⟩ := hG.sh 4 (by omega)
 simp only [shB, shA] at q0 q1 q2 q3 q4 q5 q6 q7 q8 q9
 have HB := Aside0.mk (Below.refl w.heap.size w)
 clear hG hc
 go_enter Tryd.func54, Tryd.ntmps54
 go_wp2_with go_step3
 clear q0 q1 q2 q3 q4 q5 q6 q7 q8 q9
 go_loopg [3, 7] 6 (fun kq v3 v7 w' => ∃ k : Nat, v3 = .int .i64 0 ∧ v7 = .int .i64 (k : Int) ∧ Aside0 (k + kq = 6 ∧ k ≤ 4) ∧ Aside0 ((k ≥ 1 → c < 128) ∧ (k ≥ 2 → c < 64) ∧ (k ≥ 3 → 16 ≤ c) ∧ (k ≥ 4 → 32 ≤ c)) ∧ Aside0 (Below w.heap.size w w'))
 case atStart => exact ⟨0, rfl, rfl, ⟨by omega⟩, ⟨by omega⟩, HB⟩
 case round =>
  clear HB
  obtain ⟨k, rfl, rfl, HK, HT, HB⟩ := hrel
  obtain ⟨k1, hk1⟩ : ∃ q, gk = q + 1 := ⟨gk - 1, by have := HK.out; omega⟩
  subst hk1
  have hk5 : k = 0 ∨ k = 1 ∨ k = 2 ∨ k = 3 ∨ k = 4 := by have := HK.out; omega
  rcases hk5 with rfl | rfl | rfl | rfl | rfl
  ·
   have ix := ix_shapes0
   have hkk : decide (((0 : Nat) : Int) < 5) = true := by decide
   have hT := HT.out
   have hC := HC.out
   by_cases hm : 128 ≤ c
   ·
    have hb1 : ((c : Int) / 128 * 128 == 128) = true := beq_iff_eq.mpr (by omega)
    have HR : Aside0 (kdN c = 0) := ⟨by unfold kdN; (repeat' split) <;> omega⟩
    clear hm hT
    go_wp2_with go_step3
    go_quiet (fail)
    go_wp2_with go_step3
    (try rw [Exit.noGoto_ret])
    go_ret
    exact ⟨by rw [HR.out]; rfl, pw_below_drewN (below_alloc HB.out _) _⟩
   ·
    have hb1 : ((c : Int) / 128 * 128 == 128) = false := beq_eq_false_iff_ne.mpr (by omega)
    have HN : Aside0 ((1 ≥ 1 → c < 128) ∧ (1 ≥ 2 → c < 64) ∧ (1 ≥ 3 → 16 ≤ c) ∧ (1 ≥ 4 → 32 ≤ c)) := ⟨by omega⟩
    clear hm hT
    go_wp2_with go_step3
    go_quiet (fail)
    go_wp2_with go_step3
    go_roundg k1
    case measure => omega
    case rel => exact ⟨1, rfl, (by first | rfl | simp), ⟨by have := HK.out; omega⟩, HN, ⟨pw_below_drewN (below_alloc HB.out _) _⟩⟩
  ·
   have ix := ix_shapes1
   have hkk : decide (((1 : Nat) : Int) < 5) = true := by decide
   have hT := HT.out
   have hC := HC.out
   by_cases hm : 64 ≤ c
   ·
    have hb1 : ((c : Int) / 64 * 64 == 64) = true := beq_iff_eq.mpr (by omega)
    have HR : Aside0 (kdN c = 1) := ⟨by unfold kdN; (repeat' split) <;> omega⟩
    clear hm hT
    go_wp2_with go_step3
    go_quiet (fail)
    go_wp2_with go_step3
    (try rw [Exit.noGoto_ret])
    go_ret
    exact ⟨by rw [HR.out]; rfl, pw_below_drewN (below_alloc HB.out _) _⟩
   ·
    have hb1 : ((c : Int) / 64 * 64 == 64) = false := beq_eq_false_iff_ne.mpr (by omega)
    have HN : Aside0 ((2 ≥ 1 → c < 128) ∧ (2 ≥ 2 → c < 64) ∧ (2 ≥ 3 → 16 ≤ c) ∧ (2 ≥ 4 → 32 ≤ c)) := ⟨by omega⟩
    clear hm hT
    go_wp2_with go_step3
    go_quiet (fail)
    go_wp2_with go_step3
    go_roundg k1
    case measure => omega
    case rel => exact ⟨2, rfl, (by first | rfl | simp), ⟨by have := HK.out; omega⟩, HN, ⟨pw_below_drewN (below_alloc HB.out _) _⟩⟩
  ·
   have ix := ix_shapes2
   have hkk : decide (((2 : Nat) : Int) < 5) = true := by decide
   have hT := HT.out
   have hC := HC.out
   by_cases hm : c < 16
   ·
    have hb1 : ((c : Int) / 16 * 16 == 0) = true := beq_iff_eq.mpr (by omega)
    have HR : Aside0 (kdN c = 2) := ⟨by unfold kdN; (repeat' split) <;> omega⟩
    clear hm hT
    go_wp2_with go_step3
    go_quiet (fail)
    go_wp2_with go_step3
    (try rw [Exit.noGoto_ret])
    go_ret
    exact ⟨by rw [HR.out]; rfl, pw_below_drewN (below_alloc HB.out _) _⟩
   ·
    have hb1 : ((c : Int) / 16 * 16 == 0) = false := beq_eq_false_iff_ne.mpr (by omega)
    have HN : Aside0 ((3 ≥ 1 → c < 128) ∧ (3 ≥ 2 → c < 64) ∧ (3 ≥ 3 → 16 ≤ c) ∧ (3 ≥ 4 → 32 ≤ c)) := ⟨by omega⟩
    clear hm hT
    go_wp2_with go_step3
    go_quiet (fail)
    go_wp2_with go_step3
    go_roundg k1
    case measure => omega
    case rel => exact ⟨3, rfl, (by first | rfl | simp), ⟨by have := HK.out; omega⟩, HN, ⟨pw_below_drewN (below_alloc HB.out _) _⟩⟩
  ·
   have ix := ix_shapes3
   have hkk : decide (((3 : Nat) : Int) < 5) = true := by decide
   have hT := HT.out
   have hC := HC.out
   by_cases hm : c < 32
   ·
    have hb1 : ((c : Int) / 16 * 16 == 16) = true := beq_iff_eq.mpr (by omega)
    have HR : Aside0 (kdN c = 3) := ⟨by unfold kdN; (repeat' split) <;> omega⟩
    clear hm hT
    go_wp2_with go_step3
    go_quiet (fail)
    go_wp2_with go_step3
    (try rw [Exit.noGoto_ret])
    go_ret
    exact ⟨by rw [HR.out]; rfl, pw_below_drewN (below_alloc HB.out _) _⟩
   ·
    have hb1 : ((c : Int) / 16 * 16 == 16) = false := beq_eq_false_iff_ne.mpr (by omega)
    have HN : Aside0 ((4 ≥ 1 → c < 128) ∧ (4 ≥ 2 → c < 64) ∧ (4 ≥ 3 → 16 ≤ c) ∧ (4 ≥ 4 → 32 ≤ c)) := ⟨by omega⟩
    clear hm hT
    go_wp2_with go_step3
    go_quiet (fail)
    go_wp2_with go_step3
    go_roundg k1
    case measure => omega
    case rel => exact ⟨4, rfl, (by first | rfl | simp), ⟨by have := HK.out; omega⟩, HN, ⟨pw_below_drewN (below_alloc HB.out _) _⟩⟩
  ·
   have ix := ix_shapes4
   have hkk : decide (((4 : Nat) : Int) < 5) = true := by decide
   have hT := HT.out
   have hC := HC.out
   by_cases hm : c < 64
   ·
    have hb1 : ((c : Int) / 32 * 32 == 32) = true := beq_iff_eq.mpr (by omega)
    have HR : Aside0 (kdN c = 4) := ⟨by unfold kdN; (repeat' split) <;> omega⟩
    clear hm hT
    go_wp2_with go_step3
    go_quiet (fail)
    go_wp2_with go_step3
    (try rw [Exit.noGoto_ret])
    go_ret
    exact ⟨by rw [HR.out]; rfl, pw_below_drewN (below_alloc HB.out _) _⟩
   ·
    omega
theorem item_kind.calls (a0 : Int) (r : Int) (w : World) (hG : GB w) (h : item_kind.f a0 = some r) :
  Calls Tryd.prog 54 #[.int .u8 a0] w fun e w' => e = .returned (.int .i64 r) ∧ Below w.heap.size w w' := by
 unfold item_kind.f at h
 by_cases hc : 0 ≤ a0 ∧ a0 < 256
 ·
  rw [if_pos hc] at h
  obtain rfl := Option.some.inj h
  obtain ⟨c, rfl⟩ : ∃ c : Nat, a0 = (c : Int) := ⟨a0.toNat, by omega⟩
  exact item_kind.is c (by omega) w hG
 ·
  rw [if_neg hc] at h; cases h

end Go.Proofs.YtlbjhbanfpnogaaDoor.QJ
