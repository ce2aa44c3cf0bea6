-- written by a program of this session (wip/tools) out of the translation's own print and the session's texts; nothing here is trusted: Lean checks it
import Derived.Test.YtlbjhbanfpnogaaQP0
import Derived.Test.YtlbjhbanfpnogaaQP1
import Derived.Test.YtlbjhbanfpnogaaQP2
namespace Go.Proofs.Ytlbjhbanfpnogaa.QP
open Go.RowKit Go.Proofs.YtlbjhbanfpnogaaW.PrintWords Go.Proofs.YtlbjhbanfpnogaaW.PrintLast Go.Proofs.YtlbjhbanfpnogaaW.PrintMore
attribute [local go_sem] max2_int min2_int max_two min_two max_three min_three max_four min_four   -- for this text's walks alone
set_option linter.unusedVariables false
set_option linter.unusedSimpArgs false

/-! ### gantletlaw03_PrefixBack: function 4 -/
mutual
def gantletlaw03_PrefixBack.l0 : Nat → List Int → Int → Int → Int → Int → Int → Int → Int → Int → Option (Bool)
  | 0, _, _, _, _, _, _, _, _, _ => none
  | k + 1, x2, x7, x8, x9, x205000, x205001, x206000, x206001, x206002 => if x9 < x7 then (gantletlaw03_PrefixBack.l0 k x2 x7 (wrap64 (2 * x8)) (wrap64 (x9 + 1)) x205000 x205001 x206000 x206001 x206002) else (if x8 = 0 then (none) else ((prefix_Encode.f k x205000 x7 (wrap64 ((wrap64 (Int.tdiv (wrap64 (x206001)) x8)) * x8))).bind fun bt207 => ((prefix_Encode.f k x205001 x7 (wrap64 ((wrap64 (Int.tdiv (wrap64 (x206001)) x8)) * x8))).bind fun bt211 => (if x205000 ≥ 0 then (gantletlaw03_PrefixBack.j1 k x2 x7 bt207.1 bt207.2 bt211.1 bt211.2 ((bt207.2 == 0) != (decide (x205000 ≤ 16777215))) x205000 x205001 x206000 x206001 x206002) else (gantletlaw03_PrefixBack.j1 k x2 x7 bt207.1 bt207.2 bt211.1 bt211.2 ((bt207.2 == 0) != false) x205000 x205001 x206000 x206001 x206002)))))
def gantletlaw03_PrefixBack.j1 : Nat → List Int → Int → List Int → Int → List Int → Int → Bool → Int → Int → Int → Int → Int → Option (Bool)
  | 0, _, _, _, _, _, _, _, _, _, _, _, _ => none
  | k + 1, x2, x7, x11, x12, x13, x14, x71, x205000, x205001, x206000, x206001, x206002 => if x71 = true then (none) else (if x12 = 0 then (gantletlaw03_PrefixBack.j2 k x2 x7 x11 x12 x13 x14 ((x11.length : Int) == 0) x205000 x205001 x206000 x206001 x206002) else (gantletlaw03_PrefixBack.j2 k x2 x7 x11 x12 x13 x14 true x205000 x205001 x206000 x206001 x206002))
def gantletlaw03_PrefixBack.j2 : Nat → List Int → Int → List Int → Int → List Int → Int → Bool → Int → Int → Int → Int → Int → Option (Bool)
  | 0, _, _, _, _, _, _, _, _, _, _, _, _ => none
  | k + 1, x2, x7, x11, x12, x13, x14, x78, x205000, x205001, x206000, x206001, x206002 => if x78 = true then ((gantletlaw03_alive.f k).bind fun t215 => (if t215 = true then (some (x12 != 0)) else (none))) else ((some (([] : List Int) : List Int)).bind fun y216 => (if y216.length + x11.length < 140737488355328 then ((some (y216 ++ x11 : List Int)).bind fun y219 => (if y219.length + x2.length < 140737488355328 then ((prefix_Decode.f k (y219 ++ x2) x7).bind fun bt225 => (if (x11.length : Int) = 0 then (none) else (if 0 ≤ (Int.tmod (wrap64 (x206002)) (x11.length : Int)) then (if (Int.tmod (wrap64 (x206002)) (x11.length : Int)) ≤ (x11.length : Int) then ((prefix_Decode.f k (x11.take ((Int.tmod (wrap64 (x206002)) (x11.length : Int)) : Int).toNat) x7).bind fun bt232 => (if bt225.1 = x205000 then (if bt225.2.1 = (x11.length : Int) then (if bt225.2.2 = 0 then (gantletlaw03_PrefixBack.j3 k x11 x13 x14 (bt232.2.2 != 2) x205000 x205001) else (gantletlaw03_PrefixBack.j3 k x11 x13 x14 true x205000 x205001)) else (gantletlaw03_PrefixBack.j3 k x11 x13 x14 true x205000 x205001)) else (gantletlaw03_PrefixBack.j3 k x11 x13 x14 true x205000 x205001))) else (none)) else (none)))) else (none))) else (none)))
def gantletlaw03_PrefixBack.j3 : Nat → List Int → List Int → Int → Bool → Int → Int → Option (Bool)
  | 0, _, _, _, _, _, _ => none
  | k + 1, x11, x13, x14, x126, x205000, x205001 => if x126 = true then (none) else ((gantletref01_Same.f k x11 x13).bind fun t235 => ((gantletlaw03_alive.f k).bind fun t236 => (if t236 = true then (if x14 = 0 then (some (t235 == (x205000 == x205001))) else (some true)) else (none))))
end
def gantletlaw03_PrefixBack.f (k : Nat) (a0_0 : Int) (a0_1 : Int) (a1_0 : Int) (a1_1 : Int) (a1_2 : Int) (l2 : List Int) : Option (Bool) := if (l2.length : Int) > 300 then ((gantletlaw03_alive.f k).bind fun t206 => (some t206)) else (gantletlaw03_PrefixBack.l0 k l2 (wrap64 ((wrap64 (Int.tmod a1_0 8)) + 1)) 1 0 a0_0 a0_1 a1_0 a1_1 a1_2)
theorem gantletlaw03_PrefixBack.mono_l : ∀ k, (∀ y0 y1 y2 y3 y4 y5 y6 y7 y8, LeO (gantletlaw03_PrefixBack.l0 k y0 y1 y2 y3 y4 y5 y6 y7 y8) (gantletlaw03_PrefixBack.l0 (k + 1) y0 y1 y2 y3 y4 y5 y6 y7 y8)) ∧ (∀ y0 y1 y2 y3 y4 y5 y6 y7 y8 y9 y10 y11, LeO (gantletlaw03_PrefixBack.j1 k y0 y1 y2 y3 y4 y5 y6 y7 y8 y9 y10 y11) (gantletlaw03_PrefixBack.j1 (k + 1) y0 y1 y2 y3 y4 y5 y6 y7 y8 y9 y10 y11)) ∧ (∀ y0 y1 y2 y3 y4 y5 y6 y7 y8 y9 y10 y11, LeO (gantletlaw03_PrefixBack.j2 k y0 y1 y2 y3 y4 y5 y6 y7 y8 y9 y10 y11) (gantletlaw03_PrefixBack.j2 (k + 1) y0 y1 y2 y3 y4 y5 y6 y7 y8 y9 y10 y11)) ∧ (∀ y0 y1 y2 y3 y4 y5, LeO (gantletlaw03_PrefixBack.j3 k y0 y1 y2 y3 y4 y5) (gantletlaw03_PrefixBack.j3 (k + 1) y0 y1 y2 y3 y4 y5))
  | 0 => ⟨fun _ _ _ _ _ _ _ _ _ r h => by simp [gantletlaw03_PrefixBack.l0] at h, fun _ _ _ _ _ _ _ _ _ _ _ _ r h => by simp [gantletlaw03_PrefixBack.j1] at h, fun _ _ _ _ _ _ _ _ _ _ _ _ r h => by simp [gantletlaw03_PrefixBack.j2] at h, fun _ _ _ _ _ _ r h => by simp [gantletlaw03_PrefixBack.j3] at h⟩
  | k + 1 => by
    obtain ⟨ih0, ih1, ih2, ih3⟩ := gantletlaw03_PrefixBack.mono_l k
    refine ⟨?_, ?_, ?_, ?_⟩
    · intro y0 y1 y2 y3 y4 y5 y6 y7 y8
      unfold gantletlaw03_PrefixBack.l0
      repeat' first
      | (with_reducible exact ih0 _ _ _ _ _ _ _ _ _)
      | (with_reducible exact ih1 _ _ _ _ _ _ _ _ _ _ _ _)
      | (with_reducible exact ih2 _ _ _ _ _ _ _ _ _ _ _ _)
      | (with_reducible exact ih3 _ _ _ _ _ _)
      | (with_reducible exact gantletlaw03_alive.mono _)
      | (with_reducible exact gantletref01_Same.mono _ _ _)
      | (with_reducible exact prefix_Decode.mono _ _ _)
      | (with_reducible exact prefix_Encode.mono _ _ _ _)
      | (with_reducible exact LeO.refl _)
      | (with_reducible exact LeO.none _)
      | (with_reducible refine LeO.ite ?_ ?_)
      | (with_reducible refine LeO.bind ?_ (fun _ => ?_))
      | exact ih0 _ _ _ _ _ _ _ _ _
      | exact ih1 _ _ _ _ _ _ _ _ _ _ _ _
      | exact ih2 _ _ _ _ _ _ _ _ _ _ _ _
      | exact ih3 _ _ _ _ _ _
      | exact gantletlaw03_alive.mono _
      | exact gantletref01_Same.mono _ _ _
      | exact prefix_Decode.mono _ _ _
      | exact prefix_Encode.mono _ _ _ _
      | exact LeO.none _
      | refine LeO.ite ?_ ?_
      | refine LeO.bind ?_ (fun _ => ?_)
    · intro y0 y1 y2 y3 y4 y5 y6 y7 y8 y9 y10 y11
      unfold gantletlaw03_PrefixBack.j1
      repeat' first
      | (with_reducible exact ih0 _ _ _ _ _ _ _ _ _)
      | (with_reducible exact ih1 _ _ _ _ _ _ _ _ _ _ _ _)
      | (with_reducible exact ih2 _ _ _ _ _ _ _ _ _ _ _ _)
      | (with_reducible exact ih3 _ _ _ _ _ _)
      | (with_reducible exact gantletlaw03_alive.mono _)
      | (with_reducible exact gantletref01_Same.mono _ _ _)
      | (with_reducible exact prefix_Decode.mono _ _ _)
      | (with_reducible exact prefix_Encode.mono _ _ _ _)
      | (with_reducible exact LeO.refl _)
      | (with_reducible exact LeO.none _)
      | (with_reducible refine LeO.ite ?_ ?_)
      | (with_reducible refine LeO.bind ?_ (fun _ => ?_))
      | exact ih0 _ _ _ _ _ _ _ _ _
      | exact ih1 _ _ _ _ _ _ _ _ _ _ _ _
      | exact ih2 _ _ _ _ _ _ _ _ _ _ _ _
      | exact ih3 _ _ _ _ _ _
      | exact gantletlaw03_alive.mono _
      | exact gantletref01_Same.mono _ _ _
      | exact prefix_Decode.mono _ _ _
      | exact prefix_Encode.mono _ _ _ _
      | exact LeO.none _
      | refine LeO.ite ?_ ?_
      | refine LeO.bind ?_ (fun _ => ?_)
    · intro y0 y1 y2 y3 y4 y5 y6 y7 y8 y9 y10 y11
      unfold gantletlaw03_PrefixBack.j2
      repeat' first
      | (with_reducible exact ih0 _ _ _ _ _ _ _ _ _)
      | (with_reducible exact ih1 _ _ _ _ _ _ _ _ _ _ _ _)
      | (with_reducible exact ih2 _ _ _ _ _ _ _ _ _ _ _ _)
      | (with_reducible exact ih3 _ _ _ _ _ _)
      | (with_reducible exact gantletlaw03_alive.mono _)
      | (with_reducible exact gantletref01_Same.mono _ _ _)
      | (with_reducible exact prefix_Decode.mono _ _ _)
      | (with_reducible exact prefix_Encode.mono _ _ _ _)
      | (with_reducible exact LeO.refl _)
      | (with_reducible exact LeO.none _)
      | (with_reducible refine LeO.ite ?_ ?_)
      | (with_reducible refine LeO.bind ?_ (fun _ => ?_))
      | exact ih0 _ _ _ _ _ _ _ _ _
      | exact ih1 _ _ _ _ _ _ _ _ _ _ _ _
      | exact ih2 _ _ _ _ _ _ _ _ _ _ _ _
      | exact ih3 _ _ _ _ _ _
      | exact gantletlaw03_alive.mono _
      | exact gantletref01_Same.mono _ _ _
      | exact prefix_Decode.mono _ _ _
      | exact prefix_Encode.mono _ _ _ _
      | exact LeO.none _
      | refine LeO.ite ?_ ?_
      | refine LeO.bind ?_ (fun _ => ?_)
    · intro y0 y1 y2 y3 y4 y5
      unfold gantletlaw03_PrefixBack.j3
      repeat' first
      | (with_reducible exact ih0 _ _ _ _ _ _ _ _ _)
      | (with_reducible exact ih1 _ _ _ _ _ _ _ _ _ _ _ _)
      | (with_reducible exact ih2 _ _ _ _ _ _ _ _ _ _ _ _)
      | (with_reducible exact ih3 _ _ _ _ _ _)
      | (with_reducible exact gantletlaw03_alive.mono _)
      | (with_reducible exact gantletref01_Same.mono _ _ _)
      | (with_reducible exact prefix_Decode.mono _ _ _)
      | (with_reducible exact prefix_Encode.mono _ _ _ _)
      | (with_reducible exact LeO.refl _)
      | (with_reducible exact LeO.none _)
      | (with_reducible refine LeO.ite ?_ ?_)
      | (with_reducible refine LeO.bind ?_ (fun _ => ?_))
      | exact ih0 _ _ _ _ _ _ _ _ _
      | exact ih1 _ _ _ _ _ _ _ _ _ _ _ _
      | exact ih2 _ _ _ _ _ _ _ _ _ _ _ _
      | exact ih3 _ _ _ _ _ _
      | exact gantletlaw03_alive.mono _
      | exact gantletref01_Same.mono _ _ _
      | exact prefix_Decode.mono _ _ _
      | exact prefix_Encode.mono _ _ _ _
      | exact LeO.none _
      | refine LeO.ite ?_ ?_
      | refine LeO.bind ?_ (fun _ => ?_)
theorem gantletlaw03_PrefixBack.mono : ∀ a0 a1 a2 a3 a4 a5 k, LeO (gantletlaw03_PrefixBack.f k a0 a1 a2 a3 a4 a5) (gantletlaw03_PrefixBack.f (k + 1) a0 a1 a2 a3 a4 a5) := by
  intro a0 a1 a2 a3 a4 a5 k
  obtain ⟨ih0, ih1, ih2, ih3⟩ := gantletlaw03_PrefixBack.mono_l k
  unfold gantletlaw03_PrefixBack.f
  repeat' first
      | (with_reducible exact ih0 _ _ _ _ _ _ _ _ _)
      | (with_reducible exact ih1 _ _ _ _ _ _ _ _ _ _ _ _)
      | (with_reducible exact ih2 _ _ _ _ _ _ _ _ _ _ _ _)
      | (with_reducible exact ih3 _ _ _ _ _ _)
      | (with_reducible exact gantletlaw03_alive.mono _)
      | (with_reducible exact gantletref01_Same.mono _ _ _)
      | (with_reducible exact prefix_Decode.mono _ _ _)
      | (with_reducible exact prefix_Encode.mono _ _ _ _)
      | (with_reducible exact LeO.refl _)
      | (with_reducible exact LeO.none _)
      | (with_reducible refine LeO.ite ?_ ?_)
      | (with_reducible refine LeO.bind ?_ (fun _ => ?_))
      | exact ih0 _ _ _ _ _ _ _ _ _
      | exact ih1 _ _ _ _ _ _ _ _ _ _ _ _
      | exact ih2 _ _ _ _ _ _ _ _ _ _ _ _
      | exact ih3 _ _ _ _ _ _
      | exact gantletlaw03_alive.mono _
      | exact gantletref01_Same.mono _ _ _
      | exact prefix_Decode.mono _ _ _
      | exact prefix_Encode.mono _ _ _ _
      | exact LeO.none _
      | refine LeO.ite ?_ ?_
      | refine LeO.bind ?_ (fun _ => ?_)
set_option maxHeartbeats 8000000 in
set_option maxRecDepth 100000 in
theorem gantletlaw03_PrefixBack.calls (k : Nat) (a0_0 : Int) (a0_1 : Int) (a1_0 : Int) (a1_1 : Int) (a1_2 : Int) (A2 : Option Addr) (c2 : Nat) (l2 : List Int) (r : Bool) (w : World) (hr2 : Kd.C (Kd.int .u8) w A2 l2.length l2) (hc2 : l2.length ≤ c2) (h : gantletlaw03_PrefixBack.f k a0_0 a0_1 a1_0 a1_1 a1_2 l2 = some r) :
    Calls Try.prog 4 #[.agg #[.int .i64 a0_0, .int .i64 a0_1], .agg #[.int .u8 a1_0, .int .u8 a1_1, .int .u8 a1_2], .slice A2 l2.length c2] w fun e w' => e = .returned (.bool r) ∧ Below w.heap.size w w' := by
  have hu22 := Try.underlying22
  have hu32 := Try.underlying32
  have HR2 := Aside0.mk hr2
  have HC2 := Aside0.mk hc2
  clear hr2 hc2
  have HB := Aside0.mk (Below.refl w.heap.size w)
  have H : (if (l2.length : Int) > 300 then ((gantletlaw03_alive.f k).bind fun t206 => (some t206)) else (gantletlaw03_PrefixBack.l0 k l2 (wrap64 ((wrap64 (Int.tmod a1_0 8)) + 1)) 1 0 a0_0 a0_1 a1_0 a1_1 a1_2)) = some r := h
  clear h
  by_cases c4 : (l2.length : Int) > 300
  · rw [if_pos c4] at H
    have c4b0 : decide (300 < (l2.length : Int)) = true := decide_eq_true c4
    have c4b1 : decide (300 < l2.length) = true := decide_eq_true (by omega)
    clear c4
    replace H := Option.bind_eq_some_iff.mp H
    obtain ⟨t206, A50, H⟩ := H
    replace H : (some t206) = some r := H
    have A5 := Aside0.mk A50
    clear A50
    obtain rfl := Option.some.inj H
    go_enter Try.func4, Try.ntmps4
    go_wp2_with (first | ((with_reducible refine gate_dst (N := 3) rfl ?_); (try (refine gate_guard (by rfl) ?_; dsimp only)); refine box_event ?hg (N := 3) ?hd (cs := #[.int .i64 a0_0, .int .i64 a0_1]) (t := 22) ?hr ?_; (case hd => rfl); (case hg => rfl); (case hr => first | (go_simp; done) | (go_simp; rfl)); intro gb204 hg w6 hbox hb; have n0_ := Aside0.mk (below_step (by repeat (first | (with_reducible first | exact HB.out | apply below_alloc | apply pw_below_drewN | apply below_drew1) | exact HB.out)) hb); have n1_ := Aside0.mk (hbox); have n2_ := Aside0.mk ((by rw [hg]; exact (below_size (by repeat (first | (with_reducible first | exact HB.out | apply below_alloc | apply pw_below_drewN | apply below_drew1) | exact HB.out))) : w.heap.size ≤ gb204)); have n3_ := Aside0.mk ((by rw [hg]; exact (below_size (by repeat (first | (with_reducible first | exact HB.out | apply below_alloc | apply pw_below_drewN | apply below_drew1) | exact HB.out))) : w.heap.size ≤ gb204)); clear HB; have HB := n0_; have BK204 := n1_; have GW204 := n2_; have GE204 := n3_; clear n0_ n1_ n2_ n3_; clear hb hbox hg) | ((with_reducible refine gate_dst (N := 4) rfl ?_); (try (refine gate_guard (by rfl) ?_; dsimp only)); refine box_event ?hg (N := 4) ?hd (cs := #[.int .u8 a1_0, .int .u8 a1_1, .int .u8 a1_2]) (t := 32) ?hr ?_; (case hd => rfl); (case hg => rfl); (case hr => first | (go_simp; done) | (go_simp; rfl)); intro gb205 hg w7 hbox hb; have n0_ := Aside0.mk (blk_below (g := gb204) (o := .cells #[.int .i64 a0_0, .int .i64 a0_1] 22 (0, 0)) (by (with_reducible repeat (first | refine blk_drewN ?_ _ | refine blk_drew ?_ | refine blk_alloc ?_ _)); exact BK204.out) hb); have n1_ := Aside0.mk (below_step (by repeat (first | (with_reducible first | exact HB.out | apply below_alloc | apply pw_below_drewN | apply below_drew1 | refine below_set ?_ GE204.out) | exact HB.out)) hb); have n2_ := Aside0.mk (hbox); have n3_ := Aside0.mk ((by rw [hg]; exact (below_size (by repeat (first | (with_reducible first | exact HB.out | apply below_alloc | apply pw_below_drewN | apply below_drew1 | refine below_set ?_ GE204.out) | exact HB.out))) : w.heap.size ≤ gb205)); have n4_ := Aside0.mk ((by rw [hg]; exact (below_size (by repeat (first | (with_reducible first | exact HB.out | apply below_alloc | apply pw_below_drewN | apply below_drew1 | refine below_set ?_ GE204.out) | exact HB.out))) : w.heap.size ≤ gb205)); have n5_ := Aside0.mk ((by rw [hg]; exact Nat.ne_of_lt (blk_lt (g := gb204) (o := .cells #[.int .i64 a0_0, .int .i64 a0_1] 22 (0, 0)) (by (with_reducible repeat (first | refine blk_drewN ?_ _ | refine blk_drew ?_ | refine blk_alloc ?_ _)); exact BK204.out)) : gb204 ≠ gb205)); have n6_ := Aside0.mk ((by rw [hg]; exact Nat.ne_of_gt (blk_lt (g := gb204) (o := .cells #[.int .i64 a0_0, .int .i64 a0_1] 22 (0, 0)) (by (with_reducible repeat (first | refine blk_drewN ?_ _ | refine blk_drew ?_ | refine blk_alloc ?_ _)); exact BK204.out)) : gb205 ≠ gb204)); clear BK204; clear HB; have BK204 := n0_; have HB := n1_; have BK205 := n2_; have GW205 := n3_; have GE205 := n4_; have NB204_205 := n5_; have NB205_204 := n6_; clear n0_ n1_ n2_ n3_ n4_ n5_ n6_; clear hb hbox hg) | ((with_reducible refine gate_callee (f := 5) rfl ?_); refine goesL_ (some 25) rfl rfl Try.func5 (by kernel_rfl) rfl #[] rfl (by (try simp only [List.map_toArray, List.map_cons, List.map_nil]); first | done | rfl | (simp only [List.length_drop, List.length_take]; rfl)) ?_; (with_reducible refine (gantletlaw03_alive.calls k  t206 _ A5.out).mono ?_); rintro e w8 ⟨rfl, hb⟩; refine ⟨_, rfl, ?_⟩; have n0_ := Aside0.mk (blk_below (g := gb204) (o := .cells #[.int .i64 a0_0, .int .i64 a0_1] 22 (0, 0)) (by (with_reducible repeat (first | refine blk_drewN ?_ _ | refine blk_drew ?_ | refine blk_alloc ?_ _)); exact BK204.out) hb); have n1_ := Aside0.mk (blk_below (g := gb205) (o := .cells #[.int .u8 a1_0, .int .u8 a1_1, .int .u8 a1_2] 32 (0, 0)) (by (with_reducible repeat (first | refine blk_drewN ?_ _ | refine blk_drew ?_ | refine blk_alloc ?_ _)); exact BK205.out) hb); have n2_ := Aside0.mk (below_step (by repeat (first | (with_reducible first | exact HB.out | apply below_alloc | apply pw_below_drewN | apply below_drew1 | refine below_set ?_ GE204.out | refine below_set ?_ GE205.out) | exact HB.out)) hb); clear BK204; clear BK205; clear HB; have BK204 := n0_; have BK205 := n1_; have HB := n2_; clear n0_ n1_ n2_; (try clear hb); (try clear hb2); (try clear hk); (try clear hi)))
    go_ret
    exact ⟨by first | rfl | (simp [errW_none, errW_some] <;> rfl) | (simp [*, errW_none, errW_some] <;> rfl), by repeat (first | (with_reducible first | exact HB.out | apply below_alloc | apply pw_below_drewN | apply below_drew1 | refine below_set ?_ GE204.out | refine below_set ?_ GE205.out) | exact HB.out)⟩
  · rw [if_neg c4] at H
    have c4b0 : decide (300 < (l2.length : Int)) = false := decide_eq_false c4
    have c4b1 : decide (300 < l2.length) = false := decide_eq_false (by omega)
    clear c4
    have H' := Aside0.mk H
    clear H
    go_enter Try.func4, Try.ntmps4
    go_wp2_with (first | ((with_reducible refine gate_dst (N := 3) rfl ?_); (try (refine gate_guard (by rfl) ?_; dsimp only)); refine box_event ?hg (N := 3) ?hd (cs := #[.int .i64 a0_0, .int .i64 a0_1]) (t := 22) ?hr ?_; (case hd => rfl); (case hg => rfl); (case hr => first | (go_simp; done) | (go_simp; rfl)); intro gb204 hg w9 hbox hb; have n0_ := Aside0.mk (below_step (by repeat (first | (with_reducible first | exact HB.out | apply below_alloc | apply pw_below_drewN | apply below_drew1) | exact HB.out)) hb); have n1_ := Aside0.mk (hbox); have n2_ := Aside0.mk ((by rw [hg]; exact (below_size (by repeat (first | (with_reducible first | exact HB.out | apply below_alloc | apply pw_below_drewN | apply below_drew1) | exact HB.out))) : w.heap.size ≤ gb204)); have n3_ := Aside0.mk ((by rw [hg]; exact (below_size (by repeat (first | (with_reducible first | exact HB.out | apply below_alloc | apply pw_below_drewN | apply below_drew1) | exact HB.out))) : w.heap.size ≤ gb204)); clear HB; have HB := n0_; have BK204 := n1_; have GW204 := n2_; have GE204 := n3_; clear n0_ n1_ n2_ n3_; clear hb hbox hg) | ((with_reducible refine gate_dst (N := 4) rfl ?_); (try (refine gate_guard (by rfl) ?_; dsimp only)); refine box_event ?hg (N := 4) ?hd (cs := #[.int .u8 a1_0, .int .u8 a1_1, .int .u8 a1_2]) (t := 32) ?hr ?_; (case hd => rfl); (case hg => rfl); (case hr => first | (go_simp; done) | (go_simp; rfl)); intro gb205 hg w10 hbox hb; have n0_ := Aside0.mk (blk_below (g := gb204) (o := .cells #[.int .i64 a0_0, .int .i64 a0_1] 22 (0, 0)) (by (with_reducible repeat (first | refine blk_drewN ?_ _ | refine blk_drew ?_ | refine blk_alloc ?_ _)); exact BK204.out) hb); have n1_ := Aside0.mk (below_step (by repeat (first | (with_reducible first | exact HB.out | apply below_alloc | apply pw_below_drewN | apply below_drew1 | refine below_set ?_ GE204.out) | exact HB.out)) hb); have n2_ := Aside0.mk (hbox); have n3_ := Aside0.mk ((by rw [hg]; exact (below_size (by repeat (first | (with_reducible first | exact HB.out | apply below_alloc | apply pw_below_drewN | apply below_drew1 | refine below_set ?_ GE204.out) | exact HB.out))) : w.heap.size ≤ gb205)); have n4_ := Aside0.mk ((by rw [hg]; exact (below_size (by repeat (first | (with_reducible first | exact HB.out | apply below_alloc | apply pw_below_drewN | apply below_drew1 | refine below_set ?_ GE204.out) | exact HB.out))) : w.heap.size ≤ gb205)); have n5_ := Aside0.mk ((by rw [hg]; exact Nat.ne_of_lt (blk_lt (g := gb204) (o := .cells #[.int .i64 a0_0, .int .i64 a0_1] 22 (0, 0)) (by (with_reducible repeat (first | refine blk_drewN ?_ _ | refine blk_drew ?_ | refine blk_alloc ?_ _)); exact BK204.out)) : gb204 ≠ gb205)); have n6_ := Aside0.mk ((by rw [hg]; exact Nat.ne_of_gt (blk_lt (g := gb204) (o := .cells #[.int .i64 a0_0, .int .i64 a0_1] 22 (0, 0)) (by (with_reducible repeat (first | refine blk_drewN ?_ _ | refine blk_drew ?_ | refine blk_alloc ?_ _)); exact BK204.out)) : gb205 ≠ gb204)); clear BK204; clear HB; have BK204 := n0_; have HB := n1_; have BK205 := n2_; have GW205 := n3_; have GE205 := n4_; have NB204_205 := n5_; have NB205_204 := n6_; clear n0_ n1_ n2_ n3_ n4_ n5_ n6_; clear hb hbox hg; have hnb11 := NB205_204.out; have hnc11 := NB204_205.out; have hcz12_0 : w10.cell? ⟨gb205, 0, none⟩ = some (.int .u8 a1_0) := (blk_cell BK205.out 0).trans rfl; have hcz12_1 : w10.cell? ⟨gb205, 1, none⟩ = some (.int .u8 a1_1) := (blk_cell BK205.out 1).trans rfl; have hcz12_2 : w10.cell? ⟨gb205, 2, none⟩ = some (.int .u8 a1_2) := (blk_cell BK205.out 2).trans rfl; have hfz12_0 := blk_frozen BK205.out 0; have hfz12_1 := blk_frozen BK205.out 1; have hfz12_2 := blk_frozen BK205.out 2))
    go_loopg [8, 9] k (fun kq v8 v9 w' => ∃ (x8_1 : Int) (x9_1 : Int), v8 = .int .i64 x8_1 ∧ v9 = .int .i64 x9_1 ∧ Aside0 (gantletlaw03_PrefixBack.l0 kq l2 (wrap64 ((wrap64 (Int.tmod a1_0 8)) + 1)) x8_1 x9_1 a0_0 a0_1 a1_0 a1_1 a1_2 = some r) ∧ Aside0 (kq ≤ k) ∧ Aside0 (w'.heap[gb204]? = some (.cells #[.int .i64 a0_0, .int .i64 a0_1] 22 (0, 0))) ∧ Aside0 (w'.heap[gb205]? = some (.cells #[.int .u8 a1_0, .int .u8 a1_1, .int .u8 a1_2] 32 (0, 0))) ∧ Aside0 (Below w.heap.size w w'))
    case atStart => exact ⟨(1), (0), (by first | rfl | (simp; done) | (simp [*]; done)), (by first | rfl | (simp; done) | (simp [*]; done)), H', ⟨Nat.le_refl _⟩, ⟨by (with_reducible repeat (first | refine blk_drewN ?_ _ | refine blk_drew ?_ | refine blk_alloc ?_ _)); exact BK204.out⟩, ⟨by (with_reducible repeat (first | refine blk_drewN ?_ _ | refine blk_drew ?_ | refine blk_alloc ?_ _)); exact BK205.out⟩, ⟨by repeat (first | (with_reducible first | exact HB.out | apply below_alloc | apply pw_below_drewN | apply below_drew1 | refine below_set ?_ GE204.out | refine below_set ?_ GE205.out) | exact HB.out)⟩⟩
    case round =>
      clear H'
      try clear c1
      try clear c2
      try clear p2
      try clear c4
      try clear c4b0
      try clear c4b1
      try clear c5
      try clear p6
      try clear c11
      try clear hcz12_0
      try clear hcz12_1
      try clear hcz12_2
      try clear hfz12_0
      try clear hfz12_1
      try clear hfz12_2
      obtain ⟨x8_1, x9_1, rfl, rfl, HA, HK1, BK204, BK205, HB⟩ := hrel
      cases gk with
      | zero => exact absurd HA.out (by simp [gantletlaw03_PrefixBack.l0])
      | succ k1 =>
        have H := HA.out
        clear HA
        simp only [gantletlaw03_PrefixBack.l0] at H
        by_cases c13 : x9_1 < (wrap64 ((wrap64 (Int.tmod a1_0 8)) + 1))
        · rw [if_pos c13] at H
          have c13b0 : decide (x9_1 < (wrap64 ((wrap64 (Int.tmod a1_0 8)) + 1))) = true := decide_eq_true c13
          clear c13
          have H' := Aside0.mk H
          clear H
          go_wp2
          go_roundg k1
          case measure => have := HK1.out; omega
          case rel => exact ⟨(wrap64 (2 * x8_1)), (wrap64 (x9_1 + 1)), (by first | rfl | (simp; done) | (simp [*]; done)), (by first | rfl | (simp; done) | (simp [*]; done)), H', ⟨by have := HK1.out; omega⟩, ⟨by (with_reducible repeat (first | refine blk_drewN ?_ _ | refine blk_drew ?_ | refine blk_alloc ?_ _)); exact BK204.out⟩, ⟨by (with_reducible repeat (first | refine blk_drewN ?_ _ | refine blk_drew ?_ | refine blk_alloc ?_ _)); exact BK205.out⟩, ⟨by repeat (first | (with_reducible first | exact HB.out | apply below_alloc | apply pw_below_drewN | apply below_drew1 | refine below_set ?_ GE204.out | refine below_set ?_ GE205.out) | exact HB.out)⟩⟩
        · rw [if_neg c13] at H
          have c13b0 : decide (x9_1 < (wrap64 ((wrap64 (Int.tmod a1_0 8)) + 1))) = false := decide_eq_false c13
          clear c13
          by_cases c14 : x8_1 = 0
          · rw [if_pos c14] at H
            exact absurd H (by simp)
          · rw [if_neg c14] at H
            have c14b0 : (x8_1 == 0) = false := beq_eq_false_iff_ne.mpr c14
            have c14b1 : (x8_1 != 0) = true := bne_iff_ne.mpr c14
            replace H := Option.bind_eq_some_iff.mp H
            obtain ⟨⟨t207, t208⟩, A150, H⟩ := H
            replace H : ((prefix_Encode.f k1 a0_1 (wrap64 ((wrap64 (Int.tmod a1_0 8)) + 1)) (wrap64 ((wrap64 (Int.tdiv (wrap64 (a1_1)) x8_1)) * x8_1))).bind fun bt211 => (if a0_0 ≥ 0 then (gantletlaw03_PrefixBack.j1 k1 l2 (wrap64 ((wrap64 (Int.tmod a1_0 8)) + 1)) t207 t208 bt211.1 bt211.2 ((t208 == 0) != (decide (a0_0 ≤ 16777215))) a0_0 a0_1 a1_0 a1_1 a1_2) else (gantletlaw03_PrefixBack.j1 k1 l2 (wrap64 ((wrap64 (Int.tmod a1_0 8)) + 1)) t207 t208 bt211.1 bt211.2 ((t208 == 0) != false) a0_0 a0_1 a1_0 a1_1 a1_2))) = some r := H
            have A15 := Aside0.mk A150
            clear A150
            replace H := Option.bind_eq_some_iff.mp H
            obtain ⟨⟨t211, t212⟩, A160, H⟩ := H
            replace H : (if a0_0 ≥ 0 then (gantletlaw03_PrefixBack.j1 k1 l2 (wrap64 ((wrap64 (Int.tmod a1_0 8)) + 1)) t207 t208 t211 t212 ((t208 == 0) != (decide (a0_0 ≤ 16777215))) a0_0 a0_1 a1_0 a1_1 a1_2) else (gantletlaw03_PrefixBack.j1 k1 l2 (wrap64 ((wrap64 (Int.tmod a1_0 8)) + 1)) t207 t208 t211 t212 ((t208 == 0) != false) a0_0 a0_1 a1_0 a1_1 a1_2)) = some r := H
            have A16 := Aside0.mk A160
            clear A160
            have HC17 := Aside0.mk H
            clear H
            have hnb18 := NB205_204.out
            have hnc18 := NB204_205.out
            have hcz19_0 : wr.cell? ⟨gb205, 0, none⟩ = some (.int .u8 a1_0) := (blk_cell BK205.out 0).trans rfl
            have hcz19_1 : wr.cell? ⟨gb205, 1, none⟩ = some (.int .u8 a1_1) := (blk_cell BK205.out 1).trans rfl
            have hcz19_2 : wr.cell? ⟨gb205, 2, none⟩ = some (.int .u8 a1_2) := (blk_cell BK205.out 2).trans rfl
            have hfz19_0 := blk_frozen BK205.out 0
            have hfz19_1 := blk_frozen BK205.out 1
            have hfz19_2 := blk_frozen BK205.out 2
            have hcz20_0 : wr.cell? ⟨gb204, 0, none⟩ = some (.int .i64 a0_0) := (blk_cell BK204.out 0).trans rfl
            have hcz20_1 : wr.cell? ⟨gb204, 1, none⟩ = some (.int .i64 a0_1) := (blk_cell BK204.out 1).trans rfl
            have hfz20_0 := blk_frozen BK204.out 0
            have hfz20_1 := blk_frozen BK204.out 1
            go_upto_region 12 with (first | ((with_reducible refine gate_callee (f := 6) rfl ?_); refine goesL_ (some 50) rfl rfl Try.func6 (by kernel_rfl) rfl #[.int .i64 a0_0, .int .i64 (wrap64 ((wrap64 (Int.tmod a1_0 8)) + 1)), .int .i64 (wrap64 ((wrap64 (Int.tdiv (wrap64 (a1_1)) x8_1)) * x8_1))] rfl (by (try simp only [List.map_toArray, List.map_cons, List.map_nil]); first | done | rfl | (simp only [List.length_drop, List.length_take]; rfl)) ?_; (with_reducible refine (prefix_Encode.calls k1 a0_0 (wrap64 ((wrap64 (Int.tmod a1_0 8)) + 1)) (wrap64 ((wrap64 (Int.tdiv (wrap64 (a1_1)) x8_1)) * x8_1)) t207 t208 _ A15.out).mono ?_); rintro e w21 ⟨v209, rfl, ho0, hb⟩; refine ⟨_, rfl, ?_⟩; have n0_ := Aside0.mk (Kd.R_lower ho0 (below_size (by repeat (first | (with_reducible first | exact HB.out | apply below_alloc | apply pw_below_drewN | apply below_drew1 | refine below_set ?_ GE204.out | refine below_set ?_ GE205.out) | exact HB.out)))); have n1_ := Aside0.mk (blk_below (g := gb204) (o := .cells #[.int .i64 a0_0, .int .i64 a0_1] 22 (0, 0)) (by (with_reducible repeat (first | refine blk_drewN ?_ _ | refine blk_drew ?_ | refine blk_alloc ?_ _)); exact BK204.out) hb); have n2_ := Aside0.mk (blk_below (g := gb205) (o := .cells #[.int .u8 a1_0, .int .u8 a1_1, .int .u8 a1_2] 32 (0, 0)) (by (with_reducible repeat (first | refine blk_drewN ?_ _ | refine blk_drew ?_ | refine blk_alloc ?_ _)); exact BK205.out) hb); have n3_ := Aside0.mk (below_step (by repeat (first | (with_reducible first | exact HB.out | apply below_alloc | apply pw_below_drewN | apply below_drew1 | refine below_set ?_ GE204.out | refine below_set ?_ GE205.out) | exact HB.out)) hb); clear BK204; clear BK205; clear HB; have HO210 := n0_; have BK204 := n1_; have BK205 := n2_; have HB := n3_; clear n0_ n1_ n2_ n3_; (try clear hb); (try clear hb2); (try clear hk); (try clear hi); (try clear ho0); have hcz22_0 : w21.cell? ⟨gb204, 0, none⟩ = some (.int .i64 a0_0) := (blk_cell BK204.out 0).trans rfl; have hcz22_1 : w21.cell? ⟨gb204, 1, none⟩ = some (.int .i64 a0_1) := (blk_cell BK204.out 1).trans rfl; have hfz22_0 := blk_frozen BK204.out 0; have hfz22_1 := blk_frozen BK204.out 1) | ((with_reducible refine gate_callee (f := 6) rfl ?_); refine goesL_ (some 58) rfl rfl Try.func6 (by kernel_rfl) rfl #[.int .i64 a0_1, .int .i64 (wrap64 ((wrap64 (Int.tmod a1_0 8)) + 1)), .int .i64 (wrap64 ((wrap64 (Int.tdiv (wrap64 (a1_1)) x8_1)) * x8_1))] rfl (by (try simp only [List.map_toArray, List.map_cons, List.map_nil]); first | done | rfl | (simp only [List.length_drop, List.length_take]; rfl)) ?_; (with_reducible refine (prefix_Encode.calls k1 a0_1 (wrap64 ((wrap64 (Int.tmod a1_0 8)) + 1)) (wrap64 ((wrap64 (Int.tdiv (wrap64 (a1_1)) x8_1)) * x8_1)) t211 t212 _ A16.out).mono ?_); rintro e w23 ⟨v213, rfl, ho0, hb⟩; refine ⟨_, rfl, ?_⟩; have n0_ := Aside0.mk (Kd.R_elder' (by (with_reducible repeat (first | apply Kd.R_alloc | apply Kd.R_drewN | apply Kd.R_drew)); exact HO210.out) (Kd.R_base ho0) hb); have n1_ := Aside0.mk (Kd.R_lower (Kd.R_new' ho0 (Kd.R_lt (by (with_reducible repeat (first | apply Kd.R_alloc | apply Kd.R_drewN | apply Kd.R_drew)); exact HO210.out))) (below_size (by repeat (first | (with_reducible first | exact HB.out | apply below_alloc | apply pw_below_drewN | apply below_drew1 | refine below_set ?_ GE204.out | refine below_set ?_ GE205.out) | exact HB.out)))); have n2_ := Aside0.mk (blk_below (g := gb204) (o := .cells #[.int .i64 a0_0, .int .i64 a0_1] 22 (0, 0)) (by (with_reducible repeat (first | refine blk_drewN ?_ _ | refine blk_drew ?_ | refine blk_alloc ?_ _)); exact BK204.out) hb); have n3_ := Aside0.mk (blk_below (g := gb205) (o := .cells #[.int .u8 a1_0, .int .u8 a1_1, .int .u8 a1_2] 32 (0, 0)) (by (with_reducible repeat (first | refine blk_drewN ?_ _ | refine blk_drew ?_ | refine blk_alloc ?_ _)); exact BK205.out) hb); have n4_ := Aside0.mk (below_step (by repeat (first | (with_reducible first | exact HB.out | apply below_alloc | apply pw_below_drewN | apply below_drew1 | refine below_set ?_ GE204.out | refine below_set ?_ GE205.out) | exact HB.out)) hb); clear HO210; clear BK204; clear BK205; clear HB; have HO210 := n0_; have HO214 := n1_; have BK204 := n2_; have BK205 := n3_; have HB := n4_; clear n0_ n1_ n2_ n3_ n4_; (try clear hb); (try clear hb2); (try clear hk); (try clear hi); (try clear ho0)))
            (try simp only [Act.put, List.setIfInBounds_toArray, List.set_cons_zero, List.set_cons_succ])
            go_cut [71] (fun v71 wc => ∃ (kq : Nat) (x71_16 : Bool), v71 = .bool x71_16 ∧ Aside0 (gantletlaw03_PrefixBack.j1 kq l2 (wrap64 ((wrap64 (Int.tmod a1_0 8)) + 1)) t207 t208 t211 t212 x71_16 a0_0 a0_1 a1_0 a1_1 a1_2 = some r) ∧ Aside0 (kq ≤ k1) ∧ Aside0 (Kd.R (Kd.int .u8) 5 wc w.heap.size (fun k_ => some k_ ≠ (v213 : Value).ownBlock) v209 t207) ∧ Aside0 (Kd.R (Kd.int .u8) 5 wc w.heap.size (fun k_ => some k_ ≠ (v209 : Value).ownBlock) v213 t211) ∧ Aside0 (wc.heap[gb204]? = some (.cells #[.int .i64 a0_0, .int .i64 a0_1] 22 (0, 0))) ∧ Aside0 (wc.heap[gb205]? = some (.cells #[.int .u8 a1_0, .int .u8 a1_1, .int .u8 a1_2] 32 (0, 0))) ∧ Aside0 (Below w.heap.size w wc))
            case first =>
              have H := HC17.out
              clear HC17
              by_cases c24 : a0_0 ≥ 0
              · rw [if_pos c24] at H
                have c24b0 : decide (0 ≤ a0_0) = true := decide_eq_true c24
                clear c24
                (first | rw [c24b0] | (simp only [i64_w, i32_w]; rw [c24b0]) | skip)
                have H' := Aside0.mk H
                clear H
                have hnb25 := NB204_205.out
                have hnc25 := NB205_204.out
                have hcz26_0 : w23.cell? ⟨gb204, 0, none⟩ = some (.int .i64 a0_0) := (blk_cell BK204.out 0).trans rfl
                have hcz26_1 : w23.cell? ⟨gb204, 1, none⟩ = some (.int .i64 a0_1) := (blk_cell BK204.out 1).trans rfl
                have hfz26_0 := blk_frozen BK204.out 0
                have hfz26_1 := blk_frozen BK204.out 1
                go_wp2
                go_meet
                case rel => exact ⟨_, (((t208 == 0) != (decide (a0_0 ≤ 16777215)))), (by first | rfl | (simp; done) | (simp [*]; done)), H', ⟨by have := HK1.out; first | omega | exact Nat.le_refl _⟩, ⟨by (with_reducible repeat (first | apply Kd.R_alloc | apply Kd.R_drewN | apply Kd.R_drew)); exact Kd.R_mono HO210.out (fun _ hk => hk.2)⟩, ⟨by (with_reducible repeat (first | apply Kd.R_alloc | apply Kd.R_drewN | apply Kd.R_drew)); exact Kd.R_mono HO214.out (fun _ hk => hk.2)⟩, ⟨by (with_reducible repeat (first | refine blk_drewN ?_ _ | refine blk_drew ?_ | refine blk_alloc ?_ _)); exact BK204.out⟩, ⟨by (with_reducible repeat (first | refine blk_drewN ?_ _ | refine blk_drew ?_ | refine blk_alloc ?_ _)); exact BK205.out⟩, ⟨by repeat (first | (with_reducible first | exact HB.out | apply below_alloc | apply pw_below_drewN | apply below_drew1 | refine below_set ?_ GE204.out | refine below_set ?_ GE205.out) | exact HB.out)⟩⟩
              · rw [if_neg c24] at H
                have c24b0 : decide (0 ≤ a0_0) = false := decide_eq_false c24
                clear c24
                (first | rw [c24b0] | (simp only [i64_w, i32_w]; rw [c24b0]) | skip)
                have H' := Aside0.mk H
                clear H
                have hnb27 := NB204_205.out
                have hnc27 := NB205_204.out
                have hcz28_0 : w23.cell? ⟨gb204, 0, none⟩ = some (.int .i64 a0_0) := (blk_cell BK204.out 0).trans rfl
                have hcz28_1 : w23.cell? ⟨gb204, 1, none⟩ = some (.int .i64 a0_1) := (blk_cell BK204.out 1).trans rfl
                have hfz28_0 := blk_frozen BK204.out 0
                have hfz28_1 := blk_frozen BK204.out 1
                go_wp2
                go_meet
                case rel => exact ⟨_, (((t208 == 0) != false)), (by first | rfl | (simp; done) | (simp [*]; done)), H', ⟨by have := HK1.out; first | omega | exact Nat.le_refl _⟩, ⟨by (with_reducible repeat (first | apply Kd.R_alloc | apply Kd.R_drewN | apply Kd.R_drew)); exact Kd.R_mono HO210.out (fun _ hk => hk.2)⟩, ⟨by (with_reducible repeat (first | apply Kd.R_alloc | apply Kd.R_drewN | apply Kd.R_drew)); exact Kd.R_mono HO214.out (fun _ hk => hk.2)⟩, ⟨by (with_reducible repeat (first | refine blk_drewN ?_ _ | refine blk_drew ?_ | refine blk_alloc ?_ _)); exact BK204.out⟩, ⟨by (with_reducible repeat (first | refine blk_drewN ?_ _ | refine blk_drew ?_ | refine blk_alloc ?_ _)); exact BK205.out⟩, ⟨by repeat (first | (with_reducible first | exact HB.out | apply below_alloc | apply pw_below_drewN | apply below_drew1 | refine below_set ?_ GE204.out | refine below_set ?_ GE205.out) | exact HB.out)⟩⟩
            case rest =>
              clear HC17
              try clear c1
              try clear c2
              try clear p2
              try clear c4
              try clear c4b0
              try clear c4b1
              try clear c5
              try clear c6
              try clear p6
              try clear c11
              try clear c13
              try clear c13b0
              try clear c14
              try clear c14b0
              try clear c14b1
              try clear c18
              try clear c24
              try clear c24b0
              try clear c25
              try clear c27
              try clear hcz12_0
              try clear hcz12_1
              try clear hcz12_2
              try clear hcz19_0
              try clear hcz19_1
              try clear hcz19_2
              try clear hcz20_0
              try clear hcz20_1
              try clear hcz22_0
              try clear hcz22_1
              try clear hcz26_0
              try clear hcz26_1
              try clear hcz28_0
              try clear hcz28_1
              try clear hfz12_0
              try clear hfz12_1
              try clear hfz12_2
              try clear hfz19_0
              try clear hfz19_1
              try clear hfz19_2
              try clear hfz20_0
              try clear hfz20_1
              try clear hfz22_0
              try clear hfz22_1
              try clear hfz26_0
              try clear hfz26_1
              try clear hfz28_0
              try clear hfz28_1
              try clear p2
              try clear p6
              obtain ⟨kq, x71_16, rfl, HA, HJ16, HO_11, HO_13, BK204, BK205, HB⟩ := hcut
              cases kq with
              | zero => exact absurd HA.out (by simp [gantletlaw03_PrefixBack.j1])
              | succ kj16 =>
                have H := HA.out
                clear HA
                simp only [gantletlaw03_PrefixBack.j1] at H
                by_cases c29 : x71_16 = true
                · subst c29
                  have H1 : (none) = some r := by rw [if_pos rfl] at H; exact H
                  clear H
                  have H := H1
                  clear H1
                  exact absurd H (by simp)
                · replace c29 := Bool.eq_false_iff.mpr c29
                  subst c29
                  have H1 : (if t208 = 0 then (gantletlaw03_PrefixBack.j2 kj16 l2 (wrap64 ((wrap64 (Int.tmod a1_0 8)) + 1)) t207 t208 t211 t212 ((t207.length : Int) == 0) a0_0 a0_1 a1_0 a1_1 a1_2) else (gantletlaw03_PrefixBack.j2 kj16 l2 (wrap64 ((wrap64 (Int.tmod a1_0 8)) + 1)) t207 t208 t211 t212 true a0_0 a0_1 a1_0 a1_1 a1_2)) = some r := by rw [if_neg (show ¬ (false = true) by decide)] at H; exact H
                  clear H
                  have H := H1
                  clear H1
                  have HC30 := Aside0.mk H
                  clear H
                  go_upto_region 14 with (fail)
                  go_cut [78] (fun v78 wc => ∃ (kq : Nat) (x78_29 : Bool), v78 = .bool x78_29 ∧ Aside0 (gantletlaw03_PrefixBack.j2 kq l2 (wrap64 ((wrap64 (Int.tmod a1_0 8)) + 1)) t207 t208 t211 t212 x78_29 a0_0 a0_1 a1_0 a1_1 a1_2 = some r) ∧ Aside0 (kq ≤ kj16) ∧ Aside0 (Kd.R (Kd.int .u8) 5 wc w.heap.size (fun k_ => some k_ ≠ (v213 : Value).ownBlock) v209 t207) ∧ Aside0 (Kd.R (Kd.int .u8) 5 wc w.heap.size (fun k_ => some k_ ≠ (v209 : Value).ownBlock) v213 t211) ∧ Aside0 (wc.heap[gb204]? = some (.cells #[.int .i64 a0_0, .int .i64 a0_1] 22 (0, 0))) ∧ Aside0 (wc.heap[gb205]? = some (.cells #[.int .u8 a1_0, .int .u8 a1_1, .int .u8 a1_2] 32 (0, 0))) ∧ Aside0 (Below w.heap.size w wc))
                  case first =>
                    have H := HC30.out
                    clear HC30
                    by_cases c31 : t208 = 0
                    · rw [if_pos c31] at H
                      have c31b0 : (t208 == 0) = true := beq_iff_eq.mpr c31
                      have c31b1 : (t208 != 0) = false := bne_eq_false_iff_eq.mpr c31
                      clear c31
                      (first | rw [c31b0] | (simp only [i64_w, i32_w]; rw [c31b0]) | skip)
                      have H' := Aside0.mk H
                      clear H
                      obtain ⟨Ao32, co32, eo32⟩ := Kd.R_slice HO_11.out
                      subst eo32
                      go_wp2
                      go_meet
                      case rel => exact ⟨_, (((t207.length : Int) == 0)), (by first | rfl | (simp; done) | (simp [*]; done)), H', ⟨by have := HK1.out; have := HJ16.out; first | omega | exact Nat.le_refl _⟩, ⟨by (with_reducible repeat (first | apply Kd.R_alloc | apply Kd.R_drewN | apply Kd.R_drew)); exact HO_11.out⟩, ⟨by (with_reducible repeat (first | apply Kd.R_alloc | apply Kd.R_drewN | apply Kd.R_drew)); exact HO_13.out⟩, ⟨by (with_reducible repeat (first | refine blk_drewN ?_ _ | refine blk_drew ?_ | refine blk_alloc ?_ _)); exact BK204.out⟩, ⟨by (with_reducible repeat (first | refine blk_drewN ?_ _ | refine blk_drew ?_ | refine blk_alloc ?_ _)); exact BK205.out⟩, ⟨by repeat (first | (with_reducible first | exact HB.out | apply below_alloc | apply pw_below_drewN | apply below_drew1 | refine below_set ?_ GE204.out | refine below_set ?_ GE205.out) | exact HB.out)⟩⟩
                    · rw [if_neg c31] at H
                      have c31b0 : (t208 == 0) = false := beq_eq_false_iff_ne.mpr c31
                      have c31b1 : (t208 != 0) = true := bne_iff_ne.mpr c31
                      (first | rw [c31b0] | (simp only [i64_w, i32_w]; rw [c31b0]) | skip)
                      have H' := Aside0.mk H
                      clear H
                      go_wp2
                      go_meet
                      case rel => exact ⟨_, (true), (by first | rfl | (simp; done) | (simp [*]; done)), H', ⟨by have := HK1.out; have := HJ16.out; first | omega | exact Nat.le_refl _⟩, ⟨by (with_reducible repeat (first | apply Kd.R_alloc | apply Kd.R_drewN | apply Kd.R_drew)); exact HO_11.out⟩, ⟨by (with_reducible repeat (first | apply Kd.R_alloc | apply Kd.R_drewN | apply Kd.R_drew)); exact HO_13.out⟩, ⟨by (with_reducible repeat (first | refine blk_drewN ?_ _ | refine blk_drew ?_ | refine blk_alloc ?_ _)); exact BK204.out⟩, ⟨by (with_reducible repeat (first | refine blk_drewN ?_ _ | refine blk_drew ?_ | refine blk_alloc ?_ _)); exact BK205.out⟩, ⟨by repeat (first | (with_reducible first | exact HB.out | apply below_alloc | apply pw_below_drewN | apply below_drew1 | refine below_set ?_ GE204.out | refine below_set ?_ GE205.out) | exact HB.out)⟩⟩
                  case rest =>
                    clear HC30
                    try clear c1
                    try clear c2
                    try clear p2
                    try clear c3
                    try clear c4
                    try clear c4b0
                    try clear c4b1
                    try clear c5
                    try clear c6
                    try clear p6
                    try clear c11
                    try clear c13
                    try clear c13b0
                    try clear c14
                    try clear c14b0
                    try clear c14b1
                    try clear c18
                    try clear c24
                    try clear c24b0
                    try clear c25
                    try clear c27
                    try clear c29
                    try clear c31
                    try clear c31b0
                    try clear c31b1
                    try clear hcz12_0
                    try clear hcz12_1
                    try clear hcz12_2
                    try clear hcz19_0
                    try clear hcz19_1
                    try clear hcz19_2
                    try clear hcz20_0
                    try clear hcz20_1
                    try clear hcz22_0
                    try clear hcz22_1
                    try clear hcz26_0
                    try clear hcz26_1
                    try clear hcz28_0
                    try clear hcz28_1
                    try clear hfz12_0
                    try clear hfz12_1
                    try clear hfz12_2
                    try clear hfz19_0
                    try clear hfz19_1
                    try clear hfz19_2
                    try clear hfz20_0
                    try clear hfz20_1
                    try clear hfz22_0
                    try clear hfz22_1
                    try clear hfz26_0
                    try clear hfz26_1
                    try clear hfz28_0
                    try clear hfz28_1
                    try clear p2
                    try clear p6
                    obtain ⟨kq, x78_29, rfl, HA, HJ29, HO_11, HO_13, BK204, BK205, HB⟩ := hcut
                    cases kq with
                    | zero => exact absurd HA.out (by simp [gantletlaw03_PrefixBack.j2])
                    | succ kj29 =>
                      have H := HA.out
                      clear HA
                      simp only [gantletlaw03_PrefixBack.j2] at H
                      by_cases c33 : x78_29 = true
                      · subst c33
                        have H1 : ((gantletlaw03_alive.f kj29).bind fun t215 => (if t215 = true then (some (t208 != 0)) else (none))) = some r := by rw [if_pos rfl] at H; exact H
                        clear H
                        have H := H1
                        clear H1
                        replace H := Option.bind_eq_some_iff.mp H
                        obtain ⟨t215, A340, H⟩ := H
                        replace H : (if t215 = true then (some (t208 != 0)) else (none)) = some r := H
                        have A34 := Aside0.mk A340
                        clear A340
                        by_cases c35 : t215 = true
                        · subst c35
                          have H1 : (some (t208 != 0)) = some r := by rw [if_pos rfl] at H; exact H
                          clear H
                          have H := H1
                          clear H1
                          obtain rfl := Option.some.inj H
                          go_wp2_with (first | ((with_reducible refine gate_callee (f := 5) rfl ?_); refine goesL_ (some 79) rfl rfl Try.func5 (by kernel_rfl) rfl #[] rfl (by (try simp only [List.map_toArray, List.map_cons, List.map_nil]); first | done | rfl | (simp only [List.length_drop, List.length_take]; rfl)) ?_; (with_reducible refine (gantletlaw03_alive.calls kj29  true _ A34.out).mono ?_); rintro e w36 ⟨rfl, hb⟩; refine ⟨_, rfl, ?_⟩; have n0_ := Aside0.mk (Kd.R_below (by (with_reducible repeat (first | apply Kd.R_alloc | apply Kd.R_drewN | apply Kd.R_drew)); exact HO_11.out) hb); have n1_ := Aside0.mk (Kd.R_below (by (with_reducible repeat (first | apply Kd.R_alloc | apply Kd.R_drewN | apply Kd.R_drew)); exact HO_13.out) hb); have n2_ := Aside0.mk (blk_below (g := gb204) (o := .cells #[.int .i64 a0_0, .int .i64 a0_1] 22 (0, 0)) (by (with_reducible repeat (first | refine blk_drewN ?_ _ | refine blk_drew ?_ | refine blk_alloc ?_ _)); exact BK204.out) hb); have n3_ := Aside0.mk (blk_below (g := gb205) (o := .cells #[.int .u8 a1_0, .int .u8 a1_1, .int .u8 a1_2] 32 (0, 0)) (by (with_reducible repeat (first | refine blk_drewN ?_ _ | refine blk_drew ?_ | refine blk_alloc ?_ _)); exact BK205.out) hb); have n4_ := Aside0.mk (below_step (by repeat (first | (with_reducible first | exact HB.out | apply below_alloc | apply pw_below_drewN | apply below_drew1 | refine below_set ?_ GE204.out | refine below_set ?_ GE205.out) | exact HB.out)) hb); clear HO_11; clear HO_13; clear BK204; clear BK205; clear HB; have HO_11 := n0_; have HO_13 := n1_; have BK204 := n2_; have BK205 := n3_; have HB := n4_; clear n0_ n1_ n2_ n3_ n4_; (try clear hb); (try clear hb2); (try clear hk); (try clear hi)))
                          go_ret
                          exact ⟨by first | rfl | (simp [errW_none, errW_some] <;> rfl) | (simp [*, errW_none, errW_some] <;> rfl), by repeat (first | (with_reducible first | exact HB.out | apply below_alloc | apply pw_below_drewN | apply below_drew1 | refine below_set ?_ GE204.out | refine below_set ?_ GE205.out) | exact HB.out)⟩
                        · replace c35 := Bool.eq_false_iff.mpr c35
                          subst c35
                          have H1 : (none) = some r := by rw [if_neg (show ¬ (false = true) by decide)] at H; exact H
                          clear H
                          have H := H1
                          clear H1
                          exact absurd H (by simp)
                      · replace c33 := Bool.eq_false_iff.mpr c33
                        subst c33
                        have H1 : ((some (([] : List Int) : List Int)).bind fun y216 => (if y216.length + t207.length < 140737488355328 then ((some (y216 ++ t207 : List Int)).bind fun y219 => (if y219.length + l2.length < 140737488355328 then ((prefix_Decode.f kj29 (y219 ++ l2) (wrap64 ((wrap64 (Int.tmod a1_0 8)) + 1))).bind fun bt225 => (if (t207.length : Int) = 0 then (none) else (if 0 ≤ (Int.tmod (wrap64 (a1_2)) (t207.length : Int)) then (if (Int.tmod (wrap64 (a1_2)) (t207.length : Int)) ≤ (t207.length : Int) then ((prefix_Decode.f kj29 (t207.take ((Int.tmod (wrap64 (a1_2)) (t207.length : Int)) : Int).toNat) (wrap64 ((wrap64 (Int.tmod a1_0 8)) + 1))).bind fun bt232 => (if bt225.1 = a0_0 then (if bt225.2.1 = (t207.length : Int) then (if bt225.2.2 = 0 then (gantletlaw03_PrefixBack.j3 kj29 t207 t211 t212 (bt232.2.2 != 2) a0_0 a0_1) else (gantletlaw03_PrefixBack.j3 kj29 t207 t211 t212 true a0_0 a0_1)) else (gantletlaw03_PrefixBack.j3 kj29 t207 t211 t212 true a0_0 a0_1)) else (gantletlaw03_PrefixBack.j3 kj29 t207 t211 t212 true a0_0 a0_1))) else (none)) else (none)))) else (none))) else (none))) = some r := by rw [if_neg (show ¬ (false = true) by decide)] at H; exact H
                        clear H
                        have H := H1
                        clear H1
                        obtain ⟨y216, hy216⟩ : ∃ y_ : List Int, y_ = (([] : List Int)) := ⟨_, rfl⟩
                        replace H : (if y216.length + t207.length < 140737488355328 then ((some (y216 ++ t207 : List Int)).bind fun y219 => (if y219.length + l2.length < 140737488355328 then ((prefix_Decode.f kj29 (y219 ++ l2) (wrap64 ((wrap64 (Int.tmod a1_0 8)) + 1))).bind fun bt225 => (if (t207.length : Int) = 0 then (none) else (if 0 ≤ (Int.tmod (wrap64 (a1_2)) (t207.length : Int)) then (if (Int.tmod (wrap64 (a1_2)) (t207.length : Int)) ≤ (t207.length : Int) then ((prefix_Decode.f kj29 (t207.take ((Int.tmod (wrap64 (a1_2)) (t207.length : Int)) : Int).toNat) (wrap64 ((wrap64 (Int.tmod a1_0 8)) + 1))).bind fun bt232 => (if bt225.1 = a0_0 then (if bt225.2.1 = (t207.length : Int) then (if bt225.2.2 = 0 then (gantletlaw03_PrefixBack.j3 kj29 t207 t211 t212 (bt232.2.2 != 2) a0_0 a0_1) else (gantletlaw03_PrefixBack.j3 kj29 t207 t211 t212 true a0_0 a0_1)) else (gantletlaw03_PrefixBack.j3 kj29 t207 t211 t212 true a0_0 a0_1)) else (gantletlaw03_PrefixBack.j3 kj29 t207 t211 t212 true a0_0 a0_1))) else (none)) else (none)))) else (none))) else (none)) = some r := by first | (rw [hy216]; with_reducible exact H) | (have H2_ := (Option.bind_some _ _).symm.trans H; rw [hy216]; with_reducible exact H2_) | (have H2_ := (Option.bind_some _ _).symm.trans H; with_reducible exact H2_) | with_reducible exact H | (rw [hy216]; exact H) | exact H
                        have Ny216 := Aside0.mk hy216
                        clear hy216
                        by_cases c37 : y216.length + t207.length < 140737488355328
                        · rw [if_pos c37] at H
                          have LMc37 := Aside0.mk c37
                          clear c37
                          obtain ⟨y219, hy219⟩ : ∃ y_ : List Int, y_ = (y216 ++ t207) := ⟨_, rfl⟩
                          replace H : (if y219.length + l2.length < 140737488355328 then ((prefix_Decode.f kj29 (y219 ++ l2) (wrap64 ((wrap64 (Int.tmod a1_0 8)) + 1))).bind fun bt225 => (if (t207.length : Int) = 0 then (none) else (if 0 ≤ (Int.tmod (wrap64 (a1_2)) (t207.length : Int)) then (if (Int.tmod (wrap64 (a1_2)) (t207.length : Int)) ≤ (t207.length : Int) then ((prefix_Decode.f kj29 (t207.take ((Int.tmod (wrap64 (a1_2)) (t207.length : Int)) : Int).toNat) (wrap64 ((wrap64 (Int.tmod a1_0 8)) + 1))).bind fun bt232 => (if bt225.1 = a0_0 then (if bt225.2.1 = (t207.length : Int) then (if bt225.2.2 = 0 then (gantletlaw03_PrefixBack.j3 kj29 t207 t211 t212 (bt232.2.2 != 2) a0_0 a0_1) else (gantletlaw03_PrefixBack.j3 kj29 t207 t211 t212 true a0_0 a0_1)) else (gantletlaw03_PrefixBack.j3 kj29 t207 t211 t212 true a0_0 a0_1)) else (gantletlaw03_PrefixBack.j3 kj29 t207 t211 t212 true a0_0 a0_1))) else (none)) else (none)))) else (none)) = some r := by first | (rw [hy219]; with_reducible exact H) | (have H2_ := (Option.bind_some _ _).symm.trans H; rw [hy219]; with_reducible exact H2_) | (have H2_ := (Option.bind_some _ _).symm.trans H; with_reducible exact H2_) | with_reducible exact H | (rw [hy219]; exact H) | exact H
                          have Ny219 := Aside0.mk hy219
                          clear hy219
                          by_cases c38 : y219.length + l2.length < 140737488355328
                          · rw [if_pos c38] at H
                            have LMc38 := Aside0.mk c38
                            clear c38
                            obtain ⟨y222, hy222⟩ : ∃ y_ : List Int, y_ = (y219 ++ l2) := ⟨_, rfl⟩
                            replace H : ((prefix_Decode.f kj29 y222 (wrap64 ((wrap64 (Int.tmod a1_0 8)) + 1))).bind fun bt225 => (if (t207.length : Int) = 0 then (none) else (if 0 ≤ (Int.tmod (wrap64 (a1_2)) (t207.length : Int)) then (if (Int.tmod (wrap64 (a1_2)) (t207.length : Int)) ≤ (t207.length : Int) then ((prefix_Decode.f kj29 (t207.take ((Int.tmod (wrap64 (a1_2)) (t207.length : Int)) : Int).toNat) (wrap64 ((wrap64 (Int.tmod a1_0 8)) + 1))).bind fun bt232 => (if bt225.1 = a0_0 then (if bt225.2.1 = (t207.length : Int) then (if bt225.2.2 = 0 then (gantletlaw03_PrefixBack.j3 kj29 t207 t211 t212 (bt232.2.2 != 2) a0_0 a0_1) else (gantletlaw03_PrefixBack.j3 kj29 t207 t211 t212 true a0_0 a0_1)) else (gantletlaw03_PrefixBack.j3 kj29 t207 t211 t212 true a0_0 a0_1)) else (gantletlaw03_PrefixBack.j3 kj29 t207 t211 t212 true a0_0 a0_1))) else (none)) else (none)))) = some r := by first | (rw [hy222]; with_reducible exact H) | (have H2_ := (Option.bind_some _ _).symm.trans H; rw [hy222]; with_reducible exact H2_) | (have H2_ := (Option.bind_some _ _).symm.trans H; with_reducible exact H2_) | with_reducible exact H | (rw [hy222]; exact H) | exact H
                            have Ny222 := Aside0.mk hy222
                            clear hy222
                            replace H := Option.bind_eq_some_iff.mp H
                            obtain ⟨⟨t225, t226, t227⟩, A390, H⟩ := H
                            replace H : (if (t207.length : Int) = 0 then (none) else (if 0 ≤ (Int.tmod (wrap64 (a1_2)) (t207.length : Int)) then (if (Int.tmod (wrap64 (a1_2)) (t207.length : Int)) ≤ (t207.length : Int) then ((prefix_Decode.f kj29 (t207.take ((Int.tmod (wrap64 (a1_2)) (t207.length : Int)) : Int).toNat) (wrap64 ((wrap64 (Int.tmod a1_0 8)) + 1))).bind fun bt232 => (if t225 = a0_0 then (if t226 = (t207.length : Int) then (if t227 = 0 then (gantletlaw03_PrefixBack.j3 kj29 t207 t211 t212 (bt232.2.2 != 2) a0_0 a0_1) else (gantletlaw03_PrefixBack.j3 kj29 t207 t211 t212 true a0_0 a0_1)) else (gantletlaw03_PrefixBack.j3 kj29 t207 t211 t212 true a0_0 a0_1)) else (gantletlaw03_PrefixBack.j3 kj29 t207 t211 t212 true a0_0 a0_1))) else (none)) else (none))) = some r := H
                            have A39 := Aside0.mk A390
                            clear A390
                            by_cases c40 : (t207.length : Int) = 0
                            · rw [if_pos c40] at H
                              exact absurd H (by simp)
                            · rw [if_neg c40] at H
                              have c40b0 : ((t207.length : Int) == 0) = false := beq_eq_false_iff_ne.mpr c40
                              have c40b1 : ((t207.length : Int) != 0) = true := bne_iff_ne.mpr c40
                              have c40b2 : ¬ (t207 = []) := fun h_ => c40 (by rw [h_]; rfl)
                              obtain ⟨ji41, hji41⟩ : ∃ j_ : Int, (Int.tmod (wrap64 (a1_2)) (t207.length : Int)) = j_ := ⟨_, rfl⟩
                              replace H : (if 0 ≤ (ji41) then (if (ji41) ≤ (t207.length : Int) then ((prefix_Decode.f kj29 (t207.take ((ji41) : Int).toNat) (wrap64 ((wrap64 (Int.tmod a1_0 8)) + 1))).bind fun bt232 => (if t225 = a0_0 then (if t226 = (t207.length : Int) then (if t227 = 0 then (gantletlaw03_PrefixBack.j3 kj29 t207 t211 t212 (bt232.2.2 != 2) a0_0 a0_1) else (gantletlaw03_PrefixBack.j3 kj29 t207 t211 t212 true a0_0 a0_1)) else (gantletlaw03_PrefixBack.j3 kj29 t207 t211 t212 true a0_0 a0_1)) else (gantletlaw03_PrefixBack.j3 kj29 t207 t211 t212 true a0_0 a0_1))) else (none)) else (none)) = some r := by first | (rw [hji41] at H; exact H) | (simp only [hji41] at H ⊢; exact H)
                              (try rw [hji41] at A39)
                              by_cases c42 : 0 ≤ (ji41)
                              · rw [if_pos c42] at H
                                have c42b0 := eq_true c42
                                have c42b1 : decide (0 ≤ (ji41)) = true := decide_eq_true c42
                                clear c42
                                by_cases c43 : (ji41) ≤ (t207.length : Int)
                                · rw [if_pos c43] at H
                                  have c43b0 := eq_true c43
                                  have c43b1 : decide ((ji41) ≤ (t207.length : Int)) = true := decide_eq_true c43
                                  clear c43
                                  obtain ⟨y228, hy228⟩ : ∃ y_ : List Int, y_ = (t207.take ((ji41) : Int).toNat) := ⟨_, rfl⟩
                                  replace H : ((prefix_Decode.f kj29 y228 (wrap64 ((wrap64 (Int.tmod a1_0 8)) + 1))).bind fun bt232 => (if t225 = a0_0 then (if t226 = (t207.length : Int) then (if t227 = 0 then (gantletlaw03_PrefixBack.j3 kj29 t207 t211 t212 (bt232.2.2 != 2) a0_0 a0_1) else (gantletlaw03_PrefixBack.j3 kj29 t207 t211 t212 true a0_0 a0_1)) else (gantletlaw03_PrefixBack.j3 kj29 t207 t211 t212 true a0_0 a0_1)) else (gantletlaw03_PrefixBack.j3 kj29 t207 t211 t212 true a0_0 a0_1))) = some r := by first | (rw [hy228]; with_reducible exact H) | (have H2_ := (Option.bind_some _ _).symm.trans H; rw [hy228]; with_reducible exact H2_) | (have H2_ := (Option.bind_some _ _).symm.trans H; with_reducible exact H2_) | with_reducible exact H | (rw [hy228]; exact H) | exact H
                                  have Ny228 := Aside0.mk hy228
                                  clear hy228
                                  replace H := Option.bind_eq_some_iff.mp H
                                  obtain ⟨⟨t232, t233, t234⟩, A440, H⟩ := H
                                  replace H : (if t225 = a0_0 then (if t226 = (t207.length : Int) then (if t227 = 0 then (gantletlaw03_PrefixBack.j3 kj29 t207 t211 t212 (t234 != 2) a0_0 a0_1) else (gantletlaw03_PrefixBack.j3 kj29 t207 t211 t212 true a0_0 a0_1)) else (gantletlaw03_PrefixBack.j3 kj29 t207 t211 t212 true a0_0 a0_1)) else (gantletlaw03_PrefixBack.j3 kj29 t207 t211 t212 true a0_0 a0_1)) = some r := H
                                  have A44 := Aside0.mk A440
                                  clear A440
                                  have HC45 := Aside0.mk H
                                  clear H
                                  go_upto_region 18 with (first | ((with_reducible refine gate_dst (N := 85) rfl ?_); (try (refine gate_guard (by rfl) ?_; dsimp only)); refine Kd.R_lit (Kd.int .u8) _ 5 ?hg (N := 85) ?hd (xs := ([] : List Int)) (inner := []) (ok := fun _ => True) (okp := fun _ => True) ?hr ?hp (fun _ hk => hk) trivial (Below.refl _ _) (Nat.le_refl _) (by simp) ?_; (case hd => rfl); (case hg => rfl); (case hr => first | (go_simp; done) | (go_simp; rfl)); (case hp => exact (Reps.none _ _)); intro v217 w46 ho47 hb hg_ hnew_; clear hg_ hnew_; (first | rw [← Ny216.out] at ho47 | (simp only [Int.reduceToNat] at ho47; rw [← Ny216.out] at ho47)); have n0_ := Aside0.mk (Kd.R_elder' (by (with_reducible repeat (first | apply Kd.R_alloc | apply Kd.R_drewN | apply Kd.R_drew)); exact HO_11.out) (Kd.R_base ho47) hb); have n1_ := Aside0.mk (Kd.R_elder' (by (with_reducible repeat (first | apply Kd.R_alloc | apply Kd.R_drewN | apply Kd.R_drew)); exact HO_13.out) (Kd.R_base ho47) hb); have n2_ := Aside0.mk (Kd.R_lower (Kd.R_new' (Kd.R_new' ho47 (Kd.R_lt (by (with_reducible repeat (first | apply Kd.R_alloc | apply Kd.R_drewN | apply Kd.R_drew)); exact HO_11.out))) (Kd.R_lt (by (with_reducible repeat (first | apply Kd.R_alloc | apply Kd.R_drewN | apply Kd.R_drew)); exact HO_13.out))) (below_size (by repeat (first | (with_reducible first | exact HB.out | apply below_alloc | apply pw_below_drewN | apply below_drew1 | refine below_set ?_ GE204.out | refine below_set ?_ GE205.out) | exact HB.out)))); have n3_ := Aside0.mk (blk_below (g := gb204) (o := .cells #[.int .i64 a0_0, .int .i64 a0_1] 22 (0, 0)) (by (with_reducible repeat (first | refine blk_drewN ?_ _ | refine blk_drew ?_ | refine blk_alloc ?_ _)); exact BK204.out) hb); have n4_ := Aside0.mk (blk_below (g := gb205) (o := .cells #[.int .u8 a1_0, .int .u8 a1_1, .int .u8 a1_2] 32 (0, 0)) (by (with_reducible repeat (first | refine blk_drewN ?_ _ | refine blk_drew ?_ | refine blk_alloc ?_ _)); exact BK205.out) hb); have n5_ := Aside0.mk (below_step (by repeat (first | (with_reducible first | exact HB.out | apply below_alloc | apply pw_below_drewN | apply below_drew1 | refine below_set ?_ GE204.out | refine below_set ?_ GE205.out) | exact HB.out)) hb); clear HO_11; clear HO_13; clear BK204; clear BK205; clear HB; have HO_11 := n0_; have HO_13 := n1_; have HO218 := n2_; have BK204 := n3_; have BK205 := n4_; have HB := n5_; clear n0_ n1_ n2_ n3_ n4_ n5_; clear hb ho47; obtain ⟨Ao49, co49, eo49⟩ := Kd.R_slice HO_11.out; subst eo49) | ((with_reducible refine gate_builtin (b := .append) (xs := #[.tmp 85, .tmp 86]) rfl ?_); (try (refine gate_guard (by rfl) ?_; dsimp only)); at_builtin; refine Kd.R_append_rows (Kd.int .u8) (w0 := w) w.heap.size rfl (.tmp 85) (.tmp 86) 23 5 (.int .u8 0) 1 rfl Try.underlying23 info5 rfl (by decide) (by omega) v217 y216 t207 _ _ _ (fun k_ => some k_ ≠ (.slice Ao49 t207.length co49 : Value).ownBlock ∧ some k_ ≠ (v213 : Value).ownBlock) (fun _ => False) rfl rfl ?aO ?aR (fun _ _ h => h) (fun _ h => h.elim) ?aF ?aB ?aS ?aL ?_; (case aR => repeat (first | exact (Kd.R_reads' HO_11.out).2.2 | (with_reducible refine Kd.C_alloc ?_ _) | (with_reducible refine Kd.C_drewN ?_ _) | (with_reducible refine Kd.C_drew ?_))); (case aB => exact (by repeat (first | (with_reducible first | exact HB.out | apply below_alloc | apply pw_below_drewN | apply below_drew1 | refine below_set ?_ GE204.out | refine below_set ?_ GE205.out) | exact HB.out))); (case aF => exact (fun k_ hk => ⟨Kd.fresh' (Kd.R_lt (by (with_reducible repeat (first | apply Kd.R_alloc | apply Kd.R_drewN | apply Kd.R_drew)); exact HO_11.out)) k_ hk, Kd.fresh' (Kd.R_lt (by (with_reducible repeat (first | apply Kd.R_alloc | apply Kd.R_drewN | apply Kd.R_drew)); exact HO_13.out)) k_ hk⟩)); (case aO => exact (by (with_reducible repeat (first | apply Kd.R_alloc | apply Kd.R_drewN | apply Kd.R_drew)); exact Kd.R_mono HO218.out (fun _ hk => ⟨hk.1.2, hk.2⟩))); (case aS => exact (below_size (by repeat (first | (with_reducible first | exact HB.out | apply below_alloc | apply pw_below_drewN | apply below_drew1 | refine below_set ?_ GE204.out | refine below_set ?_ GE205.out) | exact HB.out)))); (case aL => have := LMc37.out; omega); intro v220 w48 ho hb hg hat; rw [← Ny219.out] at ho; have n0_ := Aside0.mk (Kd.R_after (ok := (fun k_ => some k_ ≠ (v213 : Value).ownBlock)) (by (with_reducible repeat (first | apply Kd.R_alloc | apply Kd.R_drewN | apply Kd.R_drew)); exact HO_11.out) hg hat); have n1_ := Aside0.mk (Kd.R_after (ok := (fun k_ => some k_ ≠ (.slice Ao49 t207.length co49 : Value).ownBlock)) (by (with_reducible repeat (first | apply Kd.R_alloc | apply Kd.R_drewN | apply Kd.R_drew)); exact HO_13.out) hg hat); have n2_ := Aside0.mk (blk_grown (g := gb204) (o := .cells #[.int .i64 a0_0, .int .i64 a0_1] 22 (0, 0)) (by (with_reducible repeat (first | refine blk_drewN ?_ _ | refine blk_drew ?_ | refine blk_alloc ?_ _)); exact BK204.out) hg (Kd.R_ne HO218.out BK204.out (by decide))); have n3_ := Aside0.mk (blk_grown (g := gb205) (o := .cells #[.int .u8 a1_0, .int .u8 a1_1, .int .u8 a1_2] 32 (0, 0)) (by (with_reducible repeat (first | refine blk_drewN ?_ _ | refine blk_drew ?_ | refine blk_alloc ?_ _)); exact BK205.out) hg (Kd.R_ne HO218.out BK205.out (by decide))); have n4_ := Aside0.mk (hb); have n5_ := Aside0.mk (ho); clear HO_11; clear HO_13; clear BK204; clear BK205; clear HB; clear HO218; have HO_11 := n0_; have HO_13 := n1_; have BK204 := n2_; have BK205 := n3_; have HB := n4_; have HO221 := n5_; clear n0_ n1_ n2_ n3_ n4_ n5_; clear ho hb hg hat) | ((with_reducible refine gate_builtin (b := .append) (xs := #[.tmp 87, .tmp 88]) rfl ?_); (try (refine gate_guard (by rfl) ?_; dsimp only)); at_builtin; refine Kd.R_append_rows (Kd.int .u8) (w0 := w) w.heap.size rfl (.tmp 87) (.tmp 88) 23 5 (.int .u8 0) 1 rfl Try.underlying23 info5 rfl (by decide) (by omega) v220 y219 l2 _ _ _ (fun k_ => some k_ ≠ (.slice Ao49 t207.length co49 : Value).ownBlock ∧ some k_ ≠ (v213 : Value).ownBlock) (fun _ => False) rfl rfl ?aO ?aR (fun _ _ h => h) (fun _ h => h.elim) ?aF ?aB ?aS ?aL ?_; (case aR => repeat (first | exact (Kd.C_below HR2.out HB.out) | (with_reducible refine Kd.C_alloc ?_ _) | (with_reducible refine Kd.C_drewN ?_ _) | (with_reducible refine Kd.C_drew ?_))); (case aB => exact (by repeat (first | (with_reducible first | exact HB.out | apply below_alloc | apply pw_below_drewN | apply below_drew1 | refine below_set ?_ GE204.out | refine below_set ?_ GE205.out) | exact HB.out))); (case aF => exact (fun k_ hk => ⟨Kd.fresh' (Kd.R_lt (by (with_reducible repeat (first | apply Kd.R_alloc | apply Kd.R_drewN | apply Kd.R_drew)); exact HO_11.out)) k_ hk, Kd.fresh' (Kd.R_lt (by (with_reducible repeat (first | apply Kd.R_alloc | apply Kd.R_drewN | apply Kd.R_drew)); exact HO_13.out)) k_ hk⟩)); (case aO => exact (by (with_reducible repeat (first | apply Kd.R_alloc | apply Kd.R_drewN | apply Kd.R_drew)); exact HO221.out)); (case aS => exact (below_size (by repeat (first | (with_reducible first | exact HB.out | apply below_alloc | apply pw_below_drewN | apply below_drew1 | refine below_set ?_ GE204.out | refine below_set ?_ GE205.out) | exact HB.out)))); (case aL => have := LMc38.out; omega); intro v223 w50 ho hb hg hat; rw [← Ny222.out] at ho; have n0_ := Aside0.mk (Kd.R_after (ok := (fun k_ => some k_ ≠ (v213 : Value).ownBlock)) (by (with_reducible repeat (first | apply Kd.R_alloc | apply Kd.R_drewN | apply Kd.R_drew)); exact HO_11.out) hg hat); have n1_ := Aside0.mk (Kd.R_after (ok := (fun k_ => some k_ ≠ (.slice Ao49 t207.length co49 : Value).ownBlock)) (by (with_reducible repeat (first | apply Kd.R_alloc | apply Kd.R_drewN | apply Kd.R_drew)); exact HO_13.out) hg hat); have n2_ := Aside0.mk (blk_grown (g := gb204) (o := .cells #[.int .i64 a0_0, .int .i64 a0_1] 22 (0, 0)) (by (with_reducible repeat (first | refine blk_drewN ?_ _ | refine blk_drew ?_ | refine blk_alloc ?_ _)); exact BK204.out) hg (Kd.R_ne HO221.out BK204.out (by decide))); have n3_ := Aside0.mk (blk_grown (g := gb205) (o := .cells #[.int .u8 a1_0, .int .u8 a1_1, .int .u8 a1_2] 32 (0, 0)) (by (with_reducible repeat (first | refine blk_drewN ?_ _ | refine blk_drew ?_ | refine blk_alloc ?_ _)); exact BK205.out) hg (Kd.R_ne HO221.out BK205.out (by decide))); have n4_ := Aside0.mk (hb); have n5_ := Aside0.mk (ho); clear HO_11; clear HO_13; clear BK204; clear BK205; clear HB; clear HO221; have HO_11 := n0_; have HO_13 := n1_; have BK204 := n2_; have BK205 := n3_; have HB := n4_; have HO224 := n5_; clear n0_ n1_ n2_ n3_ n4_ n5_; clear ho hb hg hat; obtain ⟨Ao51, co51, eo51⟩ := Kd.R_slice HO224.out; subst eo51) | ((with_reducible refine gate_callee (f := 9) rfl ?_); refine goesL_ (some 91) rfl rfl Try.func9 (by kernel_rfl) rfl #[.slice Ao51 y222.length co51, .int .i64 (wrap64 ((wrap64 (Int.tmod a1_0 8)) + 1))] rfl (by (try simp only [List.map_toArray, List.map_cons, List.map_nil]); first | done | rfl | (simp only [List.length_drop, List.length_take]; rfl)) ?_; (with_reducible refine (prefix_Decode.calls kj29 _ _ y222 (wrap64 ((wrap64 (Int.tmod a1_0 8)) + 1)) t225 t226 t227 _ ?side1 ?side2 A39.out).mono ?_); (case side1 => repeat (first | exact (Kd.R_reads' HO224.out).2.2 | (with_reducible refine Kd.C_alloc ?_ _) | (with_reducible refine Kd.C_drewN ?_ _) | (with_reducible refine Kd.C_drew ?_))); (case side2 => exact (Kd.R_reads' HO224.out).2.1); rintro e w' ⟨rfl, ⟨nd, rfl⟩⟩; refine ⟨_, rfl, ?_⟩; have hnb52 := NB205_204.out; have hnc52 := NB204_205.out; have hcz53_0 : w50.cell? ⟨gb205, 0, none⟩ = some (.int .u8 a1_0) := (blk_cell BK205.out 0).trans rfl; have hcz53_1 : w50.cell? ⟨gb205, 1, none⟩ = some (.int .u8 a1_1) := (blk_cell BK205.out 1).trans rfl; have hcz53_2 : w50.cell? ⟨gb205, 2, none⟩ = some (.int .u8 a1_2) := (blk_cell BK205.out 2).trans rfl; have hfz53_0 := blk_frozen BK205.out 0; have hfz53_1 := blk_frozen BK205.out 1; have hfz53_2 := blk_frozen BK205.out 2; have q54 : ((ji41) : Int) ≤ ((t207.length : Int) : Int) := of_decide_eq_true (by first | (with_reducible assumption) | assumption); obtain ⟨i054, hi054, _, hsz54, _⟩ := info_parts info5; have hroom54 : t207.length ≤ co49 := (Kd.R_reads' HO_11.out).2.1; have hC54 : Kd.C (Kd.int .u8) _ Ao49 t207.length t207 := (Kd.R_reads' HO_11.out).2.2; have hcut54 := cut_to (P := Try.prog) 23 5 .i64 Try.underlying23 hi054 Ao49 t207.length co49 (ji41) (of_decide_eq_true (by first | (with_reducible assumption) | assumption)) q54 hroom54; have hr54 := Kd.C_take (m := ((ji41) : Int).toNat) hC54 (by omega); have hy54 : y228.length = ((ji41) : Int).toNat := (by rw [Ny228.out, List.length_take]; omega); rw [← Ny228.out] at hr54; rw [← hy54] at hcut54; have HR231 := Aside0.mk hr54; have HC231 := Aside0.mk (show y228.length ≤ co49 from by omega); clear hr54 hC54 hroom54 hi054 hsz54; have KY54 := Aside0.mk hy54; clear hy54; have KL54 := Aside0.mk (show ((ji41) : Int).toNat ≤ t207.length from by omega); replace q54 := eq_true q54) | ((with_reducible refine gate_callee (f := 9) rfl ?_); refine goesL_ (some 105) rfl rfl Try.func9 (by kernel_rfl) rfl #[.slice Ao49 y228.length co49, .int .i64 (wrap64 ((wrap64 (Int.tmod a1_0 8)) + 1))] rfl (by (try simp only [List.map_toArray, List.map_cons, List.map_nil]); first | done | rfl | (simp only [List.length_drop, List.length_take]; rfl)) ?_; (with_reducible refine (prefix_Decode.calls kj29 _ _ y228 (wrap64 ((wrap64 (Int.tmod a1_0 8)) + 1)) t232 t233 t234 _ ?side1 ?side2 A44.out).mono ?_); (case side1 => repeat (first | exact (by repeat (first | (with_reducible exact HR231.out) | (with_reducible refine Kd.C_alloc ?_ _) | (with_reducible refine Kd.C_drewN ?_ _) | (with_reducible refine Kd.C_drew ?_) | exact HR231.out)) | (with_reducible refine Kd.C_alloc ?_ _) | (with_reducible refine Kd.C_drewN ?_ _) | (with_reducible refine Kd.C_drew ?_))); (case side2 => exact HC231.out); rintro e w' ⟨rfl, ⟨nd, rfl⟩⟩; refine ⟨_, rfl, ?_⟩))
                                  (try simp only [Act.put, List.setIfInBounds_toArray, List.set_cons_zero, List.set_cons_succ])
                                  go_cut [126] (fun v126 wc => ∃ (kq : Nat) (x126_44 : Bool), v126 = .bool x126_44 ∧ Aside0 (gantletlaw03_PrefixBack.j3 kq t207 t211 t212 x126_44 a0_0 a0_1 = some r) ∧ Aside0 (kq ≤ kj29) ∧ Aside0 (Kd.R (Kd.int .u8) 5 wc w.heap.size (fun k_ => some k_ ≠ (v213 : Value).ownBlock) (.slice Ao49 t207.length co49) t207) ∧ Aside0 (Kd.R (Kd.int .u8) 5 wc w.heap.size (fun k_ => some k_ ≠ ((.slice Ao49 t207.length co49) : Value).ownBlock) v213 t211) ∧ Aside0 (wc.heap[gb204]? = some (.cells #[.int .i64 a0_0, .int .i64 a0_1] 22 (0, 0))) ∧ Aside0 (wc.heap[gb205]? = some (.cells #[.int .u8 a1_0, .int .u8 a1_1, .int .u8 a1_2] 32 (0, 0))) ∧ Aside0 (Kd.C (Kd.int .u8) wc Ao49 y228.length y228) ∧ Aside0 (Below w.heap.size w wc))
                                  case first =>
                                    have H := HC45.out
                                    clear HC45
                                    by_cases c55 : t225 = a0_0
                                    · rw [if_pos c55] at H
                                      have c55b0 : (t225 == a0_0) = true := beq_iff_eq.mpr c55
                                      have c55b1 : (t225 != a0_0) = false := bne_eq_false_iff_eq.mpr c55
                                      clear c55
                                      (first | rw [c55b0] | (simp only [i64_w, i32_w]; rw [c55b0]) | skip)
                                      by_cases c56 : t226 = (t207.length : Int)
                                      · rw [if_pos c56] at H
                                        have c56b0 : (t226 == (t207.length : Int)) = true := beq_iff_eq.mpr c56
                                        have c56b1 : (t226 != (t207.length : Int)) = false := bne_eq_false_iff_eq.mpr c56
                                        clear c56
                                        by_cases c57 : t227 = 0
                                        · rw [if_pos c57] at H
                                          have c57b0 : (t227 == 0) = true := beq_iff_eq.mpr c57
                                          have c57b1 : (t227 != 0) = false := bne_eq_false_iff_eq.mpr c57
                                          clear c57
                                          have H' := Aside0.mk H
                                          clear H
                                          have hnb58 := NB204_205.out
                                          have hnc58 := NB205_204.out
                                          have hcz59_0 : w50.cell? ⟨gb204, 0, none⟩ = some (.int .i64 a0_0) := (blk_cell BK204.out 0).trans rfl
                                          have hcz59_1 : w50.cell? ⟨gb204, 1, none⟩ = some (.int .i64 a0_1) := (blk_cell BK204.out 1).trans rfl
                                          have hfz59_0 := blk_frozen BK204.out 0
                                          have hfz59_1 := blk_frozen BK204.out 1
                                          go_wp2
                                          go_meet
                                          case rel => exact ⟨_, ((t234 != 2)), (by first | rfl | (simp; done) | (simp [*]; done)), H', ⟨by have := HK1.out; have := HJ16.out; have := HJ29.out; first | omega | exact Nat.le_refl _⟩, ⟨by (with_reducible repeat (first | apply Kd.R_alloc | apply Kd.R_drewN | apply Kd.R_drew)); exact Kd.R_mono HO_11.out (fun _ hk => hk.1)⟩, ⟨by (with_reducible repeat (first | apply Kd.R_alloc | apply Kd.R_drewN | apply Kd.R_drew)); exact Kd.R_mono HO_13.out (fun _ hk => hk.1)⟩, ⟨by (with_reducible repeat (first | refine blk_drewN ?_ _ | refine blk_drew ?_ | refine blk_alloc ?_ _)); exact BK204.out⟩, ⟨by (with_reducible repeat (first | refine blk_drewN ?_ _ | refine blk_drew ?_ | refine blk_alloc ?_ _)); exact BK205.out⟩, ⟨by repeat (first | (with_reducible exact HR231.out) | (with_reducible refine Kd.C_alloc ?_ _) | (with_reducible refine Kd.C_drewN ?_ _) | (with_reducible refine Kd.C_drew ?_) | exact HR231.out)⟩, ⟨by repeat (first | (with_reducible first | exact HB.out | apply below_alloc | apply pw_below_drewN | apply below_drew1 | refine below_set ?_ GE204.out | refine below_set ?_ GE205.out) | exact HB.out)⟩⟩
                                        · rw [if_neg c57] at H
                                          have c57b0 : (t227 == 0) = false := beq_eq_false_iff_ne.mpr c57
                                          have c57b1 : (t227 != 0) = true := bne_iff_ne.mpr c57
                                          have H' := Aside0.mk H
                                          clear H
                                          have hnb60 := NB204_205.out
                                          have hnc60 := NB205_204.out
                                          have hcz61_0 : w50.cell? ⟨gb204, 0, none⟩ = some (.int .i64 a0_0) := (blk_cell BK204.out 0).trans rfl
                                          have hcz61_1 : w50.cell? ⟨gb204, 1, none⟩ = some (.int .i64 a0_1) := (blk_cell BK204.out 1).trans rfl
                                          have hfz61_0 := blk_frozen BK204.out 0
                                          have hfz61_1 := blk_frozen BK204.out 1
                                          go_wp2
                                          go_meet
                                          case rel => exact ⟨_, (true), (by first | rfl | (simp; done) | (simp [*]; done)), H', ⟨by have := HK1.out; have := HJ16.out; have := HJ29.out; first | omega | exact Nat.le_refl _⟩, ⟨by (with_reducible repeat (first | apply Kd.R_alloc | apply Kd.R_drewN | apply Kd.R_drew)); exact Kd.R_mono HO_11.out (fun _ hk => hk.1)⟩, ⟨by (with_reducible repeat (first | apply Kd.R_alloc | apply Kd.R_drewN | apply Kd.R_drew)); exact Kd.R_mono HO_13.out (fun _ hk => hk.1)⟩, ⟨by (with_reducible repeat (first | refine blk_drewN ?_ _ | refine blk_drew ?_ | refine blk_alloc ?_ _)); exact BK204.out⟩, ⟨by (with_reducible repeat (first | refine blk_drewN ?_ _ | refine blk_drew ?_ | refine blk_alloc ?_ _)); exact BK205.out⟩, ⟨by repeat (first | (with_reducible exact HR231.out) | (with_reducible refine Kd.C_alloc ?_ _) | (with_reducible refine Kd.C_drewN ?_ _) | (with_reducible refine Kd.C_drew ?_) | exact HR231.out)⟩, ⟨by repeat (first | (with_reducible first | exact HB.out | apply below_alloc | apply pw_below_drewN | apply below_drew1 | refine below_set ?_ GE204.out | refine below_set ?_ GE205.out) | exact HB.out)⟩⟩
                                      · rw [if_neg c56] at H
                                        have c56b0 : (t226 == (t207.length : Int)) = false := beq_eq_false_iff_ne.mpr c56
                                        have c56b1 : (t226 != (t207.length : Int)) = true := bne_iff_ne.mpr c56
                                        have H' := Aside0.mk H
                                        clear H
                                        have hnb62 := NB204_205.out
                                        have hnc62 := NB205_204.out
                                        have hcz63_0 : w50.cell? ⟨gb204, 0, none⟩ = some (.int .i64 a0_0) := (blk_cell BK204.out 0).trans rfl
                                        have hcz63_1 : w50.cell? ⟨gb204, 1, none⟩ = some (.int .i64 a0_1) := (blk_cell BK204.out 1).trans rfl
                                        have hfz63_0 := blk_frozen BK204.out 0
                                        have hfz63_1 := blk_frozen BK204.out 1
                                        go_wp2
                                        go_meet
                                        case rel => exact ⟨_, (true), (by first | rfl | (simp; done) | (simp [*]; done)), H', ⟨by have := HK1.out; have := HJ16.out; have := HJ29.out; first | omega | exact Nat.le_refl _⟩, ⟨by (with_reducible repeat (first | apply Kd.R_alloc | apply Kd.R_drewN | apply Kd.R_drew)); exact Kd.R_mono HO_11.out (fun _ hk => hk.1)⟩, ⟨by (with_reducible repeat (first | apply Kd.R_alloc | apply Kd.R_drewN | apply Kd.R_drew)); exact Kd.R_mono HO_13.out (fun _ hk => hk.1)⟩, ⟨by (with_reducible repeat (first | refine blk_drewN ?_ _ | refine blk_drew ?_ | refine blk_alloc ?_ _)); exact BK204.out⟩, ⟨by (with_reducible repeat (first | refine blk_drewN ?_ _ | refine blk_drew ?_ | refine blk_alloc ?_ _)); exact BK205.out⟩, ⟨by repeat (first | (with_reducible exact HR231.out) | (with_reducible refine Kd.C_alloc ?_ _) | (with_reducible refine Kd.C_drewN ?_ _) | (with_reducible refine Kd.C_drew ?_) | exact HR231.out)⟩, ⟨by repeat (first | (with_reducible first | exact HB.out | apply below_alloc | apply pw_below_drewN | apply below_drew1 | refine below_set ?_ GE204.out | refine below_set ?_ GE205.out) | exact HB.out)⟩⟩
                                    · rw [if_neg c55] at H
                                      have c55b0 : (t225 == a0_0) = false := beq_eq_false_iff_ne.mpr c55
                                      have c55b1 : (t225 != a0_0) = true := bne_iff_ne.mpr c55
                                      (first | rw [c55b0] | (simp only [i64_w, i32_w]; rw [c55b0]) | skip)
                                      have H' := Aside0.mk H
                                      clear H
                                      have hnb64 := NB204_205.out
                                      have hnc64 := NB205_204.out
                                      have hcz65_0 : w50.cell? ⟨gb204, 0, none⟩ = some (.int .i64 a0_0) := (blk_cell BK204.out 0).trans rfl
                                      have hcz65_1 : w50.cell? ⟨gb204, 1, none⟩ = some (.int .i64 a0_1) := (blk_cell BK204.out 1).trans rfl
                                      have hfz65_0 := blk_frozen BK204.out 0
                                      have hfz65_1 := blk_frozen BK204.out 1
                                      go_wp2
                                      go_meet
                                      case rel => exact ⟨_, (true), (by first | rfl | (simp; done) | (simp [*]; done)), H', ⟨by have := HK1.out; have := HJ16.out; have := HJ29.out; first | omega | exact Nat.le_refl _⟩, ⟨by (with_reducible repeat (first | apply Kd.R_alloc | apply Kd.R_drewN | apply Kd.R_drew)); exact Kd.R_mono HO_11.out (fun _ hk => hk.1)⟩, ⟨by (with_reducible repeat (first | apply Kd.R_alloc | apply Kd.R_drewN | apply Kd.R_drew)); exact Kd.R_mono HO_13.out (fun _ hk => hk.1)⟩, ⟨by (with_reducible repeat (first | refine blk_drewN ?_ _ | refine blk_drew ?_ | refine blk_alloc ?_ _)); exact BK204.out⟩, ⟨by (with_reducible repeat (first | refine blk_drewN ?_ _ | refine blk_drew ?_ | refine blk_alloc ?_ _)); exact BK205.out⟩, ⟨by repeat (first | (with_reducible exact HR231.out) | (with_reducible refine Kd.C_alloc ?_ _) | (with_reducible refine Kd.C_drewN ?_ _) | (with_reducible refine Kd.C_drew ?_) | exact HR231.out)⟩, ⟨by repeat (first | (with_reducible first | exact HB.out | apply below_alloc | apply pw_below_drewN | apply below_drew1 | refine below_set ?_ GE204.out | refine below_set ?_ GE205.out) | exact HB.out)⟩⟩
                                  case rest =>
                                    clear HC45
                                    try clear c1
                                    try clear c2
                                    try clear p2
                                    try clear c3
                                    try clear c4
                                    try clear c4b0
                                    try clear c4b1
                                    try clear c5
                                    try clear q5
                                    try clear c6
                                    try clear p6
                                    try clear c9
                                    try clear c11
                                    try clear c13
                                    try clear c13b0
                                    try clear c14
                                    try clear c14b0
                                    try clear c14b1
                                    try clear c18
                                    try clear c24
                                    try clear c24b0
                                    try clear c25
                                    try clear c27
                                    try clear c29
                                    try clear c31
                                    try clear c31b0
                                    try clear c31b1
                                    try clear c33
                                    try clear c35
                                    try clear c37
                                    try clear c38
                                    try clear c40
                                    try clear c40b0
                                    try clear c40b1
                                    try clear c40b2
                                    try clear c42
                                    try clear c42b0
                                    try clear c42b1
                                    try clear c43
                                    try clear c43b0
                                    try clear c43b1
                                    try clear c52
                                    try clear q54
                                    try clear c55
                                    try clear c55b0
                                    try clear c55b1
                                    try clear c56
                                    try clear c56b0
                                    try clear c56b1
                                    try clear c57
                                    try clear c57b0
                                    try clear c57b1
                                    try clear c58
                                    try clear c60
                                    try clear c62
                                    try clear c64
                                    try clear p64
                                    try clear hcz12_0
                                    try clear hcz12_1
                                    try clear hcz12_2
                                    try clear hcz19_0
                                    try clear hcz19_1
                                    try clear hcz19_2
                                    try clear hcz20_0
                                    try clear hcz20_1
                                    try clear hcz22_0
                                    try clear hcz22_1
                                    try clear hcz26_0
                                    try clear hcz26_1
                                    try clear hcz28_0
                                    try clear hcz28_1
                                    try clear hcz53_0
                                    try clear hcz53_1
                                    try clear hcz53_2
                                    try clear hcz59_0
                                    try clear hcz59_1
                                    try clear hcz61_0
                                    try clear hcz61_1
                                    try clear hcz63_0
                                    try clear hcz63_1
                                    try clear hcz65_0
                                    try clear hcz65_1
                                    try clear hfz12_0
                                    try clear hfz12_1
                                    try clear hfz12_2
                                    try clear hfz19_0
                                    try clear hfz19_1
                                    try clear hfz19_2
                                    try clear hfz20_0
                                    try clear hfz20_1
                                    try clear hfz22_0
                                    try clear hfz22_1
                                    try clear hfz26_0
                                    try clear hfz26_1
                                    try clear hfz28_0
                                    try clear hfz28_1
                                    try clear hfz53_0
                                    try clear hfz53_1
                                    try clear hfz53_2
                                    try clear hfz59_0
                                    try clear hfz59_1
                                    try clear hfz61_0
                                    try clear hfz61_1
                                    try clear hfz63_0
                                    try clear hfz63_1
                                    try clear hfz65_0
                                    try clear hfz65_1
                                    try clear p2
                                    try clear p6
                                    try clear q54
                                    obtain ⟨kq, x126_44, rfl, HA, HJ44, HO_11, HO_13, BK204, BK205, HR231, HB⟩ := hcut
                                    cases kq with
                                    | zero => exact absurd HA.out (by simp [gantletlaw03_PrefixBack.j3])
                                    | succ kj44 =>
                                      have H := HA.out
                                      clear HA
                                      simp only [gantletlaw03_PrefixBack.j3] at H
                                      by_cases c66 : x126_44 = true
                                      · subst c66
                                        have H1 : (none) = some r := by rw [if_pos rfl] at H; exact H
                                        clear H
                                        have H := H1
                                        clear H1
                                        exact absurd H (by simp)
                                      · replace c66 := Bool.eq_false_iff.mpr c66
                                        subst c66
                                        have H1 : ((gantletref01_Same.f kj44 t207 t211).bind fun t235 => ((gantletlaw03_alive.f kj44).bind fun t236 => (if t236 = true then (if t212 = 0 then (some (t235 == (a0_0 == a0_1))) else (some true)) else (none)))) = some r := by rw [if_neg (show ¬ (false = true) by decide)] at H; exact H
                                        clear H
                                        have H := H1
                                        clear H1
                                        replace H := Option.bind_eq_some_iff.mp H
                                        obtain ⟨t235, A670, H⟩ := H
                                        replace H : ((gantletlaw03_alive.f kj44).bind fun t236 => (if t236 = true then (if t212 = 0 then (some (t235 == (a0_0 == a0_1))) else (some true)) else (none))) = some r := H
                                        have A67 := Aside0.mk A670
                                        clear A670
                                        replace H := Option.bind_eq_some_iff.mp H
                                        obtain ⟨t236, A680, H⟩ := H
                                        replace H : (if t236 = true then (if t212 = 0 then (some (t235 == (a0_0 == a0_1))) else (some true)) else (none)) = some r := H
                                        have A68 := Aside0.mk A680
                                        clear A680
                                        by_cases c69 : t236 = true
                                        · subst c69
                                          have H1 : (if t212 = 0 then (some (t235 == (a0_0 == a0_1))) else (some true)) = some r := by rw [if_pos rfl] at H; exact H
                                          clear H
                                          have H := H1
                                          clear H1
                                          by_cases c70 : t212 = 0
                                          · rw [if_pos c70] at H
                                            have c70b0 : (t212 == 0) = true := beq_iff_eq.mpr c70
                                            have c70b1 : (t212 != 0) = false := bne_eq_false_iff_eq.mpr c70
                                            clear c70
                                            obtain rfl := Option.some.inj H
                                            obtain ⟨Ao71, co71, eo71⟩ := Kd.R_slice HO_13.out
                                            subst eo71
                                            go_wp2_with (first | ((with_reducible refine gate_callee (f := 8) rfl ?_); refine goesL_ (some 129) rfl rfl Try.func8 (by kernel_rfl) rfl #[.slice Ao49 t207.length co49, .slice Ao71 t211.length co71] rfl (by (try simp only [List.map_toArray, List.map_cons, List.map_nil]); first | done | rfl | (simp only [List.length_drop, List.length_take]; rfl)) ?_; (with_reducible refine (gantletref01_Same.calls kj44 _ _ t207 _ _ t211 t235 _ ?side1 ?side2 ?side3 ?side4 A67.out).mono ?_); (case side1 => repeat (first | exact (Kd.R_reads' HO_11.out).2.2 | (with_reducible refine Kd.C_alloc ?_ _) | (with_reducible refine Kd.C_drewN ?_ _) | (with_reducible refine Kd.C_drew ?_))); (case side2 => exact (Kd.R_reads' HO_11.out).2.1); (case side3 => repeat (first | exact (Kd.R_reads' HO_13.out).2.2 | (with_reducible refine Kd.C_alloc ?_ _) | (with_reducible refine Kd.C_drewN ?_ _) | (with_reducible refine Kd.C_drew ?_))); (case side4 => exact (Kd.R_reads' HO_13.out).2.1); rintro e w' ⟨rfl, ⟨nd, rfl⟩⟩; refine ⟨_, rfl, ?_⟩) | ((with_reducible refine gate_callee (f := 5) rfl ?_); refine goesL_ (some 130) rfl rfl Try.func5 (by kernel_rfl) rfl #[] rfl (by (try simp only [List.map_toArray, List.map_cons, List.map_nil]); first | done | rfl | (simp only [List.length_drop, List.length_take]; rfl)) ?_; (with_reducible refine (gantletlaw03_alive.calls kj44  true _ A68.out).mono ?_); rintro e w72 ⟨rfl, hb⟩; refine ⟨_, rfl, ?_⟩; have n0_ := Aside0.mk (Kd.R_below (by (with_reducible repeat (first | apply Kd.R_alloc | apply Kd.R_drewN | apply Kd.R_drew)); exact HO_11.out) hb); have n1_ := Aside0.mk (Kd.R_below (by (with_reducible repeat (first | apply Kd.R_alloc | apply Kd.R_drewN | apply Kd.R_drew)); exact HO_13.out) hb); have n2_ := Aside0.mk (blk_below (g := gb204) (o := .cells #[.int .i64 a0_0, .int .i64 a0_1] 22 (0, 0)) (by (with_reducible repeat (first | refine blk_drewN ?_ _ | refine blk_drew ?_ | refine blk_alloc ?_ _)); exact BK204.out) hb); have n3_ := Aside0.mk (blk_below (g := gb205) (o := .cells #[.int .u8 a1_0, .int .u8 a1_1, .int .u8 a1_2] 32 (0, 0)) (by (with_reducible repeat (first | refine blk_drewN ?_ _ | refine blk_drew ?_ | refine blk_alloc ?_ _)); exact BK205.out) hb); have n4_ := Aside0.mk (Kd.C_below (by repeat (first | (with_reducible exact HR231.out) | (with_reducible refine Kd.C_alloc ?_ _) | (with_reducible refine Kd.C_drewN ?_ _) | (with_reducible refine Kd.C_drew ?_) | exact HR231.out)) hb); have n5_ := Aside0.mk (below_step (by repeat (first | (with_reducible first | exact HB.out | apply below_alloc | apply pw_below_drewN | apply below_drew1 | refine below_set ?_ GE204.out | refine below_set ?_ GE205.out) | exact HB.out)) hb); clear HO_11; clear HO_13; clear BK204; clear BK205; clear HR231; clear HB; have HO_11 := n0_; have HO_13 := n1_; have BK204 := n2_; have BK205 := n3_; have HR231 := n4_; have HB := n5_; clear n0_ n1_ n2_ n3_ n4_ n5_; (try clear hb); (try clear hb2); (try clear hk); (try clear hi); have hnb73 := NB204_205.out; have hnc73 := NB205_204.out; have hcz74_0 : w72.cell? ⟨gb204, 0, none⟩ = some (.int .i64 a0_0) := (blk_cell BK204.out 0).trans rfl; have hcz74_1 : w72.cell? ⟨gb204, 1, none⟩ = some (.int .i64 a0_1) := (blk_cell BK204.out 1).trans rfl; have hfz74_0 := blk_frozen BK204.out 0; have hfz74_1 := blk_frozen BK204.out 1))
                                            go_ret
                                            exact ⟨by first | rfl | (simp [errW_none, errW_some] <;> rfl) | (simp only [← hji41]; first | rfl | (simp [errW_none, errW_some] <;> rfl)) | (simp [*, errW_none, errW_some] <;> rfl), by repeat (first | (with_reducible first | exact HB.out | apply below_alloc | apply pw_below_drewN | apply below_drew1 | refine below_set ?_ GE204.out | refine below_set ?_ GE205.out) | exact HB.out)⟩
                                          · rw [if_neg c70] at H
                                            have c70b0 : (t212 == 0) = false := beq_eq_false_iff_ne.mpr c70
                                            have c70b1 : (t212 != 0) = true := bne_iff_ne.mpr c70
                                            obtain rfl := Option.some.inj H
                                            obtain ⟨Ao75, co75, eo75⟩ := Kd.R_slice HO_13.out
                                            subst eo75
                                            go_wp2_with (first | ((with_reducible refine gate_callee (f := 8) rfl ?_); refine goesL_ (some 129) rfl rfl Try.func8 (by kernel_rfl) rfl #[.slice Ao49 t207.length co49, .slice Ao75 t211.length co75] rfl (by (try simp only [List.map_toArray, List.map_cons, List.map_nil]); first | done | rfl | (simp only [List.length_drop, List.length_take]; rfl)) ?_; (with_reducible refine (gantletref01_Same.calls kj44 _ _ t207 _ _ t211 t235 _ ?side1 ?side2 ?side3 ?side4 A67.out).mono ?_); (case side1 => repeat (first | exact (Kd.R_reads' HO_11.out).2.2 | (with_reducible refine Kd.C_alloc ?_ _) | (with_reducible refine Kd.C_drewN ?_ _) | (with_reducible refine Kd.C_drew ?_))); (case side2 => exact (Kd.R_reads' HO_11.out).2.1); (case side3 => repeat (first | exact (Kd.R_reads' HO_13.out).2.2 | (with_reducible refine Kd.C_alloc ?_ _) | (with_reducible refine Kd.C_drewN ?_ _) | (with_reducible refine Kd.C_drew ?_))); (case side4 => exact (Kd.R_reads' HO_13.out).2.1); rintro e w' ⟨rfl, ⟨nd, rfl⟩⟩; refine ⟨_, rfl, ?_⟩) | ((with_reducible refine gate_callee (f := 5) rfl ?_); refine goesL_ (some 130) rfl rfl Try.func5 (by kernel_rfl) rfl #[] rfl (by (try simp only [List.map_toArray, List.map_cons, List.map_nil]); first | done | rfl | (simp only [List.length_drop, List.length_take]; rfl)) ?_; (with_reducible refine (gantletlaw03_alive.calls kj44  true _ A68.out).mono ?_); rintro e w76 ⟨rfl, hb⟩; refine ⟨_, rfl, ?_⟩; have n0_ := Aside0.mk (Kd.R_below (by (with_reducible repeat (first | apply Kd.R_alloc | apply Kd.R_drewN | apply Kd.R_drew)); exact HO_11.out) hb); have n1_ := Aside0.mk (Kd.R_below (by (with_reducible repeat (first | apply Kd.R_alloc | apply Kd.R_drewN | apply Kd.R_drew)); exact HO_13.out) hb); have n2_ := Aside0.mk (blk_below (g := gb204) (o := .cells #[.int .i64 a0_0, .int .i64 a0_1] 22 (0, 0)) (by (with_reducible repeat (first | refine blk_drewN ?_ _ | refine blk_drew ?_ | refine blk_alloc ?_ _)); exact BK204.out) hb); have n3_ := Aside0.mk (blk_below (g := gb205) (o := .cells #[.int .u8 a1_0, .int .u8 a1_1, .int .u8 a1_2] 32 (0, 0)) (by (with_reducible repeat (first | refine blk_drewN ?_ _ | refine blk_drew ?_ | refine blk_alloc ?_ _)); exact BK205.out) hb); have n4_ := Aside0.mk (Kd.C_below (by repeat (first | (with_reducible exact HR231.out) | (with_reducible refine Kd.C_alloc ?_ _) | (with_reducible refine Kd.C_drewN ?_ _) | (with_reducible refine Kd.C_drew ?_) | exact HR231.out)) hb); have n5_ := Aside0.mk (below_step (by repeat (first | (with_reducible first | exact HB.out | apply below_alloc | apply pw_below_drewN | apply below_drew1 | refine below_set ?_ GE204.out | refine below_set ?_ GE205.out) | exact HB.out)) hb); clear HO_11; clear HO_13; clear BK204; clear BK205; clear HR231; clear HB; have HO_11 := n0_; have HO_13 := n1_; have BK204 := n2_; have BK205 := n3_; have HR231 := n4_; have HB := n5_; clear n0_ n1_ n2_ n3_ n4_ n5_; (try clear hb); (try clear hb2); (try clear hk); (try clear hi)))
                                            go_ret
                                            exact ⟨by first | rfl | (simp [errW_none, errW_some] <;> rfl) | (simp only [← hji41]; first | rfl | (simp [errW_none, errW_some] <;> rfl)) | (simp [*, errW_none, errW_some] <;> rfl), by repeat (first | (with_reducible first | exact HB.out | apply below_alloc | apply pw_below_drewN | apply below_drew1 | refine below_set ?_ GE204.out | refine below_set ?_ GE205.out) | exact HB.out)⟩
                                        · replace c69 := Bool.eq_false_iff.mpr c69
                                          subst c69
                                          have H1 : (none) = some r := by rw [if_neg (show ¬ (false = true) by decide)] at H; exact H
                                          clear H
                                          have H := H1
                                          clear H1
                                          exact absurd H (by simp)
                                · rw [if_neg c43] at H
                                  exact absurd H (by simp)
                              · rw [if_neg c42] at H
                                exact absurd H (by simp)
                          · rw [if_neg c38] at H
                            exact absurd H (by simp)
                        · rw [if_neg c37] at H
                          exact absurd H (by simp)

end Go.Proofs.Ytlbjhbanfpnogaa.QP
