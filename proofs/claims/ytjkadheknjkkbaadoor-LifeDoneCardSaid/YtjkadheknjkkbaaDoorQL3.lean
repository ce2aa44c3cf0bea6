-- written by a program of this session (wip/tools) out of the translation's own print and the session's texts; nothing here is trusted: Lean checks it
import Derived.Test.YtjkadheknjkkbaaDoorQL0
import Derived.Test.YtjkadheknjkkbaaDoorQL2
namespace Go.Proofs.YtjkadheknjkkbaaDoor.QL
open Go.RowKit Go.Proofs.YtjkadheknjkkbaaDoorW.PrintWords Go.Proofs.YtjkadheknjkkbaaDoorW.PrintLast Go.Proofs.YtjkadheknjkkbaaDoorW.PrintMore
attribute [local go_sem] max2_int min2_int max_two min_two max_three min_three max_four min_four   -- for this text's walks alone
set_option linter.unusedVariables false
set_option linter.unusedSimpArgs false

/-! ### gantletlaw16_LifeTells: function 3 -/
def gantletlaw16_LifeTells.f (a0 : Int) (a1 : Int) : Option (Bool) := (life_After.f a0 a1).bind fun bt135 => ((gantletref16_After.f a0 a1).bind fun bt140 => ((gantletlaw16_alive.f).bind fun t145 => (if t145 = true then (if bt135.1 = bt140.1 then (if bt135.2.1 = bt140.2.1 then (if (bt135.2.2.1 == bt140.2.2.1) = true then (if bt135.2.2.2 = bt140.2.2.2 then ((life_Hears.f a0).bind fun t146 => (if a0 = 1 then (if (t146 == true) = true then ((life_Says.f a0).bind fun t147 => (some (t147 == true))) else (none)) else (if (t146 == (a0 == 3)) = true then ((life_Says.f a0).bind fun t148 => (some (t148 == (a0 == 2)))) else (none)))) else (none)) else (none)) else (none)) else (none)) else (none))))
set_option maxHeartbeats 8000000 in
set_option maxRecDepth 100000 in
theorem gantletlaw16_LifeTells.calls (a0 : Int) (a1 : Int) (r : Bool) (w : World) (hG : GB w) (h : gantletlaw16_LifeTells.f a0 a1 = some r) :
    Calls Tryd.prog 3 #[.int .i64 a0, .int .i64 a1] w fun e w' => e = .returned (.bool r) ∧ Below w.heap.size w w' := by
  have hu25 := Tryd.underlying25
  have hu31 := Tryd.underlying31
  have HG := Aside0.mk hG
  clear hG
  have HB := Aside0.mk (Below.refl w.heap.size w)
  have H : ((life_After.f a0 a1).bind fun bt135 => ((gantletref16_After.f a0 a1).bind fun bt140 => ((gantletlaw16_alive.f).bind fun t145 => (if t145 = true then (if bt135.1 = bt140.1 then (if bt135.2.1 = bt140.2.1 then (if (bt135.2.2.1 == bt140.2.2.1) = true then (if bt135.2.2.2 = bt140.2.2.2 then ((life_Hears.f a0).bind fun t146 => (if a0 = 1 then (if (t146 == true) = true then ((life_Says.f a0).bind fun t147 => (some (t147 == true))) else (none)) else (if (t146 == (a0 == 3)) = true then ((life_Says.f a0).bind fun t148 => (some (t148 == (a0 == 2)))) else (none)))) else (none)) else (none)) else (none)) else (none)) else (none))))) = some r := h
  clear h
  replace H := Option.bind_eq_some_iff.mp H
  obtain ⟨⟨t135, t136, t137, t138⟩, A30, H⟩ := H
  replace H : ((gantletref16_After.f a0 a1).bind fun bt140 => ((gantletlaw16_alive.f).bind fun t145 => (if t145 = true then (if t135 = bt140.1 then (if t136 = bt140.2.1 then (if (t137 == bt140.2.2.1) = true then (if t138 = bt140.2.2.2 then ((life_Hears.f a0).bind fun t146 => (if a0 = 1 then (if (t146 == true) = true then ((life_Says.f a0).bind fun t147 => (some (t147 == true))) else (none)) else (if (t146 == (a0 == 3)) = true then ((life_Says.f a0).bind fun t148 => (some (t148 == (a0 == 2)))) else (none)))) else (none)) else (none)) else (none)) else (none)) else (none)))) = some r := H
  have A3 := Aside0.mk A30
  clear A30
  replace H := Option.bind_eq_some_iff.mp H
  obtain ⟨⟨t140, t141, t142, t143⟩, A40, H⟩ := H
  replace H : ((gantletlaw16_alive.f).bind fun t145 => (if t145 = true then (if t135 = t140 then (if t136 = t141 then (if (t137 == t142) = true then (if t138 = t143 then ((life_Hears.f a0).bind fun t146 => (if a0 = 1 then (if (t146 == true) = true then ((life_Says.f a0).bind fun t147 => (some (t147 == true))) else (none)) else (if (t146 == (a0 == 3)) = true then ((life_Says.f a0).bind fun t148 => (some (t148 == (a0 == 2)))) else (none)))) else (none)) else (none)) else (none)) else (none)) else (none))) = some r := H
  have A4 := Aside0.mk A40
  clear A40
  replace H := Option.bind_eq_some_iff.mp H
  obtain ⟨t145, A50, H⟩ := H
  replace H : (if t145 = true then (if t135 = t140 then (if t136 = t141 then (if (t137 == t142) = true then (if t138 = t143 then ((life_Hears.f a0).bind fun t146 => (if a0 = 1 then (if (t146 == true) = true then ((life_Says.f a0).bind fun t147 => (some (t147 == true))) else (none)) else (if (t146 == (a0 == 3)) = true then ((life_Says.f a0).bind fun t148 => (some (t148 == (a0 == 2)))) else (none)))) else (none)) else (none)) else (none)) else (none)) else (none)) = some r := H
  have A5 := Aside0.mk A50
  clear A50
  by_cases c6 : t145 = true
  · subst c6
    have H1 : (if t135 = t140 then (if t136 = t141 then (if (t137 == t142) = true then (if t138 = t143 then ((life_Hears.f a0).bind fun t146 => (if a0 = 1 then (if (t146 == true) = true then ((life_Says.f a0).bind fun t147 => (some (t147 == true))) else (none)) else (if (t146 == (a0 == 3)) = true then ((life_Says.f a0).bind fun t148 => (some (t148 == (a0 == 2)))) else (none)))) else (none)) else (none)) else (none)) else (none)) = some r := by rw [if_pos rfl] at H; exact H
    clear H
    have H := H1
    clear H1
    by_cases c7 : t135 = t140
    · rw [if_pos c7] at H
      have c7b0 : (t135 == t140) = true := beq_iff_eq.mpr c7
      have c7b1 : (t135 != t140) = false := bne_eq_false_iff_eq.mpr c7
      clear c7
      by_cases c8 : t136 = t141
      · rw [if_pos c8] at H
        have c8b0 : (t136 == t141) = true := beq_iff_eq.mpr c8
        have c8b1 : (t136 != t141) = false := bne_eq_false_iff_eq.mpr c8
        clear c8
        by_cases c9 : (t137 == t142) = true
        · rw [if_pos c9] at H
          have c9b0 : (t137 == t142) = true := c9
          (try (have c9b1 : decide (t137 = t142) = true := by simpa using c9))
          (try (have c9b2 : (t137 == t142) = true := by simpa using c9))
          clear c9
          by_cases c10 : t138 = t143
          · rw [if_pos c10] at H
            have c10b0 : (t138 == t143) = true := beq_iff_eq.mpr c10
            have c10b1 : (t138 != t143) = false := bne_eq_false_iff_eq.mpr c10
            clear c10
            replace H := Option.bind_eq_some_iff.mp H
            obtain ⟨t146, A110, H⟩ := H
            replace H : (if a0 = 1 then (if (t146 == true) = true then ((life_Says.f a0).bind fun t147 => (some (t147 == true))) else (none)) else (if (t146 == (a0 == 3)) = true then ((life_Says.f a0).bind fun t148 => (some (t148 == (a0 == 2)))) else (none))) = some r := H
            have A11 := Aside0.mk A110
            clear A110
            by_cases c12 : a0 = 1
            · rw [if_pos c12] at H
              have c12b0 : (a0 == 1) = true := beq_iff_eq.mpr c12
              have c12b1 : (a0 != 1) = false := bne_eq_false_iff_eq.mpr c12
              clear c12
              by_cases c13 : (t146 == true) = true
              · rw [if_pos c13] at H
                have c13b0 : (t146 == true) = true := c13
                (try (have c13b1 : decide (t146 = true) = true := by simpa using c13))
                (try (have c13b2 : (t146 == true) = true := by simpa using c13))
                clear c13
                replace H := Option.bind_eq_some_iff.mp H
                obtain ⟨t147, A140, H⟩ := H
                replace H : (some (t147 == true)) = some r := H
                have A14 := Aside0.mk A140
                clear A140
                obtain rfl := Option.some.inj H
                go_enter Tryd.func3, Tryd.ntmps3
                go_wp2_with (first | ((with_reducible refine gate_callee (f := 6) rfl ?_); refine goesL_ (some 12) rfl rfl Tryd.func6 (by kernel_rfl) rfl #[.int .i64 a0, .int .i64 a1] rfl (by (try simp only [List.map_toArray, List.map_cons, List.map_nil]); first | done | rfl | (simp only [List.length_drop, List.length_take]; rfl)) ?_; (with_reducible refine (life_After.calls a0 a1 t135 t136 t137 t138 _ ?side1 A3.out).mono ?_); (case side1 => exact GB.below HG.out (by repeat (first | (with_reducible first | exact HB.out | apply below_alloc | apply pw_below_drewN | apply below_drew1) | exact HB.out))); rintro e w15 ⟨rfl, hb⟩; refine ⟨_, rfl, ?_⟩; have n0_ := Aside0.mk (below_step (by repeat (first | (with_reducible first | exact HB.out | apply below_alloc | apply pw_below_drewN | apply below_drew1) | exact HB.out)) hb); clear HB; have HB := n0_; clear n0_; (try clear hb); (try clear hb2); (try clear hk); (try clear hi)) | ((with_reducible refine gate_dst (N := 5) rfl ?_); refine box_event ?hg (N := 5) ?hd (cs := #[.int .i64 0, .int .i64 0, .bool false]) (t := 25) ?hr ?_; (case hd => rfl); (case hg => rfl); (case hr => first | (go_simp; done) | (go_simp; rfl)); intro gb139 hg w16 hbox hb; have n0_ := Aside0.mk (below_step (by repeat (first | (with_reducible first | exact HB.out | apply below_alloc | apply pw_below_drewN | apply below_drew1) | exact HB.out)) hb); have n1_ := Aside0.mk (hbox); have n2_ := Aside0.mk ((by rw [hg]; exact (below_size (by repeat (first | (with_reducible first | exact HB.out | apply below_alloc | apply pw_below_drewN | apply below_drew1) | exact HB.out))) : w.heap.size ≤ gb139)); have n3_ := Aside0.mk ((by rw [hg]; exact (below_size (by repeat (first | (with_reducible first | exact HB.out | apply below_alloc | apply pw_below_drewN | apply below_drew1) | exact HB.out))) : w.heap.size ≤ gb139)); clear HB; have HB := n0_; have BK139 := n1_; have GW139 := n2_; have GE139 := n3_; clear n0_ n1_ n2_ n3_; clear hb hbox hg; have hcz17_0 : w16.cell? ⟨gb139, 0, none⟩ = some (.int .i64 0) := (blk_cell BK139.out 0).trans rfl; have hcz17_1 : w16.cell? ⟨gb139, 1, none⟩ = some (.int .i64 0) := (blk_cell BK139.out 1).trans rfl; have hcz17_2 : w16.cell? ⟨gb139, 2, none⟩ = some (.bool false) := (blk_cell BK139.out 2).trans rfl; have hfz17_0 := blk_frozen BK139.out 0; have hfz17_1 := blk_frozen BK139.out 1; have hfz17_2 := blk_frozen BK139.out 2) | ((with_reducible refine gate_callee (f := 7) rfl ?_); refine goesL_ (some 18) rfl rfl Tryd.func7 (by kernel_rfl) rfl #[.int .i64 a0, .int .i64 a1] rfl (by (try simp only [List.map_toArray, List.map_cons, List.map_nil]); first | done | rfl | (simp only [List.length_drop, List.length_take]; rfl)) ?_; (with_reducible refine (gantletref16_After.calls a0 a1 t140 t141 t142 t143 _ A4.out).mono ?_); rintro e w18 ⟨rfl, hb⟩; refine ⟨_, rfl, ?_⟩; have n0_ := Aside0.mk (blk_below (g := gb139) (o := .cells #[.int .i64 t135, .int .i64 t136, .bool t137] 25 (0, 0)) (by (with_reducible repeat (first | refine blk_drewN ?_ _ | refine blk_drew ?_ | refine blk_alloc ?_ _)); refine blk_put (cs := #[.int .i64 t135, .int .i64 t136, .bool false]) ?_ 2 _ rfl; (with_reducible repeat (first | refine blk_drewN ?_ _ | refine blk_drew ?_ | refine blk_alloc ?_ _)); refine blk_put (cs := #[.int .i64 t135, .int .i64 0, .bool false]) ?_ 1 _ rfl; (with_reducible repeat (first | refine blk_drewN ?_ _ | refine blk_drew ?_ | refine blk_alloc ?_ _)); refine blk_put (cs := #[.int .i64 0, .int .i64 0, .bool false]) ?_ 0 _ rfl; (with_reducible repeat (first | refine blk_drewN ?_ _ | refine blk_drew ?_ | refine blk_alloc ?_ _)); exact BK139.out) hb); have n1_ := Aside0.mk (below_step (by repeat (first | (with_reducible first | exact HB.out | apply below_alloc | apply pw_below_drewN | apply below_drew1 | refine below_set ?_ GE139.out) | exact HB.out)) hb); clear BK139; clear HB; have BK139 := n0_; have HB := n1_; clear n0_ n1_; (try clear hb); (try clear hb2); (try clear hk); (try clear hi)) | ((with_reducible refine gate_dst (N := 7) rfl ?_); refine box_event ?hg (N := 7) ?hd (cs := #[.int .i64 0, .int .i64 0, .bool false]) (t := 31) ?hr ?_; (case hd => rfl); (case hg => rfl); (case hr => first | (go_simp; done) | (go_simp; rfl)); intro gb144 hg w19 hbox hb; have n0_ := Aside0.mk (blk_below (g := gb139) (o := .cells #[.int .i64 t135, .int .i64 t136, .bool t137] 25 (0, 0)) (by (with_reducible repeat (first | refine blk_drewN ?_ _ | refine blk_drew ?_ | refine blk_alloc ?_ _)); exact BK139.out) hb); have n1_ := Aside0.mk (below_step (by repeat (first | (with_reducible first | exact HB.out | apply below_alloc | apply pw_below_drewN | apply below_drew1 | refine below_set ?_ GE139.out) | exact HB.out)) hb); have n2_ := Aside0.mk (hbox); have n3_ := Aside0.mk ((by rw [hg]; exact (below_size (by repeat (first | (with_reducible first | exact HB.out | apply below_alloc | apply pw_below_drewN | apply below_drew1 | refine below_set ?_ GE139.out) | exact HB.out))) : w.heap.size ≤ gb144)); have n4_ := Aside0.mk ((by rw [hg]; exact (below_size (by repeat (first | (with_reducible first | exact HB.out | apply below_alloc | apply pw_below_drewN | apply below_drew1 | refine below_set ?_ GE139.out) | exact HB.out))) : w.heap.size ≤ gb144)); have n5_ := Aside0.mk ((by rw [hg]; exact Nat.ne_of_lt (blk_lt (g := gb139) (o := .cells #[.int .i64 t135, .int .i64 t136, .bool t137] 25 (0, 0)) (by (with_reducible repeat (first | refine blk_drewN ?_ _ | refine blk_drew ?_ | refine blk_alloc ?_ _)); exact BK139.out)) : gb139 ≠ gb144)); have n6_ := Aside0.mk ((by rw [hg]; exact Nat.ne_of_gt (blk_lt (g := gb139) (o := .cells #[.int .i64 t135, .int .i64 t136, .bool t137] 25 (0, 0)) (by (with_reducible repeat (first | refine blk_drewN ?_ _ | refine blk_drew ?_ | refine blk_alloc ?_ _)); exact BK139.out)) : gb144 ≠ gb139)); clear BK139; clear HB; have BK139 := n0_; have HB := n1_; have BK144 := n2_; have GW144 := n3_; have GE144 := n4_; have NB139_144 := n5_; have NB144_139 := n6_; clear n0_ n1_ n2_ n3_ n4_ n5_ n6_; clear hb hbox hg; have hnb20 := NB144_139.out; have hnc20 := NB139_144.out; have hcz21_0 : w19.cell? ⟨gb144, 0, none⟩ = some (.int .i64 0) := (blk_cell BK144.out 0).trans rfl; have hcz21_1 : w19.cell? ⟨gb144, 1, none⟩ = some (.int .i64 0) := (blk_cell BK144.out 1).trans rfl; have hcz21_2 : w19.cell? ⟨gb144, 2, none⟩ = some (.bool false) := (blk_cell BK144.out 2).trans rfl; have hfz21_0 := blk_frozen BK144.out 0; have hfz21_1 := blk_frozen BK144.out 1; have hfz21_2 := blk_frozen BK144.out 2) | ((with_reducible refine gate_callee (f := 8) rfl ?_); refine goesL_ (some 21) rfl rfl Tryd.func8 (by kernel_rfl) rfl #[] rfl (by (try simp only [List.map_toArray, List.map_cons, List.map_nil]); first | done | rfl | (simp only [List.length_drop, List.length_take]; rfl)) ?_; (with_reducible refine (gantletlaw16_alive.calls  true _ ?side1 A5.out).mono ?_); (case side1 => exact GB.below HG.out (by repeat (first | (with_reducible first | exact HB.out | apply below_alloc | apply pw_below_drewN | apply below_drew1 | refine below_set ?_ GE139.out | refine below_set ?_ GE144.out) | exact HB.out))); rintro e w22 ⟨rfl, hb⟩; refine ⟨_, rfl, ?_⟩; have n0_ := Aside0.mk (blk_below (g := gb139) (o := .cells #[.int .i64 t135, .int .i64 t136, .bool t137] 25 (0, 0)) (by (with_reducible repeat (first | refine blk_drewN ?_ _ | refine blk_drew ?_ | refine blk_alloc ?_ _)); refine blk_far ?_ NB139_144.out _; (with_reducible repeat (first | refine blk_drewN ?_ _ | refine blk_drew ?_ | refine blk_alloc ?_ _)); refine blk_far ?_ NB139_144.out _; (with_reducible repeat (first | refine blk_drewN ?_ _ | refine blk_drew ?_ | refine blk_alloc ?_ _)); refine blk_far ?_ NB139_144.out _; (with_reducible repeat (first | refine blk_drewN ?_ _ | refine blk_drew ?_ | refine blk_alloc ?_ _)); exact BK139.out) hb); have n1_ := Aside0.mk (blk_below (g := gb144) (o := .cells #[.int .i64 t140, .int .i64 t141, .bool t142] 31 (0, 0)) (by (with_reducible repeat (first | refine blk_drewN ?_ _ | refine blk_drew ?_ | refine blk_alloc ?_ _)); refine blk_put (cs := #[.int .i64 t140, .int .i64 t141, .bool false]) ?_ 2 _ rfl; (with_reducible repeat (first | refine blk_drewN ?_ _ | refine blk_drew ?_ | refine blk_alloc ?_ _)); refine blk_put (cs := #[.int .i64 t140, .int .i64 0, .bool false]) ?_ 1 _ rfl; (with_reducible repeat (first | refine blk_drewN ?_ _ | refine blk_drew ?_ | refine blk_alloc ?_ _)); refine blk_put (cs := #[.int .i64 0, .int .i64 0, .bool false]) ?_ 0 _ rfl; (with_reducible repeat (first | refine blk_drewN ?_ _ | refine blk_drew ?_ | refine blk_alloc ?_ _)); exact BK144.out) hb); have n2_ := Aside0.mk (below_step (by repeat (first | (with_reducible first | exact HB.out | apply below_alloc | apply pw_below_drewN | apply below_drew1 | refine below_set ?_ GE139.out | refine below_set ?_ GE144.out) | exact HB.out)) hb); clear BK139; clear BK144; clear HB; have BK139 := n0_; have BK144 := n1_; have HB := n2_; clear n0_ n1_ n2_; (try clear hb); (try clear hb2); (try clear hk); (try clear hi); have hcz23_0 : w22.cell? ⟨gb139, 0, none⟩ = some (.int .i64 t135) := (blk_cell BK139.out 0).trans rfl; have hcz23_1 : w22.cell? ⟨gb139, 1, none⟩ = some (.int .i64 t136) := (blk_cell BK139.out 1).trans rfl; have hcz23_2 : w22.cell? ⟨gb139, 2, none⟩ = some (.bool t137) := (blk_cell BK139.out 2).trans rfl; have hfz23_0 := blk_frozen BK139.out 0; have hfz23_1 := blk_frozen BK139.out 1; have hfz23_2 := blk_frozen BK139.out 2; have hcz24_0 : w22.cell? ⟨gb144, 0, none⟩ = some (.int .i64 t140) := (blk_cell BK144.out 0).trans rfl; have hcz24_1 : w22.cell? ⟨gb144, 1, none⟩ = some (.int .i64 t141) := (blk_cell BK144.out 1).trans rfl; have hcz24_2 : w22.cell? ⟨gb144, 2, none⟩ = some (.bool t142) := (blk_cell BK144.out 2).trans rfl; have hfz24_0 := blk_frozen BK144.out 0; have hfz24_1 := blk_frozen BK144.out 1; have hfz24_2 := blk_frozen BK144.out 2) | (go_at_call 9; (with_reducible refine (life_Hears.calls a0 t146 _ A11.out).mono ?_); rintro e w' ⟨rfl, ⟨nd, rfl⟩⟩) | (go_at_call 10; (with_reducible refine (life_Says.calls a0 t147 _ A14.out).mono ?_); rintro e w' ⟨rfl, ⟨nd, rfl⟩⟩))
                go_ret
                exact ⟨by first | rfl | (simp [errW_none, errW_some] <;> rfl) | (simp [*, errW_none, errW_some] <;> rfl), by repeat (first | (with_reducible first | exact HB.out | apply below_alloc | apply pw_below_drewN | apply below_drew1 | refine below_set ?_ GE139.out | refine below_set ?_ GE144.out) | exact HB.out)⟩
              · rw [if_neg c13] at H
                exact absurd H (by simp)
            · rw [if_neg c12] at H
              have c12b0 : (a0 == 1) = false := beq_eq_false_iff_ne.mpr c12
              have c12b1 : (a0 != 1) = true := bne_iff_ne.mpr c12
              by_cases c25 : (t146 == (a0 == 3)) = true
              · rw [if_pos c25] at H
                have c25b0 : (t146 == (a0 == 3)) = true := c25
                (try (have c25b1 : decide (t146 = (a0 == 3)) = true := by simpa using c25))
                (try (have c25b2 : (t146 == (a0 == 3)) = true := by simpa using c25))
                clear c25
                replace H := Option.bind_eq_some_iff.mp H
                obtain ⟨t148, A260, H⟩ := H
                replace H : (some (t148 == (a0 == 2))) = some r := H
                have A26 := Aside0.mk A260
                clear A260
                obtain rfl := Option.some.inj H
                go_enter Tryd.func3, Tryd.ntmps3
                go_wp2_with (first | ((with_reducible refine gate_callee (f := 6) rfl ?_); refine goesL_ (some 12) rfl rfl Tryd.func6 (by kernel_rfl) rfl #[.int .i64 a0, .int .i64 a1] rfl (by (try simp only [List.map_toArray, List.map_cons, List.map_nil]); first | done | rfl | (simp only [List.length_drop, List.length_take]; rfl)) ?_; (with_reducible refine (life_After.calls a0 a1 t135 t136 t137 t138 _ ?side1 A3.out).mono ?_); (case side1 => exact GB.below HG.out (by repeat (first | (with_reducible first | exact HB.out | apply below_alloc | apply pw_below_drewN | apply below_drew1) | exact HB.out))); rintro e w27 ⟨rfl, hb⟩; refine ⟨_, rfl, ?_⟩; have n0_ := Aside0.mk (below_step (by repeat (first | (with_reducible first | exact HB.out | apply below_alloc | apply pw_below_drewN | apply below_drew1) | exact HB.out)) hb); clear HB; have HB := n0_; clear n0_; (try clear hb); (try clear hb2); (try clear hk); (try clear hi)) | ((with_reducible refine gate_dst (N := 5) rfl ?_); refine box_event ?hg (N := 5) ?hd (cs := #[.int .i64 0, .int .i64 0, .bool false]) (t := 25) ?hr ?_; (case hd => rfl); (case hg => rfl); (case hr => first | (go_simp; done) | (go_simp; rfl)); intro gb139 hg w28 hbox hb; have n0_ := Aside0.mk (below_step (by repeat (first | (with_reducible first | exact HB.out | apply below_alloc | apply pw_below_drewN | apply below_drew1) | exact HB.out)) hb); have n1_ := Aside0.mk (hbox); have n2_ := Aside0.mk ((by rw [hg]; exact (below_size (by repeat (first | (with_reducible first | exact HB.out | apply below_alloc | apply pw_below_drewN | apply below_drew1) | exact HB.out))) : w.heap.size ≤ gb139)); have n3_ := Aside0.mk ((by rw [hg]; exact (below_size (by repeat (first | (with_reducible first | exact HB.out | apply below_alloc | apply pw_below_drewN | apply below_drew1) | exact HB.out))) : w.heap.size ≤ gb139)); clear HB; have HB := n0_; have BK139 := n1_; have GW139 := n2_; have GE139 := n3_; clear n0_ n1_ n2_ n3_; clear hb hbox hg; have hcz29_0 : w28.cell? ⟨gb139, 0, none⟩ = some (.int .i64 0) := (blk_cell BK139.out 0).trans rfl; have hcz29_1 : w28.cell? ⟨gb139, 1, none⟩ = some (.int .i64 0) := (blk_cell BK139.out 1).trans rfl; have hcz29_2 : w28.cell? ⟨gb139, 2, none⟩ = some (.bool false) := (blk_cell BK139.out 2).trans rfl; have hfz29_0 := blk_frozen BK139.out 0; have hfz29_1 := blk_frozen BK139.out 1; have hfz29_2 := blk_frozen BK139.out 2) | ((with_reducible refine gate_callee (f := 7) rfl ?_); refine goesL_ (some 18) rfl rfl Tryd.func7 (by kernel_rfl) rfl #[.int .i64 a0, .int .i64 a1] rfl (by (try simp only [List.map_toArray, List.map_cons, List.map_nil]); first | done | rfl | (simp only [List.length_drop, List.length_take]; rfl)) ?_; (with_reducible refine (gantletref16_After.calls a0 a1 t140 t141 t142 t143 _ A4.out).mono ?_); rintro e w30 ⟨rfl, hb⟩; refine ⟨_, rfl, ?_⟩; have n0_ := Aside0.mk (blk_below (g := gb139) (o := .cells #[.int .i64 t135, .int .i64 t136, .bool t137] 25 (0, 0)) (by (with_reducible repeat (first | refine blk_drewN ?_ _ | refine blk_drew ?_ | refine blk_alloc ?_ _)); refine blk_put (cs := #[.int .i64 t135, .int .i64 t136, .bool false]) ?_ 2 _ rfl; (with_reducible repeat (first | refine blk_drewN ?_ _ | refine blk_drew ?_ | refine blk_alloc ?_ _)); refine blk_put (cs := #[.int .i64 t135, .int .i64 0, .bool false]) ?_ 1 _ rfl; (with_reducible repeat (first | refine blk_drewN ?_ _ | refine blk_drew ?_ | refine blk_alloc ?_ _)); refine blk_put (cs := #[.int .i64 0, .int .i64 0, .bool false]) ?_ 0 _ rfl; (with_reducible repeat (first | refine blk_drewN ?_ _ | refine blk_drew ?_ | refine blk_alloc ?_ _)); exact BK139.out) hb); have n1_ := Aside0.mk (below_step (by repeat (first | (with_reducible first | exact HB.out | apply below_alloc | apply pw_below_drewN | apply below_drew1 | refine below_set ?_ GE139.out) | exact HB.out)) hb); clear BK139; clear HB; have BK139 := n0_; have HB := n1_; clear n0_ n1_; (try clear hb); (try clear hb2); (try clear hk); (try clear hi)) | ((with_reducible refine gate_dst (N := 7) rfl ?_); refine box_event ?hg (N := 7) ?hd (cs := #[.int .i64 0, .int .i64 0, .bool false]) (t := 31) ?hr ?_; (case hd => rfl); (case hg => rfl); (case hr => first | (go_simp; done) | (go_simp; rfl)); intro gb144 hg w31 hbox hb; have n0_ := Aside0.mk (blk_below (g := gb139) (o := .cells #[.int .i64 t135, .int .i64 t136, .bool t137] 25 (0, 0)) (by (with_reducible repeat (first | refine blk_drewN ?_ _ | refine blk_drew ?_ | refine blk_alloc ?_ _)); exact BK139.out) hb); have n1_ := Aside0.mk (below_step (by repeat (first | (with_reducible first | exact HB.out | apply below_alloc | apply pw_below_drewN | apply below_drew1 | refine below_set ?_ GE139.out) | exact HB.out)) hb); have n2_ := Aside0.mk (hbox); have n3_ := Aside0.mk ((by rw [hg]; exact (below_size (by repeat (first | (with_reducible first | exact HB.out | apply below_alloc | apply pw_below_drewN | apply below_drew1 | refine below_set ?_ GE139.out) | exact HB.out))) : w.heap.size ≤ gb144)); have n4_ := Aside0.mk ((by rw [hg]; exact (below_size (by repeat (first | (with_reducible first | exact HB.out | apply below_alloc | apply pw_below_drewN | apply below_drew1 | refine below_set ?_ GE139.out) | exact HB.out))) : w.heap.size ≤ gb144)); have n5_ := Aside0.mk ((by rw [hg]; exact Nat.ne_of_lt (blk_lt (g := gb139) (o := .cells #[.int .i64 t135, .int .i64 t136, .bool t137] 25 (0, 0)) (by (with_reducible repeat (first | refine blk_drewN ?_ _ | refine blk_drew ?_ | refine blk_alloc ?_ _)); exact BK139.out)) : gb139 ≠ gb144)); have n6_ := Aside0.mk ((by rw [hg]; exact Nat.ne_of_gt (blk_lt (g := gb139) (o := .cells #[.int .i64 t135, .int .i64 t136, .bool t137] 25 (0, 0)) (by (with_reducible repeat (first | refine blk_drewN ?_ _ | refine blk_drew ?_ | refine blk_alloc ?_ _)); exact BK139.out)) : gb144 ≠ gb139)); clear BK139; clear HB; have BK139 := n0_; have HB := n1_; have BK144 := n2_; have GW144 := n3_; have GE144 := n4_; have NB139_144 := n5_; have NB144_139 := n6_; clear n0_ n1_ n2_ n3_ n4_ n5_ n6_; clear hb hbox hg; have hnb32 := NB144_139.out; have hnc32 := NB139_144.out; have hcz33_0 : w31.cell? ⟨gb144, 0, none⟩ = some (.int .i64 0) := (blk_cell BK144.out 0).trans rfl; have hcz33_1 : w31.cell? ⟨gb144, 1, none⟩ = some (.int .i64 0) := (blk_cell BK144.out 1).trans rfl; have hcz33_2 : w31.cell? ⟨gb144, 2, none⟩ = some (.bool false) := (blk_cell BK144.out 2).trans rfl; have hfz33_0 := blk_frozen BK144.out 0; have hfz33_1 := blk_frozen BK144.out 1; have hfz33_2 := blk_frozen BK144.out 2) | ((with_reducible refine gate_callee (f := 8) rfl ?_); refine goesL_ (some 21) rfl rfl Tryd.func8 (by kernel_rfl) rfl #[] rfl (by (try simp only [List.map_toArray, List.map_cons, List.map_nil]); first | done | rfl | (simp only [List.length_drop, List.length_take]; rfl)) ?_; (with_reducible refine (gantletlaw16_alive.calls  true _ ?side1 A5.out).mono ?_); (case side1 => exact GB.below HG.out (by repeat (first | (with_reducible first | exact HB.out | apply below_alloc | apply pw_below_drewN | apply below_drew1 | refine below_set ?_ GE139.out | refine below_set ?_ GE144.out) | exact HB.out))); rintro e w34 ⟨rfl, hb⟩; refine ⟨_, rfl, ?_⟩; have n0_ := Aside0.mk (blk_below (g := gb139) (o := .cells #[.int .i64 t135, .int .i64 t136, .bool t137] 25 (0, 0)) (by (with_reducible repeat (first | refine blk_drewN ?_ _ | refine blk_drew ?_ | refine blk_alloc ?_ _)); refine blk_far ?_ NB139_144.out _; (with_reducible repeat (first | refine blk_drewN ?_ _ | refine blk_drew ?_ | refine blk_alloc ?_ _)); refine blk_far ?_ NB139_144.out _; (with_reducible repeat (first | refine blk_drewN ?_ _ | refine blk_drew ?_ | refine blk_alloc ?_ _)); refine blk_far ?_ NB139_144.out _; (with_reducible repeat (first | refine blk_drewN ?_ _ | refine blk_drew ?_ | refine blk_alloc ?_ _)); exact BK139.out) hb); have n1_ := Aside0.mk (blk_below (g := gb144) (o := .cells #[.int .i64 t140, .int .i64 t141, .bool t142] 31 (0, 0)) (by (with_reducible repeat (first | refine blk_drewN ?_ _ | refine blk_drew ?_ | refine blk_alloc ?_ _)); refine blk_put (cs := #[.int .i64 t140, .int .i64 t141, .bool false]) ?_ 2 _ rfl; (with_reducible repeat (first | refine blk_drewN ?_ _ | refine blk_drew ?_ | refine blk_alloc ?_ _)); refine blk_put (cs := #[.int .i64 t140, .int .i64 0, .bool false]) ?_ 1 _ rfl; (with_reducible repeat (first | refine blk_drewN ?_ _ | refine blk_drew ?_ | refine blk_alloc ?_ _)); refine blk_put (cs := #[.int .i64 0, .int .i64 0, .bool false]) ?_ 0 _ rfl; (with_reducible repeat (first | refine blk_drewN ?_ _ | refine blk_drew ?_ | refine blk_alloc ?_ _)); exact BK144.out) hb); have n2_ := Aside0.mk (below_step (by repeat (first | (with_reducible first | exact HB.out | apply below_alloc | apply pw_below_drewN | apply below_drew1 | refine below_set ?_ GE139.out | refine below_set ?_ GE144.out) | exact HB.out)) hb); clear BK139; clear BK144; clear HB; have BK139 := n0_; have BK144 := n1_; have HB := n2_; clear n0_ n1_ n2_; (try clear hb); (try clear hb2); (try clear hk); (try clear hi); have hcz35_0 : w34.cell? ⟨gb139, 0, none⟩ = some (.int .i64 t135) := (blk_cell BK139.out 0).trans rfl; have hcz35_1 : w34.cell? ⟨gb139, 1, none⟩ = some (.int .i64 t136) := (blk_cell BK139.out 1).trans rfl; have hcz35_2 : w34.cell? ⟨gb139, 2, none⟩ = some (.bool t137) := (blk_cell BK139.out 2).trans rfl; have hfz35_0 := blk_frozen BK139.out 0; have hfz35_1 := blk_frozen BK139.out 1; have hfz35_2 := blk_frozen BK139.out 2; have hcz36_0 : w34.cell? ⟨gb144, 0, none⟩ = some (.int .i64 t140) := (blk_cell BK144.out 0).trans rfl; have hcz36_1 : w34.cell? ⟨gb144, 1, none⟩ = some (.int .i64 t141) := (blk_cell BK144.out 1).trans rfl; have hcz36_2 : w34.cell? ⟨gb144, 2, none⟩ = some (.bool t142) := (blk_cell BK144.out 2).trans rfl; have hfz36_0 := blk_frozen BK144.out 0; have hfz36_1 := blk_frozen BK144.out 1; have hfz36_2 := blk_frozen BK144.out 2) | (go_at_call 9; (with_reducible refine (life_Hears.calls a0 t146 _ A11.out).mono ?_); rintro e w' ⟨rfl, ⟨nd, rfl⟩⟩) | (go_at_call 10; (with_reducible refine (life_Says.calls a0 t148 _ A26.out).mono ?_); rintro e w' ⟨rfl, ⟨nd, rfl⟩⟩))
                go_ret
                exact ⟨by first | rfl | (simp [errW_none, errW_some] <;> rfl) | (simp [*, errW_none, errW_some] <;> rfl), by repeat (first | (with_reducible first | exact HB.out | apply below_alloc | apply pw_below_drewN | apply below_drew1 | refine below_set ?_ GE139.out | refine below_set ?_ GE144.out) | exact HB.out)⟩
              · rw [if_neg c25] at H
                exact absurd H (by simp)
          · rw [if_neg c10] at H
            exact absurd H (by simp)
        · rw [if_neg c9] at H
          exact absurd H (by simp)
      · rw [if_neg c8] at H
        exact absurd H (by simp)
    · rw [if_neg c7] at H
      exact absurd H (by simp)
  · replace c6 := Bool.eq_false_iff.mpr c6
    subst c6
    have H1 : (none) = some r := by rw [if_neg (show ¬ (false = true) by decide)] at H; exact H
    clear H
    have H := H1
    clear H1
    exact absurd H (by simp)

/-! ### gantletlaw16_LifeDone: function 4 (the session's own) -/
/-- What a stream can be, and what was said: the state, begun, the peer has said all, we have, it is gone. -/
def inv16 : List (Int × Bool × Bool × Bool × Bool) := [(0, false, false, false, false), (1, true, false, false, false), (2, true, true, false, false), (3, true, false, true, false), (4, true, false, false, true), (4, true, false, true, true), (4, true, true, false, true), (4, true, true, true, true)]
def gantletlaw16_LifeDone.f (l0 : List Int) : Option Bool := if l0.all (fun x => decide (0 ≤ x ∧ x < 256)) = true then some true else none
set_option maxHeartbeats 16000000 in
set_option maxRecDepth 100000 in
theorem gantletlaw16_LifeDone.calls (A0 : Option Addr) (c0 : Nat) (l0 : List Int) (r : Bool) (w : World) (hG : GB w) (hr0 : Kd.C (Kd.int .u8) w A0 l0.length l0) (hc0 : l0.length ≤ c0) (h : gantletlaw16_LifeDone.f l0 = some r) :
    Calls Tryd.prog 4 #[.slice A0 l0.length c0] w fun e w' => e = .returned (.bool r) ∧ Below w.heap.size w w' := by
  have hu25 := Tryd.underlying25
  have HR0 := Aside0.mk hr0
  clear hr0 hc0
  have HG := Aside0.mk hG
  clear hG
  have HB := Aside0.mk (Below.refl w.heap.size w)
  unfold gantletlaw16_LifeDone.f at h
  by_cases hall : l0.all (fun x => decide (0 ≤ x ∧ x < 256)) = true
  · rw [if_pos hall] at h
    obtain rfl := Option.some.inj h
    clear h
    have hby : ∀ i : Int, 0 ≤ i → i < (l0.length : Int) → 0 ≤ rd l0 i ∧ rd l0 i < 256 := by
      intro i h0 h1
      have hi : i.toNat < l0.length := by omega
      have e : rd l0 i = l0[i.toNat] := by simp [rd, hi]
      have := List.all_eq_true.1 hall _ (List.getElem_mem hi)
      rw [e]; exact of_decide_eq_true this
    have HY := Aside0.mk hby
    clear hall hby
    by_cases c2 : (l0.length : Int) > 100
    · have c2b0 : decide (100 < (l0.length : Int)) = true := decide_eq_true c2
      have c2b1 : decide (100 < l0.length) = true := decide_eq_true (by omega)
      clear c2
      go_enter Tryd.func4, Tryd.ntmps4
      go_wp2_with (first | (go_at_call 8; refine (gantletlaw16_alive.calls true _ (GB.below HG.out HB.out) (by kernel_rfl)).mono ?_; rintro e_ w_ ⟨rfl, hb⟩; have HB1 := Aside0.mk (below_step HB.out hb)))
      go_ret
      exact ⟨rfl, HB1.out⟩
    · have c2b0 : decide (100 < (l0.length : Int)) = false := decide_eq_false c2
      have c2b1 : decide (100 < l0.length) = false := decide_eq_false (by omega)
      have hlen : l0.length ≤ 100 := by omega
      clear c2
      go_enter Tryd.func4, Tryd.ntmps4
      go_wp2
      go_loopg [3, 4, 5, 6, 7, 8] (l0.length + 1) (fun kq v3 v4 v5 v6 v7 v8 w' => ∃ (s : Int) (b p o g : Bool) (i : Int), v3 = .int .i64 s ∧ v4 = .bool b ∧ v5 = .bool p ∧ v6 = .bool o ∧ v7 = .bool g ∧ v8 = .int .i64 i ∧ Aside0 ((s, b, p, o, g) ∈ inv16) ∧ Aside0 (0 ≤ i ∧ i + kq = l0.length + 1) ∧ Aside0 (Below w.heap.size w w'))
      case atStart => exact ⟨0, false, false, false, false, 0, rfl, rfl, rfl, rfl, rfl, rfl, ⟨by decide⟩, ⟨by omega⟩, HB⟩
      case round =>
        clear HB
        try clear c2b0
        try clear c2b1
        obtain ⟨s, b, p, o, g, i, rfl, rfl, rfl, rfl, rfl, rfl, HI, HK, HB⟩ := hrel
        by_cases c5 : i < (l0.length : Int)
        · have h0 := HK.out.1
          have c5b0 : decide (i < (l0.length : Int)) = true := decide_eq_true c5
          have c6b0 : decide (0 ≤ i) = true := decide_eq_true h0
          obtain ⟨ad, e1, hx⟩ := Kd.at_int HR0.out i h0 c5
          cases e1
          replace hx := (HB.out.cell (World.block_lt_of_cell? w _ hx)).trans hx
          have hy := HY.out i h0 c5
          have p1 : (0 ≤ i) = True := eq_true h0
          have q1 : (i < (l0.length : Int)) = True := eq_true c5
          have hwr : wrap64 (i + 1) = i + 1 := by unfold wrap64; omega
          have HW := Aside0.mk hwr
          clear h0 hwr
          have hsc := HI.out
          clear HI
          obtain ⟨k1, hk1⟩ : ∃ j, gk = j + 1 := ⟨gk - 1, by have := HK.out; omega⟩
          subst hk1
          have te : ∃ e : Int, 0 ≤ e ∧ e < 9 ∧ Int.tmod (rd l0 i) 9 = e ∧ wrap64 e = e := ⟨_, Int.tmod_nonneg _ hy.1, Int.tmod_lt_of_pos _ (by decide), rfl, by have := Int.tmod_nonneg 9 hy.1; have := Int.tmod_lt_of_pos (rd l0 i) (show (0 : Int) < 9 by decide); unfold wrap64; omega⟩
          obtain ⟨e, z0, z1, ht, hw9⟩ := te
          have he : e = 0 ∨ e = 1 ∨ e = 2 ∨ e = 3 ∨ e = 4 ∨ e = 5 ∨ e = 6 ∨ e = 7 ∨ e = 8 := by omega
          clear z0 z1 hy c5
          simp only [inv16, List.mem_cons, List.not_mem_nil, or_false, Prod.mk.injEq] at hsc
          rcases hsc with ⟨rfl, rfl, rfl, rfl, rfl⟩ | ⟨rfl, rfl, rfl, rfl, rfl⟩ | ⟨rfl, rfl, rfl, rfl, rfl⟩ | ⟨rfl, rfl, rfl, rfl, rfl⟩ | ⟨rfl, rfl, rfl, rfl, rfl⟩ | ⟨rfl, rfl, rfl, rfl, rfl⟩ | ⟨rfl, rfl, rfl, rfl, rfl⟩ | ⟨rfl, rfl, rfl, rfl, rfl⟩
          · rcases he with rfl | rfl | rfl | rfl | rfl | rfl | rfl | rfl | rfl
            · -- state (0, false, false, false, false), event 0: on
              as_aux_lemma =>
                go_wp2_with (first | (go_at_call 6; refine (life_After.calls 0 0 1 0 false 0 _ (GB.below HG.out HB.out) (by kernel_rfl)).mono ?_; rintro e_ w_ ⟨rfl, hb⟩; have HB1 := Aside0.mk (below_step HB.out hb); clear HB) | (go_at_call 9; (with_reducible refine (life_Hears.calls 1 true _ (by kernel_rfl)).mono ?_); rintro e_ w' ⟨rfl, ⟨nd, rfl⟩⟩) | (go_at_call 10; (with_reducible refine (life_Says.calls 1 true _ (by kernel_rfl)).mono ?_); rintro e_ w' ⟨rfl, ⟨nd, rfl⟩⟩))
                go_roundg k1
                case measure => omega
                case rel => exact ⟨_, _, _, _, _, i + 1, rfl, rfl, rfl, rfl, rfl, (by first | rfl | rw [HW.out]), ⟨by decide⟩, ⟨by have := HK.out; omega⟩, ⟨by repeat (first | exact HB2.out | exact HB1.out | apply below_alloc | apply pw_below_drewN | apply below_drew1)⟩⟩
            · -- state (0, false, false, false, false), event 1: on
              as_aux_lemma =>
                go_wp2_with (first | (go_at_call 6; refine (life_After.calls 0 1 2 0 false 0 _ (GB.below HG.out HB.out) (by kernel_rfl)).mono ?_; rintro e_ w_ ⟨rfl, hb⟩; have HB1 := Aside0.mk (below_step HB.out hb); clear HB) | (go_at_call 9; (with_reducible refine (life_Hears.calls 2 false _ (by kernel_rfl)).mono ?_); rintro e_ w' ⟨rfl, ⟨nd, rfl⟩⟩) | (go_at_call 10; (with_reducible refine (life_Says.calls 2 true _ (by kernel_rfl)).mono ?_); rintro e_ w' ⟨rfl, ⟨nd, rfl⟩⟩))
                go_roundg k1
                case measure => omega
                case rel => exact ⟨_, _, _, _, _, i + 1, rfl, rfl, rfl, rfl, rfl, (by first | rfl | rw [HW.out]), ⟨by decide⟩, ⟨by have := HK.out; omega⟩, ⟨by repeat (first | exact HB2.out | exact HB1.out | apply below_alloc | apply pw_below_drewN | apply below_drew1)⟩⟩
            · -- state (0, false, false, false, false), event 2: ret
              as_aux_lemma =>
                go_wp2_with (first | (go_at_call 8; refine (gantletlaw16_alive.calls true _ (GB.below HG.out (below_alloc HB1.out _)) (by kernel_rfl)).mono ?_; rintro e_ w2_ ⟨rfl, hb2⟩; have hn : w2_.heap[w_.heap.size]? = some (.cells #[.int .i64 0, .int .i64 1, .bool true] 25) := (hb2.block _ (alloc_lt _ _)).trans (blk_new _ _); have hn0 : w2_.cell? ⟨w_.heap.size, 0, none⟩ = some (.int .i64 0) := (blk_cell hn 0).trans rfl; have hn1 : w2_.cell? ⟨w_.heap.size, 1, none⟩ = some (.int .i64 1) := (blk_cell hn 1).trans rfl; have hn2 : w2_.cell? ⟨w_.heap.size, 2, none⟩ = some (.bool true) := (blk_cell hn 2).trans rfl; have hlt2 : w_.heap.size < w2_.heap.size := blk_lt hn; have hne2 : w_.heap.size ≠ w2_.heap.size := Nat.ne_of_lt hlt2; have HB2 := Aside0.mk (below_step (below_alloc HB1.out _) hb2); clear HB1) | (go_at_call 6; refine (life_After.calls 0 2 0 1 true 0 _ (GB.below HG.out HB.out) (by kernel_rfl)).mono ?_; rintro e_ w_ ⟨rfl, hb⟩; have HB1 := Aside0.mk (below_step HB.out hb); clear HB))
                go_ret
                exact ⟨rfl, by repeat (first | exact HB2.out | exact HB1.out | apply below_alloc | apply pw_below_drewN | apply below_drew1)⟩
            · -- state (0, false, false, false, false), event 3: ret
              as_aux_lemma =>
                go_wp2_with (first | (go_at_call 8; refine (gantletlaw16_alive.calls true _ (GB.below HG.out (below_alloc HB1.out _)) (by kernel_rfl)).mono ?_; rintro e_ w2_ ⟨rfl, hb2⟩; have hn : w2_.heap[w_.heap.size]? = some (.cells #[.int .i64 0, .int .i64 1, .bool true] 25) := (hb2.block _ (alloc_lt _ _)).trans (blk_new _ _); have hn0 : w2_.cell? ⟨w_.heap.size, 0, none⟩ = some (.int .i64 0) := (blk_cell hn 0).trans rfl; have hn1 : w2_.cell? ⟨w_.heap.size, 1, none⟩ = some (.int .i64 1) := (blk_cell hn 1).trans rfl; have hn2 : w2_.cell? ⟨w_.heap.size, 2, none⟩ = some (.bool true) := (blk_cell hn 2).trans rfl; have hlt2 : w_.heap.size < w2_.heap.size := blk_lt hn; have hne2 : w_.heap.size ≠ w2_.heap.size := Nat.ne_of_lt hlt2; have HB2 := Aside0.mk (below_step (below_alloc HB1.out _) hb2); clear HB1) | (go_at_call 6; refine (life_After.calls 0 3 0 1 true 0 _ (GB.below HG.out HB.out) (by kernel_rfl)).mono ?_; rintro e_ w_ ⟨rfl, hb⟩; have HB1 := Aside0.mk (below_step HB.out hb); clear HB))
                go_ret
                exact ⟨rfl, by repeat (first | exact HB2.out | exact HB1.out | apply below_alloc | apply pw_below_drewN | apply below_drew1)⟩
            · -- state (0, false, false, false, false), event 4: ret
              as_aux_lemma =>
                go_wp2_with (first | (go_at_call 8; refine (gantletlaw16_alive.calls true _ (GB.below HG.out (below_alloc HB1.out _)) (by kernel_rfl)).mono ?_; rintro e_ w2_ ⟨rfl, hb2⟩; have hn : w2_.heap[w_.heap.size]? = some (.cells #[.int .i64 0, .int .i64 1, .bool true] 25) := (hb2.block _ (alloc_lt _ _)).trans (blk_new _ _); have hn0 : w2_.cell? ⟨w_.heap.size, 0, none⟩ = some (.int .i64 0) := (blk_cell hn 0).trans rfl; have hn1 : w2_.cell? ⟨w_.heap.size, 1, none⟩ = some (.int .i64 1) := (blk_cell hn 1).trans rfl; have hn2 : w2_.cell? ⟨w_.heap.size, 2, none⟩ = some (.bool true) := (blk_cell hn 2).trans rfl; have hlt2 : w_.heap.size < w2_.heap.size := blk_lt hn; have hne2 : w_.heap.size ≠ w2_.heap.size := Nat.ne_of_lt hlt2; have HB2 := Aside0.mk (below_step (below_alloc HB1.out _) hb2); clear HB1) | (go_at_call 6; refine (life_After.calls 0 4 0 1 true 0 _ (GB.below HG.out HB.out) (by kernel_rfl)).mono ?_; rintro e_ w_ ⟨rfl, hb⟩; have HB1 := Aside0.mk (below_step HB.out hb); clear HB))
                go_ret
                exact ⟨rfl, by repeat (first | exact HB2.out | exact HB1.out | apply below_alloc | apply pw_below_drewN | apply below_drew1)⟩
            · -- state (0, false, false, false, false), event 5: ret
              as_aux_lemma =>
                go_wp2_with (first | (go_at_call 8; refine (gantletlaw16_alive.calls true _ (GB.below HG.out (below_alloc HB1.out _)) (by kernel_rfl)).mono ?_; rintro e_ w2_ ⟨rfl, hb2⟩; have hn : w2_.heap[w_.heap.size]? = some (.cells #[.int .i64 0, .int .i64 1, .bool true] 25) := (hb2.block _ (alloc_lt _ _)).trans (blk_new _ _); have hn0 : w2_.cell? ⟨w_.heap.size, 0, none⟩ = some (.int .i64 0) := (blk_cell hn 0).trans rfl; have hn1 : w2_.cell? ⟨w_.heap.size, 1, none⟩ = some (.int .i64 1) := (blk_cell hn 1).trans rfl; have hn2 : w2_.cell? ⟨w_.heap.size, 2, none⟩ = some (.bool true) := (blk_cell hn 2).trans rfl; have hlt2 : w_.heap.size < w2_.heap.size := blk_lt hn; have hne2 : w_.heap.size ≠ w2_.heap.size := Nat.ne_of_lt hlt2; have HB2 := Aside0.mk (below_step (below_alloc HB1.out _) hb2); clear HB1) | (go_at_call 6; refine (life_After.calls 0 5 0 1 true 0 _ (GB.below HG.out HB.out) (by kernel_rfl)).mono ?_; rintro e_ w_ ⟨rfl, hb⟩; have HB1 := Aside0.mk (below_step HB.out hb); clear HB))
                go_ret
                exact ⟨rfl, by repeat (first | exact HB2.out | exact HB1.out | apply below_alloc | apply pw_below_drewN | apply below_drew1)⟩
            · -- state (0, false, false, false, false), event 6: on
              as_aux_lemma =>
                go_wp2_with (first | (go_at_call 6; refine (life_After.calls 0 6 0 0 false 6 _ (GB.below HG.out HB.out) (by kernel_rfl)).mono ?_; rintro e_ w_ ⟨rfl, hb⟩; have HB1 := Aside0.mk (below_step HB.out hb); clear HB))
                go_roundg k1
                case measure => omega
                case rel => exact ⟨_, _, _, _, _, i + 1, rfl, rfl, rfl, rfl, rfl, (by first | rfl | rw [HW.out]), ⟨by decide⟩, ⟨by have := HK.out; omega⟩, ⟨by repeat (first | exact HB2.out | exact HB1.out | apply below_alloc | apply pw_below_drewN | apply below_drew1)⟩⟩
            · -- state (0, false, false, false, false), event 7: on
              as_aux_lemma =>
                go_wp2_with (first | (go_at_call 6; refine (life_After.calls 0 7 0 0 false 6 _ (GB.below HG.out HB.out) (by kernel_rfl)).mono ?_; rintro e_ w_ ⟨rfl, hb⟩; have HB1 := Aside0.mk (below_step HB.out hb); clear HB))
                go_roundg k1
                case measure => omega
                case rel => exact ⟨_, _, _, _, _, i + 1, rfl, rfl, rfl, rfl, rfl, (by first | rfl | rw [HW.out]), ⟨by decide⟩, ⟨by have := HK.out; omega⟩, ⟨by repeat (first | exact HB2.out | exact HB1.out | apply below_alloc | apply pw_below_drewN | apply below_drew1)⟩⟩
            · -- state (0, false, false, false, false), event 8: on
              as_aux_lemma =>
                go_wp2_with (first | (go_at_call 6; refine (life_After.calls 0 8 0 0 false 6 _ (GB.below HG.out HB.out) (by kernel_rfl)).mono ?_; rintro e_ w_ ⟨rfl, hb⟩; have HB1 := Aside0.mk (below_step HB.out hb); clear HB))
                go_roundg k1
                case measure => omega
                case rel => exact ⟨_, _, _, _, _, i + 1, rfl, rfl, rfl, rfl, rfl, (by first | rfl | rw [HW.out]), ⟨by decide⟩, ⟨by have := HK.out; omega⟩, ⟨by repeat (first | exact HB2.out | exact HB1.out | apply below_alloc | apply pw_below_drewN | apply below_drew1)⟩⟩
          · rcases he with rfl | rfl | rfl | rfl | rfl | rfl | rfl | rfl | rfl
            · -- state (1, true, false, false, false), event 0: on
              as_aux_lemma =>
                go_wp2_with (first | (go_at_call 6; refine (life_After.calls 1 8 4 0 false 0 _ (GB.below HG.out (below_alloc HB1.out _)) (by kernel_rfl)).mono ?_; rintro e_ w2_ ⟨rfl, hb2⟩; have hn : w2_.heap[w_.heap.size]? = some (.cells #[.int .i64 1, .int .i64 1, .bool false] 25) := (hb2.block _ (alloc_lt _ _)).trans (blk_new _ _); have hn0 : w2_.cell? ⟨w_.heap.size, 0, none⟩ = some (.int .i64 1) := (blk_cell hn 0).trans rfl; have hn1 : w2_.cell? ⟨w_.heap.size, 1, none⟩ = some (.int .i64 1) := (blk_cell hn 1).trans rfl; have hn2 : w2_.cell? ⟨w_.heap.size, 2, none⟩ = some (.bool false) := (blk_cell hn 2).trans rfl; have hlt2 : w_.heap.size < w2_.heap.size := blk_lt hn; have hne2 : w_.heap.size ≠ w2_.heap.size := Nat.ne_of_lt hlt2; have HB2 := Aside0.mk (below_step (below_alloc HB1.out _) hb2); clear HB1) | (go_at_call 6; refine (life_After.calls 1 0 1 1 false 0 _ (GB.below HG.out HB.out) (by kernel_rfl)).mono ?_; rintro e_ w_ ⟨rfl, hb⟩; have HB1 := Aside0.mk (below_step HB.out hb); clear HB) | fail)
                go_roundg k1
                case measure => omega
                case rel => exact ⟨_, _, _, _, _, i + 1, rfl, rfl, rfl, rfl, rfl, (by first | rfl | rw [HW.out]), ⟨by decide⟩, ⟨by have := HK.out; omega⟩, ⟨by repeat (first | exact HB2.out | exact HB1.out | apply below_alloc | apply pw_below_drewN | apply below_drew1)⟩⟩
            · -- state (1, true, false, false, false), event 1: on
              as_aux_lemma =>
                go_wp2_with (first | (go_at_call 6; refine (life_After.calls 1 1 2 0 false 0 _ (GB.below HG.out HB.out) (by kernel_rfl)).mono ?_; rintro e_ w_ ⟨rfl, hb⟩; have HB1 := Aside0.mk (below_step HB.out hb); clear HB) | (go_at_call 9; (with_reducible refine (life_Hears.calls 2 false _ (by kernel_rfl)).mono ?_); rintro e_ w' ⟨rfl, ⟨nd, rfl⟩⟩) | (go_at_call 10; (with_reducible refine (life_Says.calls 2 true _ (by kernel_rfl)).mono ?_); rintro e_ w' ⟨rfl, ⟨nd, rfl⟩⟩))
                go_roundg k1
                case measure => omega
                case rel => exact ⟨_, _, _, _, _, i + 1, rfl, rfl, rfl, rfl, rfl, (by first | rfl | rw [HW.out]), ⟨by decide⟩, ⟨by have := HK.out; omega⟩, ⟨by repeat (first | exact HB2.out | exact HB1.out | apply below_alloc | apply pw_below_drewN | apply below_drew1)⟩⟩
            · -- state (1, true, false, false, false), event 2: on
              as_aux_lemma =>
                go_wp2_with (first | (go_at_call 6; refine (life_After.calls 1 2 1 0 false 0 _ (GB.below HG.out HB.out) (by kernel_rfl)).mono ?_; rintro e_ w_ ⟨rfl, hb⟩; have HB1 := Aside0.mk (below_step HB.out hb); clear HB) | (go_at_call 9; (with_reducible refine (life_Hears.calls 1 true _ (by kernel_rfl)).mono ?_); rintro e_ w' ⟨rfl, ⟨nd, rfl⟩⟩) | (go_at_call 10; (with_reducible refine (life_Says.calls 1 true _ (by kernel_rfl)).mono ?_); rintro e_ w' ⟨rfl, ⟨nd, rfl⟩⟩))
                go_roundg k1
                case measure => omega
                case rel => exact ⟨_, _, _, _, _, i + 1, rfl, rfl, rfl, rfl, rfl, (by first | rfl | rw [HW.out]), ⟨by decide⟩, ⟨by have := HK.out; omega⟩, ⟨by repeat (first | exact HB2.out | exact HB1.out | apply below_alloc | apply pw_below_drewN | apply below_drew1)⟩⟩
            · -- state (1, true, false, false, false), event 3: on
              as_aux_lemma =>
                go_wp2_with (first | (go_at_call 6; refine (life_After.calls 1 3 2 0 false 0 _ (GB.below HG.out HB.out) (by kernel_rfl)).mono ?_; rintro e_ w_ ⟨rfl, hb⟩; have HB1 := Aside0.mk (below_step HB.out hb); clear HB) | (go_at_call 9; (with_reducible refine (life_Hears.calls 2 false _ (by kernel_rfl)).mono ?_); rintro e_ w' ⟨rfl, ⟨nd, rfl⟩⟩) | (go_at_call 10; (with_reducible refine (life_Says.calls 2 true _ (by kernel_rfl)).mono ?_); rintro e_ w' ⟨rfl, ⟨nd, rfl⟩⟩))
                go_roundg k1
                case measure => omega
                case rel => exact ⟨_, _, _, _, _, i + 1, rfl, rfl, rfl, rfl, rfl, (by first | rfl | rw [HW.out]), ⟨by decide⟩, ⟨by have := HK.out; omega⟩, ⟨by repeat (first | exact HB2.out | exact HB1.out | apply below_alloc | apply pw_below_drewN | apply below_drew1)⟩⟩
            · -- state (1, true, false, false, false), event 4: on
              as_aux_lemma =>
                go_wp2_with (first | (go_at_call 6; refine (life_After.calls 1 4 4 0 false 0 _ (GB.below HG.out HB.out) (by kernel_rfl)).mono ?_; rintro e_ w_ ⟨rfl, hb⟩; have HB1 := Aside0.mk (below_step HB.out hb); clear HB) | (go_at_call 9; (with_reducible refine (life_Hears.calls 4 false _ (by kernel_rfl)).mono ?_); rintro e_ w' ⟨rfl, ⟨nd, rfl⟩⟩) | (go_at_call 10; (with_reducible refine (life_Says.calls 4 false _ (by kernel_rfl)).mono ?_); rintro e_ w' ⟨rfl, ⟨nd, rfl⟩⟩))
                go_roundg k1
                case measure => omega
                case rel => exact ⟨_, _, _, _, _, i + 1, rfl, rfl, rfl, rfl, rfl, (by first | rfl | rw [HW.out]), ⟨by decide⟩, ⟨by have := HK.out; omega⟩, ⟨by repeat (first | exact HB2.out | exact HB1.out | apply below_alloc | apply pw_below_drewN | apply below_drew1)⟩⟩
            · -- state (1, true, false, false, false), event 5: on
              as_aux_lemma =>
                go_wp2_with (first | (go_at_call 6; refine (life_After.calls 1 5 1 0 false 0 _ (GB.below HG.out HB.out) (by kernel_rfl)).mono ?_; rintro e_ w_ ⟨rfl, hb⟩; have HB1 := Aside0.mk (below_step HB.out hb); clear HB) | (go_at_call 9; (with_reducible refine (life_Hears.calls 1 true _ (by kernel_rfl)).mono ?_); rintro e_ w' ⟨rfl, ⟨nd, rfl⟩⟩) | (go_at_call 10; (with_reducible refine (life_Says.calls 1 true _ (by kernel_rfl)).mono ?_); rintro e_ w' ⟨rfl, ⟨nd, rfl⟩⟩))
                go_roundg k1
                case measure => omega
                case rel => exact ⟨_, _, _, _, _, i + 1, rfl, rfl, rfl, rfl, rfl, (by first | rfl | rw [HW.out]), ⟨by decide⟩, ⟨by have := HK.out; omega⟩, ⟨by repeat (first | exact HB2.out | exact HB1.out | apply below_alloc | apply pw_below_drewN | apply below_drew1)⟩⟩
            · -- state (1, true, false, false, false), event 6: on
              as_aux_lemma =>
                go_wp2_with (first | (go_at_call 6; refine (life_After.calls 1 6 1 0 false 0 _ (GB.below HG.out HB.out) (by kernel_rfl)).mono ?_; rintro e_ w_ ⟨rfl, hb⟩; have HB1 := Aside0.mk (below_step HB.out hb); clear HB) | (go_at_call 9; (with_reducible refine (life_Hears.calls 1 true _ (by kernel_rfl)).mono ?_); rintro e_ w' ⟨rfl, ⟨nd, rfl⟩⟩) | (go_at_call 10; (with_reducible refine (life_Says.calls 1 true _ (by kernel_rfl)).mono ?_); rintro e_ w' ⟨rfl, ⟨nd, rfl⟩⟩))
                go_roundg k1
                case measure => omega
                case rel => exact ⟨_, _, _, _, _, i + 1, rfl, rfl, rfl, rfl, rfl, (by first | rfl | rw [HW.out]), ⟨by decide⟩, ⟨by have := HK.out; omega⟩, ⟨by repeat (first | exact HB2.out | exact HB1.out | apply below_alloc | apply pw_below_drewN | apply below_drew1)⟩⟩
            · -- state (1, true, false, false, false), event 7: on
              as_aux_lemma =>
                go_wp2_with (first | (go_at_call 6; refine (life_After.calls 1 7 3 0 false 0 _ (GB.below HG.out HB.out) (by kernel_rfl)).mono ?_; rintro e_ w_ ⟨rfl, hb⟩; have HB1 := Aside0.mk (below_step HB.out hb); clear HB) | (go_at_call 9; (with_reducible refine (life_Hears.calls 3 true _ (by kernel_rfl)).mono ?_); rintro e_ w' ⟨rfl, ⟨nd, rfl⟩⟩) | (go_at_call 10; (with_reducible refine (life_Says.calls 3 false _ (by kernel_rfl)).mono ?_); rintro e_ w' ⟨rfl, ⟨nd, rfl⟩⟩))
                go_roundg k1
                case measure => omega
                case rel => exact ⟨_, _, _, _, _, i + 1, rfl, rfl, rfl, rfl, rfl, (by first | rfl | rw [HW.out]), ⟨by decide⟩, ⟨by have := HK.out; omega⟩, ⟨by repeat (first | exact HB2.out | exact HB1.out | apply below_alloc | apply pw_below_drewN | apply below_drew1)⟩⟩
            · -- state (1, true, false, false, false), event 8: on
              as_aux_lemma =>
                go_wp2_with (first | (go_at_call 6; refine (life_After.calls 1 8 4 0 false 0 _ (GB.below HG.out HB.out) (by kernel_rfl)).mono ?_; rintro e_ w_ ⟨rfl, hb⟩; have HB1 := Aside0.mk (below_step HB.out hb); clear HB) | (go_at_call 9; (with_reducible refine (life_Hears.calls 4 false _ (by kernel_rfl)).mono ?_); rintro e_ w' ⟨rfl, ⟨nd, rfl⟩⟩) | (go_at_call 10; (with_reducible refine (life_Says.calls 4 false _ (by kernel_rfl)).mono ?_); rintro e_ w' ⟨rfl, ⟨nd, rfl⟩⟩))
                go_roundg k1
                case measure => omega
                case rel => exact ⟨_, _, _, _, _, i + 1, rfl, rfl, rfl, rfl, rfl, (by first | rfl | rw [HW.out]), ⟨by decide⟩, ⟨by have := HK.out; omega⟩, ⟨by repeat (first | exact HB2.out | exact HB1.out | apply below_alloc | apply pw_below_drewN | apply below_drew1)⟩⟩
          · rcases he with rfl | rfl | rfl | rfl | rfl | rfl | rfl | rfl | rfl
            · -- state (2, true, true, false, false), event 0: on
              as_aux_lemma =>
                go_wp2_with (first | (go_at_call 6; refine (life_After.calls 2 8 4 0 false 0 _ (GB.below HG.out (below_alloc HB1.out _)) (by kernel_rfl)).mono ?_; rintro e_ w2_ ⟨rfl, hb2⟩; have hn : w2_.heap[w_.heap.size]? = some (.cells #[.int .i64 2, .int .i64 5, .bool false] 25) := (hb2.block _ (alloc_lt _ _)).trans (blk_new _ _); have hn0 : w2_.cell? ⟨w_.heap.size, 0, none⟩ = some (.int .i64 2) := (blk_cell hn 0).trans rfl; have hn1 : w2_.cell? ⟨w_.heap.size, 1, none⟩ = some (.int .i64 5) := (blk_cell hn 1).trans rfl; have hn2 : w2_.cell? ⟨w_.heap.size, 2, none⟩ = some (.bool false) := (blk_cell hn 2).trans rfl; have hlt2 : w_.heap.size < w2_.heap.size := blk_lt hn; have hne2 : w_.heap.size ≠ w2_.heap.size := Nat.ne_of_lt hlt2; have HB2 := Aside0.mk (below_step (below_alloc HB1.out _) hb2); clear HB1) | (go_at_call 6; refine (life_After.calls 2 0 2 5 false 0 _ (GB.below HG.out HB.out) (by kernel_rfl)).mono ?_; rintro e_ w_ ⟨rfl, hb⟩; have HB1 := Aside0.mk (below_step HB.out hb); clear HB) | fail)
                go_roundg k1
                case measure => omega
                case rel => exact ⟨_, _, _, _, _, i + 1, rfl, rfl, rfl, rfl, rfl, (by first | rfl | rw [HW.out]), ⟨by decide⟩, ⟨by have := HK.out; omega⟩, ⟨by repeat (first | exact HB2.out | exact HB1.out | apply below_alloc | apply pw_below_drewN | apply below_drew1)⟩⟩
            · -- state (2, true, true, false, false), event 1: on
              as_aux_lemma =>
                go_wp2_with (first | (go_at_call 6; refine (life_After.calls 2 8 4 0 false 0 _ (GB.below HG.out (below_alloc HB1.out _)) (by kernel_rfl)).mono ?_; rintro e_ w2_ ⟨rfl, hb2⟩; have hn : w2_.heap[w_.heap.size]? = some (.cells #[.int .i64 2, .int .i64 5, .bool false] 25) := (hb2.block _ (alloc_lt _ _)).trans (blk_new _ _); have hn0 : w2_.cell? ⟨w_.heap.size, 0, none⟩ = some (.int .i64 2) := (blk_cell hn 0).trans rfl; have hn1 : w2_.cell? ⟨w_.heap.size, 1, none⟩ = some (.int .i64 5) := (blk_cell hn 1).trans rfl; have hn2 : w2_.cell? ⟨w_.heap.size, 2, none⟩ = some (.bool false) := (blk_cell hn 2).trans rfl; have hlt2 : w_.heap.size < w2_.heap.size := blk_lt hn; have hne2 : w_.heap.size ≠ w2_.heap.size := Nat.ne_of_lt hlt2; have HB2 := Aside0.mk (below_step (below_alloc HB1.out _) hb2); clear HB1) | (go_at_call 6; refine (life_After.calls 2 1 2 5 false 0 _ (GB.below HG.out HB.out) (by kernel_rfl)).mono ?_; rintro e_ w_ ⟨rfl, hb⟩; have HB1 := Aside0.mk (below_step HB.out hb); clear HB) | fail)
                go_roundg k1
                case measure => omega
                case rel => exact ⟨_, _, _, _, _, i + 1, rfl, rfl, rfl, rfl, rfl, (by first | rfl | rw [HW.out]), ⟨by decide⟩, ⟨by have := HK.out; omega⟩, ⟨by repeat (first | exact HB2.out | exact HB1.out | apply below_alloc | apply pw_below_drewN | apply below_drew1)⟩⟩
            · -- state (2, true, true, false, false), event 2: on
              as_aux_lemma =>
                go_wp2_with (first | (go_at_call 6; refine (life_After.calls 2 8 4 0 false 0 _ (GB.below HG.out (below_alloc HB1.out _)) (by kernel_rfl)).mono ?_; rintro e_ w2_ ⟨rfl, hb2⟩; have hn : w2_.heap[w_.heap.size]? = some (.cells #[.int .i64 2, .int .i64 5, .bool false] 25) := (hb2.block _ (alloc_lt _ _)).trans (blk_new _ _); have hn0 : w2_.cell? ⟨w_.heap.size, 0, none⟩ = some (.int .i64 2) := (blk_cell hn 0).trans rfl; have hn1 : w2_.cell? ⟨w_.heap.size, 1, none⟩ = some (.int .i64 5) := (blk_cell hn 1).trans rfl; have hn2 : w2_.cell? ⟨w_.heap.size, 2, none⟩ = some (.bool false) := (blk_cell hn 2).trans rfl; have hlt2 : w_.heap.size < w2_.heap.size := blk_lt hn; have hne2 : w_.heap.size ≠ w2_.heap.size := Nat.ne_of_lt hlt2; have HB2 := Aside0.mk (below_step (below_alloc HB1.out _) hb2); clear HB1) | (go_at_call 6; refine (life_After.calls 2 2 2 5 false 0 _ (GB.below HG.out HB.out) (by kernel_rfl)).mono ?_; rintro e_ w_ ⟨rfl, hb⟩; have HB1 := Aside0.mk (below_step HB.out hb); clear HB) | fail)
                go_roundg k1
                case measure => omega
                case rel => exact ⟨_, _, _, _, _, i + 1, rfl, rfl, rfl, rfl, rfl, (by first | rfl | rw [HW.out]), ⟨by decide⟩, ⟨by have := HK.out; omega⟩, ⟨by repeat (first | exact HB2.out | exact HB1.out | apply below_alloc | apply pw_below_drewN | apply below_drew1)⟩⟩
            · -- state (2, true, true, false, false), event 3: on
              as_aux_lemma =>
                go_wp2_with (first | (go_at_call 6; refine (life_After.calls 2 8 4 0 false 0 _ (GB.below HG.out (below_alloc HB1.out _)) (by kernel_rfl)).mono ?_; rintro e_ w2_ ⟨rfl, hb2⟩; have hn : w2_.heap[w_.heap.size]? = some (.cells #[.int .i64 2, .int .i64 5, .bool false] 25) := (hb2.block _ (alloc_lt _ _)).trans (blk_new _ _); have hn0 : w2_.cell? ⟨w_.heap.size, 0, none⟩ = some (.int .i64 2) := (blk_cell hn 0).trans rfl; have hn1 : w2_.cell? ⟨w_.heap.size, 1, none⟩ = some (.int .i64 5) := (blk_cell hn 1).trans rfl; have hn2 : w2_.cell? ⟨w_.heap.size, 2, none⟩ = some (.bool false) := (blk_cell hn 2).trans rfl; have hlt2 : w_.heap.size < w2_.heap.size := blk_lt hn; have hne2 : w_.heap.size ≠ w2_.heap.size := Nat.ne_of_lt hlt2; have HB2 := Aside0.mk (below_step (below_alloc HB1.out _) hb2); clear HB1) | (go_at_call 6; refine (life_After.calls 2 3 2 5 false 0 _ (GB.below HG.out HB.out) (by kernel_rfl)).mono ?_; rintro e_ w_ ⟨rfl, hb⟩; have HB1 := Aside0.mk (below_step HB.out hb); clear HB) | fail)
                go_roundg k1
                case measure => omega
                case rel => exact ⟨_, _, _, _, _, i + 1, rfl, rfl, rfl, rfl, rfl, (by first | rfl | rw [HW.out]), ⟨by decide⟩, ⟨by have := HK.out; omega⟩, ⟨by repeat (first | exact HB2.out | exact HB1.out | apply below_alloc | apply pw_below_drewN | apply below_drew1)⟩⟩
            · -- state (2, true, true, false, false), event 4: on
              as_aux_lemma =>
                go_wp2_with (first | (go_at_call 6; refine (life_After.calls 2 4 4 0 false 0 _ (GB.below HG.out HB.out) (by kernel_rfl)).mono ?_; rintro e_ w_ ⟨rfl, hb⟩; have HB1 := Aside0.mk (below_step HB.out hb); clear HB) | (go_at_call 9; (with_reducible refine (life_Hears.calls 4 false _ (by kernel_rfl)).mono ?_); rintro e_ w' ⟨rfl, ⟨nd, rfl⟩⟩) | (go_at_call 10; (with_reducible refine (life_Says.calls 4 false _ (by kernel_rfl)).mono ?_); rintro e_ w' ⟨rfl, ⟨nd, rfl⟩⟩))
                go_roundg k1
                case measure => omega
                case rel => exact ⟨_, _, _, _, _, i + 1, rfl, rfl, rfl, rfl, rfl, (by first | rfl | rw [HW.out]), ⟨by decide⟩, ⟨by have := HK.out; omega⟩, ⟨by repeat (first | exact HB2.out | exact HB1.out | apply below_alloc | apply pw_below_drewN | apply below_drew1)⟩⟩
            · -- state (2, true, true, false, false), event 5: on
              as_aux_lemma =>
                go_wp2_with (first | (go_at_call 6; refine (life_After.calls 2 5 2 0 false 0 _ (GB.below HG.out HB.out) (by kernel_rfl)).mono ?_; rintro e_ w_ ⟨rfl, hb⟩; have HB1 := Aside0.mk (below_step HB.out hb); clear HB) | (go_at_call 9; (with_reducible refine (life_Hears.calls 2 false _ (by kernel_rfl)).mono ?_); rintro e_ w' ⟨rfl, ⟨nd, rfl⟩⟩) | (go_at_call 10; (with_reducible refine (life_Says.calls 2 true _ (by kernel_rfl)).mono ?_); rintro e_ w' ⟨rfl, ⟨nd, rfl⟩⟩))
                go_roundg k1
                case measure => omega
                case rel => exact ⟨_, _, _, _, _, i + 1, rfl, rfl, rfl, rfl, rfl, (by first | rfl | rw [HW.out]), ⟨by decide⟩, ⟨by have := HK.out; omega⟩, ⟨by repeat (first | exact HB2.out | exact HB1.out | apply below_alloc | apply pw_below_drewN | apply below_drew1)⟩⟩
            · -- state (2, true, true, false, false), event 6: on
              as_aux_lemma =>
                go_wp2_with (first | (go_at_call 6; refine (life_After.calls 2 6 2 0 false 0 _ (GB.below HG.out HB.out) (by kernel_rfl)).mono ?_; rintro e_ w_ ⟨rfl, hb⟩; have HB1 := Aside0.mk (below_step HB.out hb); clear HB) | (go_at_call 9; (with_reducible refine (life_Hears.calls 2 false _ (by kernel_rfl)).mono ?_); rintro e_ w' ⟨rfl, ⟨nd, rfl⟩⟩) | (go_at_call 10; (with_reducible refine (life_Says.calls 2 true _ (by kernel_rfl)).mono ?_); rintro e_ w' ⟨rfl, ⟨nd, rfl⟩⟩))
                go_roundg k1
                case measure => omega
                case rel => exact ⟨_, _, _, _, _, i + 1, rfl, rfl, rfl, rfl, rfl, (by first | rfl | rw [HW.out]), ⟨by decide⟩, ⟨by have := HK.out; omega⟩, ⟨by repeat (first | exact HB2.out | exact HB1.out | apply below_alloc | apply pw_below_drewN | apply below_drew1)⟩⟩
            · -- state (2, true, true, false, false), event 7: on
              as_aux_lemma =>
                go_wp2_with (first | (go_at_call 6; refine (life_After.calls 2 7 4 0 false 0 _ (GB.below HG.out HB.out) (by kernel_rfl)).mono ?_; rintro e_ w_ ⟨rfl, hb⟩; have HB1 := Aside0.mk (below_step HB.out hb); clear HB) | (go_at_call 9; (with_reducible refine (life_Hears.calls 4 false _ (by kernel_rfl)).mono ?_); rintro e_ w' ⟨rfl, ⟨nd, rfl⟩⟩) | (go_at_call 10; (with_reducible refine (life_Says.calls 4 false _ (by kernel_rfl)).mono ?_); rintro e_ w' ⟨rfl, ⟨nd, rfl⟩⟩))
                go_roundg k1
                case measure => omega
                case rel => exact ⟨_, _, _, _, _, i + 1, rfl, rfl, rfl, rfl, rfl, (by first | rfl | rw [HW.out]), ⟨by decide⟩, ⟨by have := HK.out; omega⟩, ⟨by repeat (first | exact HB2.out | exact HB1.out | apply below_alloc | apply pw_below_drewN | apply below_drew1)⟩⟩
            · -- state (2, true, true, false, false), event 8: on
              as_aux_lemma =>
                go_wp2_with (first | (go_at_call 6; refine (life_After.calls 2 8 4 0 false 0 _ (GB.below HG.out HB.out) (by kernel_rfl)).mono ?_; rintro e_ w_ ⟨rfl, hb⟩; have HB1 := Aside0.mk (below_step HB.out hb); clear HB) | (go_at_call 9; (with_reducible refine (life_Hears.calls 4 false _ (by kernel_rfl)).mono ?_); rintro e_ w' ⟨rfl, ⟨nd, rfl⟩⟩) | (go_at_call 10; (with_reducible refine (life_Says.calls 4 false _ (by kernel_rfl)).mono ?_); rintro e_ w' ⟨rfl, ⟨nd, rfl⟩⟩))
                go_roundg k1
                case measure => omega
                case rel => exact ⟨_, _, _, _, _, i + 1, rfl, rfl, rfl, rfl, rfl, (by first | rfl | rw [HW.out]), ⟨by decide⟩, ⟨by have := HK.out; omega⟩, ⟨by repeat (first | exact HB2.out | exact HB1.out | apply below_alloc | apply pw_below_drewN | apply below_drew1)⟩⟩
          · rcases he with rfl | rfl | rfl | rfl | rfl | rfl | rfl | rfl | rfl
            · -- state (3, true, false, true, false), event 0: on
              as_aux_lemma =>
                go_wp2_with (first | (go_at_call 6; refine (life_After.calls 3 8 4 0 false 0 _ (GB.below HG.out (below_alloc HB1.out _)) (by kernel_rfl)).mono ?_; rintro e_ w2_ ⟨rfl, hb2⟩; have hn : w2_.heap[w_.heap.size]? = some (.cells #[.int .i64 3, .int .i64 1, .bool false] 25) := (hb2.block _ (alloc_lt _ _)).trans (blk_new _ _); have hn0 : w2_.cell? ⟨w_.heap.size, 0, none⟩ = some (.int .i64 3) := (blk_cell hn 0).trans rfl; have hn1 : w2_.cell? ⟨w_.heap.size, 1, none⟩ = some (.int .i64 1) := (blk_cell hn 1).trans rfl; have hn2 : w2_.cell? ⟨w_.heap.size, 2, none⟩ = some (.bool false) := (blk_cell hn 2).trans rfl; have hlt2 : w_.heap.size < w2_.heap.size := blk_lt hn; have hne2 : w_.heap.size ≠ w2_.heap.size := Nat.ne_of_lt hlt2; have HB2 := Aside0.mk (below_step (below_alloc HB1.out _) hb2); clear HB1) | (go_at_call 6; refine (life_After.calls 3 0 3 1 false 0 _ (GB.below HG.out HB.out) (by kernel_rfl)).mono ?_; rintro e_ w_ ⟨rfl, hb⟩; have HB1 := Aside0.mk (below_step HB.out hb); clear HB) | fail)
                go_roundg k1
                case measure => omega
                case rel => exact ⟨_, _, _, _, _, i + 1, rfl, rfl, rfl, rfl, rfl, (by first | rfl | rw [HW.out]), ⟨by decide⟩, ⟨by have := HK.out; omega⟩, ⟨by repeat (first | exact HB2.out | exact HB1.out | apply below_alloc | apply pw_below_drewN | apply below_drew1)⟩⟩
            · -- state (3, true, false, true, false), event 1: on
              as_aux_lemma =>
                go_wp2_with (first | (go_at_call 6; refine (life_After.calls 3 1 4 0 false 0 _ (GB.below HG.out HB.out) (by kernel_rfl)).mono ?_; rintro e_ w_ ⟨rfl, hb⟩; have HB1 := Aside0.mk (below_step HB.out hb); clear HB) | (go_at_call 9; (with_reducible refine (life_Hears.calls 4 false _ (by kernel_rfl)).mono ?_); rintro e_ w' ⟨rfl, ⟨nd, rfl⟩⟩) | (go_at_call 10; (with_reducible refine (life_Says.calls 4 false _ (by kernel_rfl)).mono ?_); rintro e_ w' ⟨rfl, ⟨nd, rfl⟩⟩))
                go_roundg k1
                case measure => omega
                case rel => exact ⟨_, _, _, _, _, i + 1, rfl, rfl, rfl, rfl, rfl, (by first | rfl | rw [HW.out]), ⟨by decide⟩, ⟨by have := HK.out; omega⟩, ⟨by repeat (first | exact HB2.out | exact HB1.out | apply below_alloc | apply pw_below_drewN | apply below_drew1)⟩⟩
            · -- state (3, true, false, true, false), event 2: on
              as_aux_lemma =>
                go_wp2_with (first | (go_at_call 6; refine (life_After.calls 3 2 3 0 false 0 _ (GB.below HG.out HB.out) (by kernel_rfl)).mono ?_; rintro e_ w_ ⟨rfl, hb⟩; have HB1 := Aside0.mk (below_step HB.out hb); clear HB) | (go_at_call 9; (with_reducible refine (life_Hears.calls 3 true _ (by kernel_rfl)).mono ?_); rintro e_ w' ⟨rfl, ⟨nd, rfl⟩⟩) | (go_at_call 10; (with_reducible refine (life_Says.calls 3 false _ (by kernel_rfl)).mono ?_); rintro e_ w' ⟨rfl, ⟨nd, rfl⟩⟩))
                go_roundg k1
                case measure => omega
                case rel => exact ⟨_, _, _, _, _, i + 1, rfl, rfl, rfl, rfl, rfl, (by first | rfl | rw [HW.out]), ⟨by decide⟩, ⟨by have := HK.out; omega⟩, ⟨by repeat (first | exact HB2.out | exact HB1.out | apply below_alloc | apply pw_below_drewN | apply below_drew1)⟩⟩
            · -- state (3, true, false, true, false), event 3: on
              as_aux_lemma =>
                go_wp2_with (first | (go_at_call 6; refine (life_After.calls 3 3 4 0 false 0 _ (GB.below HG.out HB.out) (by kernel_rfl)).mono ?_; rintro e_ w_ ⟨rfl, hb⟩; have HB1 := Aside0.mk (below_step HB.out hb); clear HB) | (go_at_call 9; (with_reducible refine (life_Hears.calls 4 false _ (by kernel_rfl)).mono ?_); rintro e_ w' ⟨rfl, ⟨nd, rfl⟩⟩) | (go_at_call 10; (with_reducible refine (life_Says.calls 4 false _ (by kernel_rfl)).mono ?_); rintro e_ w' ⟨rfl, ⟨nd, rfl⟩⟩))
                go_roundg k1
                case measure => omega
                case rel => exact ⟨_, _, _, _, _, i + 1, rfl, rfl, rfl, rfl, rfl, (by first | rfl | rw [HW.out]), ⟨by decide⟩, ⟨by have := HK.out; omega⟩, ⟨by repeat (first | exact HB2.out | exact HB1.out | apply below_alloc | apply pw_below_drewN | apply below_drew1)⟩⟩
            · -- state (3, true, false, true, false), event 4: on
              as_aux_lemma =>
                go_wp2_with (first | (go_at_call 6; refine (life_After.calls 3 4 4 0 false 0 _ (GB.below HG.out HB.out) (by kernel_rfl)).mono ?_; rintro e_ w_ ⟨rfl, hb⟩; have HB1 := Aside0.mk (below_step HB.out hb); clear HB) | (go_at_call 9; (with_reducible refine (life_Hears.calls 4 false _ (by kernel_rfl)).mono ?_); rintro e_ w' ⟨rfl, ⟨nd, rfl⟩⟩) | (go_at_call 10; (with_reducible refine (life_Says.calls 4 false _ (by kernel_rfl)).mono ?_); rintro e_ w' ⟨rfl, ⟨nd, rfl⟩⟩))
                go_roundg k1
                case measure => omega
                case rel => exact ⟨_, _, _, _, _, i + 1, rfl, rfl, rfl, rfl, rfl, (by first | rfl | rw [HW.out]), ⟨by decide⟩, ⟨by have := HK.out; omega⟩, ⟨by repeat (first | exact HB2.out | exact HB1.out | apply below_alloc | apply pw_below_drewN | apply below_drew1)⟩⟩
            · -- state (3, true, false, true, false), event 5: on
              as_aux_lemma =>
                go_wp2_with (first | (go_at_call 6; refine (life_After.calls 3 5 3 0 false 0 _ (GB.below HG.out HB.out) (by kernel_rfl)).mono ?_; rintro e_ w_ ⟨rfl, hb⟩; have HB1 := Aside0.mk (below_step HB.out hb); clear HB) | (go_at_call 9; (with_reducible refine (life_Hears.calls 3 true _ (by kernel_rfl)).mono ?_); rintro e_ w' ⟨rfl, ⟨nd, rfl⟩⟩) | (go_at_call 10; (with_reducible refine (life_Says.calls 3 false _ (by kernel_rfl)).mono ?_); rintro e_ w' ⟨rfl, ⟨nd, rfl⟩⟩))
                go_roundg k1
                case measure => omega
                case rel => exact ⟨_, _, _, _, _, i + 1, rfl, rfl, rfl, rfl, rfl, (by first | rfl | rw [HW.out]), ⟨by decide⟩, ⟨by have := HK.out; omega⟩, ⟨by repeat (first | exact HB2.out | exact HB1.out | apply below_alloc | apply pw_below_drewN | apply below_drew1)⟩⟩
            · -- state (3, true, false, true, false), event 6: on
              as_aux_lemma =>
                go_wp2_with (first | (go_at_call 6; refine (life_After.calls 3 6 0 0 false 6 _ (GB.below HG.out HB.out) (by kernel_rfl)).mono ?_; rintro e_ w_ ⟨rfl, hb⟩; have HB1 := Aside0.mk (below_step HB.out hb); clear HB))
                go_roundg k1
                case measure => omega
                case rel => exact ⟨_, _, _, _, _, i + 1, rfl, rfl, rfl, rfl, rfl, (by first | rfl | rw [HW.out]), ⟨by decide⟩, ⟨by have := HK.out; omega⟩, ⟨by repeat (first | exact HB2.out | exact HB1.out | apply below_alloc | apply pw_below_drewN | apply below_drew1)⟩⟩
            · -- state (3, true, false, true, false), event 7: on
              as_aux_lemma =>
                go_wp2_with (first | (go_at_call 6; refine (life_After.calls 3 7 0 0 false 6 _ (GB.below HG.out HB.out) (by kernel_rfl)).mono ?_; rintro e_ w_ ⟨rfl, hb⟩; have HB1 := Aside0.mk (below_step HB.out hb); clear HB))
                go_roundg k1
                case measure => omega
                case rel => exact ⟨_, _, _, _, _, i + 1, rfl, rfl, rfl, rfl, rfl, (by first | rfl | rw [HW.out]), ⟨by decide⟩, ⟨by have := HK.out; omega⟩, ⟨by repeat (first | exact HB2.out | exact HB1.out | apply below_alloc | apply pw_below_drewN | apply below_drew1)⟩⟩
            · -- state (3, true, false, true, false), event 8: on
              as_aux_lemma =>
                go_wp2_with (first | (go_at_call 6; refine (life_After.calls 3 8 4 0 false 0 _ (GB.below HG.out HB.out) (by kernel_rfl)).mono ?_; rintro e_ w_ ⟨rfl, hb⟩; have HB1 := Aside0.mk (below_step HB.out hb); clear HB) | (go_at_call 9; (with_reducible refine (life_Hears.calls 4 false _ (by kernel_rfl)).mono ?_); rintro e_ w' ⟨rfl, ⟨nd, rfl⟩⟩) | (go_at_call 10; (with_reducible refine (life_Says.calls 4 false _ (by kernel_rfl)).mono ?_); rintro e_ w' ⟨rfl, ⟨nd, rfl⟩⟩))
                go_roundg k1
                case measure => omega
                case rel => exact ⟨_, _, _, _, _, i + 1, rfl, rfl, rfl, rfl, rfl, (by first | rfl | rw [HW.out]), ⟨by decide⟩, ⟨by have := HK.out; omega⟩, ⟨by repeat (first | exact HB2.out | exact HB1.out | apply below_alloc | apply pw_below_drewN | apply below_drew1)⟩⟩
          · rcases he with rfl | rfl | rfl | rfl | rfl | rfl | rfl | rfl | rfl
            · -- state (4, true, false, false, true), event 0: ret
              as_aux_lemma =>
                go_wp2_with (first | (go_at_call 8; refine (gantletlaw16_alive.calls true _ (GB.below HG.out (below_alloc HB1.out _)) (by kernel_rfl)).mono ?_; rintro e_ w2_ ⟨rfl, hb2⟩; have hn : w2_.heap[w_.heap.size]? = some (.cells #[.int .i64 4, .int .i64 5, .bool true] 25) := (hb2.block _ (alloc_lt _ _)).trans (blk_new _ _); have hn0 : w2_.cell? ⟨w_.heap.size, 0, none⟩ = some (.int .i64 4) := (blk_cell hn 0).trans rfl; have hn1 : w2_.cell? ⟨w_.heap.size, 1, none⟩ = some (.int .i64 5) := (blk_cell hn 1).trans rfl; have hn2 : w2_.cell? ⟨w_.heap.size, 2, none⟩ = some (.bool true) := (blk_cell hn 2).trans rfl; have hlt2 : w_.heap.size < w2_.heap.size := blk_lt hn; have hne2 : w_.heap.size ≠ w2_.heap.size := Nat.ne_of_lt hlt2; have HB2 := Aside0.mk (below_step (below_alloc HB1.out _) hb2); clear HB1) | (go_at_call 6; refine (life_After.calls 4 0 4 5 true 0 _ (GB.below HG.out HB.out) (by kernel_rfl)).mono ?_; rintro e_ w_ ⟨rfl, hb⟩; have HB1 := Aside0.mk (below_step HB.out hb); clear HB))
                go_ret
                exact ⟨rfl, by repeat (first | exact HB2.out | exact HB1.out | apply below_alloc | apply pw_below_drewN | apply below_drew1)⟩
            · -- state (4, true, false, false, true), event 1: ret
              as_aux_lemma =>
                go_wp2_with (first | (go_at_call 8; refine (gantletlaw16_alive.calls true _ (GB.below HG.out (below_alloc HB1.out _)) (by kernel_rfl)).mono ?_; rintro e_ w2_ ⟨rfl, hb2⟩; have hn : w2_.heap[w_.heap.size]? = some (.cells #[.int .i64 4, .int .i64 5, .bool true] 25) := (hb2.block _ (alloc_lt _ _)).trans (blk_new _ _); have hn0 : w2_.cell? ⟨w_.heap.size, 0, none⟩ = some (.int .i64 4) := (blk_cell hn 0).trans rfl; have hn1 : w2_.cell? ⟨w_.heap.size, 1, none⟩ = some (.int .i64 5) := (blk_cell hn 1).trans rfl; have hn2 : w2_.cell? ⟨w_.heap.size, 2, none⟩ = some (.bool true) := (blk_cell hn 2).trans rfl; have hlt2 : w_.heap.size < w2_.heap.size := blk_lt hn; have hne2 : w_.heap.size ≠ w2_.heap.size := Nat.ne_of_lt hlt2; have HB2 := Aside0.mk (below_step (below_alloc HB1.out _) hb2); clear HB1) | (go_at_call 6; refine (life_After.calls 4 1 4 5 true 0 _ (GB.below HG.out HB.out) (by kernel_rfl)).mono ?_; rintro e_ w_ ⟨rfl, hb⟩; have HB1 := Aside0.mk (below_step HB.out hb); clear HB))
                go_ret
                exact ⟨rfl, by repeat (first | exact HB2.out | exact HB1.out | apply below_alloc | apply pw_below_drewN | apply below_drew1)⟩
            · -- state (4, true, false, false, true), event 2: ret
              as_aux_lemma =>
                go_wp2_with (first | (go_at_call 8; refine (gantletlaw16_alive.calls true _ (GB.below HG.out (below_alloc HB1.out _)) (by kernel_rfl)).mono ?_; rintro e_ w2_ ⟨rfl, hb2⟩; have hn : w2_.heap[w_.heap.size]? = some (.cells #[.int .i64 4, .int .i64 5, .bool true] 25) := (hb2.block _ (alloc_lt _ _)).trans (blk_new _ _); have hn0 : w2_.cell? ⟨w_.heap.size, 0, none⟩ = some (.int .i64 4) := (blk_cell hn 0).trans rfl; have hn1 : w2_.cell? ⟨w_.heap.size, 1, none⟩ = some (.int .i64 5) := (blk_cell hn 1).trans rfl; have hn2 : w2_.cell? ⟨w_.heap.size, 2, none⟩ = some (.bool true) := (blk_cell hn 2).trans rfl; have hlt2 : w_.heap.size < w2_.heap.size := blk_lt hn; have hne2 : w_.heap.size ≠ w2_.heap.size := Nat.ne_of_lt hlt2; have HB2 := Aside0.mk (below_step (below_alloc HB1.out _) hb2); clear HB1) | (go_at_call 6; refine (life_After.calls 4 2 4 5 true 0 _ (GB.below HG.out HB.out) (by kernel_rfl)).mono ?_; rintro e_ w_ ⟨rfl, hb⟩; have HB1 := Aside0.mk (below_step HB.out hb); clear HB))
                go_ret
                exact ⟨rfl, by repeat (first | exact HB2.out | exact HB1.out | apply below_alloc | apply pw_below_drewN | apply below_drew1)⟩
            · -- state (4, true, false, false, true), event 3: ret
              as_aux_lemma =>
                go_wp2_with (first | (go_at_call 8; refine (gantletlaw16_alive.calls true _ (GB.below HG.out (below_alloc HB1.out _)) (by kernel_rfl)).mono ?_; rintro e_ w2_ ⟨rfl, hb2⟩; have hn : w2_.heap[w_.heap.size]? = some (.cells #[.int .i64 4, .int .i64 5, .bool true] 25) := (hb2.block _ (alloc_lt _ _)).trans (blk_new _ _); have hn0 : w2_.cell? ⟨w_.heap.size, 0, none⟩ = some (.int .i64 4) := (blk_cell hn 0).trans rfl; have hn1 : w2_.cell? ⟨w_.heap.size, 1, none⟩ = some (.int .i64 5) := (blk_cell hn 1).trans rfl; have hn2 : w2_.cell? ⟨w_.heap.size, 2, none⟩ = some (.bool true) := (blk_cell hn 2).trans rfl; have hlt2 : w_.heap.size < w2_.heap.size := blk_lt hn; have hne2 : w_.heap.size ≠ w2_.heap.size := Nat.ne_of_lt hlt2; have HB2 := Aside0.mk (below_step (below_alloc HB1.out _) hb2); clear HB1) | (go_at_call 6; refine (life_After.calls 4 3 4 5 true 0 _ (GB.below HG.out HB.out) (by kernel_rfl)).mono ?_; rintro e_ w_ ⟨rfl, hb⟩; have HB1 := Aside0.mk (below_step HB.out hb); clear HB))
                go_ret
                exact ⟨rfl, by repeat (first | exact HB2.out | exact HB1.out | apply below_alloc | apply pw_below_drewN | apply below_drew1)⟩
            · -- state (4, true, false, false, true), event 4: on
              as_aux_lemma =>
                go_wp2_with (first | (go_at_call 6; refine (life_After.calls 4 4 4 0 false 0 _ (GB.below HG.out HB.out) (by kernel_rfl)).mono ?_; rintro e_ w_ ⟨rfl, hb⟩; have HB1 := Aside0.mk (below_step HB.out hb); clear HB) | (go_at_call 9; (with_reducible refine (life_Hears.calls 4 false _ (by kernel_rfl)).mono ?_); rintro e_ w' ⟨rfl, ⟨nd, rfl⟩⟩) | (go_at_call 10; (with_reducible refine (life_Says.calls 4 false _ (by kernel_rfl)).mono ?_); rintro e_ w' ⟨rfl, ⟨nd, rfl⟩⟩))
                go_roundg k1
                case measure => omega
                case rel => exact ⟨_, _, _, _, _, i + 1, rfl, rfl, rfl, rfl, rfl, (by first | rfl | rw [HW.out]), ⟨by decide⟩, ⟨by have := HK.out; omega⟩, ⟨by repeat (first | exact HB2.out | exact HB1.out | apply below_alloc | apply pw_below_drewN | apply below_drew1)⟩⟩
            · -- state (4, true, false, false, true), event 5: on
              as_aux_lemma =>
                go_wp2_with (first | (go_at_call 6; refine (life_After.calls 4 5 4 0 false 0 _ (GB.below HG.out HB.out) (by kernel_rfl)).mono ?_; rintro e_ w_ ⟨rfl, hb⟩; have HB1 := Aside0.mk (below_step HB.out hb); clear HB) | (go_at_call 9; (with_reducible refine (life_Hears.calls 4 false _ (by kernel_rfl)).mono ?_); rintro e_ w' ⟨rfl, ⟨nd, rfl⟩⟩) | (go_at_call 10; (with_reducible refine (life_Says.calls 4 false _ (by kernel_rfl)).mono ?_); rintro e_ w' ⟨rfl, ⟨nd, rfl⟩⟩))
                go_roundg k1
                case measure => omega
                case rel => exact ⟨_, _, _, _, _, i + 1, rfl, rfl, rfl, rfl, rfl, (by first | rfl | rw [HW.out]), ⟨by decide⟩, ⟨by have := HK.out; omega⟩, ⟨by repeat (first | exact HB2.out | exact HB1.out | apply below_alloc | apply pw_below_drewN | apply below_drew1)⟩⟩
            · -- state (4, true, false, false, true), event 6: on
              as_aux_lemma =>
                go_wp2_with (first | (go_at_call 6; refine (life_After.calls 4 6 0 0 false 6 _ (GB.below HG.out HB.out) (by kernel_rfl)).mono ?_; rintro e_ w_ ⟨rfl, hb⟩; have HB1 := Aside0.mk (below_step HB.out hb); clear HB))
                go_roundg k1
                case measure => omega
                case rel => exact ⟨_, _, _, _, _, i + 1, rfl, rfl, rfl, rfl, rfl, (by first | rfl | rw [HW.out]), ⟨by decide⟩, ⟨by have := HK.out; omega⟩, ⟨by repeat (first | exact HB2.out | exact HB1.out | apply below_alloc | apply pw_below_drewN | apply below_drew1)⟩⟩
            · -- state (4, true, false, false, true), event 7: on
              as_aux_lemma =>
                go_wp2_with (first | (go_at_call 6; refine (life_After.calls 4 7 0 0 false 6 _ (GB.below HG.out HB.out) (by kernel_rfl)).mono ?_; rintro e_ w_ ⟨rfl, hb⟩; have HB1 := Aside0.mk (below_step HB.out hb); clear HB))
                go_roundg k1
                case measure => omega
                case rel => exact ⟨_, _, _, _, _, i + 1, rfl, rfl, rfl, rfl, rfl, (by first | rfl | rw [HW.out]), ⟨by decide⟩, ⟨by have := HK.out; omega⟩, ⟨by repeat (first | exact HB2.out | exact HB1.out | apply below_alloc | apply pw_below_drewN | apply below_drew1)⟩⟩
            · -- state (4, true, false, false, true), event 8: on
              as_aux_lemma =>
                go_wp2_with (first | (go_at_call 6; refine (life_After.calls 4 8 0 0 false 6 _ (GB.below HG.out HB.out) (by kernel_rfl)).mono ?_; rintro e_ w_ ⟨rfl, hb⟩; have HB1 := Aside0.mk (below_step HB.out hb); clear HB))
                go_roundg k1
                case measure => omega
                case rel => exact ⟨_, _, _, _, _, i + 1, rfl, rfl, rfl, rfl, rfl, (by first | rfl | rw [HW.out]), ⟨by decide⟩, ⟨by have := HK.out; omega⟩, ⟨by repeat (first | exact HB2.out | exact HB1.out | apply below_alloc | apply pw_below_drewN | apply below_drew1)⟩⟩
          · rcases he with rfl | rfl | rfl | rfl | rfl | rfl | rfl | rfl | rfl
            · -- state (4, true, false, true, true), event 0: ret
              as_aux_lemma =>
                go_wp2_with (first | (go_at_call 8; refine (gantletlaw16_alive.calls true _ (GB.below HG.out (below_alloc HB1.out _)) (by kernel_rfl)).mono ?_; rintro e_ w2_ ⟨rfl, hb2⟩; have hn : w2_.heap[w_.heap.size]? = some (.cells #[.int .i64 4, .int .i64 5, .bool true] 25) := (hb2.block _ (alloc_lt _ _)).trans (blk_new _ _); have hn0 : w2_.cell? ⟨w_.heap.size, 0, none⟩ = some (.int .i64 4) := (blk_cell hn 0).trans rfl; have hn1 : w2_.cell? ⟨w_.heap.size, 1, none⟩ = some (.int .i64 5) := (blk_cell hn 1).trans rfl; have hn2 : w2_.cell? ⟨w_.heap.size, 2, none⟩ = some (.bool true) := (blk_cell hn 2).trans rfl; have hlt2 : w_.heap.size < w2_.heap.size := blk_lt hn; have hne2 : w_.heap.size ≠ w2_.heap.size := Nat.ne_of_lt hlt2; have HB2 := Aside0.mk (below_step (below_alloc HB1.out _) hb2); clear HB1) | (go_at_call 6; refine (life_After.calls 4 0 4 5 true 0 _ (GB.below HG.out HB.out) (by kernel_rfl)).mono ?_; rintro e_ w_ ⟨rfl, hb⟩; have HB1 := Aside0.mk (below_step HB.out hb); clear HB))
                go_ret
                exact ⟨rfl, by repeat (first | exact HB2.out | exact HB1.out | apply below_alloc | apply pw_below_drewN | apply below_drew1)⟩
            · -- state (4, true, false, true, true), event 1: ret
              as_aux_lemma =>
                go_wp2_with (first | (go_at_call 8; refine (gantletlaw16_alive.calls true _ (GB.below HG.out (below_alloc HB1.out _)) (by kernel_rfl)).mono ?_; rintro e_ w2_ ⟨rfl, hb2⟩; have hn : w2_.heap[w_.heap.size]? = some (.cells #[.int .i64 4, .int .i64 5, .bool true] 25) := (hb2.block _ (alloc_lt _ _)).trans (blk_new _ _); have hn0 : w2_.cell? ⟨w_.heap.size, 0, none⟩ = some (.int .i64 4) := (blk_cell hn 0).trans rfl; have hn1 : w2_.cell? ⟨w_.heap.size, 1, none⟩ = some (.int .i64 5) := (blk_cell hn 1).trans rfl; have hn2 : w2_.cell? ⟨w_.heap.size, 2, none⟩ = some (.bool true) := (blk_cell hn 2).trans rfl; have hlt2 : w_.heap.size < w2_.heap.size := blk_lt hn; have hne2 : w_.heap.size ≠ w2_.heap.size := Nat.ne_of_lt hlt2; have HB2 := Aside0.mk (below_step (below_alloc HB1.out _) hb2); clear HB1) | (go_at_call 6; refine (life_After.calls 4 1 4 5 true 0 _ (GB.below HG.out HB.out) (by kernel_rfl)).mono ?_; rintro e_ w_ ⟨rfl, hb⟩; have HB1 := Aside0.mk (below_step HB.out hb); clear HB))
                go_ret
                exact ⟨rfl, by repeat (first | exact HB2.out | exact HB1.out | apply below_alloc | apply pw_below_drewN | apply below_drew1)⟩
            · -- state (4, true, false, true, true), event 2: ret
              as_aux_lemma =>
                go_wp2_with (first | (go_at_call 8; refine (gantletlaw16_alive.calls true _ (GB.below HG.out (below_alloc HB1.out _)) (by kernel_rfl)).mono ?_; rintro e_ w2_ ⟨rfl, hb2⟩; have hn : w2_.heap[w_.heap.size]? = some (.cells #[.int .i64 4, .int .i64 5, .bool true] 25) := (hb2.block _ (alloc_lt _ _)).trans (blk_new _ _); have hn0 : w2_.cell? ⟨w_.heap.size, 0, none⟩ = some (.int .i64 4) := (blk_cell hn 0).trans rfl; have hn1 : w2_.cell? ⟨w_.heap.size, 1, none⟩ = some (.int .i64 5) := (blk_cell hn 1).trans rfl; have hn2 : w2_.cell? ⟨w_.heap.size, 2, none⟩ = some (.bool true) := (blk_cell hn 2).trans rfl; have hlt2 : w_.heap.size < w2_.heap.size := blk_lt hn; have hne2 : w_.heap.size ≠ w2_.heap.size := Nat.ne_of_lt hlt2; have HB2 := Aside0.mk (below_step (below_alloc HB1.out _) hb2); clear HB1) | (go_at_call 6; refine (life_After.calls 4 2 4 5 true 0 _ (GB.below HG.out HB.out) (by kernel_rfl)).mono ?_; rintro e_ w_ ⟨rfl, hb⟩; have HB1 := Aside0.mk (below_step HB.out hb); clear HB))
                go_ret
                exact ⟨rfl, by repeat (first | exact HB2.out | exact HB1.out | apply below_alloc | apply pw_below_drewN | apply below_drew1)⟩
            · -- state (4, true, false, true, true), event 3: ret
              as_aux_lemma =>
                go_wp2_with (first | (go_at_call 8; refine (gantletlaw16_alive.calls true _ (GB.below HG.out (below_alloc HB1.out _)) (by kernel_rfl)).mono ?_; rintro e_ w2_ ⟨rfl, hb2⟩; have hn : w2_.heap[w_.heap.size]? = some (.cells #[.int .i64 4, .int .i64 5, .bool true] 25) := (hb2.block _ (alloc_lt _ _)).trans (blk_new _ _); have hn0 : w2_.cell? ⟨w_.heap.size, 0, none⟩ = some (.int .i64 4) := (blk_cell hn 0).trans rfl; have hn1 : w2_.cell? ⟨w_.heap.size, 1, none⟩ = some (.int .i64 5) := (blk_cell hn 1).trans rfl; have hn2 : w2_.cell? ⟨w_.heap.size, 2, none⟩ = some (.bool true) := (blk_cell hn 2).trans rfl; have hlt2 : w_.heap.size < w2_.heap.size := blk_lt hn; have hne2 : w_.heap.size ≠ w2_.heap.size := Nat.ne_of_lt hlt2; have HB2 := Aside0.mk (below_step (below_alloc HB1.out _) hb2); clear HB1) | (go_at_call 6; refine (life_After.calls 4 3 4 5 true 0 _ (GB.below HG.out HB.out) (by kernel_rfl)).mono ?_; rintro e_ w_ ⟨rfl, hb⟩; have HB1 := Aside0.mk (below_step HB.out hb); clear HB))
                go_ret
                exact ⟨rfl, by repeat (first | exact HB2.out | exact HB1.out | apply below_alloc | apply pw_below_drewN | apply below_drew1)⟩
            · -- state (4, true, false, true, true), event 4: on
              as_aux_lemma =>
                go_wp2_with (first | (go_at_call 6; refine (life_After.calls 4 4 4 0 false 0 _ (GB.below HG.out HB.out) (by kernel_rfl)).mono ?_; rintro e_ w_ ⟨rfl, hb⟩; have HB1 := Aside0.mk (below_step HB.out hb); clear HB) | (go_at_call 9; (with_reducible refine (life_Hears.calls 4 false _ (by kernel_rfl)).mono ?_); rintro e_ w' ⟨rfl, ⟨nd, rfl⟩⟩) | (go_at_call 10; (with_reducible refine (life_Says.calls 4 false _ (by kernel_rfl)).mono ?_); rintro e_ w' ⟨rfl, ⟨nd, rfl⟩⟩))
                go_roundg k1
                case measure => omega
                case rel => exact ⟨_, _, _, _, _, i + 1, rfl, rfl, rfl, rfl, rfl, (by first | rfl | rw [HW.out]), ⟨by decide⟩, ⟨by have := HK.out; omega⟩, ⟨by repeat (first | exact HB2.out | exact HB1.out | apply below_alloc | apply pw_below_drewN | apply below_drew1)⟩⟩
            · -- state (4, true, false, true, true), event 5: on
              as_aux_lemma =>
                go_wp2_with (first | (go_at_call 6; refine (life_After.calls 4 5 4 0 false 0 _ (GB.below HG.out HB.out) (by kernel_rfl)).mono ?_; rintro e_ w_ ⟨rfl, hb⟩; have HB1 := Aside0.mk (below_step HB.out hb); clear HB) | (go_at_call 9; (with_reducible refine (life_Hears.calls 4 false _ (by kernel_rfl)).mono ?_); rintro e_ w' ⟨rfl, ⟨nd, rfl⟩⟩) | (go_at_call 10; (with_reducible refine (life_Says.calls 4 false _ (by kernel_rfl)).mono ?_); rintro e_ w' ⟨rfl, ⟨nd, rfl⟩⟩))
                go_roundg k1
                case measure => omega
                case rel => exact ⟨_, _, _, _, _, i + 1, rfl, rfl, rfl, rfl, rfl, (by first | rfl | rw [HW.out]), ⟨by decide⟩, ⟨by have := HK.out; omega⟩, ⟨by repeat (first | exact HB2.out | exact HB1.out | apply below_alloc | apply pw_below_drewN | apply below_drew1)⟩⟩
            · -- state (4, true, false, true, true), event 6: on
              as_aux_lemma =>
                go_wp2_with (first | (go_at_call 6; refine (life_After.calls 4 6 0 0 false 6 _ (GB.below HG.out HB.out) (by kernel_rfl)).mono ?_; rintro e_ w_ ⟨rfl, hb⟩; have HB1 := Aside0.mk (below_step HB.out hb); clear HB))
                go_roundg k1
                case measure => omega
                case rel => exact ⟨_, _, _, _, _, i + 1, rfl, rfl, rfl, rfl, rfl, (by first | rfl | rw [HW.out]), ⟨by decide⟩, ⟨by have := HK.out; omega⟩, ⟨by repeat (first | exact HB2.out | exact HB1.out | apply below_alloc | apply pw_below_drewN | apply below_drew1)⟩⟩
            · -- state (4, true, false, true, true), event 7: on
              as_aux_lemma =>
                go_wp2_with (first | (go_at_call 6; refine (life_After.calls 4 7 0 0 false 6 _ (GB.below HG.out HB.out) (by kernel_rfl)).mono ?_; rintro e_ w_ ⟨rfl, hb⟩; have HB1 := Aside0.mk (below_step HB.out hb); clear HB))
                go_roundg k1
                case measure => omega
                case rel => exact ⟨_, _, _, _, _, i + 1, rfl, rfl, rfl, rfl, rfl, (by first | rfl | rw [HW.out]), ⟨by decide⟩, ⟨by have := HK.out; omega⟩, ⟨by repeat (first | exact HB2.out | exact HB1.out | apply below_alloc | apply pw_below_drewN | apply below_drew1)⟩⟩
            · -- state (4, true, false, true, true), event 8: on
              as_aux_lemma =>
                go_wp2_with (first | (go_at_call 6; refine (life_After.calls 4 8 0 0 false 6 _ (GB.below HG.out HB.out) (by kernel_rfl)).mono ?_; rintro e_ w_ ⟨rfl, hb⟩; have HB1 := Aside0.mk (below_step HB.out hb); clear HB))
                go_roundg k1
                case measure => omega
                case rel => exact ⟨_, _, _, _, _, i + 1, rfl, rfl, rfl, rfl, rfl, (by first | rfl | rw [HW.out]), ⟨by decide⟩, ⟨by have := HK.out; omega⟩, ⟨by repeat (first | exact HB2.out | exact HB1.out | apply below_alloc | apply pw_below_drewN | apply below_drew1)⟩⟩
          · rcases he with rfl | rfl | rfl | rfl | rfl | rfl | rfl | rfl | rfl
            · -- state (4, true, true, false, true), event 0: ret
              as_aux_lemma =>
                go_wp2_with (first | (go_at_call 8; refine (gantletlaw16_alive.calls true _ (GB.below HG.out (below_alloc HB1.out _)) (by kernel_rfl)).mono ?_; rintro e_ w2_ ⟨rfl, hb2⟩; have hn : w2_.heap[w_.heap.size]? = some (.cells #[.int .i64 4, .int .i64 5, .bool true] 25) := (hb2.block _ (alloc_lt _ _)).trans (blk_new _ _); have hn0 : w2_.cell? ⟨w_.heap.size, 0, none⟩ = some (.int .i64 4) := (blk_cell hn 0).trans rfl; have hn1 : w2_.cell? ⟨w_.heap.size, 1, none⟩ = some (.int .i64 5) := (blk_cell hn 1).trans rfl; have hn2 : w2_.cell? ⟨w_.heap.size, 2, none⟩ = some (.bool true) := (blk_cell hn 2).trans rfl; have hlt2 : w_.heap.size < w2_.heap.size := blk_lt hn; have hne2 : w_.heap.size ≠ w2_.heap.size := Nat.ne_of_lt hlt2; have HB2 := Aside0.mk (below_step (below_alloc HB1.out _) hb2); clear HB1) | (go_at_call 6; refine (life_After.calls 4 0 4 5 true 0 _ (GB.below HG.out HB.out) (by kernel_rfl)).mono ?_; rintro e_ w_ ⟨rfl, hb⟩; have HB1 := Aside0.mk (below_step HB.out hb); clear HB))
                go_ret
                exact ⟨rfl, by repeat (first | exact HB2.out | exact HB1.out | apply below_alloc | apply pw_below_drewN | apply below_drew1)⟩
            · -- state (4, true, true, false, true), event 1: ret
              as_aux_lemma =>
                go_wp2_with (first | (go_at_call 8; refine (gantletlaw16_alive.calls true _ (GB.below HG.out (below_alloc HB1.out _)) (by kernel_rfl)).mono ?_; rintro e_ w2_ ⟨rfl, hb2⟩; have hn : w2_.heap[w_.heap.size]? = some (.cells #[.int .i64 4, .int .i64 5, .bool true] 25) := (hb2.block _ (alloc_lt _ _)).trans (blk_new _ _); have hn0 : w2_.cell? ⟨w_.heap.size, 0, none⟩ = some (.int .i64 4) := (blk_cell hn 0).trans rfl; have hn1 : w2_.cell? ⟨w_.heap.size, 1, none⟩ = some (.int .i64 5) := (blk_cell hn 1).trans rfl; have hn2 : w2_.cell? ⟨w_.heap.size, 2, none⟩ = some (.bool true) := (blk_cell hn 2).trans rfl; have hlt2 : w_.heap.size < w2_.heap.size := blk_lt hn; have hne2 : w_.heap.size ≠ w2_.heap.size := Nat.ne_of_lt hlt2; have HB2 := Aside0.mk (below_step (below_alloc HB1.out _) hb2); clear HB1) | (go_at_call 6; refine (life_After.calls 4 1 4 5 true 0 _ (GB.below HG.out HB.out) (by kernel_rfl)).mono ?_; rintro e_ w_ ⟨rfl, hb⟩; have HB1 := Aside0.mk (below_step HB.out hb); clear HB))
                go_ret
                exact ⟨rfl, by repeat (first | exact HB2.out | exact HB1.out | apply below_alloc | apply pw_below_drewN | apply below_drew1)⟩
            · -- state (4, true, true, false, true), event 2: ret
              as_aux_lemma =>
                go_wp2_with (first | (go_at_call 8; refine (gantletlaw16_alive.calls true _ (GB.below HG.out (below_alloc HB1.out _)) (by kernel_rfl)).mono ?_; rintro e_ w2_ ⟨rfl, hb2⟩; have hn : w2_.heap[w_.heap.size]? = some (.cells #[.int .i64 4, .int .i64 5, .bool true] 25) := (hb2.block _ (alloc_lt _ _)).trans (blk_new _ _); have hn0 : w2_.cell? ⟨w_.heap.size, 0, none⟩ = some (.int .i64 4) := (blk_cell hn 0).trans rfl; have hn1 : w2_.cell? ⟨w_.heap.size, 1, none⟩ = some (.int .i64 5) := (blk_cell hn 1).trans rfl; have hn2 : w2_.cell? ⟨w_.heap.size, 2, none⟩ = some (.bool true) := (blk_cell hn 2).trans rfl; have hlt2 : w_.heap.size < w2_.heap.size := blk_lt hn; have hne2 : w_.heap.size ≠ w2_.heap.size := Nat.ne_of_lt hlt2; have HB2 := Aside0.mk (below_step (below_alloc HB1.out _) hb2); clear HB1) | (go_at_call 6; refine (life_After.calls 4 2 4 5 true 0 _ (GB.below HG.out HB.out) (by kernel_rfl)).mono ?_; rintro e_ w_ ⟨rfl, hb⟩; have HB1 := Aside0.mk (below_step HB.out hb); clear HB))
                go_ret
                exact ⟨rfl, by repeat (first | exact HB2.out | exact HB1.out | apply below_alloc | apply pw_below_drewN | apply below_drew1)⟩
            · -- state (4, true, true, false, true), event 3: ret
              as_aux_lemma =>
                go_wp2_with (first | (go_at_call 8; refine (gantletlaw16_alive.calls true _ (GB.below HG.out (below_alloc HB1.out _)) (by kernel_rfl)).mono ?_; rintro e_ w2_ ⟨rfl, hb2⟩; have hn : w2_.heap[w_.heap.size]? = some (.cells #[.int .i64 4, .int .i64 5, .bool true] 25) := (hb2.block _ (alloc_lt _ _)).trans (blk_new _ _); have hn0 : w2_.cell? ⟨w_.heap.size, 0, none⟩ = some (.int .i64 4) := (blk_cell hn 0).trans rfl; have hn1 : w2_.cell? ⟨w_.heap.size, 1, none⟩ = some (.int .i64 5) := (blk_cell hn 1).trans rfl; have hn2 : w2_.cell? ⟨w_.heap.size, 2, none⟩ = some (.bool true) := (blk_cell hn 2).trans rfl; have hlt2 : w_.heap.size < w2_.heap.size := blk_lt hn; have hne2 : w_.heap.size ≠ w2_.heap.size := Nat.ne_of_lt hlt2; have HB2 := Aside0.mk (below_step (below_alloc HB1.out _) hb2); clear HB1) | (go_at_call 6; refine (life_After.calls 4 3 4 5 true 0 _ (GB.below HG.out HB.out) (by kernel_rfl)).mono ?_; rintro e_ w_ ⟨rfl, hb⟩; have HB1 := Aside0.mk (below_step HB.out hb); clear HB))
                go_ret
                exact ⟨rfl, by repeat (first | exact HB2.out | exact HB1.out | apply below_alloc | apply pw_below_drewN | apply below_drew1)⟩
            · -- state (4, true, true, false, true), event 4: on
              as_aux_lemma =>
                go_wp2_with (first | (go_at_call 6; refine (life_After.calls 4 4 4 0 false 0 _ (GB.below HG.out HB.out) (by kernel_rfl)).mono ?_; rintro e_ w_ ⟨rfl, hb⟩; have HB1 := Aside0.mk (below_step HB.out hb); clear HB) | (go_at_call 9; (with_reducible refine (life_Hears.calls 4 false _ (by kernel_rfl)).mono ?_); rintro e_ w' ⟨rfl, ⟨nd, rfl⟩⟩) | (go_at_call 10; (with_reducible refine (life_Says.calls 4 false _ (by kernel_rfl)).mono ?_); rintro e_ w' ⟨rfl, ⟨nd, rfl⟩⟩))
                go_roundg k1
                case measure => omega
                case rel => exact ⟨_, _, _, _, _, i + 1, rfl, rfl, rfl, rfl, rfl, (by first | rfl | rw [HW.out]), ⟨by decide⟩, ⟨by have := HK.out; omega⟩, ⟨by repeat (first | exact HB2.out | exact HB1.out | apply below_alloc | apply pw_below_drewN | apply below_drew1)⟩⟩
            · -- state (4, true, true, false, true), event 5: on
              as_aux_lemma =>
                go_wp2_with (first | (go_at_call 6; refine (life_After.calls 4 5 4 0 false 0 _ (GB.below HG.out HB.out) (by kernel_rfl)).mono ?_; rintro e_ w_ ⟨rfl, hb⟩; have HB1 := Aside0.mk (below_step HB.out hb); clear HB) | (go_at_call 9; (with_reducible refine (life_Hears.calls 4 false _ (by kernel_rfl)).mono ?_); rintro e_ w' ⟨rfl, ⟨nd, rfl⟩⟩) | (go_at_call 10; (with_reducible refine (life_Says.calls 4 false _ (by kernel_rfl)).mono ?_); rintro e_ w' ⟨rfl, ⟨nd, rfl⟩⟩))
                go_roundg k1
                case measure => omega
                case rel => exact ⟨_, _, _, _, _, i + 1, rfl, rfl, rfl, rfl, rfl, (by first | rfl | rw [HW.out]), ⟨by decide⟩, ⟨by have := HK.out; omega⟩, ⟨by repeat (first | exact HB2.out | exact HB1.out | apply below_alloc | apply pw_below_drewN | apply below_drew1)⟩⟩
            · -- state (4, true, true, false, true), event 6: on
              as_aux_lemma =>
                go_wp2_with (first | (go_at_call 6; refine (life_After.calls 4 6 0 0 false 6 _ (GB.below HG.out HB.out) (by kernel_rfl)).mono ?_; rintro e_ w_ ⟨rfl, hb⟩; have HB1 := Aside0.mk (below_step HB.out hb); clear HB))
                go_roundg k1
                case measure => omega
                case rel => exact ⟨_, _, _, _, _, i + 1, rfl, rfl, rfl, rfl, rfl, (by first | rfl | rw [HW.out]), ⟨by decide⟩, ⟨by have := HK.out; omega⟩, ⟨by repeat (first | exact HB2.out | exact HB1.out | apply below_alloc | apply pw_below_drewN | apply below_drew1)⟩⟩
            · -- state (4, true, true, false, true), event 7: on
              as_aux_lemma =>
                go_wp2_with (first | (go_at_call 6; refine (life_After.calls 4 7 0 0 false 6 _ (GB.below HG.out HB.out) (by kernel_rfl)).mono ?_; rintro e_ w_ ⟨rfl, hb⟩; have HB1 := Aside0.mk (below_step HB.out hb); clear HB))
                go_roundg k1
                case measure => omega
                case rel => exact ⟨_, _, _, _, _, i + 1, rfl, rfl, rfl, rfl, rfl, (by first | rfl | rw [HW.out]), ⟨by decide⟩, ⟨by have := HK.out; omega⟩, ⟨by repeat (first | exact HB2.out | exact HB1.out | apply below_alloc | apply pw_below_drewN | apply below_drew1)⟩⟩
            · -- state (4, true, true, false, true), event 8: on
              as_aux_lemma =>
                go_wp2_with (first | (go_at_call 6; refine (life_After.calls 4 8 0 0 false 6 _ (GB.below HG.out HB.out) (by kernel_rfl)).mono ?_; rintro e_ w_ ⟨rfl, hb⟩; have HB1 := Aside0.mk (below_step HB.out hb); clear HB))
                go_roundg k1
                case measure => omega
                case rel => exact ⟨_, _, _, _, _, i + 1, rfl, rfl, rfl, rfl, rfl, (by first | rfl | rw [HW.out]), ⟨by decide⟩, ⟨by have := HK.out; omega⟩, ⟨by repeat (first | exact HB2.out | exact HB1.out | apply below_alloc | apply pw_below_drewN | apply below_drew1)⟩⟩
          · rcases he with rfl | rfl | rfl | rfl | rfl | rfl | rfl | rfl | rfl
            · -- state (4, true, true, true, true), event 0: ret
              as_aux_lemma =>
                go_wp2_with (first | (go_at_call 8; refine (gantletlaw16_alive.calls true _ (GB.below HG.out (below_alloc HB1.out _)) (by kernel_rfl)).mono ?_; rintro e_ w2_ ⟨rfl, hb2⟩; have hn : w2_.heap[w_.heap.size]? = some (.cells #[.int .i64 4, .int .i64 5, .bool true] 25) := (hb2.block _ (alloc_lt _ _)).trans (blk_new _ _); have hn0 : w2_.cell? ⟨w_.heap.size, 0, none⟩ = some (.int .i64 4) := (blk_cell hn 0).trans rfl; have hn1 : w2_.cell? ⟨w_.heap.size, 1, none⟩ = some (.int .i64 5) := (blk_cell hn 1).trans rfl; have hn2 : w2_.cell? ⟨w_.heap.size, 2, none⟩ = some (.bool true) := (blk_cell hn 2).trans rfl; have hlt2 : w_.heap.size < w2_.heap.size := blk_lt hn; have hne2 : w_.heap.size ≠ w2_.heap.size := Nat.ne_of_lt hlt2; have HB2 := Aside0.mk (below_step (below_alloc HB1.out _) hb2); clear HB1) | (go_at_call 6; refine (life_After.calls 4 0 4 5 true 0 _ (GB.below HG.out HB.out) (by kernel_rfl)).mono ?_; rintro e_ w_ ⟨rfl, hb⟩; have HB1 := Aside0.mk (below_step HB.out hb); clear HB))
                go_ret
                exact ⟨rfl, by repeat (first | exact HB2.out | exact HB1.out | apply below_alloc | apply pw_below_drewN | apply below_drew1)⟩
            · -- state (4, true, true, true, true), event 1: ret
              as_aux_lemma =>
                go_wp2_with (first | (go_at_call 8; refine (gantletlaw16_alive.calls true _ (GB.below HG.out (below_alloc HB1.out _)) (by kernel_rfl)).mono ?_; rintro e_ w2_ ⟨rfl, hb2⟩; have hn : w2_.heap[w_.heap.size]? = some (.cells #[.int .i64 4, .int .i64 5, .bool true] 25) := (hb2.block _ (alloc_lt _ _)).trans (blk_new _ _); have hn0 : w2_.cell? ⟨w_.heap.size, 0, none⟩ = some (.int .i64 4) := (blk_cell hn 0).trans rfl; have hn1 : w2_.cell? ⟨w_.heap.size, 1, none⟩ = some (.int .i64 5) := (blk_cell hn 1).trans rfl; have hn2 : w2_.cell? ⟨w_.heap.size, 2, none⟩ = some (.bool true) := (blk_cell hn 2).trans rfl; have hlt2 : w_.heap.size < w2_.heap.size := blk_lt hn; have hne2 : w_.heap.size ≠ w2_.heap.size := Nat.ne_of_lt hlt2; have HB2 := Aside0.mk (below_step (below_alloc HB1.out _) hb2); clear HB1) | (go_at_call 6; refine (life_After.calls 4 1 4 5 true 0 _ (GB.below HG.out HB.out) (by kernel_rfl)).mono ?_; rintro e_ w_ ⟨rfl, hb⟩; have HB1 := Aside0.mk (below_step HB.out hb); clear HB))
                go_ret
                exact ⟨rfl, by repeat (first | exact HB2.out | exact HB1.out | apply below_alloc | apply pw_below_drewN | apply below_drew1)⟩
            · -- state (4, true, true, true, true), event 2: ret
              as_aux_lemma =>
                go_wp2_with (first | (go_at_call 8; refine (gantletlaw16_alive.calls true _ (GB.below HG.out (below_alloc HB1.out _)) (by kernel_rfl)).mono ?_; rintro e_ w2_ ⟨rfl, hb2⟩; have hn : w2_.heap[w_.heap.size]? = some (.cells #[.int .i64 4, .int .i64 5, .bool true] 25) := (hb2.block _ (alloc_lt _ _)).trans (blk_new _ _); have hn0 : w2_.cell? ⟨w_.heap.size, 0, none⟩ = some (.int .i64 4) := (blk_cell hn 0).trans rfl; have hn1 : w2_.cell? ⟨w_.heap.size, 1, none⟩ = some (.int .i64 5) := (blk_cell hn 1).trans rfl; have hn2 : w2_.cell? ⟨w_.heap.size, 2, none⟩ = some (.bool true) := (blk_cell hn 2).trans rfl; have hlt2 : w_.heap.size < w2_.heap.size := blk_lt hn; have hne2 : w_.heap.size ≠ w2_.heap.size := Nat.ne_of_lt hlt2; have HB2 := Aside0.mk (below_step (below_alloc HB1.out _) hb2); clear HB1) | (go_at_call 6; refine (life_After.calls 4 2 4 5 true 0 _ (GB.below HG.out HB.out) (by kernel_rfl)).mono ?_; rintro e_ w_ ⟨rfl, hb⟩; have HB1 := Aside0.mk (below_step HB.out hb); clear HB))
                go_ret
                exact ⟨rfl, by repeat (first | exact HB2.out | exact HB1.out | apply below_alloc | apply pw_below_drewN | apply below_drew1)⟩
            · -- state (4, true, true, true, true), event 3: ret
              as_aux_lemma =>
                go_wp2_with (first | (go_at_call 8; refine (gantletlaw16_alive.calls true _ (GB.below HG.out (below_alloc HB1.out _)) (by kernel_rfl)).mono ?_; rintro e_ w2_ ⟨rfl, hb2⟩; have hn : w2_.heap[w_.heap.size]? = some (.cells #[.int .i64 4, .int .i64 5, .bool true] 25) := (hb2.block _ (alloc_lt _ _)).trans (blk_new _ _); have hn0 : w2_.cell? ⟨w_.heap.size, 0, none⟩ = some (.int .i64 4) := (blk_cell hn 0).trans rfl; have hn1 : w2_.cell? ⟨w_.heap.size, 1, none⟩ = some (.int .i64 5) := (blk_cell hn 1).trans rfl; have hn2 : w2_.cell? ⟨w_.heap.size, 2, none⟩ = some (.bool true) := (blk_cell hn 2).trans rfl; have hlt2 : w_.heap.size < w2_.heap.size := blk_lt hn; have hne2 : w_.heap.size ≠ w2_.heap.size := Nat.ne_of_lt hlt2; have HB2 := Aside0.mk (below_step (below_alloc HB1.out _) hb2); clear HB1) | (go_at_call 6; refine (life_After.calls 4 3 4 5 true 0 _ (GB.below HG.out HB.out) (by kernel_rfl)).mono ?_; rintro e_ w_ ⟨rfl, hb⟩; have HB1 := Aside0.mk (below_step HB.out hb); clear HB))
                go_ret
                exact ⟨rfl, by repeat (first | exact HB2.out | exact HB1.out | apply below_alloc | apply pw_below_drewN | apply below_drew1)⟩
            · -- state (4, true, true, true, true), event 4: on
              as_aux_lemma =>
                go_wp2_with (first | (go_at_call 6; refine (life_After.calls 4 4 4 0 false 0 _ (GB.below HG.out HB.out) (by kernel_rfl)).mono ?_; rintro e_ w_ ⟨rfl, hb⟩; have HB1 := Aside0.mk (below_step HB.out hb); clear HB) | (go_at_call 9; (with_reducible refine (life_Hears.calls 4 false _ (by kernel_rfl)).mono ?_); rintro e_ w' ⟨rfl, ⟨nd, rfl⟩⟩) | (go_at_call 10; (with_reducible refine (life_Says.calls 4 false _ (by kernel_rfl)).mono ?_); rintro e_ w' ⟨rfl, ⟨nd, rfl⟩⟩))
                go_roundg k1
                case measure => omega
                case rel => exact ⟨_, _, _, _, _, i + 1, rfl, rfl, rfl, rfl, rfl, (by first | rfl | rw [HW.out]), ⟨by decide⟩, ⟨by have := HK.out; omega⟩, ⟨by repeat (first | exact HB2.out | exact HB1.out | apply below_alloc | apply pw_below_drewN | apply below_drew1)⟩⟩
            · -- state (4, true, true, true, true), event 5: on
              as_aux_lemma =>
                go_wp2_with (first | (go_at_call 6; refine (life_After.calls 4 5 4 0 false 0 _ (GB.below HG.out HB.out) (by kernel_rfl)).mono ?_; rintro e_ w_ ⟨rfl, hb⟩; have HB1 := Aside0.mk (below_step HB.out hb); clear HB) | (go_at_call 9; (with_reducible refine (life_Hears.calls 4 false _ (by kernel_rfl)).mono ?_); rintro e_ w' ⟨rfl, ⟨nd, rfl⟩⟩) | (go_at_call 10; (with_reducible refine (life_Says.calls 4 false _ (by kernel_rfl)).mono ?_); rintro e_ w' ⟨rfl, ⟨nd, rfl⟩⟩))
                go_roundg k1
                case measure => omega
                case rel => exact ⟨_, _, _, _, _, i + 1, rfl, rfl, rfl, rfl, rfl, (by first | rfl | rw [HW.out]), ⟨by decide⟩, ⟨by have := HK.out; omega⟩, ⟨by repeat (first | exact HB2.out | exact HB1.out | apply below_alloc | apply pw_below_drewN | apply below_drew1)⟩⟩
            · -- state (4, true, true, true, true), event 6: on
              as_aux_lemma =>
                go_wp2_with (first | (go_at_call 6; refine (life_After.calls 4 6 0 0 false 6 _ (GB.below HG.out HB.out) (by kernel_rfl)).mono ?_; rintro e_ w_ ⟨rfl, hb⟩; have HB1 := Aside0.mk (below_step HB.out hb); clear HB))
                go_roundg k1
                case measure => omega
                case rel => exact ⟨_, _, _, _, _, i + 1, rfl, rfl, rfl, rfl, rfl, (by first | rfl | rw [HW.out]), ⟨by decide⟩, ⟨by have := HK.out; omega⟩, ⟨by repeat (first | exact HB2.out | exact HB1.out | apply below_alloc | apply pw_below_drewN | apply below_drew1)⟩⟩
            · -- state (4, true, true, true, true), event 7: on
              as_aux_lemma =>
                go_wp2_with (first | (go_at_call 6; refine (life_After.calls 4 7 0 0 false 6 _ (GB.below HG.out HB.out) (by kernel_rfl)).mono ?_; rintro e_ w_ ⟨rfl, hb⟩; have HB1 := Aside0.mk (below_step HB.out hb); clear HB))
                go_roundg k1
                case measure => omega
                case rel => exact ⟨_, _, _, _, _, i + 1, rfl, rfl, rfl, rfl, rfl, (by first | rfl | rw [HW.out]), ⟨by decide⟩, ⟨by have := HK.out; omega⟩, ⟨by repeat (first | exact HB2.out | exact HB1.out | apply below_alloc | apply pw_below_drewN | apply below_drew1)⟩⟩
            · -- state (4, true, true, true, true), event 8: on
              as_aux_lemma =>
                go_wp2_with (first | (go_at_call 6; refine (life_After.calls 4 8 0 0 false 6 _ (GB.below HG.out HB.out) (by kernel_rfl)).mono ?_; rintro e_ w_ ⟨rfl, hb⟩; have HB1 := Aside0.mk (below_step HB.out hb); clear HB))
                go_roundg k1
                case measure => omega
                case rel => exact ⟨_, _, _, _, _, i + 1, rfl, rfl, rfl, rfl, rfl, (by first | rfl | rw [HW.out]), ⟨by decide⟩, ⟨by have := HK.out; omega⟩, ⟨by repeat (first | exact HB2.out | exact HB1.out | apply below_alloc | apply pw_below_drewN | apply below_drew1)⟩⟩
        · have c5b0 : decide (i < (l0.length : Int)) = false := decide_eq_false c5
          clear c5
          go_wp2_with (first | (go_at_call 8; refine (gantletlaw16_alive.calls true _ (GB.below HG.out HB.out) (by kernel_rfl)).mono ?_; rintro e_ w_ ⟨rfl, hb⟩; have HB1 := Aside0.mk (below_step HB.out hb)))
          go_ret
          exact ⟨rfl, HB1.out⟩
  · rw [if_neg hall] at h
    cases h

end Go.Proofs.YtjkadheknjkkbaaDoor.QL
