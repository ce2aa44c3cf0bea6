-- written by a program of this session (wip/tools) out of the translation's own print and the session's texts; nothing here is trusted: Lean checks it
import Derived.Test.YtlbjhbanfpnogaaDoorQI0
namespace Go.Proofs.YtlbjhbanfpnogaaDoor.QI
open Go.Proofs.YtlbjhbanfpnogaaDoor.QH
open Go.RowKit Go.Proofs.YtlbjhbanfpnogaaDoorW.PrintWords Go.Proofs.YtlbjhbanfpnogaaDoorW.PrintLast Go.Proofs.YtlbjhbanfpnogaaDoorW.PrintMore
attribute [local go_sem] max2_int min2_int max_two min_two max_three min_three max_four min_four   -- for this text's walks alone
set_option linter.unusedVariables false
set_option linter.unusedSimpArgs false

/-! ### gantletref01_Same: function 15 (the session's own) -/

/-! ### prefix_right: function 58 -/
def prefix_right.f (a0 : Int) : Option (Bool) := if a0 ≥ 1 then (some (decide (a0 ≤ 8))) else (some false)
set_option maxHeartbeats 8000000 in
set_option maxRecDepth 100000 in
theorem prefix_right.calls (a0 : Int) (r : Bool) (w : World) (h : prefix_right.f a0 = some r) :
  Calls Tryd.prog 58 #[.int .i64 a0] w fun e w' => e = .returned (.bool r) ∧ Drawn0 w w' := by
 have H : (if a0 ≥ 1 then (some (decide (a0 ≤ 8))) else (some false)) = some r := h
 clear h
 by_cases c2 : a0 ≥ 1
 ·
  rw [if_pos c2] at H
  have c2b0 : decide (1 ≤ a0) = true := decide_eq_true c2
  clear c2
  obtain rfl := Option.some.inj H
  go_enter Tryd.func58, Tryd.ntmps58
  go_wp2
  go_ret
  exact ⟨by first | rfl | (simp; done) | (simp [*]; done), by repeat (first | exact Drawn0.refl _ | apply Drawn0.step)⟩
 ·
  rw [if_neg c2] at H
  have c2b0 : decide (1 ≤ a0) = false := decide_eq_false c2
  clear c2
  obtain rfl := Option.some.inj H
  go_enter Tryd.func58, Tryd.ntmps58
  go_wp2
  go_ret
  exact ⟨by first | rfl | (simp; done) | (simp [*]; done), by repeat (first | exact Drawn0.refl _ | apply Drawn0.step)⟩

/-! ### prefix_Encode: function 50 -/
mutual
def prefix_Encode.j0 : Nat → Int → Int → Int → Bool → Option (List Int × Int)
 | 0, _, _, _, _ => none
 | k + 1, x0, x1, x2, x35 => if x35 = true then (some (([] : List Int), 1)) else (if 0 ≤ x1 then (if x0 < (wrap64 ((shl .i64 1 x1) - 1)) then (some ((([(wrap64 (x2 + x0)) % 256] : List Int)), 0)) else (prefix_Encode.l0 k (wrap64 (x0 - (wrap64 ((shl .i64 1 x1) - 1)))) (([(wrap64 (x2 + (wrap64 ((shl .i64 1 x1) - 1)))) % 256] : List Int)))) else (none))
def prefix_Encode.l0 : Nat → Int → List Int → Option (List Int × Int)
 | 0, _, _ => none
 | k + 1, x0, x9 => if x0 ≥ 128 then (if x9.length < 140737488355328 then (prefix_Encode.l0 k (x0 / 128) (x9 ++ [(wrap64 ((Int.tmod x0 128) + 128)) % 256])) else (none)) else (if x9.length < 140737488355328 then (some ((x9 ++ [(x0) % 256]), 0)) else (none))
end
def prefix_Encode.f (k : Nat) (a0 : Int) (a1 : Int) (a2 : Int) : Option (List Int × Int) := if a0 < 0 then (prefix_Encode.j0 k a0 a1 a2 true) else (if a0 > 16777215 then (prefix_Encode.j0 k a0 a1 a2 true) else ((prefix_right.f a1).bind fun t101 => (if t101 = true then (if a2 < 0 then (prefix_Encode.j0 k a0 a1 a2 true) else (if a2 > 255 then (prefix_Encode.j0 k a0 a1 a2 true) else (if 0 ≤ a1 then (if (shl .i64 1 a1) = 0 then (none) else (prefix_Encode.j0 k a0 a1 a2 ((Int.tmod a2 (shl .i64 1 a1)) != 0))) else (none)))) else (prefix_Encode.j0 k a0 a1 a2 true))))
theorem prefix_Encode.mono_l : ∀ k, (∀ y0 y1 y2 y3, LeO (prefix_Encode.j0 k y0 y1 y2 y3) (prefix_Encode.j0 (k + 1) y0 y1 y2 y3)) ∧ (∀ y0 y1, LeO (prefix_Encode.l0 k y0 y1) (prefix_Encode.l0 (k + 1) y0 y1))
 | 0 => ⟨fun _ _ _ _ r h => by simp [prefix_Encode.j0] at h, fun _ _ r h => by simp [prefix_Encode.l0] at h⟩
 | k + 1 => by
  obtain ⟨ih0, ih1⟩ := prefix_Encode.mono_l k
  refine ⟨?_, ?_⟩
  ·
   intro y0 y1 y2 y3
   unfold prefix_Encode.j0
   repeat' first
   | (with_reducible exact ih0 _ _ _ _)
   | (with_reducible exact ih1 _ _)
   | (with_reducible exact LeO.refl _)
   | (with_reducible exact LeO.none _)
   | (with_reducible refine LeO.ite ?_ ?_)
   | (with_reducible refine LeO.bind ?_ (fun _ => ?_))
   | exact ih0 _ _ _ _
   | exact ih1 _ _
   | exact LeO.none _
   | refine LeO.ite ?_ ?_
   | refine LeO.bind ?_ (fun _ => ?_)
  ·
   intro y0 y1
   unfold prefix_Encode.l0
   repeat' first
   | (with_reducible exact ih0 _ _ _ _)
   | (with_reducible exact ih1 _ _)
   | (with_reducible exact LeO.refl _)
   | (with_reducible exact LeO.none _)
   | (with_reducible refine LeO.ite ?_ ?_)
   | (with_reducible refine LeO.bind ?_ (fun _ => ?_))
   | exact ih0 _ _ _ _
   | exact ih1 _ _
   | exact LeO.none _
   | refine LeO.ite ?_ ?_
   | refine LeO.bind ?_ (fun _ => ?_)
theorem prefix_Encode.mono : ∀ a0 a1 a2 k, LeO (prefix_Encode.f k a0 a1 a2) (prefix_Encode.f (k + 1) a0 a1 a2) := by
 intro a0 a1 a2 k
 obtain ⟨ih0, ih1⟩ := prefix_Encode.mono_l k
 unfold prefix_Encode.f
 repeat' first
   | (with_reducible exact ih0 _ _ _ _)
   | (with_reducible exact ih1 _ _)
   | (with_reducible exact LeO.refl _)
   | (with_reducible exact LeO.none _)
   | (with_reducible refine LeO.ite ?_ ?_)
   | (with_reducible refine LeO.bind ?_ (fun _ => ?_))
   | exact ih0 _ _ _ _
   | exact ih1 _ _
   | exact LeO.none _
   | refine LeO.ite ?_ ?_
   | refine LeO.bind ?_ (fun _ => ?_)
set_option maxHeartbeats 8000000 in
set_option maxRecDepth 100000 in
theorem prefix_Encode.calls (k : Nat) (a0 : Int) (a1 : Int) (a2 : Int) (r1 : List Int) (r2 : Int) (w : World) (h : prefix_Encode.f k a0 a1 a2 = some (r1, r2)) :
  Calls Tryd.prog 50 #[.int .i64 a0, .int .i64 a1, .int .i64 a2] w fun e w' => ∃ v0_ : Value, e = .returned (.tuple #[v0_, .int .i64 r2]) ∧ Kd.R (Kd.int .u8) 5 w' w.heap.size (fun _ => True) v0_ r1 ∧ Below w.heap.size w w' := by
 have HB := Aside0.mk (Below.refl w.heap.size w)
 have H : (if a0 < 0 then (prefix_Encode.j0 k a0 a1 a2 true) else (if a0 > 16777215 then (prefix_Encode.j0 k a0 a1 a2 true) else ((prefix_right.f a1).bind fun t101 => (if t101 = true then (if a2 < 0 then (prefix_Encode.j0 k a0 a1 a2 true) else (if a2 > 255 then (prefix_Encode.j0 k a0 a1 a2 true) else (if 0 ≤ a1 then (if (shl .i64 1 a1) = 0 then (none) else (prefix_Encode.j0 k a0 a1 a2 ((Int.tmod a2 (shl .i64 1 a1)) != 0))) else (none)))) else (prefix_Encode.j0 k a0 a1 a2 true))))) = some (r1, r2) := h
 clear h
 have HC4 := Aside0.mk H
 clear H
 go_enter Tryd.func50, Tryd.ntmps50
 go_upto_region 1 with (fail)
 go_cut [35] (fun v35 wc => ∃ (kq : Nat) (x35_3 : Bool), v35 = .bool x35_3 ∧ Aside0 (prefix_Encode.j0 kq a0 a1 a2 x35_3 = some (r1, r2)) ∧ Aside0 (kq ≤ k) ∧ Aside0 (Below w.heap.size w wc))
 case first =>
  have H := HC4.out
  clear HC4
  by_cases c5 : a0 < 0
  ·
   rw [if_pos c5] at H
   have c5b0 : decide (a0 < 0) = true := decide_eq_true c5
   clear c5
   (first | rw [c5b0] | (simp only [i64_w, i32_w]; rw [c5b0]) | skip)
   have H' := Aside0.mk H
   clear H
   go_wp2
   (first | go_meet | (refine Met.intro ?_; go_step; (repeat apply Exists.intro); refine ⟨?rel, ?frame⟩; (case frame => (try simp only [c5b0]); rfl)))
   case rel => exact ⟨_, (true), (by first | rfl | (simp; done) | (simp [*]; done)), H', ⟨by first | omega | exact Nat.le_refl _⟩, ⟨by repeat (first | (with_reducible first | exact HB.out | apply below_alloc | apply pw_below_drewN | apply below_drew1) | exact HB.out)⟩⟩
  ·
   rw [if_neg c5] at H
   have c5b0 : decide (a0 < 0) = false := decide_eq_false c5
   clear c5
   (first | rw [c5b0] | (simp only [i64_w, i32_w]; rw [c5b0]) | skip)
   by_cases c6 : a0 > 16777215
   ·
    rw [if_pos c6] at H
    have c6b0 : decide (16777215 < a0) = true := decide_eq_true c6
    clear c6
    have H' := Aside0.mk H
    clear H
    go_wp2
    (first | go_meet | (refine Met.intro ?_; go_step; (repeat apply Exists.intro); refine ⟨?rel, ?frame⟩; (case frame => (try simp only [c5b0]); (try simp only [c6b0]); rfl)))
    case rel => exact ⟨_, (true), (by first | rfl | (simp; done) | (simp [*]; done)), H', ⟨by first | omega | exact Nat.le_refl _⟩, ⟨by repeat (first | (with_reducible first | exact HB.out | apply below_alloc | apply pw_below_drewN | apply below_drew1) | exact HB.out)⟩⟩
   ·
    rw [if_neg c6] at H
    have c6b0 : decide (16777215 < a0) = false := decide_eq_false c6
    clear c6
    replace H := Option.bind_eq_some_iff.mp H
    obtain ⟨t101, A70, H⟩ := H
    replace H : (if t101 = true then (if a2 < 0 then (prefix_Encode.j0 k a0 a1 a2 true) else (if a2 > 255 then (prefix_Encode.j0 k a0 a1 a2 true) else (if 0 ≤ a1 then (if (shl .i64 1 a1) = 0 then (none) else (prefix_Encode.j0 k a0 a1 a2 ((Int.tmod a2 (shl .i64 1 a1)) != 0))) else (none)))) else (prefix_Encode.j0 k a0 a1 a2 true)) = some (r1, r2) := H
    have A7 := Aside0.mk A70
    clear A70
    by_cases c8 : t101 = true
    ·
     subst c8
     have H1 : (if a2 < 0 then (prefix_Encode.j0 k a0 a1 a2 true) else (if a2 > 255 then (prefix_Encode.j0 k a0 a1 a2 true) else (if 0 ≤ a1 then (if (shl .i64 1 a1) = 0 then (none) else (prefix_Encode.j0 k a0 a1 a2 ((Int.tmod a2 (shl .i64 1 a1)) != 0))) else (none)))) = some (r1, r2) := by rw [if_pos rfl] at H; exact H
     clear H
     have H := H1
     clear H1
     by_cases c9 : a2 < 0
     ·
      rw [if_pos c9] at H
      have c9b0 : decide (a2 < 0) = true := decide_eq_true c9
      clear c9
      have H' := Aside0.mk H
      clear H
      go_wp2_with (first | (go_at_call 58; (with_reducible refine (prefix_right.calls a1 true _ A7.out).mono ?_); rintro e w' ⟨rfl, ⟨nd, rfl⟩⟩))
      (first | go_meet | (refine Met.intro ?_; go_step; (repeat apply Exists.intro); refine ⟨?rel, ?frame⟩; (case frame => (try simp only [c5b0]); (try simp only [c6b0]); (try simp only [c9b0]); rfl)))
      case rel => exact ⟨_, (true), (by first | rfl | (simp; done) | (simp [*]; done)), H', ⟨by first | omega | exact Nat.le_refl _⟩, ⟨by repeat (first | (with_reducible first | exact HB.out | apply below_alloc | apply pw_below_drewN | apply below_drew1) | exact HB.out)⟩⟩
     ·
      rw [if_neg c9] at H
      have c9b0 : decide (a2 < 0) = false := decide_eq_false c9
      clear c9
      by_cases c10 : a2 > 255
      ·
       rw [if_pos c10] at H
       have c10b0 : decide (255 < a2) = true := decide_eq_true c10
       clear c10
       have H' := Aside0.mk H
       clear H
       go_wp2_with (first | (go_at_call 58; (with_reducible refine (prefix_right.calls a1 true _ A7.out).mono ?_); rintro e w' ⟨rfl, ⟨nd, rfl⟩⟩))
       (first | go_meet | (refine Met.intro ?_; go_step; (repeat apply Exists.intro); refine ⟨?rel, ?frame⟩; (case frame => (try simp only [c5b0]); (try simp only [c6b0]); (try simp only [c9b0]); (try simp only [c10b0]); rfl)))
       case rel => exact ⟨_, (true), (by first | rfl | (simp; done) | (simp [*]; done)), H', ⟨by first | omega | exact Nat.le_refl _⟩, ⟨by repeat (first | (with_reducible first | exact HB.out | apply below_alloc | apply pw_below_drewN | apply below_drew1) | exact HB.out)⟩⟩
      ·
       rw [if_neg c10] at H
       have c10b0 : decide (255 < a2) = false := decide_eq_false c10
       clear c10
       by_cases c11 : 0 ≤ a1
       ·
        rw [if_pos c11] at H
        have c11b0 := eq_true c11
        have c11b1 : decide (0 ≤ a1) = true := decide_eq_true c11
        clear c11
        obtain ⟨ji12, hji12⟩ : ∃ j_ : Int, (shl .i64 1 a1) = j_ := ⟨_, rfl⟩
        replace H : (if (ji12) = 0 then (none) else (prefix_Encode.j0 k a0 a1 a2 ((Int.tmod a2 (ji12)) != 0))) = some (r1, r2) := by first | (rw [hji12] at H; exact H) | (simp only [hji12] at H ⊢; exact H)
        (try rw [hji12] at A7)
        have hji12_ : (IntKind.i64.wrap (1 * 2 ^ min a1.toNat 64)) = ji12 := hji12
        have hji12z : a1 ≤ 64 → (IntKind.i64.wrap (1 * 2 ^ a1.toNat)) = ji12 := shl_small hji12
        have hji12u : (IntKind.i64.wrap (2 ^ min a1.toNat 64)) = ji12 := by have h_ := hji12_; rw [Int.one_mul] at h_; exact h_
        have hji12v : a1 ≤ 64 → (IntKind.i64.wrap (2 ^ a1.toNat)) = ji12 := fun hle_ => by have h_ := hji12z hle_; rw [Int.one_mul] at h_; exact h_
        have hji12y : (wrap64 (1 * 2 ^ min a1.toNat 64)) = ji12 := (i64_w _).symm.trans hji12_
        have hji12x : a1 ≤ 64 → (wrap64 (1 * 2 ^ a1.toNat)) = ji12 := fun h_ => (i64_w _).symm.trans (hji12z h_)
        by_cases c13 : (ji12) = 0
        ·
         rw [if_pos c13] at H
         exact absurd H (by simp)
        ·
         rw [if_neg c13] at H
         have c13b0 : ((ji12) == 0) = false := beq_eq_false_iff_ne.mpr c13
         have c13b1 : ((ji12) != 0) = true := bne_iff_ne.mpr c13
         have H' := Aside0.mk H
         clear H
         go_wp2_with (first | (go_at_call 58; (with_reducible refine (prefix_right.calls a1 true _ A7.out).mono ?_); rintro e w' ⟨rfl, ⟨nd, rfl⟩⟩))
         (first | go_meet | (refine Met.intro ?_; go_step; (repeat apply Exists.intro); refine ⟨?rel, ?frame⟩; (case frame => (try simp only [c5b0]); (try simp only [c6b0]); (try simp only [c9b0]); (try simp only [c10b0]); (try simp only [c11b1]); (try simp only [c13b0]); (try simp only [c13b1]); rfl)))
         case rel => exact ⟨_, (((Int.tmod a2 (ji12)) != 0)), (by first | rfl | (simp; done) | (simp only [← hji12] <;> (first | rfl | simp)) | (simp [*]; done)), H', ⟨by first | omega | exact Nat.le_refl _⟩, ⟨by repeat (first | (with_reducible first | exact HB.out | apply below_alloc | apply pw_below_drewN | apply below_drew1) | exact HB.out)⟩⟩
       ·
        rw [if_neg c11] at H
        exact absurd H (by simp)
    ·
     replace c8 := Bool.eq_false_iff.mpr c8
     subst c8
     have H1 : (prefix_Encode.j0 k a0 a1 a2 true) = some (r1, r2) := by rw [if_neg (show ¬ (false = true) by decide)] at H; exact H
     clear H
     have H := H1
     clear H1
     have H' := Aside0.mk H
     clear H
     go_wp2_with (first | (go_at_call 58; (with_reducible refine (prefix_right.calls a1 false _ A7.out).mono ?_); rintro e w' ⟨rfl, ⟨nd, rfl⟩⟩))
     (first | go_meet | (refine Met.intro ?_; go_step; (repeat apply Exists.intro); refine ⟨?rel, ?frame⟩; (case frame => (try simp only [c5b0]); (try simp only [c6b0]); rfl)))
     case rel => exact ⟨_, (true), (by first | rfl | (simp; done) | (simp [*]; done)), H', ⟨by first | omega | exact Nat.le_refl _⟩, ⟨by repeat (first | (with_reducible first | exact HB.out | apply below_alloc | apply pw_below_drewN | apply below_drew1) | exact HB.out)⟩⟩
 case rest =>
  clear HC4
  try clear c1
  try clear p2
  try clear c5
  try clear c5b0
  try clear c6
  try clear c6b0
  try clear p6
  try clear c8
  try clear c9
  try clear c9b0
  try clear c10
  try clear c10b0
  try clear c11
  try clear c11b0
  try clear c11b1
  try clear c13
  try clear c13b0
  try clear c13b1
  obtain ⟨kq, x35_3, rfl, HA, HJ3, HB⟩ := hcut
  cases kq with
  | zero => exact absurd HA.out (by simp [prefix_Encode.j0])
  | succ kj3 =>
   have H := HA.out
   clear HA
   simp only [prefix_Encode.j0] at H
   by_cases c14 : x35_3 = true
   ·
    subst c14
    have H1 : (some (([] : List Int), 1)) = some (r1, r2) := by rw [if_pos rfl] at H; exact H
    clear H
    have H := H1
    clear H1
    simp only [Option.some.injEq, Prod.mk.injEq] at H
    obtain ⟨rfl, rfl⟩ := H
    go_wp2
    go_ret2
    exact ⟨_, by first | rfl | (simp [errW_none, errW_some] <;> rfl) | (simp [*, errW_none, errW_some] <;> rfl), by first | exact Kd.R_nil _ _ _ _ _ | exact Kd.N_nil _ _ _ _ _ | exact Kd.V_nil _ _ _ _ _ | exact Kd.Q_nil _ _ _ _ _ | exact Kd.S_nil _ _ _ _ _, by repeat (first | (with_reducible first | exact HB.out | apply below_alloc | apply pw_below_drewN | apply below_drew1) | exact HB.out)⟩
   ·
    replace c14 := Bool.eq_false_iff.mpr c14
    subst c14
    have H1 : (if 0 ≤ a1 then (if a0 < (wrap64 ((shl .i64 1 a1) - 1)) then (some ((([(wrap64 (a2 + a0)) % 256] : List Int)), 0)) else (prefix_Encode.l0 kj3 (wrap64 (a0 - (wrap64 ((shl .i64 1 a1) - 1)))) (([(wrap64 (a2 + (wrap64 ((shl .i64 1 a1) - 1)))) % 256] : List Int)))) else (none)) = some (r1, r2) := by rw [if_neg (show ¬ (false = true) by decide)] at H; exact H
    clear H
    have H := H1
    clear H1
    by_cases c15 : 0 ≤ a1
    ·
     rw [if_pos c15] at H
     have c15b0 := eq_true c15
     have c15b1 : decide (0 ≤ a1) = true := decide_eq_true c15
     clear c15
     obtain ⟨ji16, hji16⟩ : ∃ j_ : Int, (shl .i64 1 a1) = j_ := ⟨_, rfl⟩
     replace H : (if a0 < (wrap64 ((ji16) - 1)) then (some ((([(wrap64 (a2 + a0)) % 256] : List Int)), 0)) else (prefix_Encode.l0 kj3 (wrap64 (a0 - (wrap64 ((ji16) - 1)))) (([(wrap64 (a2 + (wrap64 ((ji16) - 1)))) % 256] : List Int)))) = some (r1, r2) := by first | (rw [hji16] at H; exact H) | (simp only [hji16] at H ⊢; exact H)
     have hji16_ : (IntKind.i64.wrap (1 * 2 ^ min a1.toNat 64)) = ji16 := hji16
     have hji16z : a1 ≤ 64 → (IntKind.i64.wrap (1 * 2 ^ a1.toNat)) = ji16 := shl_small hji16
     have hji16u : (IntKind.i64.wrap (2 ^ min a1.toNat 64)) = ji16 := by have h_ := hji16_; rw [Int.one_mul] at h_; exact h_
     have hji16v : a1 ≤ 64 → (IntKind.i64.wrap (2 ^ a1.toNat)) = ji16 := fun hle_ => by have h_ := hji16z hle_; rw [Int.one_mul] at h_; exact h_
     have hji16y : (wrap64 (1 * 2 ^ min a1.toNat 64)) = ji16 := (i64_w _).symm.trans hji16_
     have hji16x : a1 ≤ 64 → (wrap64 (1 * 2 ^ a1.toNat)) = ji16 := fun h_ => (i64_w _).symm.trans (hji16z h_)
     by_cases c17 : a0 < (wrap64 ((ji16) - 1))
     ·
      rw [if_pos c17] at H
      have c17b0 : decide (a0 < (wrap64 ((ji16) - 1))) = true := decide_eq_true c17
      clear c17
      obtain ⟨y102, hy102⟩ : ∃ y_ : List Int, y_ = (([(wrap64 (a2 + a0)) % 256] : List Int)) := ⟨_, rfl⟩
      replace H : (some (y102, 0)) = some (r1, r2) := by first | (rw [hy102]; with_reducible exact H) | (have H2_ := (Option.bind_some _ _).symm.trans H; rw [hy102]; with_reducible exact H2_) | (have H2_ := (Option.bind_some _ _).symm.trans H; with_reducible exact H2_) | with_reducible exact H | (rw [hy102]; exact H) | exact H
      have Ny102 := Aside0.mk hy102
      clear hy102
      simp only [Option.some.injEq, Prod.mk.injEq] at H
      obtain ⟨rfl, rfl⟩ := H
      go_wp2_with (first | ((with_reducible refine gate_dst (N := 46) rfl ?_); refine Kd.R_lit (Kd.int .u8) _ 5 ?hg (N := 46) ?hd (xs := ([(wrap64 (a2 + a0)) % 256] : List Int)) (inner := [.int .u8 ((wrap64 (a2 + a0)) % 256)]) (ok := fun _ => True) (okp := fun _ => True) ?hr ?hp (fun _ hk => hk) trivial (Below.refl _ _) (Nat.le_refl _) (by simp) ?_; (case hd => rfl); (case hg => rfl); (case hr => first | (go_simp; done) | (go_simp; rfl)); (case hp => exact (Reps.one (show Kd.M (Kd.int .u8) _ _ _ ((wrap64 (a2 + a0)) % 256) [.int .u8 ((wrap64 (a2 + a0)) % 256)] from rfl) (Reps.none _ _))); intro v103 w18 ho19 hb hg_ hnew_; clear hg_ hnew_; (first | rw [← Ny102.out] at ho19 | (simp only [Int.reduceToNat] at ho19; rw [← Ny102.out] at ho19)); have n0_ := Aside0.mk (Kd.R_lower ho19 (below_size (by repeat (first | (with_reducible first | exact HB.out | apply below_alloc | apply pw_below_drewN | apply below_drew1) | exact HB.out)))); have n1_ := Aside0.mk (below_step (by repeat (first | (with_reducible first | exact HB.out | apply below_alloc | apply pw_below_drewN | apply below_drew1) | exact HB.out)) hb); clear HB; have HO104 := n0_; have HB := n1_; clear n0_ n1_; clear hb ho19))
      go_ret2
      exact ⟨_, by first | rfl | (simp [errW_none, errW_some] <;> rfl) | (simp only [← hji16]; first | rfl | (simp [errW_none, errW_some] <;> rfl)) | (simp [*, errW_none, errW_some] <;> rfl), by (with_reducible repeat (first | apply Kd.R_alloc | apply Kd.R_drewN | apply Kd.R_drew)); exact HO104.out, by repeat (first | (with_reducible first | exact HB.out | apply below_alloc | apply pw_below_drewN | apply below_drew1) | exact HB.out)⟩
     ·
      rw [if_neg c17] at H
      have c17b0 : decide (a0 < (wrap64 ((ji16) - 1))) = false := decide_eq_false c17
      clear c17
      obtain ⟨y105, hy105⟩ : ∃ y_ : List Int, y_ = (([(wrap64 (a2 + (wrap64 ((ji16) - 1)))) % 256] : List Int)) := ⟨_, rfl⟩
      replace H : (prefix_Encode.l0 kj3 (wrap64 (a0 - (wrap64 ((ji16) - 1)))) y105) = some (r1, r2) := by first | (rw [hy105]; with_reducible exact H) | (have H2_ := (Option.bind_some _ _).symm.trans H; rw [hy105]; with_reducible exact H2_) | (have H2_ := (Option.bind_some _ _).symm.trans H; with_reducible exact H2_) | with_reducible exact H | (rw [hy105]; exact H) | exact H
      have Ny105 := Aside0.mk hy105
      clear hy105
      have H' := Aside0.mk H
      clear H
      go_wp2_with (first | ((with_reducible refine gate_dst (N := 51) rfl ?_); refine Kd.R_lit (Kd.int .u8) _ 5 ?hg (N := 51) ?hd (xs := ([(wrap64 (a2 + (wrap64 ((ji16) - 1)))) % 256] : List Int)) (inner := [.int .u8 ((wrap64 (a2 + (wrap64 ((ji16) - 1)))) % 256)]) (ok := fun _ => True) (okp := fun _ => True) ?hr ?hp (fun _ hk => hk) trivial (Below.refl _ _) (Nat.le_refl _) (by simp) ?_; (case hd => rfl); (case hg => rfl); (case hr => first | (go_simp; done) | (go_simp; rfl)); (case hp => exact (Reps.one (show Kd.M (Kd.int .u8) _ _ _ ((wrap64 (a2 + (wrap64 ((ji16) - 1)))) % 256) [.int .u8 ((wrap64 (a2 + (wrap64 ((ji16) - 1)))) % 256)] from rfl) (Reps.none _ _))); intro v106 w20 ho21 hb hg_ hnew_; clear hg_ hnew_; (first | rw [← Ny105.out] at ho21 | (simp only [Int.reduceToNat] at ho21; rw [← Ny105.out] at ho21)); have n0_ := Aside0.mk (Kd.R_lower ho21 (below_size (by repeat (first | (with_reducible first | exact HB.out | apply below_alloc | apply pw_below_drewN | apply below_drew1) | exact HB.out)))); have n1_ := Aside0.mk (below_step (by repeat (first | (with_reducible first | exact HB.out | apply below_alloc | apply pw_below_drewN | apply below_drew1) | exact HB.out)) hb); clear HB; have HO107 := n0_; have HB := n1_; clear n0_ n1_; clear hb ho21))
      go_loopg [0, 9] kj3 (fun kq v0 v9 w' => ∃ (x0_2 : Int) (x9_2 : List Int), v0 = .int .i64 x0_2 ∧ Aside0 (prefix_Encode.l0 kq x0_2 x9_2 = some (r1, r2)) ∧ Aside0 (kq ≤ kj3) ∧ Aside0 (Kd.R (Kd.int .u8) 5 w' w.heap.size (fun _ => True) v9 x9_2) ∧ Aside0 (Below w.heap.size w w'))
      case atStart => exact ⟨(wrap64 (a0 - (wrap64 ((ji16) - 1)))), (y105), (by first | rfl | (simp; done) | (simp only [← hji16] <;> (first | rfl | simp)) | (simp [*]; done)), H', ⟨Nat.le_refl _⟩, ⟨by (with_reducible repeat (first | apply Kd.R_alloc | apply Kd.R_drewN | apply Kd.R_drew)); exact HO107.out⟩, ⟨by repeat (first | (with_reducible first | exact HB.out | apply below_alloc | apply pw_below_drewN | apply below_drew1) | exact HB.out)⟩⟩
      case round =>
       clear H'
       try clear c1
       try clear p2
       try clear c5
       try clear c5b0
       try clear c6
       try clear c6b0
       try clear p6
       try clear c8
       try clear c9
       try clear c9b0
       try clear c10
       try clear c10b0
       try clear c11
       try clear c11b0
       try clear c11b1
       try clear c13
       try clear c13b0
       try clear c13b1
       try clear c14
       try clear c15
       try clear c15b0
       try clear c15b1
       try clear c17
       try clear c17b0
       try clear p2
       try clear p6
       obtain ⟨x0_2, x9_2, rfl, HA, HK2, HO_9, HB⟩ := hrel
       cases gk with
       | zero => exact absurd HA.out (by simp [prefix_Encode.l0])
       | succ k2 =>
        have H := HA.out
        clear HA
        simp only [prefix_Encode.l0] at H
        by_cases c22 : x0_2 ≥ 128
        ·
         rw [if_pos c22] at H
         have c22b0 : decide (128 ≤ x0_2) = true := decide_eq_true c22
         clear c22
         by_cases c23 : x9_2.length < 140737488355328
         ·
          rw [if_pos c23] at H
          have LMc23 := Aside0.mk c23
          clear c23
          obtain ⟨y108, hy108⟩ : ∃ y_ : List Int, y_ = (x9_2 ++ [(wrap64 ((Int.tmod x0_2 128) + 128)) % 256]) := ⟨_, rfl⟩
          replace H : (prefix_Encode.l0 k2 (x0_2 / 128) y108) = some (r1, r2) := by first | (rw [hy108]; with_reducible exact H) | (have H2_ := (Option.bind_some _ _).symm.trans H; rw [hy108]; with_reducible exact H2_) | (have H2_ := (Option.bind_some _ _).symm.trans H; with_reducible exact H2_) | with_reducible exact H | (rw [hy108]; exact H) | exact H
          have Ny108 := Aside0.mk hy108
          clear hy108
          have H' := Aside0.mk H
          clear H
          go_wp2_with (first | ((with_reducible refine gate_builtin (b := .append) (xs := #[.tmp 59, .tmp 64]) rfl ?_); at_builtin; refine Kd.R_append (Kd.int .u8) (w0 := w) w.heap.size rfl (.tmp 59) (.tmp 64) 22 5 (.int .u8 0) 1 rfl Tryd.underlying22 info5 rfl (by decide) (by omega) u9 x9_2 ((wrap64 ((Int.tmod x0_2 128) + 128)) % 256) [.int .u8 ((wrap64 ((Int.tmod x0_2 128) + 128)) % 256)] (fun _ => True) (fun _ => False) rfl rfl ?aP (fun _ hk => hk.elim) ?aF ?aO ?aB ?aS ?aL ?_; (case aP => exact rfl); (case aB => exact (by repeat (first | (with_reducible first | exact HB.out | apply below_alloc | apply pw_below_drewN | apply below_drew1) | exact HB.out))); (case aF => exact (fun _ _ => trivial)); (case aO => exact (by (with_reducible repeat (first | apply Kd.R_alloc | apply Kd.R_drewN | apply Kd.R_drew)); exact HO_9.out)); (case aS => exact (below_size (by repeat (first | (with_reducible first | exact HB.out | apply below_alloc | apply pw_below_drewN | apply below_drew1) | exact HB.out)))); (case aL => have := LMc23.out; omega); intro v109 w24 ho hb hg hat; rw [← Ny108.out] at ho; have n0_ := Aside0.mk (hb); have n1_ := Aside0.mk (ho); clear HB; clear HO_9; have HB := n0_; have HO110 := n1_; clear n0_ n1_; clear ho hb hg hat))
          go_roundg k2
          case measure => have := HJ3.out; have := HK2.out; omega
          case rel => exact ⟨(x0_2 / 128), (y108), (by first | rfl | (simp; done) | (simp [*]; done)), H', ⟨by have := HJ3.out; have := HK2.out; omega⟩, ⟨by (with_reducible repeat (first | apply Kd.R_alloc | apply Kd.R_drewN | apply Kd.R_drew)); exact HO110.out⟩, ⟨by repeat (first | (with_reducible first | exact HB.out | apply below_alloc | apply pw_below_drewN | apply below_drew1) | exact HB.out)⟩⟩
         ·
          rw [if_neg c23] at H
          exact absurd H (by simp)
        ·
         rw [if_neg c22] at H
         have c22b0 : decide (128 ≤ x0_2) = false := decide_eq_false c22
         clear c22
         by_cases c25 : x9_2.length < 140737488355328
         ·
          rw [if_pos c25] at H
          have LMc25 := Aside0.mk c25
          clear c25
          obtain ⟨y111, hy111⟩ : ∃ y_ : List Int, y_ = (x9_2 ++ [(x0_2) % 256]) := ⟨_, rfl⟩
          replace H : (some (y111, 0)) = some (r1, r2) := by first | (rw [hy111]; with_reducible exact H) | (have H2_ := (Option.bind_some _ _).symm.trans H; rw [hy111]; with_reducible exact H2_) | (have H2_ := (Option.bind_some _ _).symm.trans H; with_reducible exact H2_) | with_reducible exact H | (rw [hy111]; exact H) | exact H
          have Ny111 := Aside0.mk hy111
          clear hy111
          simp only [Option.some.injEq, Prod.mk.injEq] at H
          obtain ⟨rfl, rfl⟩ := H
          go_wp2_with (first | ((with_reducible refine gate_builtin (b := .append) (xs := #[.tmp 66, .tmp 69]) rfl ?_); at_builtin; refine Kd.R_append (Kd.int .u8) (w0 := w) w.heap.size rfl (.tmp 66) (.tmp 69) 22 5 (.int .u8 0) 1 rfl Tryd.underlying22 info5 rfl (by decide) (by omega) u9 x9_2 ((x0_2) % 256) [.int .u8 ((x0_2) % 256)] (fun _ => True) (fun _ => False) rfl rfl ?aP (fun _ hk => hk.elim) ?aF ?aO ?aB ?aS ?aL ?_; (case aP => exact rfl); (case aB => exact (by repeat (first | (with_reducible first | exact HB.out | apply below_alloc | apply pw_below_drewN | apply below_drew1) | exact HB.out))); (case aF => exact (fun _ _ => trivial)); (case aO => exact (by (with_reducible repeat (first | apply Kd.R_alloc | apply Kd.R_drewN | apply Kd.R_drew)); exact HO_9.out)); (case aS => exact (below_size (by repeat (first | (with_reducible first | exact HB.out | apply below_alloc | apply pw_below_drewN | apply below_drew1) | exact HB.out)))); (case aL => have := LMc25.out; omega); intro v112 w26 ho hb hg hat; rw [← Ny111.out] at ho; have n0_ := Aside0.mk (hb); have n1_ := Aside0.mk (ho); clear HB; clear HO_9; have HB := n0_; have HO113 := n1_; clear n0_ n1_; clear ho hb hg hat))
          go_ret2
          exact ⟨_, by first | rfl | (simp [errW_none, errW_some] <;> rfl) | (simp only [← hji16]; first | rfl | (simp [errW_none, errW_some] <;> rfl)) | (simp [*, errW_none, errW_some] <;> rfl), by (with_reducible repeat (first | apply Kd.R_alloc | apply Kd.R_drewN | apply Kd.R_drew)); exact HO113.out, by repeat (first | (with_reducible first | exact HB.out | apply below_alloc | apply pw_below_drewN | apply below_drew1) | exact HB.out)⟩
         ·
          rw [if_neg c25] at H
          exact absurd H (by simp)
    ·
     rw [if_neg c15] at H
     exact absurd H (by simp)

-- NOT PRINTED: function 44 (literal_laid)

/-! ### literal_Encode: function 23 (the session's own) -/
def literal_laid.f (k : Nat) (above : Int) (l : List Int) : Option (List Int) := (prefix_Encode.f k (l.length : Int) 7 above).bind fun r => if r.1.length + l.length < 140737488355328 then some (r.1 ++ l) else none
def literal_Encode.f (k : Nat) (s : ByteArray) (q : Bool) : Option (List Int × Int) := if (s.size : Int) > 65536 then some (([] : List Int), 1) else (if q = true then ((huff_Encode.f (sb s)).bind fun b => (literal_laid.f k 128 b).bind fun r => some (r, 0)) else ((literal_laid.f k 0 (sb s)).bind fun r => some (r, 0)))
theorem literal_laid.mono : ∀ a0 a1 k, LeO (literal_laid.f k a0 a1) (literal_laid.f (k + 1) a0 a1) := by
 intro a0 a1 k
 unfold literal_laid.f
 exact LeO.bind (prefix_Encode.mono _ _ _ _) (fun _ => LeO.refl _)
theorem literal_Encode.mono : ∀ a0 a1 k, LeO (literal_Encode.f k a0 a1) (literal_Encode.f (k + 1) a0 a1) := by
 intro a0 a1 k
 unfold literal_Encode.f
 refine LeO.ite (LeO.refl _) (LeO.ite (LeO.bind (LeO.refl _) (fun _ => LeO.bind (literal_laid.mono _ _ _) (fun _ => LeO.refl _))) (LeO.bind (literal_laid.mono _ _ _) (fun _ => LeO.refl _)))
/-- What a closure of Encode hands back. -/
def Laid1 (W : World) (l : List Int) (e : Ending) (w' : World) : Prop := ∃ A c, e = .returned (.slice A l.length c) ∧ l.length ≤ c ∧ Kd.C (Kd.int .u8) w' A l.length l ∧ Below W.heap.size W w'
set_option maxHeartbeats 1000000 in
theorem literal_lit46 (b : Nat) (s : ByteArray) (w : World) (hb : w.heap[b]? = some (.cells #[.string s] 9 (0, 0))) (hs : s.size ≤ 1000000) : Calls Tryd.prog 46 #[.pointer (some ⟨b, 0, none⟩)] w (Laid1 w (sb s)) := by
 have hc : w.cell? ⟨b, 0, none⟩ = some (.string s) := (blk_cell hb 0).trans rfl
 have hcv := conv_run w s
 have HS := Aside0.mk hs
 clear hb hs
 go_enter Tryd.func46, Tryd.ntmps46
 go_wp2
 go_ret
 exact ⟨_, _, by rw [sb_len]; rfl, by rw [sb_len]; exact conv_cap w s, by rw [sb_len]; exact conv_C w s (by have := HS.out; omega), conv_below w s⟩
set_option maxHeartbeats 1000000 in
theorem literal_lit45 (b : Nat) (s : ByteArray) (r : List Int) (w : World) (hG : GB w) (hb : w.heap[b]? = some (.cells #[.string s] 9 (0, 0))) (hs : s.size ≤ 1000000) (h : huff_Encode.f (sb s) = some r) : Calls Tryd.prog 45 #[.pointer (some ⟨b, 0, none⟩)] w (Laid1 w r) := by
 have hc : w.cell? ⟨b, 0, none⟩ = some (.string s) := (blk_cell hb 0).trans rfl
 have hcv := conv_run w s
 have HS := Aside0.mk hs
 have HG := Aside0.mk hG
 have HH := Aside0.mk h
 clear hb hs hG h
 go_enter Tryd.func45, Tryd.ntmps45
 go_wp2_with fail
 have hC := conv_C w s (by have := HS.out; omega)
 have hcap := conv_cap w s
 generalize grownCap w s.size 0 5 = cap at *
 rw [← sb_len s] at hC hcap
 rw [← sb_len s]
 refine (huff_Encode.calls _ cap (sb s) r _ (HG.out.below (conv_below w s)) hC hcap HH.out).mono ?_
 rintro e_ w1 ⟨v1, rfl, hR, hb1⟩
 have HR1 := Aside0.mk hR
 have HB1 := Aside0.mk (below_step (conv_below w s) hb1)
 clear hR hb1 hC hcap hcv hc
 go_wp2
 go_ret
 obtain ⟨A1, c1, rfl⟩ := Kd.R_slice HR1.out
 exact ⟨A1, c1, rfl, (Kd.R_reads' HR1.out).2.1, (Kd.R_reads' HR1.out).2.2, HB1.out⟩
set_option maxHeartbeats 2000000 in
set_option maxRecDepth 100000 in
theorem literal_laid.calls45 (k : Nat) (above : Int) (b : Nat) (l r : List Int) (w : World) (hcl : Calls Tryd.prog 45 #[.pointer (some ⟨b, 0, none⟩)] w (Laid1 w l)) (h : literal_laid.f k above l = some r) :
  Calls Tryd.prog 44 #[.int .i64 above, .func (.func 45) #[] #[.pointer (some ⟨b, 0, none⟩)]] w fun e w' => ∃ v0_ : Value, e = .returned v0_ ∧ Kd.R (Kd.int .u8) 5 w' w.heap.size (fun _ => True) v0_ r ∧ Below w.heap.size w w' := by
 unfold literal_laid.f at h
 obtain ⟨⟨p, pe⟩, hp, h⟩ := Option.bind_eq_some_iff.mp h
 by_cases hlt : p.length + l.length < 140737488355328
 ·
  rw [if_pos hlt] at h
  have HH := Aside0.mk (Option.some.inj h)
  have HP := Aside0.mk hp
  have HLT := Aside0.mk hlt
  have HCL := Aside0.mk hcl
  clear h hp hlt hcl
  go_enter Tryd.func44, Tryd.ntmps44
  go_wp2_with fail
  refine HCL.out.mono ?_
  rintro e_ w1 ⟨A1, c1, rfl, hc1, hC1, hb1⟩
  have HC1 := Aside0.mk hC1
  have HB1 := Aside0.mk hb1
  clear hc1 hC1 hb1 HCL
  go_wp2_with fail
  refine (prefix_Encode.calls k (l.length : Int) 7 above p pe _ HP.out).mono ?_
  rintro e_ w2 ⟨v2, rfl, hR2, hb2⟩
  have HR2 := Aside0.mk (Kd.R_lower hR2 (below_size HB1.out))
  have HC2 := Aside0.mk (Kd.C_below HC1.out hb2)
  have HB2 := Aside0.mk (below_step HB1.out hb2)
  clear hR2 hb2 HC1 HB1
  go_wp2_with (at_builtin; refine Kd.R_append_row (Value.int .u8) (0 : Int) (w0 := w) w.heap.size rfl (.tmp 17) (.tmp 18) 22 5 (.int .u8 0) 1 rfl Tryd.underlying22 info5 rfl (by decide) v2 p l A1 l.length c1 (fun _ => True) rfl rfl (fun _ _ => trivial) HR2.out HC2.out HB2.out (below_size HB2.out) (by have := HLT.out; omega) ?_; intro v3 w3 hR3 hb3 _ _; have HR3 := Aside0.mk hR3; have HB3 := Aside0.mk hb3; clear hR3 hb3)
  go_ret
  exact ⟨_, rfl, by rw [← HH.out]; exact HR3.out, HB3.out⟩
 ·
  rw [if_neg hlt] at h; cases h
set_option maxHeartbeats 2000000 in
set_option maxRecDepth 100000 in
theorem literal_laid.calls46 (k : Nat) (above : Int) (b : Nat) (l r : List Int) (w : World) (hcl : Calls Tryd.prog 46 #[.pointer (some ⟨b, 0, none⟩)] w (Laid1 w l)) (h : literal_laid.f k above l = some r) :
  Calls Tryd.prog 44 #[.int .i64 above, .func (.func 46) #[] #[.pointer (some ⟨b, 0, none⟩)]] w fun e w' => ∃ v0_ : Value, e = .returned v0_ ∧ Kd.R (Kd.int .u8) 5 w' w.heap.size (fun _ => True) v0_ r ∧ Below w.heap.size w w' := by
 unfold literal_laid.f at h
 obtain ⟨⟨p, pe⟩, hp, h⟩ := Option.bind_eq_some_iff.mp h
 by_cases hlt : p.length + l.length < 140737488355328
 ·
  rw [if_pos hlt] at h
  have HH := Aside0.mk (Option.some.inj h)
  have HP := Aside0.mk hp
  have HLT := Aside0.mk hlt
  have HCL := Aside0.mk hcl
  clear h hp hlt hcl
  go_enter Tryd.func44, Tryd.ntmps44
  go_wp2_with fail
  refine HCL.out.mono ?_
  rintro e_ w1 ⟨A1, c1, rfl, hc1, hC1, hb1⟩
  have HC1 := Aside0.mk hC1
  have HB1 := Aside0.mk hb1
  clear hc1 hC1 hb1 HCL
  go_wp2_with fail
  refine (prefix_Encode.calls k (l.length : Int) 7 above p pe _ HP.out).mono ?_
  rintro e_ w2 ⟨v2, rfl, hR2, hb2⟩
  have HR2 := Aside0.mk (Kd.R_lower hR2 (below_size HB1.out))
  have HC2 := Aside0.mk (Kd.C_below HC1.out hb2)
  have HB2 := Aside0.mk (below_step HB1.out hb2)
  clear hR2 hb2 HC1 HB1
  go_wp2_with (at_builtin; refine Kd.R_append_row (Value.int .u8) (0 : Int) (w0 := w) w.heap.size rfl (.tmp 17) (.tmp 18) 22 5 (.int .u8 0) 1 rfl Tryd.underlying22 info5 rfl (by decide) v2 p l A1 l.length c1 (fun _ => True) rfl rfl (fun _ _ => trivial) HR2.out HC2.out HB2.out (below_size HB2.out) (by have := HLT.out; omega) ?_; intro v3 w3 hR3 hb3 _ _; have HR3 := Aside0.mk hR3; have HB3 := Aside0.mk hb3; clear hR3 hb3)
  go_ret
  exact ⟨_, rfl, by rw [← HH.out]; exact HR3.out, HB3.out⟩
 ·
  rw [if_neg hlt] at h; cases h
set_option maxHeartbeats 2000000 in
set_option maxRecDepth 100000 in
theorem literal_Encode.calls (k : Nat) (a0 : ByteArray) (a1 : Bool) (r1 : List Int) (r2 : Int) (w : World) (hG : GB w) (h : literal_Encode.f k a0 a1 = some (r1, r2)) :
  Calls Tryd.prog 23 #[.string a0, .bool a1] w fun e w' => ∃ v0_ : Value, e = .returned (.tuple #[v0_, .int .i64 r2]) ∧ Kd.R (Kd.int .u8) 5 w' w.heap.size (fun _ => True) v0_ r1 ∧ Below w.heap.size w w' := by
 unfold literal_Encode.f at h
 by_cases hz : (a0.size : Int) > 65536
 ·
  rw [if_pos hz] at h
  cases h
  have b1 : decide (65536 < (a0.size : Int)) = true := decide_eq_true hz
  have b2 : decide (65536 < a0.size) = true := decide_eq_true (by omega)
  go_enter Tryd.func23, Tryd.ntmps23
  go_wp2
  go_ret2
  exact ⟨_, rfl, Kd.R_nil _ _ _ _ _, below_alloc (Below.refl _ _) _⟩
 ·
  rw [if_neg hz] at h
  have b1 : decide (65536 < (a0.size : Int)) = false := decide_eq_false hz
  have b2 : decide (65536 < a0.size) = false := decide_eq_false (by omega)
  have HZ : Aside0 (a0.size ≤ 1000000) := ⟨by omega⟩
  have HG := Aside0.mk hG
  have HB := Aside0.mk (below_alloc (Below.refl w.heap.size w) (.cells #[.string a0] 9))
  clear hz hG
  cases a1 with
  | true =>
   rw [if_pos rfl] at h
   obtain ⟨hb, hh, h⟩ := Option.bind_eq_some_iff.mp h
   obtain ⟨r, hr, h⟩ := Option.bind_eq_some_iff.mp h
   cases h
   have HH := Aside0.mk hh
   have HR := Aside0.mk hr
   clear hh hr
   go_enter Tryd.func23, Tryd.ntmps23
   go_wp2_with (go_at_call 44; refine (literal_laid.calls45 k 128 w.heap.size hb r1 _ (literal_lit45 w.heap.size a0 hb _ (HG.out.alloc _) (blk_new w _) HZ.out HH.out) HR.out).mono ?_; rintro e_ w1 ⟨v1, rfl, hR, hb1⟩; have HR1 := Aside0.mk (Kd.R_lower hR (below_size HB.out)); have HB1 := Aside0.mk (below_step HB.out hb1); clear hR hb1)
   go_ret2
   exact ⟨_, rfl, HR1.out, HB1.out⟩
  | false =>
   rw [if_neg (by decide)] at h
   obtain ⟨r, hr, h⟩ := Option.bind_eq_some_iff.mp h
   cases h
   have HR := Aside0.mk hr
   clear hr
   go_enter Tryd.func23, Tryd.ntmps23
   go_wp2_with (go_at_call 44; refine (literal_laid.calls46 k 0 w.heap.size (sb a0) r1 _ (literal_lit46 w.heap.size a0 _ (blk_new w _) HZ.out) HR.out).mono ?_; rintro e_ w1 ⟨v1, rfl, hR, hb1⟩; have HR1 := Aside0.mk (Kd.R_lower hR (below_size HB.out)); have HB1 := Aside0.mk (below_step HB.out hb1); clear hR hb1)
   go_ret2
   exact ⟨_, rfl, HR1.out, HB1.out⟩

/-! ### literal_Short: function 25 -/
def literal_Short.f (k : Nat) (a0 : ByteArray) : Option (List Int) := (literal_Encode.f k a0 false).bind fun bt114 => ((literal_Encode.f k a0 true).bind fun bt118 => (if bt114.2 = 0 then (if (bt114.1.length : Int) ≤ (bt118.1.length : Int) then (some bt114.1) else (some bt118.1)) else (some bt114.1)))
theorem literal_Short.mono : ∀ a0 k, LeO (literal_Short.f k a0) (literal_Short.f (k + 1) a0) := by
 intro a0 k
 unfold literal_Short.f
 repeat' first
   | (with_reducible exact literal_Encode.mono _ _ _)
   | (with_reducible exact LeO.refl _)
   | (with_reducible exact LeO.none _)
   | (with_reducible refine LeO.ite ?_ ?_)
   | (with_reducible refine LeO.bind ?_ (fun _ => ?_))
   | exact literal_Encode.mono _ _ _
   | exact LeO.none _
   | refine LeO.ite ?_ ?_
   | refine LeO.bind ?_ (fun _ => ?_)
set_option maxHeartbeats 8000000 in
set_option maxRecDepth 100000 in
theorem literal_Short.calls (k : Nat) (a0 : ByteArray) (r : List Int) (w : World) (hG : GB w) (h : literal_Short.f k a0 = some r) :
  Calls Tryd.prog 25 #[.string a0] w fun e w' => ∃ v0_ : Value, e = .returned (v0_) ∧ Kd.R (Kd.int .u8) 5 w' w.heap.size (fun _ => True) v0_ r ∧ Below w.heap.size w w' := by
 have HG := Aside0.mk hG
 clear hG
 have HB := Aside0.mk (Below.refl w.heap.size w)
 have H : ((literal_Encode.f k a0 false).bind fun bt114 => ((literal_Encode.f k a0 true).bind fun bt118 => (if bt114.2 = 0 then (if (bt114.1.length : Int) ≤ (bt118.1.length : Int) then (some bt114.1) else (some bt118.1)) else (some bt114.1)))) = some r := h
 clear h
 replace H := Option.bind_eq_some_iff.mp H
 obtain ⟨⟨t114, t115⟩, A20, H⟩ := H
 replace H : ((literal_Encode.f k a0 true).bind fun bt118 => (if t115 = 0 then (if (t114.length : Int) ≤ (bt118.1.length : Int) then (some t114) else (some bt118.1)) else (some t114))) = some r := H
 have A2 := Aside0.mk A20
 clear A20
 replace H := Option.bind_eq_some_iff.mp H
 obtain ⟨⟨t118, t119⟩, A30, H⟩ := H
 replace H : (if t115 = 0 then (if (t114.length : Int) ≤ (t118.length : Int) then (some t114) else (some t118)) else (some t114)) = some r := H
 have A3 := Aside0.mk A30
 clear A30
 by_cases c4 : t115 = 0
 ·
  rw [if_pos c4] at H
  have c4b0 : (t115 == 0) = true := beq_iff_eq.mpr c4
  have c4b1 : (t115 != 0) = false := bne_eq_false_iff_eq.mpr c4
  clear c4
  by_cases c5 : (t114.length : Int) ≤ (t118.length : Int)
  ·
   rw [if_pos c5] at H
   have c5b0 : decide ((t114.length : Int) ≤ (t118.length : Int)) = true := decide_eq_true c5
   have c5b1 : decide (t114.length ≤ t118.length) = true := decide_eq_true (Int.ofNat_le.mp c5)
   clear c5
   obtain rfl := Option.some.inj H
   go_enter Tryd.func25, Tryd.ntmps25
   go_wp2_with (first | ((with_reducible refine gate_callee (f := 23) rfl ?_); refine goesL_ (some 9) rfl rfl Tryd.func23 (by kernel_rfl) rfl #[.string a0, .bool false] rfl (by (try simp only [List.map_toArray, List.map_cons, List.map_nil]); first | done | rfl | (simp only [List.length_drop, List.length_take]; rfl)) ?_; (with_reducible refine (literal_Encode.calls k a0 false t114 t115 _ ?side1 A2.out).mono ?_); (case side1 => exact GB.below HG.out (by repeat (first | (with_reducible first | exact HB.out | apply below_alloc | apply pw_below_drewN | apply below_drew1) | exact HB.out))); rintro e w6 ⟨v116, rfl, ho0, hb⟩; refine ⟨_, rfl, ?_⟩; have n0_ := Aside0.mk (Kd.R_lower ho0 (below_size (by repeat (first | (with_reducible first | exact HB.out | apply below_alloc | apply pw_below_drewN | apply below_drew1) | exact HB.out)))); have n1_ := Aside0.mk (below_step (by repeat (first | (with_reducible first | exact HB.out | apply below_alloc | apply pw_below_drewN | apply below_drew1) | exact HB.out)) hb); clear HB; have HO117 := n0_; have HB := n1_; clear n0_ n1_; (try clear hb); (try clear hb2); (try clear hk); (try clear hi); (try clear ho0)) | ((with_reducible refine gate_callee (f := 23) rfl ?_); refine goesL_ (some 14) rfl rfl Tryd.func23 (by kernel_rfl) rfl #[.string a0, .bool true] rfl (by (try simp only [List.map_toArray, List.map_cons, List.map_nil]); first | done | rfl | (simp only [List.length_drop, List.length_take]; rfl)) ?_; (with_reducible refine (literal_Encode.calls k a0 true t118 t119 _ ?side1 A3.out).mono ?_); (case side1 => exact GB.below HG.out (by repeat (first | (with_reducible first | exact HB.out | apply below_alloc | apply pw_below_drewN | apply below_drew1) | exact HB.out))); rintro e w7 ⟨v120, rfl, ho0, hb⟩; refine ⟨_, rfl, ?_⟩; have n0_ := Aside0.mk (Kd.R_elder' (by (with_reducible repeat (first | apply Kd.R_alloc | apply Kd.R_drewN | apply Kd.R_drew)); exact HO117.out) (Kd.R_base ho0) hb); have n1_ := Aside0.mk (Kd.R_lower (Kd.R_new' ho0 (Kd.R_lt (by (with_reducible repeat (first | apply Kd.R_alloc | apply Kd.R_drewN | apply Kd.R_drew)); exact HO117.out))) (below_size (by repeat (first | (with_reducible first | exact HB.out | apply below_alloc | apply pw_below_drewN | apply below_drew1) | exact HB.out)))); have n2_ := Aside0.mk (below_step (by repeat (first | (with_reducible first | exact HB.out | apply below_alloc | apply pw_below_drewN | apply below_drew1) | exact HB.out)) hb); clear HO117; clear HB; have HO117 := n0_; have HO121 := n1_; have HB := n2_; clear n0_ n1_ n2_; (try clear hb); (try clear hb2); (try clear hk); (try clear hi); (try clear ho0); obtain ⟨Ao8, co8, eo8⟩ := Kd.R_slice HO117.out; subst eo8; obtain ⟨Ao9, co9, eo9⟩ := Kd.R_slice HO121.out; subst eo9))
   go_ret
   exact ⟨_, by first | rfl | (simp [errW_none, errW_some] <;> rfl) | (simp [*, errW_none, errW_some] <;> rfl), by (with_reducible repeat (first | apply Kd.R_alloc | apply Kd.R_drewN | apply Kd.R_drew)); exact Kd.R_mono HO117.out (fun _ hk => trivial), by repeat (first | (with_reducible first | exact HB.out | apply below_alloc | apply pw_below_drewN | apply below_drew1) | exact HB.out)⟩
  ·
   rw [if_neg c5] at H
   have c5b0 : decide ((t114.length : Int) ≤ (t118.length : Int)) = false := decide_eq_false c5
   have c5b1 : decide (t114.length ≤ t118.length) = false := decide_eq_false (fun h => c5 (Int.ofNat_le.mpr h))
   clear c5
   obtain rfl := Option.some.inj H
   go_enter Tryd.func25, Tryd.ntmps25
   go_wp2_with (first | ((with_reducible refine gate_callee (f := 23) rfl ?_); refine goesL_ (some 9) rfl rfl Tryd.func23 (by kernel_rfl) rfl #[.string a0, .bool false] rfl (by (try simp only [List.map_toArray, List.map_cons, List.map_nil]); first | done | rfl | (simp only [List.length_drop, List.length_take]; rfl)) ?_; (with_reducible refine (literal_Encode.calls k a0 false t114 t115 _ ?side1 A2.out).mono ?_); (case side1 => exact GB.below HG.out (by repeat (first | (with_reducible first | exact HB.out | apply below_alloc | apply pw_below_drewN | apply below_drew1) | exact HB.out))); rintro e w10 ⟨v116, rfl, ho0, hb⟩; refine ⟨_, rfl, ?_⟩; have n0_ := Aside0.mk (Kd.R_lower ho0 (below_size (by repeat (first | (with_reducible first | exact HB.out | apply below_alloc | apply pw_below_drewN | apply below_drew1) | exact HB.out)))); have n1_ := Aside0.mk (below_step (by repeat (first | (with_reducible first | exact HB.out | apply below_alloc | apply pw_below_drewN | apply below_drew1) | exact HB.out)) hb); clear HB; have HO117 := n0_; have HB := n1_; clear n0_ n1_; (try clear hb); (try clear hb2); (try clear hk); (try clear hi); (try clear ho0)) | ((with_reducible refine gate_callee (f := 23) rfl ?_); refine goesL_ (some 14) rfl rfl Tryd.func23 (by kernel_rfl) rfl #[.string a0, .bool true] rfl (by (try simp only [List.map_toArray, List.map_cons, List.map_nil]); first | done | rfl | (simp only [List.length_drop, List.length_take]; rfl)) ?_; (with_reducible refine (literal_Encode.calls k a0 true t118 t119 _ ?side1 A3.out).mono ?_); (case side1 => exact GB.below HG.out (by repeat (first | (with_reducible first | exact HB.out | apply below_alloc | apply pw_below_drewN | apply below_drew1) | exact HB.out))); rintro e w11 ⟨v120, rfl, ho0, hb⟩; refine ⟨_, rfl, ?_⟩; have n0_ := Aside0.mk (Kd.R_elder' (by (with_reducible repeat (first | apply Kd.R_alloc | apply Kd.R_drewN | apply Kd.R_drew)); exact HO117.out) (Kd.R_base ho0) hb); have n1_ := Aside0.mk (Kd.R_lower (Kd.R_new' ho0 (Kd.R_lt (by (with_reducible repeat (first | apply Kd.R_alloc | apply Kd.R_drewN | apply Kd.R_drew)); exact HO117.out))) (below_size (by repeat (first | (with_reducible first | exact HB.out | apply below_alloc | apply pw_below_drewN | apply below_drew1) | exact HB.out)))); have n2_ := Aside0.mk (below_step (by repeat (first | (with_reducible first | exact HB.out | apply below_alloc | apply pw_below_drewN | apply below_drew1) | exact HB.out)) hb); clear HO117; clear HB; have HO117 := n0_; have HO121 := n1_; have HB := n2_; clear n0_ n1_ n2_; (try clear hb); (try clear hb2); (try clear hk); (try clear hi); (try clear ho0); obtain ⟨Ao12, co12, eo12⟩ := Kd.R_slice HO117.out; subst eo12; obtain ⟨Ao13, co13, eo13⟩ := Kd.R_slice HO121.out; subst eo13))
   go_ret
   exact ⟨_, by first | rfl | (simp [errW_none, errW_some] <;> rfl) | (simp [*, errW_none, errW_some] <;> rfl), by (with_reducible repeat (first | apply Kd.R_alloc | apply Kd.R_drewN | apply Kd.R_drew)); exact Kd.R_mono HO121.out (fun _ hk => trivial), by repeat (first | (with_reducible first | exact HB.out | apply below_alloc | apply pw_below_drewN | apply below_drew1) | exact HB.out)⟩
 ·
  rw [if_neg c4] at H
  have c4b0 : (t115 == 0) = false := beq_eq_false_iff_ne.mpr c4
  have c4b1 : (t115 != 0) = true := bne_iff_ne.mpr c4
  obtain rfl := Option.some.inj H
  go_enter Tryd.func25, Tryd.ntmps25
  go_wp2_with (first | ((with_reducible refine gate_callee (f := 23) rfl ?_); refine goesL_ (some 9) rfl rfl Tryd.func23 (by kernel_rfl) rfl #[.string a0, .bool false] rfl (by (try simp only [List.map_toArray, List.map_cons, List.map_nil]); first | done | rfl | (simp only [List.length_drop, List.length_take]; rfl)) ?_; (with_reducible refine (literal_Encode.calls k a0 false t114 t115 _ ?side1 A2.out).mono ?_); (case side1 => exact GB.below HG.out (by repeat (first | (with_reducible first | exact HB.out | apply below_alloc | apply pw_below_drewN | apply below_drew1) | exact HB.out))); rintro e w14 ⟨v116, rfl, ho0, hb⟩; refine ⟨_, rfl, ?_⟩; have n0_ := Aside0.mk (Kd.R_lower ho0 (below_size (by repeat (first | (with_reducible first | exact HB.out | apply below_alloc | apply pw_below_drewN | apply below_drew1) | exact HB.out)))); have n1_ := Aside0.mk (below_step (by repeat (first | (with_reducible first | exact HB.out | apply below_alloc | apply pw_below_drewN | apply below_drew1) | exact HB.out)) hb); clear HB; have HO117 := n0_; have HB := n1_; clear n0_ n1_; (try clear hb); (try clear hb2); (try clear hk); (try clear hi); (try clear ho0)) | ((with_reducible refine gate_callee (f := 23) rfl ?_); refine goesL_ (some 14) rfl rfl Tryd.func23 (by kernel_rfl) rfl #[.string a0, .bool true] rfl (by (try simp only [List.map_toArray, List.map_cons, List.map_nil]); first | done | rfl | (simp only [List.length_drop, List.length_take]; rfl)) ?_; (with_reducible refine (literal_Encode.calls k a0 true t118 t119 _ ?side1 A3.out).mono ?_); (case side1 => exact GB.below HG.out (by repeat (first | (with_reducible first | exact HB.out | apply below_alloc | apply pw_below_drewN | apply below_drew1) | exact HB.out))); rintro e w15 ⟨v120, rfl, ho0, hb⟩; refine ⟨_, rfl, ?_⟩; have n0_ := Aside0.mk (Kd.R_elder' (by (with_reducible repeat (first | apply Kd.R_alloc | apply Kd.R_drewN | apply Kd.R_drew)); exact HO117.out) (Kd.R_base ho0) hb); have n1_ := Aside0.mk (Kd.R_lower (Kd.R_new' ho0 (Kd.R_lt (by (with_reducible repeat (first | apply Kd.R_alloc | apply Kd.R_drewN | apply Kd.R_drew)); exact HO117.out))) (below_size (by repeat (first | (with_reducible first | exact HB.out | apply below_alloc | apply pw_below_drewN | apply below_drew1) | exact HB.out)))); have n2_ := Aside0.mk (below_step (by repeat (first | (with_reducible first | exact HB.out | apply below_alloc | apply pw_below_drewN | apply below_drew1) | exact HB.out)) hb); clear HO117; clear HB; have HO117 := n0_; have HO121 := n1_; have HB := n2_; clear n0_ n1_ n2_; (try clear hb); (try clear hb2); (try clear hk); (try clear hi); (try clear ho0)))
  go_ret
  exact ⟨_, by first | rfl | (simp [errW_none, errW_some] <;> rfl) | (simp [*, errW_none, errW_some] <;> rfl), by (with_reducible repeat (first | apply Kd.R_alloc | apply Kd.R_drewN | apply Kd.R_drew)); exact Kd.R_mono HO117.out (fun _ hk => trivial), by repeat (first | (with_reducible first | exact HB.out | apply below_alloc | apply pw_below_drewN | apply below_drew1) | exact HB.out)⟩

-- NOT PRINTED: function 38 (huff_codes)

-- NOT PRINTED: function 41 (huff_texts)

-- NOT PRINTED: function 42 (huff_bits)

/-! ### huff_Decode: function 18 (the session's own) -/

/-! ### prefix_Decode: function 48 -/
def prefix_Decode.l0 : Nat → List Int → Int → Int → Int → Option (Int × Int × Int)
 | 0, _, _, _, _ => none
 | k + 1, x0, x8, x9, x10 => if x9 = 5 then (some (0, 0, 3)) else (if x9 = (x0.length : Int) then (some (0, 0, 2)) else (if 0 ≤ x9 then (if x9 < (x0.length : Int) then (if 0 ≤ x10 then (if (wrap64 (x8 + (shl .i64 (Int.tmod (wrap64 (rd x0 x9)) 128) x10))) > 16777215 then (some (0, 0, 3)) else (if (wrap64 (rd x0 x9)) ≥ 128 then (prefix_Decode.l0 k x0 (wrap64 (x8 + (shl .i64 (Int.tmod (wrap64 (rd x0 x9)) 128) x10))) (wrap64 (x9 + 1)) (wrap64 (x10 + 7))) else (some (wrap64 (x8 + (shl .i64 (Int.tmod (wrap64 (rd x0 x9)) 128) x10)), wrap64 (x9 + 1), 0)))) else (none)) else (none)) else (none)))
def prefix_Decode.f (k : Nat) (l0 : List Int) (a1 : Int) : Option (Int × Int × Int) := (prefix_right.f a1).bind fun t122 => (if t122 = true then (if (l0.length : Int) = 0 then (some (0, 0, 2)) else (if 0 ≤ a1 then (if 0 < (l0.length : Int) then (if (Go.bits .and .i64 (wrap64 (rd l0 0)) (wrap64 ((shl .i64 1 a1) - 1))) < (wrap64 ((shl .i64 1 a1) - 1)) then (some (Go.bits .and .i64 (wrap64 (rd l0 0)) (wrap64 ((shl .i64 1 a1) - 1)), 1, 0)) else (prefix_Decode.l0 k l0 (Go.bits .and .i64 (wrap64 (rd l0 0)) (wrap64 ((shl .i64 1 a1) - 1))) 1 0)) else (none)) else (none))) else (some (0, 0, 1)))
theorem prefix_Decode.mono_l : ∀ k, (∀ y0 y1 y2 y3, LeO (prefix_Decode.l0 k y0 y1 y2 y3) (prefix_Decode.l0 (k + 1) y0 y1 y2 y3))
 | 0 => fun _ _ _ _ r h => by simp [prefix_Decode.l0] at h
 | k + 1 => by
  have ih0 := prefix_Decode.mono_l k
  ·
   intro y0 y1 y2 y3
   unfold prefix_Decode.l0
   repeat' first
   | (with_reducible exact ih0 _ _ _ _)
   | (with_reducible exact LeO.refl _)
   | (with_reducible exact LeO.none _)
   | (with_reducible refine LeO.ite ?_ ?_)
   | (with_reducible refine LeO.bind ?_ (fun _ => ?_))
   | exact ih0 _ _ _ _
   | exact LeO.none _
   | refine LeO.ite ?_ ?_
   | refine LeO.bind ?_ (fun _ => ?_)
theorem prefix_Decode.mono : ∀ a0 a1 k, LeO (prefix_Decode.f k a0 a1) (prefix_Decode.f (k + 1) a0 a1) := by
 intro a0 a1 k
 have ih0 := prefix_Decode.mono_l k
 unfold prefix_Decode.f
 repeat' first
   | (with_reducible exact ih0 _ _ _ _)
   | (with_reducible exact LeO.refl _)
   | (with_reducible exact LeO.none _)
   | (with_reducible refine LeO.ite ?_ ?_)
   | (with_reducible refine LeO.bind ?_ (fun _ => ?_))
   | exact ih0 _ _ _ _
   | exact LeO.none _
   | refine LeO.ite ?_ ?_
   | refine LeO.bind ?_ (fun _ => ?_)
set_option maxHeartbeats 8000000 in
set_option maxRecDepth 100000 in
theorem prefix_Decode.calls (k : Nat) (A0 : Option Addr) (c0 : Nat) (l0 : List Int) (a1 : Int) (r1 : Int) (r2 : Int) (r3 : Int) (w : World) (hr0 : Kd.C (Kd.int .u8) w A0 l0.length l0) (hc0 : l0.length ≤ c0) (h : prefix_Decode.f k l0 a1 = some (r1, r2, r3)) :
  Calls Tryd.prog 48 #[.slice A0 l0.length c0, .int .i64 a1] w fun e w' => e = .returned (.tuple #[.int .i64 r1, .int .i64 r2, .int .i64 r3]) ∧ Drawn0 w w' := by
 have HR0 := Aside0.mk hr0
 have HC0 := Aside0.mk hc0
 clear hr0 hc0
 have H : ((prefix_right.f a1).bind fun t122 => (if t122 = true then (if (l0.length : Int) = 0 then (some (0, 0, 2)) else (if 0 ≤ a1 then (if 0 < (l0.length : Int) then (if (Go.bits .and .i64 (wrap64 (rd l0 0)) (wrap64 ((shl .i64 1 a1) - 1))) < (wrap64 ((shl .i64 1 a1) - 1)) then (some (Go.bits .and .i64 (wrap64 (rd l0 0)) (wrap64 ((shl .i64 1 a1) - 1)), 1, 0)) else (prefix_Decode.l0 k l0 (Go.bits .and .i64 (wrap64 (rd l0 0)) (wrap64 ((shl .i64 1 a1) - 1))) 1 0)) else (none)) else (none))) else (some (0, 0, 1)))) = some (r1, r2, r3) := h
 clear h
 replace H := Option.bind_eq_some_iff.mp H
 obtain ⟨t122, A30, H⟩ := H
 replace H : (if t122 = true then (if (l0.length : Int) = 0 then (some (0, 0, 2)) else (if 0 ≤ a1 then (if 0 < (l0.length : Int) then (if (Go.bits .and .i64 (wrap64 (rd l0 0)) (wrap64 ((shl .i64 1 a1) - 1))) < (wrap64 ((shl .i64 1 a1) - 1)) then (some (Go.bits .and .i64 (wrap64 (rd l0 0)) (wrap64 ((shl .i64 1 a1) - 1)), 1, 0)) else (prefix_Decode.l0 k l0 (Go.bits .and .i64 (wrap64 (rd l0 0)) (wrap64 ((shl .i64 1 a1) - 1))) 1 0)) else (none)) else (none))) else (some (0, 0, 1))) = some (r1, r2, r3) := H
 have A3 := Aside0.mk A30
 clear A30
 by_cases c4 : t122 = true
 ·
  subst c4
  have H1 : (if (l0.length : Int) = 0 then (some (0, 0, 2)) else (if 0 ≤ a1 then (if 0 < (l0.length : Int) then (if (Go.bits .and .i64 (wrap64 (rd l0 0)) (wrap64 ((shl .i64 1 a1) - 1))) < (wrap64 ((shl .i64 1 a1) - 1)) then (some (Go.bits .and .i64 (wrap64 (rd l0 0)) (wrap64 ((shl .i64 1 a1) - 1)), 1, 0)) else (prefix_Decode.l0 k l0 (Go.bits .and .i64 (wrap64 (rd l0 0)) (wrap64 ((shl .i64 1 a1) - 1))) 1 0)) else (none)) else (none))) = some (r1, r2, r3) := by rw [if_pos rfl] at H; exact H
  clear H
  have H := H1
  clear H1
  by_cases c5 : (l0.length : Int) = 0
  ·
   rw [if_pos c5] at H
   have c5b0 : ((l0.length : Int) == 0) = true := beq_iff_eq.mpr c5
   have c5b1 : ((l0.length : Int) != 0) = false := bne_eq_false_iff_eq.mpr c5
   clear c5
   simp only [Option.some.injEq, Prod.mk.injEq] at H
   obtain ⟨rfl, rfl, rfl⟩ := H
   go_enter Tryd.func48, Tryd.ntmps48
   go_wp2_with (first | go_step3 | ((with_reducible refine gate_callee (f := 58) rfl ?_); refine goesL_ (some 14) rfl rfl Tryd.func58 (by kernel_rfl) rfl #[.int .i64 a1] rfl (by (try simp only [List.map_toArray, List.map_cons, List.map_nil]); first | done | rfl | (simp only [List.length_drop, List.length_take]; rfl)) ?_; (with_reducible refine (prefix_right.calls a1 true _ A3.out).mono ?_); rintro e w' ⟨rfl, ⟨nd, rfl⟩⟩; refine ⟨_, rfl, ?_⟩))
   (try rw [Exit.noGoto_ret])
   go_ret3
   exact ⟨by first | rfl | (simp; done) | (simp [*]; done), by repeat (first | exact Drawn0.refl _ | apply Drawn0.step)⟩
  ·
   rw [if_neg c5] at H
   have c5b0 : ((l0.length : Int) == 0) = false := beq_eq_false_iff_ne.mpr c5
   have c5b1 : ((l0.length : Int) != 0) = true := bne_iff_ne.mpr c5
   have c5b2 : ¬ (l0 = []) := fun h_ => c5 (by rw [h_]; rfl)
   by_cases c6 : 0 ≤ a1
   ·
    rw [if_pos c6] at H
    have c6b0 := eq_true c6
    have c6b1 : decide (0 ≤ a1) = true := decide_eq_true c6
    clear c6
    obtain ⟨ji7, hji7⟩ : ∃ j_ : Int, (shl .i64 1 a1) = j_ := ⟨_, rfl⟩
    replace H : (if 0 < (l0.length : Int) then (if (Go.bits .and .i64 (wrap64 (rd l0 0)) (wrap64 ((ji7) - 1))) < (wrap64 ((ji7) - 1)) then (some (Go.bits .and .i64 (wrap64 (rd l0 0)) (wrap64 ((ji7) - 1)), 1, 0)) else (prefix_Decode.l0 k l0 (Go.bits .and .i64 (wrap64 (rd l0 0)) (wrap64 ((ji7) - 1))) 1 0)) else (none)) = some (r1, r2, r3) := by first | (rw [hji7] at H; exact H) | (simp only [hji7] at H ⊢; exact H)
    (try rw [hji7] at A3)
    have hji7_ : (IntKind.i64.wrap (1 * 2 ^ min a1.toNat 64)) = ji7 := hji7
    have hji7z : a1 ≤ 64 → (IntKind.i64.wrap (1 * 2 ^ a1.toNat)) = ji7 := shl_small hji7
    have hji7u : (IntKind.i64.wrap (2 ^ min a1.toNat 64)) = ji7 := by have h_ := hji7_; rw [Int.one_mul] at h_; exact h_
    have hji7v : a1 ≤ 64 → (IntKind.i64.wrap (2 ^ a1.toNat)) = ji7 := fun hle_ => by have h_ := hji7z hle_; rw [Int.one_mul] at h_; exact h_
    have hji7y : (wrap64 (1 * 2 ^ min a1.toNat 64)) = ji7 := (i64_w _).symm.trans hji7_
    have hji7x : a1 ≤ 64 → (wrap64 (1 * 2 ^ a1.toNat)) = ji7 := fun h_ => (i64_w _).symm.trans (hji7z h_)
    by_cases c8 : 0 < (l0.length : Int)
    ·
     rw [if_pos c8] at H
     have c8b0 : decide (0 < (l0.length : Int)) = true := decide_eq_true c8
     have c8b1 : decide (0 < l0.length) = true := decide_eq_true (by omega)
     clear c8
     by_cases c9 : (Go.bits .and .i64 (wrap64 (rd l0 0)) (wrap64 ((ji7) - 1))) < (wrap64 ((ji7) - 1))
     ·
      rw [if_pos c9] at H
      have c9b0 : decide ((Go.bits .and .i64 (wrap64 (rd l0 0)) (wrap64 ((ji7) - 1))) < (wrap64 ((ji7) - 1))) = true := decide_eq_true c9
      clear c9
      simp only [Option.some.injEq, Prod.mk.injEq] at H
      obtain ⟨rfl, rfl, rfl⟩ := H
      go_enter Tryd.func48, Tryd.ntmps48
      go_wp2_with (first | go_step3 | ((with_reducible refine gate_callee (f := 58) rfl ?_); refine goesL_ (some 14) rfl rfl Tryd.func58 (by kernel_rfl) rfl #[.int .i64 a1] rfl (by (try simp only [List.map_toArray, List.map_cons, List.map_nil]); first | done | rfl | (simp only [List.length_drop, List.length_take]; rfl)) ?_; (with_reducible refine (prefix_right.calls a1 true _ A3.out).mono ?_); rintro e w' ⟨rfl, ⟨nd, rfl⟩⟩; refine ⟨_, rfl, ?_⟩; have p123 : 0 ≤ (0 : Int) := (by omega); have q123 : 0 < (l0.length : Int) := of_decide_eq_true (by first | (with_reducible assumption) | assumption); obtain ⟨ad123, e123, hx123_0⟩ := Kd.at_int HR0.out 0 p123 q123; cases e123; have qi123 : (0 < l0.length) = True := eq_true (by omega); (try rw [show ((0 : Int)).toNat = 0 from rfl] at hx123_0); (try rw [Addr.add_zero'] at hx123_0); replace p123 := eq_true p123; replace q123 := eq_true q123))
      (try rw [Exit.noGoto_ret])
      go_ret3
      exact ⟨by first | rfl | (simp; done) | (simp only [← hji7] <;> (first | rfl | simp)) | (simp [*]; done), by repeat (first | exact Drawn0.refl _ | apply Drawn0.step)⟩
     ·
      rw [if_neg c9] at H
      have c9b0 : decide ((Go.bits .and .i64 (wrap64 (rd l0 0)) (wrap64 ((ji7) - 1))) < (wrap64 ((ji7) - 1))) = false := decide_eq_false c9
      clear c9
      have H' := Aside0.mk H
      clear H
      go_enter Tryd.func48, Tryd.ntmps48
      go_wp2_with (first | go_step3 | ((with_reducible refine gate_callee (f := 58) rfl ?_); refine goesL_ (some 14) rfl rfl Tryd.func58 (by kernel_rfl) rfl #[.int .i64 a1] rfl (by (try simp only [List.map_toArray, List.map_cons, List.map_nil]); first | done | rfl | (simp only [List.length_drop, List.length_take]; rfl)) ?_; (with_reducible refine (prefix_right.calls a1 true _ A3.out).mono ?_); rintro e w' ⟨rfl, ⟨nd, rfl⟩⟩; refine ⟨_, rfl, ?_⟩; have p123 : 0 ≤ (0 : Int) := (by omega); have q123 : 0 < (l0.length : Int) := of_decide_eq_true (by first | (with_reducible assumption) | assumption); obtain ⟨ad123, e123, hx123_0⟩ := Kd.at_int HR0.out 0 p123 q123; cases e123; have qi123 : (0 < l0.length) = True := eq_true (by omega); (try rw [show ((0 : Int)).toNat = 0 from rfl] at hx123_0); (try rw [Addr.add_zero'] at hx123_0); replace p123 := eq_true p123; replace q123 := eq_true q123))
      go_loopg [8, 9, 10] k (fun kq v8 v9 v10 w' => ∃ (x8_1 : Int) (x9_1 : Int) (x10_1 : Int), v8 = .int .i64 x8_1 ∧ v9 = .int .i64 x9_1 ∧ v10 = .int .i64 x10_1 ∧ Aside0 (prefix_Decode.l0 kq l0 x8_1 x9_1 x10_1 = some (r1, r2, r3)) ∧ Aside0 (kq ≤ k) ∧ Drawn0 w w')
      case atStart => exact ⟨(Go.bits .and .i64 (wrap64 (rd l0 0)) (wrap64 ((ji7) - 1))), (1), (0), (by first | rfl | (simp; done) | (simp only [← hji7] <;> (first | rfl | simp)) | (simp [*]; done)), (by first | rfl | (simp; done) | (simp [*]; done)), (by first | rfl | (simp; done) | (simp [*]; done)), H', ⟨Nat.le_refl _⟩, by repeat (first | exact Drawn0.refl _ | apply Drawn0.step)⟩
      case round =>
       clear H'
       try clear p1
       try clear q1
       try clear hx1
       try clear qi1
       try clear p2
       try clear c4
       try clear c5
       try clear c5b0
       try clear c5b1
       try clear c5b2
       try clear c6
       try clear c6b0
       try clear c6b1
       try clear p6
       try clear c8
       try clear c8b0
       try clear c8b1
       try clear c9
       try clear c9b0
       try clear hx123_0
       try clear p123
       try clear q123
       obtain ⟨x8_1, x9_1, x10_1, rfl, rfl, rfl, HA, HK1, ⟨m1, rfl⟩⟩ := hrel
       cases gk with
       | zero => exact absurd HA.out (by simp [prefix_Decode.l0])
       | succ k1 =>
        have H := HA.out
        clear HA
        simp only [prefix_Decode.l0] at H
        by_cases c10 : x9_1 = 5
        ·
         rw [if_pos c10] at H
         have c10b0 : (x9_1 == 5) = true := beq_iff_eq.mpr c10
         have c10b1 : (x9_1 != 5) = false := bne_eq_false_iff_eq.mpr c10
         clear c10
         simp only [Option.some.injEq, Prod.mk.injEq] at H
         obtain ⟨rfl, rfl, rfl⟩ := H
         go_wp2_with go_step3
         (try rw [Exit.noGoto_ret])
         go_ret3
         exact ⟨by first | rfl | (simp; done) | (simp only [← hji7] <;> (first | rfl | simp)) | (simp [*]; done), by repeat (first | exact Drawn0.refl _ | apply Drawn0.step)⟩
        ·
         rw [if_neg c10] at H
         have c10b0 : (x9_1 == 5) = false := beq_eq_false_iff_ne.mpr c10
         have c10b1 : (x9_1 != 5) = true := bne_iff_ne.mpr c10
         by_cases c11 : x9_1 = (l0.length : Int)
         ·
          rw [if_pos c11] at H
          have c11b0 : (x9_1 == (l0.length : Int)) = true := beq_iff_eq.mpr c11
          have c11b1 : (x9_1 != (l0.length : Int)) = false := bne_eq_false_iff_eq.mpr c11
          clear c11
          simp only [Option.some.injEq, Prod.mk.injEq] at H
          obtain ⟨rfl, rfl, rfl⟩ := H
          go_wp2_with go_step3
          (try rw [Exit.noGoto_ret])
          go_ret3
          exact ⟨by first | rfl | (simp; done) | (simp only [← hji7] <;> (first | rfl | simp)) | (simp [*]; done), by repeat (first | exact Drawn0.refl _ | apply Drawn0.step)⟩
         ·
          rw [if_neg c11] at H
          have c11b0 : (x9_1 == (l0.length : Int)) = false := beq_eq_false_iff_ne.mpr c11
          have c11b1 : (x9_1 != (l0.length : Int)) = true := bne_iff_ne.mpr c11
          by_cases c12 : 0 ≤ x9_1
          ·
           rw [if_pos c12] at H
           have c12b0 : decide (0 ≤ x9_1) = true := decide_eq_true c12
           clear c12
           by_cases c13 : x9_1 < (l0.length : Int)
           ·
            rw [if_pos c13] at H
            have c13b0 : decide (x9_1 < (l0.length : Int)) = true := decide_eq_true c13
            clear c13
            by_cases c14 : 0 ≤ x10_1
            ·
             rw [if_pos c14] at H
             have c14b0 := eq_true c14
             have c14b1 : decide (0 ≤ x10_1) = true := decide_eq_true c14
             clear c14
             obtain ⟨ji15, hji15⟩ : ∃ j_ : Int, (shl .i64 (Int.tmod (wrap64 (rd l0 x9_1)) 128) x10_1) = j_ := ⟨_, rfl⟩
             replace H : (if (wrap64 (x8_1 + (ji15))) > 16777215 then (some (0, 0, 3)) else (if (wrap64 (rd l0 x9_1)) ≥ 128 then (prefix_Decode.l0 k1 l0 (wrap64 (x8_1 + (ji15))) (wrap64 (x9_1 + 1)) (wrap64 (x10_1 + 7))) else (some (wrap64 (x8_1 + (ji15)), wrap64 (x9_1 + 1), 0)))) = some (r1, r2, r3) := by first | (rw [hji15] at H; exact H) | (simp only [hji15] at H ⊢; exact H)
             have hji15_ : (IntKind.i64.wrap ((Int.tmod (wrap64 (rd l0 x9_1)) 128) * 2 ^ min x10_1.toNat 64)) = ji15 := hji15
             have hji15z : x10_1 ≤ 64 → (IntKind.i64.wrap ((Int.tmod (wrap64 (rd l0 x9_1)) 128) * 2 ^ x10_1.toNat)) = ji15 := shl_small hji15
             have hji15y : (wrap64 ((Int.tmod (wrap64 (rd l0 x9_1)) 128) * 2 ^ min x10_1.toNat 64)) = ji15 := (i64_w _).symm.trans hji15_
             have hji15x : x10_1 ≤ 64 → (wrap64 ((Int.tmod (wrap64 (rd l0 x9_1)) 128) * 2 ^ x10_1.toNat)) = ji15 := fun h_ => (i64_w _).symm.trans (hji15z h_)
             by_cases c16 : (wrap64 (x8_1 + (ji15))) > 16777215
             ·
              rw [if_pos c16] at H
              have c16b0 : decide (16777215 < (wrap64 (x8_1 + (ji15)))) = true := decide_eq_true c16
              clear c16
              simp only [Option.some.injEq, Prod.mk.injEq] at H
              obtain ⟨rfl, rfl, rfl⟩ := H
              have p124 : 0 ≤ (x9_1 : Int) := of_decide_eq_true (by first | (with_reducible assumption) | assumption)
              have q124 : x9_1 < (l0.length : Int) := of_decide_eq_true (by first | (with_reducible assumption) | assumption)
              obtain ⟨ad124, e124, hx124_0⟩ := Kd.at_int HR0.out x9_1 p124 q124
              obtain rfl : ad123 = ad124 := (by injection e124)
              replace p124 := eq_true p124
              replace q124 := eq_true q124
              go_wp2_with go_step3
              (try rw [Exit.noGoto_ret])
              go_ret3
              exact ⟨by first | rfl | (simp; done) | (simp only [← hji7, ← hji15] <;> (first | rfl | simp)) | (simp [*]; done), by repeat (first | exact Drawn0.refl _ | apply Drawn0.step)⟩
             ·
              rw [if_neg c16] at H
              have c16b0 : decide (16777215 < (wrap64 (x8_1 + (ji15)))) = false := decide_eq_false c16
              clear c16
              by_cases c17 : (wrap64 (rd l0 x9_1)) ≥ 128
              ·
               rw [if_pos c17] at H
               have c17b0 : decide (128 ≤ (wrap64 (rd l0 x9_1))) = true := decide_eq_true c17
               clear c17
               have H' := Aside0.mk H
               clear H
               have p124 : 0 ≤ (x9_1 : Int) := of_decide_eq_true (by first | (with_reducible assumption) | assumption)
               have q124 : x9_1 < (l0.length : Int) := of_decide_eq_true (by first | (with_reducible assumption) | assumption)
               obtain ⟨ad124, e124, hx124_0⟩ := Kd.at_int HR0.out x9_1 p124 q124
               obtain rfl : ad123 = ad124 := (by injection e124)
               replace p124 := eq_true p124
               replace q124 := eq_true q124
               go_wp2_with go_step3
               go_roundg k1
               case measure => have := HK1.out; omega
               case rel => exact ⟨(wrap64 (x8_1 + (ji15))), (wrap64 (x9_1 + 1)), (wrap64 (x10_1 + 7)), (by first | rfl | (simp; done) | (simp only [← hji15] <;> (first | rfl | simp)) | (simp [*]; done)), (by first | rfl | (simp; done) | (simp [*]; done)), (by first | rfl | (simp; done) | (simp [*]; done)), H', ⟨by have := HK1.out; omega⟩, by repeat (first | exact Drawn0.refl _ | apply Drawn0.step)⟩
              ·
               rw [if_neg c17] at H
               have c17b0 : decide (128 ≤ (wrap64 (rd l0 x9_1))) = false := decide_eq_false c17
               clear c17
               simp only [Option.some.injEq, Prod.mk.injEq] at H
               obtain ⟨rfl, rfl, rfl⟩ := H
               have p124 : 0 ≤ (x9_1 : Int) := of_decide_eq_true (by first | (with_reducible assumption) | assumption)
               have q124 : x9_1 < (l0.length : Int) := of_decide_eq_true (by first | (with_reducible assumption) | assumption)
               obtain ⟨ad124, e124, hx124_0⟩ := Kd.at_int HR0.out x9_1 p124 q124
               obtain rfl : ad123 = ad124 := (by injection e124)
               replace p124 := eq_true p124
               replace q124 := eq_true q124
               go_wp2_with go_step3
               (try rw [Exit.noGoto_ret])
               go_ret3
               exact ⟨by first | rfl | (simp; done) | (simp only [← hji7, ← hji15] <;> (first | rfl | simp)) | (simp [*]; done), by repeat (first | exact Drawn0.refl _ | apply Drawn0.step)⟩
            ·
             rw [if_neg c14] at H
             exact absurd H (by simp)
           ·
            rw [if_neg c13] at H
            exact absurd H (by simp)
          ·
           rw [if_neg c12] at H
           exact absurd H (by simp)
    ·
     rw [if_neg c8] at H
     exact absurd H (by simp)
   ·
    rw [if_neg c6] at H
    exact absurd H (by simp)
 ·
  replace c4 := Bool.eq_false_iff.mpr c4
  subst c4
  have H1 : (some (0, 0, 1)) = some (r1, r2, r3) := by rw [if_neg (show ¬ (false = true) by decide)] at H; exact H
  clear H
  have H := H1
  clear H1
  simp only [Option.some.injEq, Prod.mk.injEq] at H
  obtain ⟨rfl, rfl, rfl⟩ := H
  go_enter Tryd.func48, Tryd.ntmps48
  go_wp2_with (first | go_step3 | ((with_reducible refine gate_callee (f := 58) rfl ?_); refine goesL_ (some 14) rfl rfl Tryd.func58 (by kernel_rfl) rfl #[.int .i64 a1] rfl (by (try simp only [List.map_toArray, List.map_cons, List.map_nil]); first | done | rfl | (simp only [List.length_drop, List.length_take]; rfl)) ?_; (with_reducible refine (prefix_right.calls a1 false _ A3.out).mono ?_); rintro e w' ⟨rfl, ⟨nd, rfl⟩⟩; refine ⟨_, rfl, ?_⟩))
  (try rw [Exit.noGoto_ret])
  go_ret3
  exact ⟨by first | rfl | (simp; done) | (simp [*]; done), by repeat (first | exact Drawn0.refl _ | apply Drawn0.step)⟩

end Go.Proofs.YtlbjhbanfpnogaaDoor.QI
