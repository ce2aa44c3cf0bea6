-- written by a program of this session (wip/tools) out of the translation's own print and the session's texts; nothing here is trusted: Lean checks it
import Derived.Test.YtlbjhbanfpnogaaDoorQI0
import Derived.Test.YtlbjhbanfpnogaaDoorQI1
import Derived.Test.YtlbjhbanfpnogaaDoorQI2
namespace Go.Proofs.YtlbjhbanfpnogaaDoor.QI
open Go.Proofs.YtlbjhbanfpnogaaDoor.QH
open Go.RowKit Go.Proofs.YtlbjhbanfpnogaaDoorW.PrintWords Go.Proofs.YtlbjhbanfpnogaaDoorW.PrintLast Go.Proofs.YtlbjhbanfpnogaaDoorW.PrintMore
attribute [local go_sem] max2_int min2_int max_two min_two max_three min_three max_four min_four   -- for this text's walks alone
set_option linter.unusedVariables false
set_option linter.unusedSimpArgs false

/-! ### gantletlaw05_LiteralBack: function 7 -/
mutual
def gantletlaw05_LiteralBack.j0 : Nat → ByteArray → List Int → Int → Bool → Option (Bool)
  | 0, _, _, _, _ => none
  | k + 1, x0, x1, x2, x30 => if x30 = true then ((gantletlaw05_alive.f k).bind fun t238 => (some t238)) else ((literal_Encode.f k x0 false).bind fun bt239 => ((literal_Encode.f k x0 true).bind fun bt243 => ((literal_Short.f k x0).bind fun t247 => ((some (([bt239.1, bt243.1, t247] : List (List Int)) : List (List Int))).bind fun y250 => (if bt239.2 = 0 then (if bt243.2 = 0 then (if 2 < (y250.length : Int) then (if ((rd_L2 y250 2).length : Int) > (bt239.1.length : Int) then (gantletlaw05_LiteralBack.j1 k x0 x1 x2 y250 true) else (gantletlaw05_LiteralBack.j1 k x0 x1 x2 y250 (decide (((rd_L2 y250 2).length : Int) > (bt243.1.length : Int))))) else (none)) else (gantletlaw05_LiteralBack.j1 k x0 x1 x2 y250 true)) else (gantletlaw05_LiteralBack.j1 k x0 x1 x2 y250 true))))))
def gantletlaw05_LiteralBack.j1 : Nat → ByteArray → List Int → Int → List (List Int) → Bool → Option (Bool)
  | 0, _, _, _, _, _ => none
  | k + 1, x0, x1, x2, x11, x70 => if x70 = true then (none) else (gantletlaw05_LiteralBack.l0 k x0 x1 x2 x11 0)
def gantletlaw05_LiteralBack.l0 : Nat → ByteArray → List Int → Int → List (List Int) → Int → Option (Bool)
  | 0, _, _, _, _, _ => none
  | k + 1, x0, x1, x2, x11, x12 => if x12 < 3 then (if 0 ≤ x12 then (if x12 < (x11.length : Int) then (if ((rd_L2 x11 x12).length : Int) = 0 then (none) else ((some (([] : List Int) : List Int)).bind fun y257 => (if y257.length + (rd_L2 x11 x12).length < 140737488355328 then ((some (y257 ++ (rd_L2 x11 x12) : List Int)).bind fun y260 => (if y260.length + x1.length < 140737488355328 then ((literal_Decode.f k (y260 ++ x1) (x0.size : Int)).bind fun bt266 => (if 0 ≤ (Int.tmod (wrap64 (x2)) ((rd_L2 x11 x12).length : Int)) then (if (Int.tmod (wrap64 (x2)) ((rd_L2 x11 x12).length : Int)) ≤ ((rd_L2 x11 x12).length : Int) then ((literal_Decode.f k ((rd_L2 x11 x12).take ((Int.tmod (wrap64 (x2)) ((rd_L2 x11 x12).length : Int)) : Int).toNat) (x0.size : Int)).bind fun bt274 => ((literal_Decode.f k (rd_L2 x11 x12) (wrap64 ((x0.size : Int) - 1))).bind fun bt277 => (if bt266.1.toList = x0.toList then (if bt266.2.1 = ((rd_L2 x11 x12).length : Int) then (if bt266.2.2 = 0 then (if bt274.2.2 = 2 then (if (x0.size : Int) > 0 then (if bt277.2.2 = 4 then (gantletlaw05_LiteralBack.l0 k x0 x1 x2 x11 (wrap64 (x12 + 1))) else (none)) else (gantletlaw05_LiteralBack.l0 k x0 x1 x2 x11 (wrap64 (x12 + 1)))) else (none)) else (none)) else (none)) else (none)))) else (none)) else (none))) else (none))) else (none)))) else (none)) else (none)) else ((gantletlaw05_alive.f k).bind fun t255 => (some t255))
end
def gantletlaw05_LiteralBack.f (k : Nat) (a0 : ByteArray) (l1 : List Int) (a2 : Int) : Option (Bool) := if (a0.size : Int) > 300 then (gantletlaw05_LiteralBack.j0 k a0 l1 a2 true) else (gantletlaw05_LiteralBack.j0 k a0 l1 a2 (decide ((l1.length : Int) > 300)))
theorem gantletlaw05_LiteralBack.mono_l : ∀ k, (∀ y0 y1 y2 y3, LeO (gantletlaw05_LiteralBack.j0 k y0 y1 y2 y3) (gantletlaw05_LiteralBack.j0 (k + 1) y0 y1 y2 y3)) ∧ (∀ y0 y1 y2 y3 y4, LeO (gantletlaw05_LiteralBack.j1 k y0 y1 y2 y3 y4) (gantletlaw05_LiteralBack.j1 (k + 1) y0 y1 y2 y3 y4)) ∧ (∀ y0 y1 y2 y3 y4, LeO (gantletlaw05_LiteralBack.l0 k y0 y1 y2 y3 y4) (gantletlaw05_LiteralBack.l0 (k + 1) y0 y1 y2 y3 y4))
  | 0 => ⟨fun _ _ _ _ r h => by simp [gantletlaw05_LiteralBack.j0] at h, fun _ _ _ _ _ r h => by simp [gantletlaw05_LiteralBack.j1] at h, fun _ _ _ _ _ r h => by simp [gantletlaw05_LiteralBack.l0] at h⟩
  | k + 1 => by
    obtain ⟨ih0, ih1, ih2⟩ := gantletlaw05_LiteralBack.mono_l k
    refine ⟨?_, ?_, ?_⟩
    · intro y0 y1 y2 y3
      unfold gantletlaw05_LiteralBack.j0
      repeat' first
      | (with_reducible exact ih0 _ _ _ _)
      | (with_reducible exact ih1 _ _ _ _ _)
      | (with_reducible exact ih2 _ _ _ _ _)
      | (with_reducible exact gantletlaw05_alive.mono _)
      | (with_reducible exact literal_Decode.mono _ _ _)
      | (with_reducible exact literal_Encode.mono _ _ _)
      | (with_reducible exact literal_Short.mono _ _)
      | (with_reducible exact LeO.refl _)
      | (with_reducible exact LeO.none _)
      | (with_reducible refine LeO.ite ?_ ?_)
      | (with_reducible refine LeO.bind ?_ (fun _ => ?_))
      | exact ih0 _ _ _ _
      | exact ih1 _ _ _ _ _
      | exact ih2 _ _ _ _ _
      | exact gantletlaw05_alive.mono _
      | exact literal_Decode.mono _ _ _
      | exact literal_Encode.mono _ _ _
      | exact literal_Short.mono _ _
      | exact LeO.none _
      | refine LeO.ite ?_ ?_
      | refine LeO.bind ?_ (fun _ => ?_)
    · intro y0 y1 y2 y3 y4
      unfold gantletlaw05_LiteralBack.j1
      repeat' first
      | (with_reducible exact ih0 _ _ _ _)
      | (with_reducible exact ih1 _ _ _ _ _)
      | (with_reducible exact ih2 _ _ _ _ _)
      | (with_reducible exact gantletlaw05_alive.mono _)
      | (with_reducible exact literal_Decode.mono _ _ _)
      | (with_reducible exact literal_Encode.mono _ _ _)
      | (with_reducible exact literal_Short.mono _ _)
      | (with_reducible exact LeO.refl _)
      | (with_reducible exact LeO.none _)
      | (with_reducible refine LeO.ite ?_ ?_)
      | (with_reducible refine LeO.bind ?_ (fun _ => ?_))
      | exact ih0 _ _ _ _
      | exact ih1 _ _ _ _ _
      | exact ih2 _ _ _ _ _
      | exact gantletlaw05_alive.mono _
      | exact literal_Decode.mono _ _ _
      | exact literal_Encode.mono _ _ _
      | exact literal_Short.mono _ _
      | exact LeO.none _
      | refine LeO.ite ?_ ?_
      | refine LeO.bind ?_ (fun _ => ?_)
    · intro y0 y1 y2 y3 y4
      unfold gantletlaw05_LiteralBack.l0
      repeat' first
      | (with_reducible exact ih0 _ _ _ _)
      | (with_reducible exact ih1 _ _ _ _ _)
      | (with_reducible exact ih2 _ _ _ _ _)
      | (with_reducible exact gantletlaw05_alive.mono _)
      | (with_reducible exact literal_Decode.mono _ _ _)
      | (with_reducible exact literal_Encode.mono _ _ _)
      | (with_reducible exact literal_Short.mono _ _)
      | (with_reducible exact LeO.refl _)
      | (with_reducible exact LeO.none _)
      | (with_reducible refine LeO.ite ?_ ?_)
      | (with_reducible refine LeO.bind ?_ (fun _ => ?_))
      | exact ih0 _ _ _ _
      | exact ih1 _ _ _ _ _
      | exact ih2 _ _ _ _ _
      | exact gantletlaw05_alive.mono _
      | exact literal_Decode.mono _ _ _
      | exact literal_Encode.mono _ _ _
      | exact literal_Short.mono _ _
      | exact LeO.none _
      | refine LeO.ite ?_ ?_
      | refine LeO.bind ?_ (fun _ => ?_)
theorem gantletlaw05_LiteralBack.mono : ∀ a0 a1 a2 k, LeO (gantletlaw05_LiteralBack.f k a0 a1 a2) (gantletlaw05_LiteralBack.f (k + 1) a0 a1 a2) := by
  intro a0 a1 a2 k
  obtain ⟨ih0, ih1, ih2⟩ := gantletlaw05_LiteralBack.mono_l k
  unfold gantletlaw05_LiteralBack.f
  repeat' first
      | (with_reducible exact ih0 _ _ _ _)
      | (with_reducible exact ih1 _ _ _ _ _)
      | (with_reducible exact ih2 _ _ _ _ _)
      | (with_reducible exact gantletlaw05_alive.mono _)
      | (with_reducible exact literal_Decode.mono _ _ _)
      | (with_reducible exact literal_Encode.mono _ _ _)
      | (with_reducible exact literal_Short.mono _ _)
      | (with_reducible exact LeO.refl _)
      | (with_reducible exact LeO.none _)
      | (with_reducible refine LeO.ite ?_ ?_)
      | (with_reducible refine LeO.bind ?_ (fun _ => ?_))
      | exact ih0 _ _ _ _
      | exact ih1 _ _ _ _ _
      | exact ih2 _ _ _ _ _
      | exact gantletlaw05_alive.mono _
      | exact literal_Decode.mono _ _ _
      | exact literal_Encode.mono _ _ _
      | exact literal_Short.mono _ _
      | exact LeO.none _
      | refine LeO.ite ?_ ?_
      | refine LeO.bind ?_ (fun _ => ?_)
set_option maxHeartbeats 8000000 in
set_option maxRecDepth 100000 in
theorem gantletlaw05_LiteralBack.calls (k : Nat) (a0 : ByteArray) (A1 : Option Addr) (c1 : Nat) (l1 : List Int) (a2 : Int) (r : Bool) (w : World) (hG : GB w) (hr1 : Kd.C (Kd.int .u8) w A1 l1.length l1) (hc1 : l1.length ≤ c1) (h : gantletlaw05_LiteralBack.f k a0 l1 a2 = some r) :
    Calls Tryd.prog 7 #[.string a0, .slice A1 l1.length c1, .int .u16 a2] w fun e w' => e = .returned (.bool r) ∧ Below w.heap.size w w' := by
  have HR1 := Aside0.mk hr1
  have HC1 := Aside0.mk hc1
  clear hr1 hc1
  have HG := Aside0.mk hG
  clear hG
  have HB := Aside0.mk (Below.refl w.heap.size w)
  have H : (if (a0.size : Int) > 300 then (gantletlaw05_LiteralBack.j0 k a0 l1 a2 true) else (gantletlaw05_LiteralBack.j0 k a0 l1 a2 (decide ((l1.length : Int) > 300)))) = some r := h
  clear h
  have HC4 := Aside0.mk H
  clear H
  go_enter Tryd.func7, Tryd.ntmps7
  go_upto_region 1 with (fail)
  go_cut [30] (fun v30 wc => ∃ (kq : Nat) (x30_3 : Bool), v30 = .bool x30_3 ∧ Aside0 (gantletlaw05_LiteralBack.j0 kq a0 l1 a2 x30_3 = some r) ∧ Aside0 (kq ≤ k) ∧ Aside0 (Below w.heap.size w wc))
  case first =>
    have H := HC4.out
    clear HC4
    by_cases c5 : (a0.size : Int) > 300
    · rw [if_pos c5] at H
      have c5b0 : decide (300 < (a0.size : Int)) = true := decide_eq_true c5
      have c5b1 : decide (300 < a0.size) = true := decide_eq_true (by omega)
      clear c5
      (first | rw [c5b0] | (simp only [i64_w, i32_w]; rw [c5b0]) | skip)
      have H' := Aside0.mk H
      clear H
      go_wp2
      (first | go_meet | (refine Met.intro ?_; go_step; (repeat apply Exists.intro); refine ⟨?rel, ?frame⟩; (case frame => (try simp only [c5b0]); (try simp only [c5b1]); rfl)))
      case rel => exact ⟨_, (true), (by first | rfl | (simp; done) | (simp [*]; done)), H', ⟨by first | omega | exact Nat.le_refl _⟩, ⟨by repeat (first | (with_reducible first | exact HB.out | apply below_alloc | apply pw_below_drewN | apply below_drew1) | exact HB.out)⟩⟩
    · rw [if_neg c5] at H
      have c5b0 : decide (300 < (a0.size : Int)) = false := decide_eq_false c5
      have c5b1 : decide (300 < a0.size) = false := decide_eq_false (by omega)
      clear c5
      (first | rw [c5b0] | (simp only [i64_w, i32_w]; rw [c5b0]) | skip)
      have H' := Aside0.mk H
      clear H
      go_wp2
      (first | go_meet | (refine Met.intro ?_; go_step; (repeat apply Exists.intro); refine ⟨?rel, ?frame⟩; (case frame => (try simp only [c5b0]); (try simp only [c5b1]); rfl)))
      case rel => exact ⟨_, (decide ((l1.length : Int) > 300)), (by first | rfl | (simp; done) | (simp [*]; done)), H', ⟨by first | omega | exact Nat.le_refl _⟩, ⟨by repeat (first | (with_reducible first | exact HB.out | apply below_alloc | apply pw_below_drewN | apply below_drew1) | exact HB.out)⟩⟩
  case rest =>
    clear HC4
    try clear c1
    try clear p2
    try clear c5
    try clear c5b0
    try clear c5b1
    obtain ⟨kq, x30_3, rfl, HA, HJ3, HB⟩ := hcut
    cases kq with
    | zero => exact absurd HA.out (by simp [gantletlaw05_LiteralBack.j0])
    | succ kj3 =>
      have H := HA.out
      clear HA
      simp only [gantletlaw05_LiteralBack.j0] at H
      by_cases c6 : x30_3 = true
      · subst c6
        have H1 : ((gantletlaw05_alive.f kj3).bind fun t238 => (some t238)) = some r := by rw [if_pos rfl] at H; exact H
        clear H
        have H := H1
        clear H1
        replace H := Option.bind_eq_some_iff.mp H
        obtain ⟨t238, A70, H⟩ := H
        replace H : (some t238) = some r := H
        have A7 := Aside0.mk A70
        clear A70
        obtain rfl := Option.some.inj H
        go_wp2_with (first | ((with_reducible refine gate_callee (f := 22) rfl ?_); refine goesL_ (some 31) rfl rfl Tryd.func22 (by kernel_rfl) rfl #[] rfl (by (try simp only [List.map_toArray, List.map_cons, List.map_nil]); first | done | rfl | (simp only [List.length_drop, List.length_take]; rfl)) ?_; (with_reducible refine (gantletlaw05_alive.calls kj3  t238 _ ?side1 A7.out).mono ?_); (case side1 => exact GB.below HG.out (by repeat (first | (with_reducible first | exact HB.out | apply below_alloc | apply pw_below_drewN | apply below_drew1) | exact HB.out))); rintro e w8 ⟨rfl, hb⟩; refine ⟨_, rfl, ?_⟩; have n0_ := Aside0.mk (below_step (by repeat (first | (with_reducible first | exact HB.out | apply below_alloc | apply pw_below_drewN | apply below_drew1) | exact HB.out)) hb); clear HB; have HB := n0_; clear n0_; (try clear hb); (try clear hb2); (try clear hk); (try clear hi)))
        go_ret
        exact ⟨by first | rfl | (simp [errW_none, errW_some] <;> rfl) | (simp [*, errW_none, errW_some] <;> rfl), by repeat (first | (with_reducible first | exact HB.out | apply below_alloc | apply pw_below_drewN | apply below_drew1) | exact HB.out)⟩
      · replace c6 := Bool.eq_false_iff.mpr c6
        subst c6
        have H1 : ((literal_Encode.f kj3 a0 false).bind fun bt239 => ((literal_Encode.f kj3 a0 true).bind fun bt243 => ((literal_Short.f kj3 a0).bind fun t247 => ((some (([bt239.1, bt243.1, t247] : List (List Int)) : List (List Int))).bind fun y250 => (if bt239.2 = 0 then (if bt243.2 = 0 then (if 2 < (y250.length : Int) then (if ((rd_L2 y250 2).length : Int) > (bt239.1.length : Int) then (gantletlaw05_LiteralBack.j1 kj3 a0 l1 a2 y250 true) else (gantletlaw05_LiteralBack.j1 kj3 a0 l1 a2 y250 (decide (((rd_L2 y250 2).length : Int) > (bt243.1.length : Int))))) else (none)) else (gantletlaw05_LiteralBack.j1 kj3 a0 l1 a2 y250 true)) else (gantletlaw05_LiteralBack.j1 kj3 a0 l1 a2 y250 true)))))) = some r := by rw [if_neg (show ¬ (false = true) by decide)] at H; exact H
        clear H
        have H := H1
        clear H1
        replace H := Option.bind_eq_some_iff.mp H
        obtain ⟨⟨t239, t240⟩, A90, H⟩ := H
        replace H : ((literal_Encode.f kj3 a0 true).bind fun bt243 => ((literal_Short.f kj3 a0).bind fun t247 => ((some (([t239, bt243.1, t247] : List (List Int)) : List (List Int))).bind fun y250 => (if t240 = 0 then (if bt243.2 = 0 then (if 2 < (y250.length : Int) then (if ((rd_L2 y250 2).length : Int) > (t239.length : Int) then (gantletlaw05_LiteralBack.j1 kj3 a0 l1 a2 y250 true) else (gantletlaw05_LiteralBack.j1 kj3 a0 l1 a2 y250 (decide (((rd_L2 y250 2).length : Int) > (bt243.1.length : Int))))) else (none)) else (gantletlaw05_LiteralBack.j1 kj3 a0 l1 a2 y250 true)) else (gantletlaw05_LiteralBack.j1 kj3 a0 l1 a2 y250 true))))) = some r := H
        have A9 := Aside0.mk A90
        clear A90
        replace H := Option.bind_eq_some_iff.mp H
        obtain ⟨⟨t243, t244⟩, A100, H⟩ := H
        replace H : ((literal_Short.f kj3 a0).bind fun t247 => ((some (([t239, t243, t247] : List (List Int)) : List (List Int))).bind fun y250 => (if t240 = 0 then (if t244 = 0 then (if 2 < (y250.length : Int) then (if ((rd_L2 y250 2).length : Int) > (t239.length : Int) then (gantletlaw05_LiteralBack.j1 kj3 a0 l1 a2 y250 true) else (gantletlaw05_LiteralBack.j1 kj3 a0 l1 a2 y250 (decide (((rd_L2 y250 2).length : Int) > (t243.length : Int))))) else (none)) else (gantletlaw05_LiteralBack.j1 kj3 a0 l1 a2 y250 true)) else (gantletlaw05_LiteralBack.j1 kj3 a0 l1 a2 y250 true)))) = some r := H
        have A10 := Aside0.mk A100
        clear A100
        replace H := Option.bind_eq_some_iff.mp H
        obtain ⟨t247, A110, H⟩ := H
        replace H : ((some (([t239, t243, t247] : List (List Int)) : List (List Int))).bind fun y250 => (if t240 = 0 then (if t244 = 0 then (if 2 < (y250.length : Int) then (if ((rd_L2 y250 2).length : Int) > (t239.length : Int) then (gantletlaw05_LiteralBack.j1 kj3 a0 l1 a2 y250 true) else (gantletlaw05_LiteralBack.j1 kj3 a0 l1 a2 y250 (decide (((rd_L2 y250 2).length : Int) > (t243.length : Int))))) else (none)) else (gantletlaw05_LiteralBack.j1 kj3 a0 l1 a2 y250 true)) else (gantletlaw05_LiteralBack.j1 kj3 a0 l1 a2 y250 true))) = some r := H
        have A11 := Aside0.mk A110
        clear A110
        obtain ⟨y250, hy250⟩ : ∃ y_ : List (List Int), y_ = (([t239, t243, t247] : List (List Int))) := ⟨_, rfl⟩
        replace H : (if t240 = 0 then (if t244 = 0 then (if 2 < (y250.length : Int) then (if ((rd_L2 y250 2).length : Int) > (t239.length : Int) then (gantletlaw05_LiteralBack.j1 kj3 a0 l1 a2 y250 true) else (gantletlaw05_LiteralBack.j1 kj3 a0 l1 a2 y250 (decide (((rd_L2 y250 2).length : Int) > (t243.length : Int))))) else (none)) else (gantletlaw05_LiteralBack.j1 kj3 a0 l1 a2 y250 true)) else (gantletlaw05_LiteralBack.j1 kj3 a0 l1 a2 y250 true)) = some r := by first | (rw [hy250]; with_reducible exact H) | (have H2_ := (Option.bind_some _ _).symm.trans H; rw [hy250]; with_reducible exact H2_) | (have H2_ := (Option.bind_some _ _).symm.trans H; with_reducible exact H2_) | with_reducible exact H | (rw [hy250]; exact H) | exact H
        have Ny250 := Aside0.mk hy250
        clear hy250
        have HC12 := Aside0.mk H
        clear H
        go_upto_region 6 with (first | ((with_reducible refine gate_callee (f := 23) rfl ?_); refine goesL_ (some 34) rfl rfl Tryd.func23 (by kernel_rfl) rfl #[.string a0, .bool false] rfl (by (try simp only [List.map_toArray, List.map_cons, List.map_nil]); first | done | rfl | (simp only [List.length_drop, List.length_take]; rfl)) ?_; (with_reducible refine (literal_Encode.calls kj3 a0 false t239 t240 _ ?side1 A9.out).mono ?_); (case side1 => exact GB.below HG.out (by repeat (first | (with_reducible first | exact HB.out | apply below_alloc | apply pw_below_drewN | apply below_drew1) | exact HB.out))); rintro e w13 ⟨v241, rfl, ho0, hb⟩; refine ⟨_, rfl, ?_⟩; have n0_ := Aside0.mk (Kd.R_lower ho0 (below_size (by repeat (first | (with_reducible first | exact HB.out | apply below_alloc | apply pw_below_drewN | apply below_drew1) | exact HB.out)))); have n1_ := Aside0.mk (below_step (by repeat (first | (with_reducible first | exact HB.out | apply below_alloc | apply pw_below_drewN | apply below_drew1) | exact HB.out)) hb); clear HB; have HO242 := n0_; have HB := n1_; clear n0_ n1_; (try clear hb); (try clear hb2); (try clear hk); (try clear hi); (try clear ho0)) | ((with_reducible refine gate_callee (f := 23) rfl ?_); refine goesL_ (some 39) rfl rfl Tryd.func23 (by kernel_rfl) rfl #[.string a0, .bool true] rfl (by (try simp only [List.map_toArray, List.map_cons, List.map_nil]); first | done | rfl | (simp only [List.length_drop, List.length_take]; rfl)) ?_; (with_reducible refine (literal_Encode.calls kj3 a0 true t243 t244 _ ?side1 A10.out).mono ?_); (case side1 => exact GB.below HG.out (by repeat (first | (with_reducible first | exact HB.out | apply below_alloc | apply pw_below_drewN | apply below_drew1) | exact HB.out))); rintro e w14 ⟨v245, rfl, ho0, hb⟩; refine ⟨_, rfl, ?_⟩; have n0_ := Aside0.mk (Kd.R_elder' (by (with_reducible repeat (first | apply Kd.R_alloc | apply Kd.R_drewN | apply Kd.R_drew)); exact HO242.out) (Kd.R_base ho0) hb); have n1_ := Aside0.mk (Kd.R_lower (Kd.R_new' ho0 (Kd.R_lt (by (with_reducible repeat (first | apply Kd.R_alloc | apply Kd.R_drewN | apply Kd.R_drew)); exact HO242.out))) (below_size (by repeat (first | (with_reducible first | exact HB.out | apply below_alloc | apply pw_below_drewN | apply below_drew1) | exact HB.out)))); have n2_ := Aside0.mk (below_step (by repeat (first | (with_reducible first | exact HB.out | apply below_alloc | apply pw_below_drewN | apply below_drew1) | exact HB.out)) hb); clear HO242; clear HB; have HO242 := n0_; have HO246 := n1_; have HB := n2_; clear n0_ n1_ n2_; (try clear hb); (try clear hb2); (try clear hk); (try clear hi); (try clear ho0)) | ((with_reducible refine gate_callee (f := 25) rfl ?_); refine goesL_ (some 45) rfl rfl Tryd.func25 (by kernel_rfl) rfl #[.string a0] rfl (by (try simp only [List.map_toArray, List.map_cons, List.map_nil]); first | done | rfl | (simp only [List.length_drop, List.length_take]; rfl)) ?_; (with_reducible refine (literal_Short.calls kj3 a0 t247 _ ?side1 A11.out).mono ?_); (case side1 => exact GB.below HG.out (by repeat (first | (with_reducible first | exact HB.out | apply below_alloc | apply pw_below_drewN | apply below_drew1) | exact HB.out))); rintro e w15 ⟨v248, rfl, ho0, hb⟩; refine ⟨_, rfl, ?_⟩; have n0_ := Aside0.mk (Kd.R_elder' (by (with_reducible repeat (first | apply Kd.R_alloc | apply Kd.R_drewN | apply Kd.R_drew)); exact HO242.out) (Kd.R_base ho0) hb); have n1_ := Aside0.mk (Kd.R_elder' (by (with_reducible repeat (first | apply Kd.R_alloc | apply Kd.R_drewN | apply Kd.R_drew)); exact HO246.out) (Kd.R_base ho0) hb); have n2_ := Aside0.mk (Kd.R_lower (Kd.R_new' (Kd.R_new' ho0 (Kd.R_lt (by (with_reducible repeat (first | apply Kd.R_alloc | apply Kd.R_drewN | apply Kd.R_drew)); exact HO242.out))) (Kd.R_lt (by (with_reducible repeat (first | apply Kd.R_alloc | apply Kd.R_drewN | apply Kd.R_drew)); exact HO246.out))) (below_size (by repeat (first | (with_reducible first | exact HB.out | apply below_alloc | apply pw_below_drewN | apply below_drew1) | exact HB.out)))); have n3_ := Aside0.mk (below_step (by repeat (first | (with_reducible first | exact HB.out | apply below_alloc | apply pw_below_drewN | apply below_drew1) | exact HB.out)) hb); clear HO242; clear HO246; clear HB; have HO242 := n0_; have HO246 := n1_; have HO249 := n2_; have HB := n3_; clear n0_ n1_ n2_ n3_; (try clear hb); (try clear hb2); (try clear hk); (try clear hi); (try clear ho0); obtain ⟨Ao16, co16, eo16⟩ := Kd.R_slice HO242.out; subst eo16; obtain ⟨Ao17, co17, eo17⟩ := Kd.R_slice HO246.out; subst eo17; obtain ⟨Ao18, co18, eo18⟩ := Kd.R_slice HO249.out; subst eo18) | ((with_reducible refine gate_dst (N := 46) rfl ?_); (try (refine gate_guard (by rfl) ?_; dsimp only)); refine Kd.N_lit (Kd.slice 5 (Kd.int .u8)) _ 22 ?hg (N' := 46) ?hd (xs := ([t239, t243, t247] : List (List Int))) (inner := [.slice Ao16 t239.length co16, .slice Ao17 t243.length co17, .slice Ao18 t247.length co18]) (ok := (fun _ => True)) (okp := (fun _ => True)) ?hr ?hp (fun _ hk => hk) ((show ∀ k_, w15.heap.size ≤ k_ → (fun _ => True) k_ from fun k_ hk => trivial) _ (Nat.le_refl _)) (Below.refl _ _) (Nat.le_refl _) (by simp) ?_; (case hd => rfl); (case hg => rfl); (case hr => first | (go_simp; done) | (go_simp; rfl)); (case hp => exact (Reps.one (show Kd.FK (Kd.slice 5 (Kd.int .u8)) _ _ t239 [.slice Ao16 t239.length co16] from (Kd.FK_slice_mk (Kd.R_reads' (Kd.R_mono (ok' := (fun _ => True)) (HO242.out) (fun k_ hk => trivial))).2.1 (Kd.R_F (Kd.R_mono (ok' := (fun _ => True)) (HO242.out) (fun k_ hk => trivial))))) (Reps.one (show Kd.FK (Kd.slice 5 (Kd.int .u8)) _ _ t243 [.slice Ao17 t243.length co17] from (Kd.FK_slice_mk (Kd.R_reads' (Kd.R_mono (ok' := (fun _ => True)) (HO246.out) (fun k_ hk => trivial))).2.1 (Kd.R_F (Kd.R_mono (ok' := (fun _ => True)) (HO246.out) (fun k_ hk => trivial))))) (Reps.one (show Kd.FK (Kd.slice 5 (Kd.int .u8)) _ _ t247 [.slice Ao18 t247.length co18] from (Kd.FK_slice_mk (Kd.R_reads' (Kd.R_mono (ok' := (fun _ => True)) (HO249.out) (fun k_ hk => trivial))).2.1 (Kd.R_F (Kd.R_mono (ok' := (fun _ => True)) (HO249.out) (fun k_ hk => trivial))))) (Reps.none _ _))))); intro v251 w19 ho20 hb hg_ hnew_; clear hg_ hnew_; (first | rw [← Ny250.out] at ho20 | (simp only [Int.reduceToNat] at ho20; rw [← Ny250.out] at ho20)); have n0_ := Aside0.mk (Kd.N_lower ho20 (below_size (by repeat (first | (with_reducible first | exact HB.out | apply below_alloc | apply pw_below_drewN | apply below_drew1) | exact HB.out)))); have n1_ := Aside0.mk (below_step (by repeat (first | (with_reducible first | exact HB.out | apply below_alloc | apply pw_below_drewN | apply below_drew1) | exact HB.out)) hb); clear HB; clear HO242; clear HO246; clear HO249; have HO252 := n0_; have HB := n1_; clear n0_ n1_; clear hb ho20))
        (try simp only [Act.put, List.setIfInBounds_toArray, List.set_cons_zero, List.set_cons_succ])
        go_cut [70] (fun v70 wc => ∃ (kq : Nat) (x70_11 : Bool), v70 = .bool x70_11 ∧ Aside0 (gantletlaw05_LiteralBack.j1 kq a0 l1 a2 y250 x70_11 = some r) ∧ Aside0 (kq ≤ kj3) ∧ Aside0 (Kd.N (Kd.slice 5 (Kd.int .u8)) 22 wc w.heap.size (fun _ => True) v251 y250) ∧ Aside0 (Below w.heap.size w wc))
        case first =>
          have H := HC12.out
          clear HC12
          by_cases c21 : t240 = 0
          · rw [if_pos c21] at H
            have c21b0 : (t240 == 0) = true := beq_iff_eq.mpr c21
            have c21b1 : (t240 != 0) = false := bne_eq_false_iff_eq.mpr c21
            clear c21
            (first | rw [c21b0] | (simp only [i64_w, i32_w]; rw [c21b0]) | skip)
            by_cases c22 : t244 = 0
            · rw [if_pos c22] at H
              have c22b0 : (t244 == 0) = true := beq_iff_eq.mpr c22
              have c22b1 : (t244 != 0) = false := bne_eq_false_iff_eq.mpr c22
              clear c22
              by_cases c23 : 2 < (y250.length : Int)
              · rw [if_pos c23] at H
                have c23b0 : decide (2 < (y250.length : Int)) = true := decide_eq_true c23
                have c23b1 : decide (2 < y250.length) = true := decide_eq_true (by omega)
                clear c23
                by_cases c24 : ((rd_L2 y250 2).length : Int) > (t239.length : Int)
                · rw [if_pos c24] at H
                  have c24b0 : decide ((t239.length : Int) < ((rd_L2 y250 2).length : Int)) = true := decide_eq_true c24
                  have c24b1 : decide (t239.length < (rd_L2 y250 2).length) = true := decide_eq_true (Int.ofNat_lt.mp c24)
                  clear c24
                  have H' := Aside0.mk H
                  clear H
                  obtain ⟨Ao25, co25, eo25⟩ := Kd.N_slice HO252.out
                  subst eo25
                  have p253 : 0 ≤ (2 : Int) := (by omega)
                  have q253 : 2 < (y250.length : Int) := of_decide_eq_true (by first | (with_reducible assumption) | assumption)
                  obtain ⟨ad253, A253_0, c253_0, e253, hx253_0, hl253_0, hi253_0⟩ := at_L2 (Kd.N_reads' HO252.out).2.2 2 p253 q253
                  cases e253
                  obtain ⟨ce253, hce253, hMe253, hcc253⟩ := Kd.N_get HO252.out [] 2 p253 (by first | exact q253 | exact of_decide_eq_true (by first | (with_reducible assumption) | assumption) | (have e_ := (Kd.N_reads' HO252.out).1; omega))
                  obtain ⟨ua253_0, uc253_0, rfl, ul253_0, ge253_0⟩ := Kd.FK_slice_open hMe253
                  have hv253_0 := hcc253 0 _ rfl
                  rw [Nat.add_zero, show ((Kd.slice 5 (Kd.int .u8))).sz = 1 from rfl, Nat.mul_one] at hv253_0
                  replace hv253_0 := Option.some.inj (hv253_0.symm.trans hx253_0)
                  injection hv253_0 with hva_ hvn_ hvc_
                  rw [hva_] at ge253_0
                  rw [hvc_] at ul253_0
                  have HL253_0 := Aside0.mk (show Kd.V (Kd.int .u8) 5 _ w.heap.size _ _ (rd_L2 y250 2) from Kd.V_mk ul253_0 ge253_0)
                  clear hva_ hvn_ hvc_ ge253_0 ul253_0
                  clear hcc253 hce253
                  (try simp only [show (2 : Int).toNat = 2 from rfl, Nat.reduceMul, Nat.reduceEqDiff, Go.Addr.add, ↓reduceIte] at hx253_0)
                  have qi253 : (2 < y250.length) = True := eq_true (by omega)
                  (try rw [show ((2 : Int)).toNat = 2 from rfl] at hx253_0)
                  have HR253_0 := Aside0.mk hi253_0
                  have HC253_0 := Aside0.mk hl253_0
                  clear hi253_0 hl253_0
                  replace p253 := eq_true p253
                  replace q253 := eq_true q253
                  go_wp2
                  (first | go_meet | (refine Met.intro ?_; go_step; (repeat apply Exists.intro); refine ⟨?rel, ?frame⟩; (case frame => (try simp only [c21b0]); (try simp only [c21b1]); (try simp only [c22b0]); (try simp only [c22b1]); (try simp only [c23b0]); (try simp only [c23b1]); (try simp only [c24b0]); (try simp only [c24b1]); rfl)))
                  case rel => exact ⟨_, (true), (by first | rfl | (simp; done) | (simp [*]; done)), H', ⟨by have := HJ3.out; first | omega | exact Nat.le_refl _⟩, ⟨by (with_reducible repeat (first | apply Kd.N_alloc | apply Kd.N_drewN | apply Kd.N_drew)); exact HO252.out⟩, ⟨by repeat (first | (with_reducible first | exact HB.out | apply below_alloc | apply pw_below_drewN | apply below_drew1) | exact HB.out)⟩⟩
                · rw [if_neg c24] at H
                  have c24b0 : decide ((t239.length : Int) < ((rd_L2 y250 2).length : Int)) = false := decide_eq_false c24
                  have c24b1 : decide (t239.length < (rd_L2 y250 2).length) = false := decide_eq_false (fun h => c24 (Int.ofNat_lt.mpr h))
                  clear c24
                  have H' := Aside0.mk H
                  clear H
                  obtain ⟨Ao26, co26, eo26⟩ := Kd.N_slice HO252.out
                  subst eo26
                  have p253 : 0 ≤ (2 : Int) := (by omega)
                  have q253 : 2 < (y250.length : Int) := of_decide_eq_true (by first | (with_reducible assumption) | assumption)
                  obtain ⟨ad253, A253_0, c253_0, e253, hx253_0, hl253_0, hi253_0⟩ := at_L2 (Kd.N_reads' HO252.out).2.2 2 p253 q253
                  cases e253
                  obtain ⟨ce253, hce253, hMe253, hcc253⟩ := Kd.N_get HO252.out [] 2 p253 (by first | exact q253 | exact of_decide_eq_true (by first | (with_reducible assumption) | assumption) | (have e_ := (Kd.N_reads' HO252.out).1; omega))
                  obtain ⟨ua253_0, uc253_0, rfl, ul253_0, ge253_0⟩ := Kd.FK_slice_open hMe253
                  have hv253_0 := hcc253 0 _ rfl
                  rw [Nat.add_zero, show ((Kd.slice 5 (Kd.int .u8))).sz = 1 from rfl, Nat.mul_one] at hv253_0
                  replace hv253_0 := Option.some.inj (hv253_0.symm.trans hx253_0)
                  injection hv253_0 with hva_ hvn_ hvc_
                  rw [hva_] at ge253_0
                  rw [hvc_] at ul253_0
                  have HL253_0 := Aside0.mk (show Kd.V (Kd.int .u8) 5 _ w.heap.size _ _ (rd_L2 y250 2) from Kd.V_mk ul253_0 ge253_0)
                  clear hva_ hvn_ hvc_ ge253_0 ul253_0
                  clear hcc253 hce253
                  (try simp only [show (2 : Int).toNat = 2 from rfl, Nat.reduceMul, Nat.reduceEqDiff, Go.Addr.add, ↓reduceIte] at hx253_0)
                  have qi253 : (2 < y250.length) = True := eq_true (by omega)
                  (try rw [show ((2 : Int)).toNat = 2 from rfl] at hx253_0)
                  have HR253_0 := Aside0.mk hi253_0
                  have HC253_0 := Aside0.mk hl253_0
                  clear hi253_0 hl253_0
                  replace p253 := eq_true p253
                  replace q253 := eq_true q253
                  have p254 : 0 ≤ (2 : Int) := (by omega)
                  have q254 : 2 < (y250.length : Int) := of_decide_eq_true (by first | (with_reducible assumption) | assumption)
                  obtain ⟨ad254, A254_0, c254_0, e254, hx254_0, hl254_0, hi254_0⟩ := at_L2 (Kd.N_reads' HO252.out).2.2 2 p254 q254
                  obtain rfl : ad253 = ad254 := (by injection e254)
                  obtain ⟨ce254, hce254, hMe254, hcc254⟩ := Kd.N_get HO252.out [] 2 p254 (by first | exact q254 | exact of_decide_eq_true (by first | (with_reducible assumption) | assumption) | (have e_ := (Kd.N_reads' HO252.out).1; omega))
                  obtain ⟨ua254_0, uc254_0, rfl, ul254_0, ge254_0⟩ := Kd.FK_slice_open hMe254
                  have hv254_0 := hcc254 0 _ rfl
                  rw [Nat.add_zero, show ((Kd.slice 5 (Kd.int .u8))).sz = 1 from rfl, Nat.mul_one] at hv254_0
                  replace hv254_0 := Option.some.inj (hv254_0.symm.trans hx254_0)
                  injection hv254_0 with hva_ hvn_ hvc_
                  rw [hva_] at ge254_0
                  rw [hvc_] at ul254_0
                  have HL254_0 := Aside0.mk (show Kd.V (Kd.int .u8) 5 _ w.heap.size _ _ (rd_L2 y250 2) from Kd.V_mk ul254_0 ge254_0)
                  clear hva_ hvn_ hvc_ ge254_0 ul254_0
                  clear hcc254 hce254
                  (try simp only [show (2 : Int).toNat = 2 from rfl, Nat.reduceMul, Nat.reduceEqDiff, Go.Addr.add, ↓reduceIte] at hx254_0)
                  have qi254 : (2 < y250.length) = True := eq_true (by omega)
                  (try rw [show ((2 : Int)).toNat = 2 from rfl] at hx254_0)
                  have HR254_0 := Aside0.mk hi254_0
                  have HC254_0 := Aside0.mk hl254_0
                  clear hi254_0 hl254_0
                  replace p254 := eq_true p254
                  replace q254 := eq_true q254
                  have ea_ := Option.some.inj (hx253_0.symm.trans hx254_0)
                  injection ea_ with ea_ en_ ec_
                  subst ea_
                  subst ec_
                  clear en_
                  go_wp2
                  (first | go_meet | (refine Met.intro ?_; go_step; (repeat apply Exists.intro); refine ⟨?rel, ?frame⟩; (case frame => (try simp only [c21b0]); (try simp only [c21b1]); (try simp only [c22b0]); (try simp only [c22b1]); (try simp only [c23b0]); (try simp only [c23b1]); (try simp only [c24b0]); (try simp only [c24b1]); rfl)))
                  case rel => exact ⟨_, (decide (((rd_L2 y250 2).length : Int) > (t243.length : Int))), (by first | rfl | (simp; done) | (simp [*]; done)), H', ⟨by have := HJ3.out; first | omega | exact Nat.le_refl _⟩, ⟨by (with_reducible repeat (first | apply Kd.N_alloc | apply Kd.N_drewN | apply Kd.N_drew)); exact HO252.out⟩, ⟨by repeat (first | (with_reducible first | exact HB.out | apply below_alloc | apply pw_below_drewN | apply below_drew1) | exact HB.out)⟩⟩
              · rw [if_neg c23] at H
                exact absurd H (by simp)
            · rw [if_neg c22] at H
              have c22b0 : (t244 == 0) = false := beq_eq_false_iff_ne.mpr c22
              have c22b1 : (t244 != 0) = true := bne_iff_ne.mpr c22
              have H' := Aside0.mk H
              clear H
              go_wp2
              (first | go_meet | (refine Met.intro ?_; go_step; (repeat apply Exists.intro); refine ⟨?rel, ?frame⟩; (case frame => (try simp only [c21b0]); (try simp only [c21b1]); (try simp only [c22b0]); (try simp only [c22b1]); rfl)))
              case rel => exact ⟨_, (true), (by first | rfl | (simp; done) | (simp [*]; done)), H', ⟨by have := HJ3.out; first | omega | exact Nat.le_refl _⟩, ⟨by (with_reducible repeat (first | apply Kd.N_alloc | apply Kd.N_drewN | apply Kd.N_drew)); exact HO252.out⟩, ⟨by repeat (first | (with_reducible first | exact HB.out | apply below_alloc | apply pw_below_drewN | apply below_drew1) | exact HB.out)⟩⟩
          · rw [if_neg c21] at H
            have c21b0 : (t240 == 0) = false := beq_eq_false_iff_ne.mpr c21
            have c21b1 : (t240 != 0) = true := bne_iff_ne.mpr c21
            (first | rw [c21b0] | (simp only [i64_w, i32_w]; rw [c21b0]) | skip)
            have H' := Aside0.mk H
            clear H
            go_wp2
            (first | go_meet | (refine Met.intro ?_; go_step; (repeat apply Exists.intro); refine ⟨?rel, ?frame⟩; (case frame => (try simp only [c21b0]); (try simp only [c21b1]); rfl)))
            case rel => exact ⟨_, (true), (by first | rfl | (simp; done) | (simp [*]; done)), H', ⟨by have := HJ3.out; first | omega | exact Nat.le_refl _⟩, ⟨by (with_reducible repeat (first | apply Kd.N_alloc | apply Kd.N_drewN | apply Kd.N_drew)); exact HO252.out⟩, ⟨by repeat (first | (with_reducible first | exact HB.out | apply below_alloc | apply pw_below_drewN | apply below_drew1) | exact HB.out)⟩⟩
        case rest =>
          clear HC12
          try clear c1
          try clear c2
          try clear p2
          try clear q2
          try clear hx2
          try clear qi2
          try clear c5
          try clear c5b0
          try clear c5b1
          try clear c6
          try clear c7
          try clear c21
          try clear c21b0
          try clear c21b1
          try clear c22
          try clear c22b0
          try clear c22b1
          try clear c23
          try clear c23b0
          try clear c23b1
          try clear c24
          try clear c24b0
          try clear c24b1
          try clear c25
          try clear p25
          try clear q25
          try clear hx25
          try clear qi25
          try clear hx253_0
          try clear hx254_0
          try clear p2
          try clear p253
          try clear p254
          try clear q253
          try clear q254
          obtain ⟨kq, x70_11, rfl, HA, HJ11, HO_11, HB⟩ := hcut
          cases kq with
          | zero => exact absurd HA.out (by simp [gantletlaw05_LiteralBack.j1])
          | succ kj11 =>
            have H := HA.out
            clear HA
            simp only [gantletlaw05_LiteralBack.j1] at H
            by_cases c27 : x70_11 = true
            · subst c27
              have H1 : (none) = some r := by rw [if_pos rfl] at H; exact H
              clear H
              have H := H1
              clear H1
              exact absurd H (by simp)
            · replace c27 := Bool.eq_false_iff.mpr c27
              subst c27
              have H1 : (gantletlaw05_LiteralBack.l0 kj11 a0 l1 a2 y250 0) = some r := by rw [if_neg (show ¬ (false = true) by decide)] at H; exact H
              clear H
              have H := H1
              clear H1
              have H' := Aside0.mk H
              clear H
              go_wp2
              go_loopg [12] kj11 (fun kq v12 w' => ∃ (x12_3 : Int), v12 = .int .i64 x12_3 ∧ Aside0 (gantletlaw05_LiteralBack.l0 kq a0 l1 a2 y250 x12_3 = some r) ∧ Aside0 (kq ≤ kj11) ∧ Aside0 (Kd.N (Kd.slice 5 (Kd.int .u8)) 22 w' w.heap.size (fun _ => True) v251 y250) ∧ Aside0 (Below w.heap.size w w'))
              case atStart => exact ⟨(0), (by first | rfl | (simp; done) | (simp [*]; done)), H', ⟨Nat.le_refl _⟩, ⟨by (with_reducible repeat (first | apply Kd.N_alloc | apply Kd.N_drewN | apply Kd.N_drew)); exact HO_11.out⟩, ⟨by repeat (first | (with_reducible first | exact HB.out | apply below_alloc | apply pw_below_drewN | apply below_drew1) | exact HB.out)⟩⟩
              case round =>
                clear H'
                try clear c1
                try clear c2
                try clear p2
                try clear q2
                try clear hx2
                try clear qi2
                try clear c5
                try clear c5b0
                try clear c5b1
                try clear c6
                try clear c7
                try clear c21
                try clear c21b0
                try clear c21b1
                try clear c22
                try clear c22b0
                try clear c22b1
                try clear c23
                try clear c23b0
                try clear c23b1
                try clear c24
                try clear c24b0
                try clear c24b1
                try clear c25
                try clear p25
                try clear q25
                try clear hx25
                try clear qi25
                try clear c27
                try clear hx253_0
                try clear hx254_0
                try clear p2
                try clear p25
                try clear p253
                try clear p254
                try clear q2
                try clear q25
                try clear q253
                try clear q254
                obtain ⟨x12_3, rfl, HA, HK3, HO_11, HB⟩ := hrel
                cases gk with
                | zero => exact absurd HA.out (by simp [gantletlaw05_LiteralBack.l0])
                | succ k3 =>
                  have H := HA.out
                  clear HA
                  simp only [gantletlaw05_LiteralBack.l0] at H
                  by_cases c28 : x12_3 < 3
                  · rw [if_pos c28] at H
                    have c28b0 : decide (x12_3 < 3) = true := decide_eq_true c28
                    clear c28
                    by_cases c29 : 0 ≤ x12_3
                    · rw [if_pos c29] at H
                      have c29b0 : decide (0 ≤ x12_3) = true := decide_eq_true c29
                      clear c29
                      by_cases c30 : x12_3 < (y250.length : Int)
                      · rw [if_pos c30] at H
                        have c30b0 : decide (x12_3 < (y250.length : Int)) = true := decide_eq_true c30
                        clear c30
                        by_cases c31 : ((rd_L2 y250 x12_3).length : Int) = 0
                        · rw [if_pos c31] at H
                          exact absurd H (by simp)
                        · rw [if_neg c31] at H
                          have c31b0 : (((rd_L2 y250 x12_3).length : Int) == 0) = false := beq_eq_false_iff_ne.mpr c31
                          have c31b1 : (((rd_L2 y250 x12_3).length : Int) != 0) = true := bne_iff_ne.mpr c31
                          have c31b2 : ¬ ((rd_L2 y250 x12_3) = []) := fun h_ => c31 (by rw [h_]; rfl)
                          obtain ⟨y257, hy257⟩ : ∃ y_ : List Int, y_ = (([] : List Int)) := ⟨_, rfl⟩
                          replace H : (if y257.length + (rd_L2 y250 x12_3).length < 140737488355328 then ((some (y257 ++ (rd_L2 y250 x12_3) : List Int)).bind fun y260 => (if y260.length + l1.length < 140737488355328 then ((literal_Decode.f k3 (y260 ++ l1) (a0.size : Int)).bind fun bt266 => (if 0 ≤ (Int.tmod (wrap64 (a2)) ((rd_L2 y250 x12_3).length : Int)) then (if (Int.tmod (wrap64 (a2)) ((rd_L2 y250 x12_3).length : Int)) ≤ ((rd_L2 y250 x12_3).length : Int) then ((literal_Decode.f k3 ((rd_L2 y250 x12_3).take ((Int.tmod (wrap64 (a2)) ((rd_L2 y250 x12_3).length : Int)) : Int).toNat) (a0.size : Int)).bind fun bt274 => ((literal_Decode.f k3 (rd_L2 y250 x12_3) (wrap64 ((a0.size : Int) - 1))).bind fun bt277 => (if bt266.1.toList = a0.toList then (if bt266.2.1 = ((rd_L2 y250 x12_3).length : Int) then (if bt266.2.2 = 0 then (if bt274.2.2 = 2 then (if (a0.size : Int) > 0 then (if bt277.2.2 = 4 then (gantletlaw05_LiteralBack.l0 k3 a0 l1 a2 y250 (wrap64 (x12_3 + 1))) else (none)) else (gantletlaw05_LiteralBack.l0 k3 a0 l1 a2 y250 (wrap64 (x12_3 + 1)))) else (none)) else (none)) else (none)) else (none)))) else (none)) else (none))) else (none))) else (none)) = some r := by first | (rw [hy257]; with_reducible exact H) | (have H2_ := (Option.bind_some _ _).symm.trans H; rw [hy257]; with_reducible exact H2_) | (have H2_ := (Option.bind_some _ _).symm.trans H; with_reducible exact H2_) | with_reducible exact H | (rw [hy257]; exact H) | exact H
                          have Ny257 := Aside0.mk hy257
                          clear hy257
                          by_cases c32 : y257.length + (rd_L2 y250 x12_3).length < 140737488355328
                          · rw [if_pos c32] at H
                            have LMc32 := Aside0.mk c32
                            clear c32
                            obtain ⟨y260, hy260⟩ : ∃ y_ : List Int, y_ = (y257 ++ (rd_L2 y250 x12_3)) := ⟨_, rfl⟩
                            replace H : (if y260.length + l1.length < 140737488355328 then ((literal_Decode.f k3 (y260 ++ l1) (a0.size : Int)).bind fun bt266 => (if 0 ≤ (Int.tmod (wrap64 (a2)) ((rd_L2 y250 x12_3).length : Int)) then (if (Int.tmod (wrap64 (a2)) ((rd_L2 y250 x12_3).length : Int)) ≤ ((rd_L2 y250 x12_3).length : Int) then ((literal_Decode.f k3 ((rd_L2 y250 x12_3).take ((Int.tmod (wrap64 (a2)) ((rd_L2 y250 x12_3).length : Int)) : Int).toNat) (a0.size : Int)).bind fun bt274 => ((literal_Decode.f k3 (rd_L2 y250 x12_3) (wrap64 ((a0.size : Int) - 1))).bind fun bt277 => (if bt266.1.toList = a0.toList then (if bt266.2.1 = ((rd_L2 y250 x12_3).length : Int) then (if bt266.2.2 = 0 then (if bt274.2.2 = 2 then (if (a0.size : Int) > 0 then (if bt277.2.2 = 4 then (gantletlaw05_LiteralBack.l0 k3 a0 l1 a2 y250 (wrap64 (x12_3 + 1))) else (none)) else (gantletlaw05_LiteralBack.l0 k3 a0 l1 a2 y250 (wrap64 (x12_3 + 1)))) else (none)) else (none)) else (none)) else (none)))) else (none)) else (none))) else (none)) = some r := by first | (rw [hy260]; with_reducible exact H) | (have H2_ := (Option.bind_some _ _).symm.trans H; rw [hy260]; with_reducible exact H2_) | (have H2_ := (Option.bind_some _ _).symm.trans H; with_reducible exact H2_) | with_reducible exact H | (rw [hy260]; exact H) | exact H
                            have Ny260 := Aside0.mk hy260
                            clear hy260
                            by_cases c33 : y260.length + l1.length < 140737488355328
                            · rw [if_pos c33] at H
                              have LMc33 := Aside0.mk c33
                              clear c33
                              obtain ⟨y263, hy263⟩ : ∃ y_ : List Int, y_ = (y260 ++ l1) := ⟨_, rfl⟩
                              replace H : ((literal_Decode.f k3 y263 (a0.size : Int)).bind fun bt266 => (if 0 ≤ (Int.tmod (wrap64 (a2)) ((rd_L2 y250 x12_3).length : Int)) then (if (Int.tmod (wrap64 (a2)) ((rd_L2 y250 x12_3).length : Int)) ≤ ((rd_L2 y250 x12_3).length : Int) then ((literal_Decode.f k3 ((rd_L2 y250 x12_3).take ((Int.tmod (wrap64 (a2)) ((rd_L2 y250 x12_3).length : Int)) : Int).toNat) (a0.size : Int)).bind fun bt274 => ((literal_Decode.f k3 (rd_L2 y250 x12_3) (wrap64 ((a0.size : Int) - 1))).bind fun bt277 => (if bt266.1.toList = a0.toList then (if bt266.2.1 = ((rd_L2 y250 x12_3).length : Int) then (if bt266.2.2 = 0 then (if bt274.2.2 = 2 then (if (a0.size : Int) > 0 then (if bt277.2.2 = 4 then (gantletlaw05_LiteralBack.l0 k3 a0 l1 a2 y250 (wrap64 (x12_3 + 1))) else (none)) else (gantletlaw05_LiteralBack.l0 k3 a0 l1 a2 y250 (wrap64 (x12_3 + 1)))) else (none)) else (none)) else (none)) else (none)))) else (none)) else (none))) = some r := by first | (rw [hy263]; with_reducible exact H) | (have H2_ := (Option.bind_some _ _).symm.trans H; rw [hy263]; with_reducible exact H2_) | (have H2_ := (Option.bind_some _ _).symm.trans H; with_reducible exact H2_) | with_reducible exact H | (rw [hy263]; exact H) | exact H
                              have Ny263 := Aside0.mk hy263
                              clear hy263
                              replace H := Option.bind_eq_some_iff.mp H
                              obtain ⟨⟨t266, t267, t268⟩, A340, H⟩ := H
                              replace H : (if 0 ≤ (Int.tmod (wrap64 (a2)) ((rd_L2 y250 x12_3).length : Int)) then (if (Int.tmod (wrap64 (a2)) ((rd_L2 y250 x12_3).length : Int)) ≤ ((rd_L2 y250 x12_3).length : Int) then ((literal_Decode.f k3 ((rd_L2 y250 x12_3).take ((Int.tmod (wrap64 (a2)) ((rd_L2 y250 x12_3).length : Int)) : Int).toNat) (a0.size : Int)).bind fun bt274 => ((literal_Decode.f k3 (rd_L2 y250 x12_3) (wrap64 ((a0.size : Int) - 1))).bind fun bt277 => (if t266.toList = a0.toList then (if t267 = ((rd_L2 y250 x12_3).length : Int) then (if t268 = 0 then (if bt274.2.2 = 2 then (if (a0.size : Int) > 0 then (if bt277.2.2 = 4 then (gantletlaw05_LiteralBack.l0 k3 a0 l1 a2 y250 (wrap64 (x12_3 + 1))) else (none)) else (gantletlaw05_LiteralBack.l0 k3 a0 l1 a2 y250 (wrap64 (x12_3 + 1)))) else (none)) else (none)) else (none)) else (none)))) else (none)) else (none)) = some r := H
                              have A34 := Aside0.mk A340
                              clear A340
                              obtain ⟨ji35, hji35⟩ : ∃ j_ : Int, (Int.tmod (wrap64 (a2)) ((rd_L2 y250 x12_3).length : Int)) = j_ := ⟨_, rfl⟩
                              replace H : (if 0 ≤ (ji35) then (if (ji35) ≤ ((rd_L2 y250 x12_3).length : Int) then ((literal_Decode.f k3 ((rd_L2 y250 x12_3).take ((ji35) : Int).toNat) (a0.size : Int)).bind fun bt274 => ((literal_Decode.f k3 (rd_L2 y250 x12_3) (wrap64 ((a0.size : Int) - 1))).bind fun bt277 => (if t266.toList = a0.toList then (if t267 = ((rd_L2 y250 x12_3).length : Int) then (if t268 = 0 then (if bt274.2.2 = 2 then (if (a0.size : Int) > 0 then (if bt277.2.2 = 4 then (gantletlaw05_LiteralBack.l0 k3 a0 l1 a2 y250 (wrap64 (x12_3 + 1))) else (none)) else (gantletlaw05_LiteralBack.l0 k3 a0 l1 a2 y250 (wrap64 (x12_3 + 1)))) else (none)) else (none)) else (none)) else (none)))) else (none)) else (none)) = some r := by first | (rw [hji35] at H; exact H) | (simp only [hji35] at H ⊢; exact H)
                              (try rw [hji35] at A34)
                              by_cases c36 : 0 ≤ (ji35)
                              · rw [if_pos c36] at H
                                have c36b0 := eq_true c36
                                have c36b1 : decide (0 ≤ (ji35)) = true := decide_eq_true c36
                                clear c36
                                by_cases c37 : (ji35) ≤ ((rd_L2 y250 x12_3).length : Int)
                                · rw [if_pos c37] at H
                                  have c37b0 := eq_true c37
                                  have c37b1 : decide ((ji35) ≤ ((rd_L2 y250 x12_3).length : Int)) = true := decide_eq_true c37
                                  clear c37
                                  obtain ⟨y269, hy269⟩ : ∃ y_ : List Int, y_ = ((rd_L2 y250 x12_3).take ((ji35) : Int).toNat) := ⟨_, rfl⟩
                                  replace H : ((literal_Decode.f k3 y269 (a0.size : Int)).bind fun bt274 => ((literal_Decode.f k3 (rd_L2 y250 x12_3) (wrap64 ((a0.size : Int) - 1))).bind fun bt277 => (if t266.toList = a0.toList then (if t267 = ((rd_L2 y250 x12_3).length : Int) then (if t268 = 0 then (if bt274.2.2 = 2 then (if (a0.size : Int) > 0 then (if bt277.2.2 = 4 then (gantletlaw05_LiteralBack.l0 k3 a0 l1 a2 y250 (wrap64 (x12_3 + 1))) else (none)) else (gantletlaw05_LiteralBack.l0 k3 a0 l1 a2 y250 (wrap64 (x12_3 + 1)))) else (none)) else (none)) else (none)) else (none)))) = some r := by first | (rw [hy269]; with_reducible exact H) | (have H2_ := (Option.bind_some _ _).symm.trans H; rw [hy269]; with_reducible exact H2_) | (have H2_ := (Option.bind_some _ _).symm.trans H; with_reducible exact H2_) | with_reducible exact H | (rw [hy269]; exact H) | exact H
                                  have Ny269 := Aside0.mk hy269
                                  clear hy269
                                  replace H := Option.bind_eq_some_iff.mp H
                                  obtain ⟨⟨t274, t275, t276⟩, A380, H⟩ := H
                                  replace H : ((literal_Decode.f k3 (rd_L2 y250 x12_3) (wrap64 ((a0.size : Int) - 1))).bind fun bt277 => (if t266.toList = a0.toList then (if t267 = ((rd_L2 y250 x12_3).length : Int) then (if t268 = 0 then (if t276 = 2 then (if (a0.size : Int) > 0 then (if bt277.2.2 = 4 then (gantletlaw05_LiteralBack.l0 k3 a0 l1 a2 y250 (wrap64 (x12_3 + 1))) else (none)) else (gantletlaw05_LiteralBack.l0 k3 a0 l1 a2 y250 (wrap64 (x12_3 + 1)))) else (none)) else (none)) else (none)) else (none))) = some r := H
                                  have A38 := Aside0.mk A380
                                  clear A380
                                  replace H := Option.bind_eq_some_iff.mp H
                                  obtain ⟨⟨t277, t278, t279⟩, A390, H⟩ := H
                                  replace H : (if t266.toList = a0.toList then (if t267 = ((rd_L2 y250 x12_3).length : Int) then (if t268 = 0 then (if t276 = 2 then (if (a0.size : Int) > 0 then (if t279 = 4 then (gantletlaw05_LiteralBack.l0 k3 a0 l1 a2 y250 (wrap64 (x12_3 + 1))) else (none)) else (gantletlaw05_LiteralBack.l0 k3 a0 l1 a2 y250 (wrap64 (x12_3 + 1)))) else (none)) else (none)) else (none)) else (none)) = some r := H
                                  have A39 := Aside0.mk A390
                                  clear A390
                                  by_cases c40 : t266.toList = a0.toList
                                  · rw [if_pos c40] at H
                                    have c40b0 : (t266.toList == a0.toList) = true := beq_iff_eq.mpr c40
                                    have c40b1 : (t266.toList != a0.toList) = false := bne_eq_false_iff_eq.mpr c40
                                    clear c40
                                    by_cases c41 : t267 = ((rd_L2 y250 x12_3).length : Int)
                                    · rw [if_pos c41] at H
                                      have c41b0 : (t267 == ((rd_L2 y250 x12_3).length : Int)) = true := beq_iff_eq.mpr c41
                                      have c41b1 : (t267 != ((rd_L2 y250 x12_3).length : Int)) = false := bne_eq_false_iff_eq.mpr c41
                                      clear c41
                                      by_cases c42 : t268 = 0
                                      · rw [if_pos c42] at H
                                        have c42b0 : (t268 == 0) = true := beq_iff_eq.mpr c42
                                        have c42b1 : (t268 != 0) = false := bne_eq_false_iff_eq.mpr c42
                                        clear c42
                                        by_cases c43 : t276 = 2
                                        · rw [if_pos c43] at H
                                          have c43b0 : (t276 == 2) = true := beq_iff_eq.mpr c43
                                          have c43b1 : (t276 != 2) = false := bne_eq_false_iff_eq.mpr c43
                                          clear c43
                                          by_cases c44 : (a0.size : Int) > 0
                                          · rw [if_pos c44] at H
                                            have c44b0 : decide (0 < (a0.size : Int)) = true := decide_eq_true c44
                                            have c44b1 : decide (0 < a0.size) = true := decide_eq_true (by omega)
                                            clear c44
                                            by_cases c45 : t279 = 4
                                            · rw [if_pos c45] at H
                                              have c45b0 : (t279 == 4) = true := beq_iff_eq.mpr c45
                                              have c45b1 : (t279 != 4) = false := bne_eq_false_iff_eq.mpr c45
                                              clear c45
                                              have H' := Aside0.mk H
                                              clear H
                                              obtain ⟨Ao46, co46, eo46⟩ := Kd.N_slice HO_11.out
                                              subst eo46
                                              have p256 : 0 ≤ (x12_3 : Int) := of_decide_eq_true (by first | (with_reducible assumption) | assumption)
                                              have q256 : x12_3 < (y250.length : Int) := of_decide_eq_true (by first | (with_reducible assumption) | assumption)
                                              obtain ⟨ad256, A256_0, c256_0, e256, hx256_0, hl256_0, hi256_0⟩ := at_L2 (Kd.N_reads' HO_11.out).2.2 x12_3 p256 q256
                                              cases e256
                                              obtain ⟨ce256, hce256, hMe256, hcc256⟩ := Kd.N_get HO_11.out [] x12_3 p256 (by first | exact q256 | exact of_decide_eq_true (by first | (with_reducible assumption) | assumption) | (have e_ := (Kd.N_reads' HO_11.out).1; omega))
                                              obtain ⟨ua256_0, uc256_0, rfl, ul256_0, ge256_0⟩ := Kd.FK_slice_open hMe256
                                              have hv256_0 := hcc256 0 _ rfl
                                              rw [Nat.add_zero, show ((Kd.slice 5 (Kd.int .u8))).sz = 1 from rfl, Nat.mul_one] at hv256_0
                                              replace hv256_0 := Option.some.inj (hv256_0.symm.trans hx256_0)
                                              injection hv256_0 with hva_ hvn_ hvc_
                                              rw [hva_] at ge256_0
                                              rw [hvc_] at ul256_0
                                              have HL256_0 := Aside0.mk (show Kd.V (Kd.int .u8) 5 _ w.heap.size _ _ (rd_L2 y250 x12_3) from Kd.V_mk ul256_0 ge256_0)
                                              clear hva_ hvn_ hvc_ ge256_0 ul256_0
                                              clear hcc256 hce256
                                              have HR256_0 := Aside0.mk hi256_0
                                              have HC256_0 := Aside0.mk hl256_0
                                              clear hi256_0 hl256_0
                                              replace p256 := eq_true p256
                                              replace q256 := eq_true q256
                                              go_wp2_with (first | ((with_reducible refine gate_dst (N := 83) rfl ?_); (try (refine gate_guard (by rfl) ?_; dsimp only)); refine Kd.R_lit (Kd.int .u8) _ 5 ?hg (N := 83) ?hd (xs := ([] : List Int)) (inner := []) (ok := fun _ => True) (okp := fun _ => True) ?hr ?hp (fun _ hk => hk) trivial (Below.refl _ _) (Nat.le_refl _) (by simp) ?_; (case hd => rfl); (case hg => rfl); (case hr => first | (go_simp; done) | (go_simp; rfl)); (case hp => exact (Reps.none _ _)); intro v258 w47 ho48 hb hg_ hnew_; clear hg_ hnew_; (first | rw [← Ny257.out] at ho48 | (simp only [Int.reduceToNat] at ho48; rw [← Ny257.out] at ho48)); have n0_ := Aside0.mk (Kd.N_elder' (by (with_reducible repeat (first | apply Kd.N_alloc | apply Kd.N_drewN | apply Kd.N_drew)); exact HO_11.out) (Kd.R_base ho48) hb); have n1_ := Aside0.mk (Kd.V_elder' (by (with_reducible repeat (first | apply Kd.V_alloc | apply Kd.V_drewN | apply Kd.V_drew)); exact HL256_0.out) (Kd.R_base ho48) hb); have n2_ := Aside0.mk (Kd.R_lower ho48 (below_size (by repeat (first | (with_reducible first | exact HB.out | apply below_alloc | apply pw_below_drewN | apply below_drew1) | exact HB.out)))); have n3_ := Aside0.mk (Kd.C_below (by repeat (first | (with_reducible exact HR256_0.out) | (with_reducible refine Kd.C_alloc ?_ _) | (with_reducible refine Kd.C_drewN ?_ _) | (with_reducible refine Kd.C_drew ?_) | exact HR256_0.out)) hb); have n4_ := Aside0.mk (below_step (by repeat (first | (with_reducible first | exact HB.out | apply below_alloc | apply pw_below_drewN | apply below_drew1) | exact HB.out)) hb); clear HO_11; clear HL256_0; clear HR256_0; clear HB; have HO_11 := n0_; have HL256_0 := n1_; have HO259 := n2_; have HR256_0 := n3_; have HB := n4_; clear n0_ n1_ n2_ n3_ n4_; clear hb ho48) | ((with_reducible refine gate_builtin (b := .append) (xs := #[.tmp 83, .tmp 84]) rfl ?_); (try (refine gate_guard (by rfl) ?_; dsimp only)); at_builtin; refine Kd.R_append_rows (Kd.int .u8) (w0 := w) w.heap.size rfl (.tmp 83) (.tmp 84) 22 5 (.int .u8 0) 1 rfl Tryd.underlying22 info5 rfl (by decide) (by omega) v258 y257 (rd_L2 y250 x12_3) _ _ _ (fun _ => True) (fun _ => False) rfl rfl ?aO ?aR (fun _ _ h => h) (fun _ h => h.elim) ?aF ?aB ?aS ?aL ?_; (case aR => repeat (first | exact (by repeat (first | (with_reducible exact HR256_0.out) | (with_reducible refine Kd.C_alloc ?_ _) | (with_reducible refine Kd.C_drewN ?_ _) | (with_reducible refine Kd.C_drew ?_) | exact HR256_0.out)) | (with_reducible refine Kd.C_alloc ?_ _) | (with_reducible refine Kd.C_drewN ?_ _) | (with_reducible refine Kd.C_drew ?_))); (case aB => exact (by repeat (first | (with_reducible first | exact HB.out | apply below_alloc | apply pw_below_drewN | apply below_drew1) | exact HB.out))); (case aF => exact (fun _ _ => trivial)); (case aO => exact (by (with_reducible repeat (first | apply Kd.R_alloc | apply Kd.R_drewN | apply Kd.R_drew)); exact HO259.out)); (case aS => exact (below_size (by repeat (first | (with_reducible first | exact HB.out | apply below_alloc | apply pw_below_drewN | apply below_drew1) | exact HB.out)))); (case aL => have := LMc32.out; omega); intro v261 w49 ho hb hg hat; rw [← Ny260.out] at ho; have n0_ := Aside0.mk (Kd.N_afterv (ok := (fun _ => True)) (by (with_reducible repeat (first | apply Kd.N_alloc | apply Kd.N_drewN | apply Kd.N_drew)); exact HO_11.out) hg hat); have n1_ := Aside0.mk (Kd.V_afterv (ok := (fun k_ => some k_ ≠ (.slice (some ad256) y250.length co46 : Value).ownBlock)) (by (with_reducible repeat (first | apply Kd.V_alloc | apply Kd.V_drewN | apply Kd.V_drew)); exact Kd.V_mono HL256_0.out (by first | exact (fun _ hk => ⟨hk.1.2, hk.2⟩) | exact (fun _ hk => hk) | (intro k_ hk; simp_all; done))) hg hat); have n2_ := Aside0.mk (hb); have n3_ := Aside0.mk (ho); clear HO_11; clear HL256_0; clear HB; clear HO259; have HO_11 := n0_; have HL256_0 := n1_; have HB := n2_; have HO262 := n3_; clear n0_ n1_ n2_ n3_; clear ho hb hg hat) | ((with_reducible refine gate_builtin (b := .append) (xs := #[.tmp 85, .tmp 86]) rfl ?_); (try (refine gate_guard (by rfl) ?_; dsimp only)); at_builtin; refine Kd.R_append_rows (Kd.int .u8) (w0 := w) w.heap.size rfl (.tmp 85) (.tmp 86) 22 5 (.int .u8 0) 1 rfl Tryd.underlying22 info5 rfl (by decide) (by omega) v261 y260 l1 _ _ _ (fun _ => True) (fun _ => False) rfl rfl ?aO ?aR (fun _ _ h => h) (fun _ h => h.elim) ?aF ?aB ?aS ?aL ?_; (case aR => repeat (first | exact (Kd.C_below HR1.out HB.out) | (with_reducible refine Kd.C_alloc ?_ _) | (with_reducible refine Kd.C_drewN ?_ _) | (with_reducible refine Kd.C_drew ?_))); (case aB => exact (by repeat (first | (with_reducible first | exact HB.out | apply below_alloc | apply pw_below_drewN | apply below_drew1) | exact HB.out))); (case aF => exact (fun _ _ => trivial)); (case aO => exact (by (with_reducible repeat (first | apply Kd.R_alloc | apply Kd.R_drewN | apply Kd.R_drew)); exact HO262.out)); (case aS => exact (below_size (by repeat (first | (with_reducible first | exact HB.out | apply below_alloc | apply pw_below_drewN | apply below_drew1) | exact HB.out)))); (case aL => have := LMc33.out; omega); intro v264 w50 ho hb hg hat; rw [← Ny263.out] at ho; have n0_ := Aside0.mk (Kd.N_afterv (ok := (fun _ => True)) (by (with_reducible repeat (first | apply Kd.N_alloc | apply Kd.N_drewN | apply Kd.N_drew)); exact HO_11.out) hg hat); have n1_ := Aside0.mk (Kd.V_afterv (ok := (fun k_ => some k_ ≠ (.slice (some ad256) y250.length co46 : Value).ownBlock)) (by (with_reducible repeat (first | apply Kd.V_alloc | apply Kd.V_drewN | apply Kd.V_drew)); exact HL256_0.out) hg hat); have n2_ := Aside0.mk (hb); have n3_ := Aside0.mk (ho); clear HO_11; clear HL256_0; clear HB; clear HO262; have HO_11 := n0_; have HL256_0 := n1_; have HB := n2_; have HO265 := n3_; clear n0_ n1_ n2_ n3_; clear ho hb hg hat; obtain ⟨Ao51, co51, eo51⟩ := Kd.R_slice HO265.out; subst eo51) | ((with_reducible refine gate_callee (f := 27) rfl ?_); refine goesL_ (some 90) rfl rfl Tryd.func27 (by kernel_rfl) rfl #[.slice Ao51 y263.length co51, .int .i64 (a0.size : Int)] rfl (by (try simp only [List.map_toArray, List.map_cons, List.map_nil]); first | done | rfl | (simp only [List.length_drop, List.length_take]; rfl)) ?_; (with_reducible refine (literal_Decode.calls k3 _ _ y263 (a0.size : Int) t266 t267 t268 _ ?side1 ?side2 ?side3 A34.out).mono ?_); (case side1 => exact GB.below HG.out (by repeat (first | (with_reducible first | exact HB.out | apply below_alloc | apply pw_below_drewN | apply below_drew1) | exact HB.out))); (case side2 => repeat (first | exact (Kd.R_reads' HO265.out).2.2 | (with_reducible refine Kd.C_alloc ?_ _) | (with_reducible refine Kd.C_drewN ?_ _) | (with_reducible refine Kd.C_drew ?_))); (case side3 => exact (Kd.R_reads' HO265.out).2.1); rintro e w52 ⟨rfl, hb⟩; refine ⟨_, rfl, ?_⟩; have n0_ := Aside0.mk (Kd.N_below (by (with_reducible repeat (first | apply Kd.N_alloc | apply Kd.N_drewN | apply Kd.N_drew)); exact HO_11.out) hb); have n1_ := Aside0.mk (Kd.V_below (by (with_reducible repeat (first | apply Kd.V_alloc | apply Kd.V_drewN | apply Kd.V_drew)); exact HL256_0.out) hb); have n2_ := Aside0.mk (Kd.R_below (by (with_reducible repeat (first | apply Kd.R_alloc | apply Kd.R_drewN | apply Kd.R_drew)); exact HO265.out) hb); have n3_ := Aside0.mk (below_step (by repeat (first | (with_reducible first | exact HB.out | apply below_alloc | apply pw_below_drewN | apply below_drew1) | exact HB.out)) hb); clear HO_11; clear HL256_0; clear HO265; clear HB; have HO_11 := n0_; have HL256_0 := n1_; have HO265 := n2_; have HB := n3_; clear n0_ n1_ n2_ n3_; (try clear hb); (try clear hb2); (try clear hk); (try clear hi); have q53 : ((ji35) : Int) ≤ (((rd_L2 y250 x12_3).length : Int) : Int) := of_decide_eq_true (by first | (with_reducible assumption) | assumption); obtain ⟨i053, hi053, _, hsz53, _⟩ := info_parts info5; have hroom53 : (rd_L2 y250 x12_3).length ≤ c256_0 := HC256_0.out; have hC53 : Kd.F (Kd.int .u8) _ _ A256_0 (rd_L2 y250 x12_3).length (rd_L2 y250 x12_3) := (Kd.V_at (base := w.heap.size) HL256_0.out).2.2; have hcut53 := cut_to (P := Tryd.prog) 22 5 .i64 Tryd.underlying22 hi053 A256_0 (rd_L2 y250 x12_3).length c256_0 (ji35) (of_decide_eq_true (by first | (with_reducible assumption) | assumption)) q53 hroom53; have hr53 := Kd.F_take (m := ((ji35) : Int).toNat) hC53 (by omega); have hy53 : y269.length = ((ji35) : Int).toNat := (by rw [Ny269.out, List.length_take]; omega); rw [← Ny269.out] at hr53; rw [← hy53] at hcut53; have HO273 := Aside0.mk (show Kd.V (Kd.int .u8) 5 _ w.heap.size _ (.slice A256_0 y269.length c256_0) y269 from Kd.V_mk (by omega) hr53); have HC273 := Aside0.mk (show y269.length ≤ c256_0 from by omega); clear hr53 hC53 hroom53 hi053 hsz53; have KY53 := Aside0.mk hy53; clear hy53; replace q53 := eq_true q53) | ((with_reducible refine gate_callee (f := 27) rfl ?_); refine goesL_ (some 104) rfl rfl Tryd.func27 (by kernel_rfl) rfl #[.slice A256_0 y269.length c256_0, .int .i64 (a0.size : Int)] rfl (by (try simp only [List.map_toArray, List.map_cons, List.map_nil]); first | done | rfl | (simp only [List.length_drop, List.length_take]; rfl)) ?_; (with_reducible refine (literal_Decode.calls k3 _ _ y269 (a0.size : Int) t274 t275 t276 _ ?side1 ?side2 ?side3 A38.out).mono ?_); (case side1 => exact GB.below HG.out (by repeat (first | (with_reducible first | exact HB.out | apply below_alloc | apply pw_below_drewN | apply below_drew1) | exact HB.out))); (case side2 => repeat (first | exact (Kd.V_reads' HO273.out).2.2 | (with_reducible refine Kd.C_alloc ?_ _) | (with_reducible refine Kd.C_drewN ?_ _) | (with_reducible refine Kd.C_drew ?_))); (case side3 => exact (Kd.V_reads' HO273.out).2.1); rintro e w54 ⟨rfl, hb⟩; refine ⟨_, rfl, ?_⟩; have n0_ := Aside0.mk (Kd.N_below (by (with_reducible repeat (first | apply Kd.N_alloc | apply Kd.N_drewN | apply Kd.N_drew)); exact HO_11.out) hb); have n1_ := Aside0.mk (Kd.V_below (by (with_reducible repeat (first | apply Kd.V_alloc | apply Kd.V_drewN | apply Kd.V_drew)); exact HL256_0.out) hb); have n2_ := Aside0.mk (Kd.R_below (by (with_reducible repeat (first | apply Kd.R_alloc | apply Kd.R_drewN | apply Kd.R_drew)); exact HO265.out) hb); have n3_ := Aside0.mk (Kd.V_below (by (with_reducible repeat (first | apply Kd.V_alloc | apply Kd.V_drewN | apply Kd.V_drew)); exact HO273.out) hb); have n4_ := Aside0.mk (below_step (by repeat (first | (with_reducible first | exact HB.out | apply below_alloc | apply pw_below_drewN | apply below_drew1) | exact HB.out)) hb); clear HO_11; clear HL256_0; clear HO265; clear HO273; clear HB; have HO_11 := n0_; have HL256_0 := n1_; have HO265 := n2_; have HO273 := n3_; have HB := n4_; clear n0_ n1_ n2_ n3_ n4_; (try clear hb); (try clear hb2); (try clear hk); (try clear hi)) | ((with_reducible refine gate_callee (f := 27) rfl ?_); refine goesL_ (some 113) rfl rfl Tryd.func27 (by kernel_rfl) rfl #[.slice A256_0 (rd_L2 y250 x12_3).length c256_0, .int .i64 (wrap64 ((a0.size : Int) - 1))] rfl (by (try simp only [List.map_toArray, List.map_cons, List.map_nil]); first | done | rfl | (simp only [List.length_drop, List.length_take]; rfl)) ?_; (with_reducible refine (literal_Decode.calls k3 _ _ (rd_L2 y250 x12_3) (wrap64 ((a0.size : Int) - 1)) t277 t278 t279 _ ?side1 ?side2 ?side3 A39.out).mono ?_); (case side1 => exact GB.below HG.out (by repeat (first | (with_reducible first | exact HB.out | apply below_alloc | apply pw_below_drewN | apply below_drew1) | exact HB.out))); (case side2 => repeat (first | exact ((Kd.V_reads' (by (with_reducible repeat (first | apply Kd.V_alloc | apply Kd.V_drewN | apply Kd.V_drew)); exact HL256_0.out)).2.2) | (with_reducible refine Kd.C_alloc ?_ _) | (with_reducible refine Kd.C_drewN ?_ _) | (with_reducible refine Kd.C_drew ?_))); (case side3 => exact HC256_0.out); rintro e w55 ⟨rfl, hb⟩; refine ⟨_, rfl, ?_⟩; have n0_ := Aside0.mk (Kd.N_below (by (with_reducible repeat (first | apply Kd.N_alloc | apply Kd.N_drewN | apply Kd.N_drew)); exact HO_11.out) hb); have n1_ := Aside0.mk (Kd.V_below (by (with_reducible repeat (first | apply Kd.V_alloc | apply Kd.V_drewN | apply Kd.V_drew)); exact HL256_0.out) hb); have n2_ := Aside0.mk (Kd.R_below (by (with_reducible repeat (first | apply Kd.R_alloc | apply Kd.R_drewN | apply Kd.R_drew)); exact HO265.out) hb); have n3_ := Aside0.mk (Kd.V_below (by (with_reducible repeat (first | apply Kd.V_alloc | apply Kd.V_drewN | apply Kd.V_drew)); exact HO273.out) hb); have n4_ := Aside0.mk (below_step (by repeat (first | (with_reducible first | exact HB.out | apply below_alloc | apply pw_below_drewN | apply below_drew1) | exact HB.out)) hb); clear HO_11; clear HL256_0; clear HO265; clear HO273; clear HB; have HO_11 := n0_; have HL256_0 := n1_; have HO265 := n2_; have HO273 := n3_; have HB := n4_; clear n0_ n1_ n2_ n3_ n4_; (try clear hb); (try clear hb2); (try clear hk); (try clear hi)))
                                              go_roundg k3
                                              case measure => have := HJ3.out; have := HJ11.out; have := HK3.out; omega
                                              case rel => exact ⟨(wrap64 (x12_3 + 1)), (by first | rfl | (simp; done) | (simp [*]; done)), H', ⟨by have := HJ3.out; have := HJ11.out; have := HK3.out; omega⟩, ⟨by (with_reducible repeat (first | apply Kd.N_alloc | apply Kd.N_drewN | apply Kd.N_drew)); exact Kd.N_mono HO_11.out (fun _ hk => trivial)⟩, ⟨by repeat (first | (with_reducible first | exact HB.out | apply below_alloc | apply pw_below_drewN | apply below_drew1) | exact HB.out)⟩⟩
                                            · rw [if_neg c45] at H
                                              exact absurd H (by simp)
                                          · rw [if_neg c44] at H
                                            have c44b0 : decide (0 < (a0.size : Int)) = false := decide_eq_false c44
                                            have c44b1 : decide (0 < a0.size) = false := decide_eq_false (by omega)
                                            clear c44
                                            have H' := Aside0.mk H
                                            clear H
                                            obtain ⟨Ao56, co56, eo56⟩ := Kd.N_slice HO_11.out
                                            subst eo56
                                            have p256 : 0 ≤ (x12_3 : Int) := of_decide_eq_true (by first | (with_reducible assumption) | assumption)
                                            have q256 : x12_3 < (y250.length : Int) := of_decide_eq_true (by first | (with_reducible assumption) | assumption)
                                            obtain ⟨ad256, A256_0, c256_0, e256, hx256_0, hl256_0, hi256_0⟩ := at_L2 (Kd.N_reads' HO_11.out).2.2 x12_3 p256 q256
                                            cases e256
                                            obtain ⟨ce256, hce256, hMe256, hcc256⟩ := Kd.N_get HO_11.out [] x12_3 p256 (by first | exact q256 | exact of_decide_eq_true (by first | (with_reducible assumption) | assumption) | (have e_ := (Kd.N_reads' HO_11.out).1; omega))
                                            obtain ⟨ua256_0, uc256_0, rfl, ul256_0, ge256_0⟩ := Kd.FK_slice_open hMe256
                                            have hv256_0 := hcc256 0 _ rfl
                                            rw [Nat.add_zero, show ((Kd.slice 5 (Kd.int .u8))).sz = 1 from rfl, Nat.mul_one] at hv256_0
                                            replace hv256_0 := Option.some.inj (hv256_0.symm.trans hx256_0)
                                            injection hv256_0 with hva_ hvn_ hvc_
                                            rw [hva_] at ge256_0
                                            rw [hvc_] at ul256_0
                                            have HL256_0 := Aside0.mk (show Kd.V (Kd.int .u8) 5 _ w.heap.size _ _ (rd_L2 y250 x12_3) from Kd.V_mk ul256_0 ge256_0)
                                            clear hva_ hvn_ hvc_ ge256_0 ul256_0
                                            clear hcc256 hce256
                                            have HR256_0 := Aside0.mk hi256_0
                                            have HC256_0 := Aside0.mk hl256_0
                                            clear hi256_0 hl256_0
                                            replace p256 := eq_true p256
                                            replace q256 := eq_true q256
                                            go_wp2_with (first | ((with_reducible refine gate_dst (N := 83) rfl ?_); (try (refine gate_guard (by rfl) ?_; dsimp only)); refine Kd.R_lit (Kd.int .u8) _ 5 ?hg (N := 83) ?hd (xs := ([] : List Int)) (inner := []) (ok := fun _ => True) (okp := fun _ => True) ?hr ?hp (fun _ hk => hk) trivial (Below.refl _ _) (Nat.le_refl _) (by simp) ?_; (case hd => rfl); (case hg => rfl); (case hr => first | (go_simp; done) | (go_simp; rfl)); (case hp => exact (Reps.none _ _)); intro v258 w57 ho58 hb hg_ hnew_; clear hg_ hnew_; (first | rw [← Ny257.out] at ho58 | (simp only [Int.reduceToNat] at ho58; rw [← Ny257.out] at ho58)); have n0_ := Aside0.mk (Kd.N_elder' (by (with_reducible repeat (first | apply Kd.N_alloc | apply Kd.N_drewN | apply Kd.N_drew)); exact HO_11.out) (Kd.R_base ho58) hb); have n1_ := Aside0.mk (Kd.V_elder' (by (with_reducible repeat (first | apply Kd.V_alloc | apply Kd.V_drewN | apply Kd.V_drew)); exact HL256_0.out) (Kd.R_base ho58) hb); have n2_ := Aside0.mk (Kd.R_lower ho58 (below_size (by repeat (first | (with_reducible first | exact HB.out | apply below_alloc | apply pw_below_drewN | apply below_drew1) | exact HB.out)))); have n3_ := Aside0.mk (Kd.C_below (by repeat (first | (with_reducible exact HR256_0.out) | (with_reducible refine Kd.C_alloc ?_ _) | (with_reducible refine Kd.C_drewN ?_ _) | (with_reducible refine Kd.C_drew ?_) | exact HR256_0.out)) hb); have n4_ := Aside0.mk (below_step (by repeat (first | (with_reducible first | exact HB.out | apply below_alloc | apply pw_below_drewN | apply below_drew1) | exact HB.out)) hb); clear HO_11; clear HL256_0; clear HR256_0; clear HB; have HO_11 := n0_; have HL256_0 := n1_; have HO259 := n2_; have HR256_0 := n3_; have HB := n4_; clear n0_ n1_ n2_ n3_ n4_; clear hb ho58) | ((with_reducible refine gate_builtin (b := .append) (xs := #[.tmp 83, .tmp 84]) rfl ?_); (try (refine gate_guard (by rfl) ?_; dsimp only)); at_builtin; refine Kd.R_append_rows (Kd.int .u8) (w0 := w) w.heap.size rfl (.tmp 83) (.tmp 84) 22 5 (.int .u8 0) 1 rfl Tryd.underlying22 info5 rfl (by decide) (by omega) v258 y257 (rd_L2 y250 x12_3) _ _ _ (fun _ => True) (fun _ => False) rfl rfl ?aO ?aR (fun _ _ h => h) (fun _ h => h.elim) ?aF ?aB ?aS ?aL ?_; (case aR => repeat (first | exact (by repeat (first | (with_reducible exact HR256_0.out) | (with_reducible refine Kd.C_alloc ?_ _) | (with_reducible refine Kd.C_drewN ?_ _) | (with_reducible refine Kd.C_drew ?_) | exact HR256_0.out)) | (with_reducible refine Kd.C_alloc ?_ _) | (with_reducible refine Kd.C_drewN ?_ _) | (with_reducible refine Kd.C_drew ?_))); (case aB => exact (by repeat (first | (with_reducible first | exact HB.out | apply below_alloc | apply pw_below_drewN | apply below_drew1) | exact HB.out))); (case aF => exact (fun _ _ => trivial)); (case aO => exact (by (with_reducible repeat (first | apply Kd.R_alloc | apply Kd.R_drewN | apply Kd.R_drew)); exact HO259.out)); (case aS => exact (below_size (by repeat (first | (with_reducible first | exact HB.out | apply below_alloc | apply pw_below_drewN | apply below_drew1) | exact HB.out)))); (case aL => have := LMc32.out; omega); intro v261 w59 ho hb hg hat; rw [← Ny260.out] at ho; have n0_ := Aside0.mk (Kd.N_afterv (ok := (fun _ => True)) (by (with_reducible repeat (first | apply Kd.N_alloc | apply Kd.N_drewN | apply Kd.N_drew)); exact HO_11.out) hg hat); have n1_ := Aside0.mk (Kd.V_afterv (ok := (fun k_ => some k_ ≠ (.slice (some ad256) y250.length co56 : Value).ownBlock)) (by (with_reducible repeat (first | apply Kd.V_alloc | apply Kd.V_drewN | apply Kd.V_drew)); exact Kd.V_mono HL256_0.out (by first | exact (fun _ hk => ⟨hk.1.2, hk.2⟩) | exact (fun _ hk => hk) | (intro k_ hk; simp_all; done))) hg hat); have n2_ := Aside0.mk (hb); have n3_ := Aside0.mk (ho); clear HO_11; clear HL256_0; clear HB; clear HO259; have HO_11 := n0_; have HL256_0 := n1_; have HB := n2_; have HO262 := n3_; clear n0_ n1_ n2_ n3_; clear ho hb hg hat) | ((with_reducible refine gate_builtin (b := .append) (xs := #[.tmp 85, .tmp 86]) rfl ?_); (try (refine gate_guard (by rfl) ?_; dsimp only)); at_builtin; refine Kd.R_append_rows (Kd.int .u8) (w0 := w) w.heap.size rfl (.tmp 85) (.tmp 86) 22 5 (.int .u8 0) 1 rfl Tryd.underlying22 info5 rfl (by decide) (by omega) v261 y260 l1 _ _ _ (fun _ => True) (fun _ => False) rfl rfl ?aO ?aR (fun _ _ h => h) (fun _ h => h.elim) ?aF ?aB ?aS ?aL ?_; (case aR => repeat (first | exact (Kd.C_below HR1.out HB.out) | (with_reducible refine Kd.C_alloc ?_ _) | (with_reducible refine Kd.C_drewN ?_ _) | (with_reducible refine Kd.C_drew ?_))); (case aB => exact (by repeat (first | (with_reducible first | exact HB.out | apply below_alloc | apply pw_below_drewN | apply below_drew1) | exact HB.out))); (case aF => exact (fun _ _ => trivial)); (case aO => exact (by (with_reducible repeat (first | apply Kd.R_alloc | apply Kd.R_drewN | apply Kd.R_drew)); exact HO262.out)); (case aS => exact (below_size (by repeat (first | (with_reducible first | exact HB.out | apply below_alloc | apply pw_below_drewN | apply below_drew1) | exact HB.out)))); (case aL => have := LMc33.out; omega); intro v264 w60 ho hb hg hat; rw [← Ny263.out] at ho; have n0_ := Aside0.mk (Kd.N_afterv (ok := (fun _ => True)) (by (with_reducible repeat (first | apply Kd.N_alloc | apply Kd.N_drewN | apply Kd.N_drew)); exact HO_11.out) hg hat); have n1_ := Aside0.mk (Kd.V_afterv (ok := (fun k_ => some k_ ≠ (.slice (some ad256) y250.length co56 : Value).ownBlock)) (by (with_reducible repeat (first | apply Kd.V_alloc | apply Kd.V_drewN | apply Kd.V_drew)); exact HL256_0.out) hg hat); have n2_ := Aside0.mk (hb); have n3_ := Aside0.mk (ho); clear HO_11; clear HL256_0; clear HB; clear HO262; have HO_11 := n0_; have HL256_0 := n1_; have HB := n2_; have HO265 := n3_; clear n0_ n1_ n2_ n3_; clear ho hb hg hat; obtain ⟨Ao61, co61, eo61⟩ := Kd.R_slice HO265.out; subst eo61) | ((with_reducible refine gate_callee (f := 27) rfl ?_); refine goesL_ (some 90) rfl rfl Tryd.func27 (by kernel_rfl) rfl #[.slice Ao61 y263.length co61, .int .i64 (a0.size : Int)] rfl (by (try simp only [List.map_toArray, List.map_cons, List.map_nil]); first | done | rfl | (simp only [List.length_drop, List.length_take]; rfl)) ?_; (with_reducible refine (literal_Decode.calls k3 _ _ y263 (a0.size : Int) t266 t267 t268 _ ?side1 ?side2 ?side3 A34.out).mono ?_); (case side1 => exact GB.below HG.out (by repeat (first | (with_reducible first | exact HB.out | apply below_alloc | apply pw_below_drewN | apply below_drew1) | exact HB.out))); (case side2 => repeat (first | exact (Kd.R_reads' HO265.out).2.2 | (with_reducible refine Kd.C_alloc ?_ _) | (with_reducible refine Kd.C_drewN ?_ _) | (with_reducible refine Kd.C_drew ?_))); (case side3 => exact (Kd.R_reads' HO265.out).2.1); rintro e w62 ⟨rfl, hb⟩; refine ⟨_, rfl, ?_⟩; have n0_ := Aside0.mk (Kd.N_below (by (with_reducible repeat (first | apply Kd.N_alloc | apply Kd.N_drewN | apply Kd.N_drew)); exact HO_11.out) hb); have n1_ := Aside0.mk (Kd.V_below (by (with_reducible repeat (first | apply Kd.V_alloc | apply Kd.V_drewN | apply Kd.V_drew)); exact HL256_0.out) hb); have n2_ := Aside0.mk (Kd.R_below (by (with_reducible repeat (first | apply Kd.R_alloc | apply Kd.R_drewN | apply Kd.R_drew)); exact HO265.out) hb); have n3_ := Aside0.mk (below_step (by repeat (first | (with_reducible first | exact HB.out | apply below_alloc | apply pw_below_drewN | apply below_drew1) | exact HB.out)) hb); clear HO_11; clear HL256_0; clear HO265; clear HB; have HO_11 := n0_; have HL256_0 := n1_; have HO265 := n2_; have HB := n3_; clear n0_ n1_ n2_ n3_; (try clear hb); (try clear hb2); (try clear hk); (try clear hi); have q63 : ((ji35) : Int) ≤ (((rd_L2 y250 x12_3).length : Int) : Int) := of_decide_eq_true (by first | (with_reducible assumption) | assumption); obtain ⟨i063, hi063, _, hsz63, _⟩ := info_parts info5; have hroom63 : (rd_L2 y250 x12_3).length ≤ c256_0 := HC256_0.out; have hC63 : Kd.F (Kd.int .u8) _ _ A256_0 (rd_L2 y250 x12_3).length (rd_L2 y250 x12_3) := (Kd.V_at (base := w.heap.size) HL256_0.out).2.2; have hcut63 := cut_to (P := Tryd.prog) 22 5 .i64 Tryd.underlying22 hi063 A256_0 (rd_L2 y250 x12_3).length c256_0 (ji35) (of_decide_eq_true (by first | (with_reducible assumption) | assumption)) q63 hroom63; have hr63 := Kd.F_take (m := ((ji35) : Int).toNat) hC63 (by omega); have hy63 : y269.length = ((ji35) : Int).toNat := (by rw [Ny269.out, List.length_take]; omega); rw [← Ny269.out] at hr63; rw [← hy63] at hcut63; have HO273 := Aside0.mk (show Kd.V (Kd.int .u8) 5 _ w.heap.size _ (.slice A256_0 y269.length c256_0) y269 from Kd.V_mk (by omega) hr63); have HC273 := Aside0.mk (show y269.length ≤ c256_0 from by omega); clear hr63 hC63 hroom63 hi063 hsz63; have KY63 := Aside0.mk hy63; clear hy63; replace q63 := eq_true q63) | ((with_reducible refine gate_callee (f := 27) rfl ?_); refine goesL_ (some 104) rfl rfl Tryd.func27 (by kernel_rfl) rfl #[.slice A256_0 y269.length c256_0, .int .i64 (a0.size : Int)] rfl (by (try simp only [List.map_toArray, List.map_cons, List.map_nil]); first | done | rfl | (simp only [List.length_drop, List.length_take]; rfl)) ?_; (with_reducible refine (literal_Decode.calls k3 _ _ y269 (a0.size : Int) t274 t275 t276 _ ?side1 ?side2 ?side3 A38.out).mono ?_); (case side1 => exact GB.below HG.out (by repeat (first | (with_reducible first | exact HB.out | apply below_alloc | apply pw_below_drewN | apply below_drew1) | exact HB.out))); (case side2 => repeat (first | exact (Kd.V_reads' HO273.out).2.2 | (with_reducible refine Kd.C_alloc ?_ _) | (with_reducible refine Kd.C_drewN ?_ _) | (with_reducible refine Kd.C_drew ?_))); (case side3 => exact (Kd.V_reads' HO273.out).2.1); rintro e w64 ⟨rfl, hb⟩; refine ⟨_, rfl, ?_⟩; have n0_ := Aside0.mk (Kd.N_below (by (with_reducible repeat (first | apply Kd.N_alloc | apply Kd.N_drewN | apply Kd.N_drew)); exact HO_11.out) hb); have n1_ := Aside0.mk (Kd.V_below (by (with_reducible repeat (first | apply Kd.V_alloc | apply Kd.V_drewN | apply Kd.V_drew)); exact HL256_0.out) hb); have n2_ := Aside0.mk (Kd.R_below (by (with_reducible repeat (first | apply Kd.R_alloc | apply Kd.R_drewN | apply Kd.R_drew)); exact HO265.out) hb); have n3_ := Aside0.mk (Kd.V_below (by (with_reducible repeat (first | apply Kd.V_alloc | apply Kd.V_drewN | apply Kd.V_drew)); exact HO273.out) hb); have n4_ := Aside0.mk (below_step (by repeat (first | (with_reducible first | exact HB.out | apply below_alloc | apply pw_below_drewN | apply below_drew1) | exact HB.out)) hb); clear HO_11; clear HL256_0; clear HO265; clear HO273; clear HB; have HO_11 := n0_; have HL256_0 := n1_; have HO265 := n2_; have HO273 := n3_; have HB := n4_; clear n0_ n1_ n2_ n3_ n4_; (try clear hb); (try clear hb2); (try clear hk); (try clear hi)) | ((with_reducible refine gate_callee (f := 27) rfl ?_); refine goesL_ (some 113) rfl rfl Tryd.func27 (by kernel_rfl) rfl #[.slice A256_0 (rd_L2 y250 x12_3).length c256_0, .int .i64 (wrap64 ((a0.size : Int) - 1))] rfl (by (try simp only [List.map_toArray, List.map_cons, List.map_nil]); first | done | rfl | (simp only [List.length_drop, List.length_take]; rfl)) ?_; (with_reducible refine (literal_Decode.calls k3 _ _ (rd_L2 y250 x12_3) (wrap64 ((a0.size : Int) - 1)) t277 t278 t279 _ ?side1 ?side2 ?side3 A39.out).mono ?_); (case side1 => exact GB.below HG.out (by repeat (first | (with_reducible first | exact HB.out | apply below_alloc | apply pw_below_drewN | apply below_drew1) | exact HB.out))); (case side2 => repeat (first | exact ((Kd.V_reads' (by (with_reducible repeat (first | apply Kd.V_alloc | apply Kd.V_drewN | apply Kd.V_drew)); exact HL256_0.out)).2.2) | (with_reducible refine Kd.C_alloc ?_ _) | (with_reducible refine Kd.C_drewN ?_ _) | (with_reducible refine Kd.C_drew ?_))); (case side3 => exact HC256_0.out); rintro e w65 ⟨rfl, hb⟩; refine ⟨_, rfl, ?_⟩; have n0_ := Aside0.mk (Kd.N_below (by (with_reducible repeat (first | apply Kd.N_alloc | apply Kd.N_drewN | apply Kd.N_drew)); exact HO_11.out) hb); have n1_ := Aside0.mk (Kd.V_below (by (with_reducible repeat (first | apply Kd.V_alloc | apply Kd.V_drewN | apply Kd.V_drew)); exact HL256_0.out) hb); have n2_ := Aside0.mk (Kd.R_below (by (with_reducible repeat (first | apply Kd.R_alloc | apply Kd.R_drewN | apply Kd.R_drew)); exact HO265.out) hb); have n3_ := Aside0.mk (Kd.V_below (by (with_reducible repeat (first | apply Kd.V_alloc | apply Kd.V_drewN | apply Kd.V_drew)); exact HO273.out) hb); have n4_ := Aside0.mk (below_step (by repeat (first | (with_reducible first | exact HB.out | apply below_alloc | apply pw_below_drewN | apply below_drew1) | exact HB.out)) hb); clear HO_11; clear HL256_0; clear HO265; clear HO273; clear HB; have HO_11 := n0_; have HL256_0 := n1_; have HO265 := n2_; have HO273 := n3_; have HB := n4_; clear n0_ n1_ n2_ n3_ n4_; (try clear hb); (try clear hb2); (try clear hk); (try clear hi)))
                                            go_roundg k3
                                            case measure => have := HJ3.out; have := HJ11.out; have := HK3.out; omega
                                            case rel => exact ⟨(wrap64 (x12_3 + 1)), (by first | rfl | (simp; done) | (simp [*]; done)), H', ⟨by have := HJ3.out; have := HJ11.out; have := HK3.out; omega⟩, ⟨by (with_reducible repeat (first | apply Kd.N_alloc | apply Kd.N_drewN | apply Kd.N_drew)); exact Kd.N_mono HO_11.out (fun _ hk => trivial)⟩, ⟨by repeat (first | (with_reducible first | exact HB.out | apply below_alloc | apply pw_below_drewN | apply below_drew1) | exact HB.out)⟩⟩
                                        · rw [if_neg c43] at H
                                          exact absurd H (by simp)
                                      · rw [if_neg c42] at H
                                        exact absurd H (by simp)
                                    · rw [if_neg c41] at H
                                      exact absurd H (by simp)
                                  · rw [if_neg c40] at H
                                    exact absurd H (by simp)
                                · rw [if_neg c37] at H
                                  exact absurd H (by simp)
                              · rw [if_neg c36] at H
                                exact absurd H (by simp)
                            · rw [if_neg c33] at H
                              exact absurd H (by simp)
                          · rw [if_neg c32] at H
                            exact absurd H (by simp)
                      · rw [if_neg c30] at H
                        exact absurd H (by simp)
                    · rw [if_neg c29] at H
                      exact absurd H (by simp)
                  · rw [if_neg c28] at H
                    have c28b0 : decide (x12_3 < 3) = false := decide_eq_false c28
                    clear c28
                    replace H := Option.bind_eq_some_iff.mp H
                    obtain ⟨t255, A660, H⟩ := H
                    replace H : (some t255) = some r := H
                    have A66 := Aside0.mk A660
                    clear A660
                    obtain rfl := Option.some.inj H
                    go_wp2_with (first | ((with_reducible refine gate_callee (f := 22) rfl ?_); refine goesL_ (some 143) rfl rfl Tryd.func22 (by kernel_rfl) rfl #[] rfl (by (try simp only [List.map_toArray, List.map_cons, List.map_nil]); first | done | rfl | (simp only [List.length_drop, List.length_take]; rfl)) ?_; (with_reducible refine (gantletlaw05_alive.calls k3  t255 _ ?side1 A66.out).mono ?_); (case side1 => exact GB.below HG.out (by repeat (first | (with_reducible first | exact HB.out | apply below_alloc | apply pw_below_drewN | apply below_drew1) | exact HB.out))); rintro e w67 ⟨rfl, hb⟩; refine ⟨_, rfl, ?_⟩; have n0_ := Aside0.mk (Kd.N_below (by (with_reducible repeat (first | apply Kd.N_alloc | apply Kd.N_drewN | apply Kd.N_drew)); exact HO_11.out) hb); have n1_ := Aside0.mk (below_step (by repeat (first | (with_reducible first | exact HB.out | apply below_alloc | apply pw_below_drewN | apply below_drew1) | exact HB.out)) hb); clear HO_11; clear HB; have HO_11 := n0_; have HB := n1_; clear n0_ n1_; (try clear hb); (try clear hb2); (try clear hk); (try clear hi)))
                    go_ret
                    exact ⟨by first | rfl | (simp [errW_none, errW_some] <;> rfl) | (simp [*, errW_none, errW_some] <;> rfl), by repeat (first | (with_reducible first | exact HB.out | apply below_alloc | apply pw_below_drewN | apply below_drew1) | exact HB.out)⟩

end Go.Proofs.YtlbjhbanfpnogaaDoor.QI
