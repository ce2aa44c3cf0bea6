-- written by a program of this session (wip/tools) out of the translation's own print and the session's texts; nothing here is trusted: Lean checks it
import Derived.Test.YtbmnplojpeabmaaQB0
import Derived.Test.YtbmnplojpeabmaaQB3
namespace Go.Proofs.Ytbmnplojpeabmaa.QB
open Go.RowKit Go.Proofs.YtbmnplojpeabmaaW.PrintWords Go.Proofs.YtbmnplojpeabmaaW.PrintLast Go.Proofs.YtbmnplojpeabmaaW.PrintMore
attribute [local go_sem] max2_int min2_int max_two min_two max_three min_three max_four min_four   -- for this text's walks alone
set_option linter.unusedVariables false
set_option linter.unusedSimpArgs false

/-! ### frame_All: function 64 (the session's own) -/
section
open Go.Proofs.YtbmnplojpeabmaaR
def frame_All.l0 : Nat → List Int → Int → List (S67) → Int → Option ((List (S67)) × Int × Int)
  | 0, _, _, _, _ => none
  | k + 1, x0, x1, x7, x8 => if x8 < (x0.length : Int) then (if 0 ≤ x8 then (if x8 ≤ (x0.length : Int) then ((frame_Next.f k (x0.drop (x8 : Int).toNat) x1).bind fun t => (if t.2.2.2.2.2 = 0 then (if x7.length < 2932031007402 then (frame_All.l0 k x0 x1 (x7 ++ [(⟨t.1, t.2.1, t.2.2.1, t.2.2.2.1⟩ : S67)]) (wrap64 (x8 + t.2.2.2.2.1))) else (none)) else (some (x7, x8, t.2.2.2.2.2)))) else (none)) else (none)) else (some (x7, x8, 0))
def frame_All.f (k : Nat) (l0 : List Int) (a1 : Int) : Option ((List (S67)) × Int × Int) := frame_All.l0 k l0 a1 ([] : List (S67)) 0
theorem frame_All.mono_l : ∀ k, (∀ y0 y1 y2 y3, LeO (frame_All.l0 k y0 y1 y2 y3) (frame_All.l0 (k + 1) y0 y1 y2 y3))
  | 0 => fun _ _ _ _ r h => by simp [frame_All.l0] at h
  | k + 1 => by
    have ih0 := frame_All.mono_l k
    intro y0 y1 y2 y3
    unfold frame_All.l0
    refine LeO.ite (LeO.ite (LeO.ite (LeO.bind (frame_Next.mono _ _ _) (fun _ => LeO.ite (LeO.ite (ih0 _ _ _ _) (LeO.none _)) (LeO.refl _))) (LeO.none _)) (LeO.none _)) (LeO.refl _)
theorem frame_All.mono : ∀ a0 a1 k, LeO (frame_All.f k a0 a1) (frame_All.f (k + 1) a0 a1) := fun _ _ k => frame_All.mono_l k _ _ _ _
/-- From a place on every frame is there to be told, as long as there is no error. -/
def frame_All.Goes (l0 : List Int) (a1 : Int) : Nat → Int → Prop
  | 0, p => ¬ p < (l0.length : Int)
  | k + 1, p => p < (l0.length : Int) → 0 ≤ p ∧ p ≤ (l0.length : Int) ∧ ∃ f0 f1 f2 f3 n e, frame_Next.f k (l0.drop p.toNat) a1 = some (f0, f1, f2, f3, n, e) ∧ (e = 0 → frame_All.Goes l0 a1 k (wrap64 (p + n)))
theorem frame_All.goes (l0 : List Int) (a1 : Int) : ∀ (k : Nat) (xs : List S67) (p : Int) (r : (List (S67)) × Int × Int), frame_All.l0 k l0 a1 xs p = some r → frame_All.Goes l0 a1 k p
  | 0, _, _, _, h => by simp [frame_All.l0] at h
  | k + 1, xs, p, r, h => by
    intro hp
    simp only [frame_All.l0] at h
    rw [if_pos hp] at h
    by_cases h0 : 0 ≤ p
    · rw [if_pos h0, if_pos (by omega)] at h
      obtain ⟨⟨f0, f1, f2, f3, n, e⟩, hn, h⟩ := Option.bind_eq_some_iff.mp h
      refine ⟨h0, by omega, f0, f1, f2, f3, n, e, hn, fun he => ?_⟩
      rw [if_pos he] at h
      by_cases hl : xs.length < 2932031007402
      · rw [if_pos hl] at h
        exact frame_All.goes l0 a1 k _ _ _ h
      · rw [if_neg hl] at h; cases h
    · rw [if_neg h0] at h; cases h
/-- One step of the walk through frames: the frame, its payload's row, where it ends, the error. -/
structure Stp where
  f : S67
  v : Value
  p : Int
  e : Int
def Stp.encs (x : Stp) : Array Value := #[.agg #[.int .i64 x.f.f0, .int .i64 x.f.f1, .int .i64 x.f.f2, x.v, .int .i64 x.p, .int .i64 x.e]]
def Stp.nx (_ : Int × Nat) (x : Stp) (m : Nat) : Int × Nat := (x.p, m)
/-- What stands behind a step that comes at place s.1, nothing elder than block s.2. -/
def Stp.Ok (l0 : List Int) (a1 : Int) (s : Int × Nat) (x : Stp) (W : World) : Prop :=
  (s.1 < (l0.length : Int) ∧ ∃ k n, frame_Next.f k (l0.drop s.1.toNat) a1 = some (x.f.f0, x.f.f1, x.f.f2, x.f.f3, n, x.e) ∧ x.p = wrap64 (s.1 + n)) ∧ Kd.R (Kd.int .u8) 5 W s.2 (fun _ => True) x.v x.f.f3
def Stp.Kp (B Bb Bm : Nat) (x : Stp) (W W' : World) : Prop := x.e = 0 ∧ Below B W W' ∧ W'.heap[Bb]? = W.heap[Bb]? ∧ W'.heap[Bm]? = W.heap[Bm]?
theorem below_grown {w w' : World} (h : Below w.heap.size w w') : w.grownBy w' none := ⟨h.os, h.tape, h.output, h.size, fun k hk _ => h.block k hk⟩
set_option maxHeartbeats 4000000 in
set_option maxRecDepth 100000 in
theorem frame_frames1.stops (k : Nat) (A0 : Option Addr) (c0 : Nat) (l0 : List Int) (a1 : Int) (w0 w : World) (Bb Bm m : Nat) (hbel : Below w0.heap.size w0 w) (hr0 : Kd.C (Kd.int .u8) w0 A0 l0.length l0) (hc0 : l0.length ≤ c0) (hb : w.heap[Bb]? = some (.cells #[.slice A0 l0.length c0] 22 (0, 0))) (hm : w.heap[Bm]? = some (.cells #[.int .i64 a1] 3 (0, 0))) (hsz : m ≤ w.heap.size) (hg : frame_All.Goes l0 a1 k 0) :
    SeqOk Fence.wide 2 Try.prog 101 #[.pointer (some ⟨Bb, 0, none⟩), .pointer (some ⟨Bm, 0, none⟩)] Stp.encs (Stp.Ok l0 a1) (Stp.Kp w0.heap.size Bb Bm) ((0 : Int), m) Stp.nx (fun s => ¬ s.1 < (l0.length : Int)) w := by
  intro l J Jx W hW hJ hJx hY h0
  refine callsIn_wide.2 ?_
  have hu67 := Try.underlying67
  have HR0 := Aside0.mk hr0
  have HC0 := Aside0.mk hc0
  have HBb := Aside0.mk (blk_below hb hW)
  have HBm := Aside0.mk (blk_below hm hW)
  have HY := Aside0.mk hY
  have HJ := Aside0.mk hJ
  have HJx := Aside0.mk hJx
  clear hr0 hc0 hb hm hY hJ hJx
  have HB := Aside0.mk (below_step hbel hW)
  clear hbel
  have H0 := Aside0.mk h0
  have HG := Aside0.mk hg
  clear h0 hg
  have hms := hW.size
  clear hW
  simp only [List.append_toArray, List.cons_append, List.nil_append]
  go_enter Try.func101, Try.ntmps101
  go_wp2
  go_loopg [4] k (fun kq v4 w' => ∃ (p : Int) (m' : Nat), v4 = .int .i64 p ∧ Aside0 (J (p, m') w') ∧ Aside0 (m' ≤ w'.heap.size) ∧ Aside0 (frame_All.Goes l0 a1 kq p) ∧ Aside0 (Below w0.heap.size w0 w') ∧ Aside0 (w'.heap[Bb]? = some (.cells #[.slice A0 l0.length c0] 22 (0, 0))) ∧ Aside0 (w'.heap[Bm]? = some (.cells #[.int .i64 a1] 3 (0, 0))))
  case atStart => exact ⟨0, m, rfl, H0, ⟨by omega⟩, HG, HB, HBb, HBm⟩
  case round =>
    clear HB H0 HG HBb HBm
    obtain ⟨p, m', rfl, HJs, HM, HG, HB, HBb, HBm⟩ := hrel
    have hb1 := HBb.out
    have hm1 := HBm.out
    have hcb : wr.cell? ⟨Bb, 0, none⟩ = some (.slice A0 l0.length c0) := (blk_cell hb1 0).trans rfl
    have hcm : wr.cell? ⟨Bm, 0, none⟩ = some (.int .i64 a1) := (blk_cell hm1 0).trans rfl
    by_cases c1 : p < (l0.length : Int)
    · have c1b : decide (p < (l0.length : Int)) = true := decide_eq_true c1
      cases gk with
      | zero => exact absurd c1 HG.out
      | succ k1 =>
        obtain ⟨c2, c3, f0, f1, f2, f3, n, e, hN, hg2⟩ := HG.out c1
        clear HG
        have HN := Aside0.mk hN
        have HG2 := Aside0.mk hg2
        clear hN hg2
        obtain ⟨i0, hi0, _, hs0, _⟩ := info_parts info5
        obtain ⟨A1, hcut, hA1, hC1⟩ := print_drop_of (P := Try.prog) (Value.int .u8) 0 22 5 .i64 Try.underlying22 hi0 hs0 A0 c0 l0 p c2 c3 HC0.out
        have HR1 := Aside0.mk (fun (W : World) (hW : Below w0.heap.size w0 W) => (Kd.C_of_reads (h1 := fun _ => rfl) (hA1 W (Kd.reads_of_C (Kd.C_below HR0.out hW))) : (Kd.int .u8).C W A1 _ _))
        go_upto_region 2 with fail
        refine start_ (n := 13) (S := fun w' => Below wr.heap.size wr w') (ds := []) #[false, false, false, false, false, false, false, false, false, false, false, false, false] (by kernel_rfl) rfl rfl (below_drew1 (Below.refl _ _)) (fun hHeld => ?_)
        clear hHeld
        have hHeld : Below wr.heap.size wr wr.drew := below_drew1 (Below.refl _ _)
        generalize wr.drew = wd at hHeld ⊢
        refine take_ (i := 0) (N := some 13) (v := ?_) (a' := ?_) #[true, false, false, false, false, false, false, false, false, false, false, false, false] rfl rfl (by kernel_rfl) (fun _ _ _ h => h) (Or.inl ⟨by rfl, ?_⟩) hHeld ?_ ?_
        rotate_left
        · intro w' hS_
          have hc_ := (hS_.cell (p := ⟨Bb, 0, none⟩) (blk_lt hb1)).trans hcb
          go_simp
          with_reducible rfl
        rotate_left
        · simp only [Act.put, List.setIfInBounds_toArray, List.set_cons_zero, List.set_cons_succ]
          rfl
        refine pure_ (i := 1) (N := some 14) (v := ?_) (a' := ?_) #[true, true, false, false, false, false, false, false, false, false, false, false, false] rfl rfl (by kernel_rfl) (fun _ _ _ h => h) (Or.inl ⟨by rfl, ?_⟩) ?_ ?_
        rotate_left
        · intro w'
          go_simp
          with_reducible rfl
        rotate_left
        · simp only [Act.put, List.setIfInBounds_toArray, List.set_cons_zero, List.set_cons_succ]
          rfl
        refine take_ (i := 3) (N := some 16) (v := ?_) (a' := ?_) #[true, true, false, true, false, false, false, false, false, false, false, false, false] rfl rfl (by kernel_rfl) (fun _ _ _ h => h) (Or.inl ⟨by rfl, ?_⟩) hHeld ?_ ?_
        rotate_left
        · intro w' hS_
          have hc_ := (hS_.cell (p := ⟨Bm, 0, none⟩) (blk_lt hm1)).trans hcm
          go_simp
          with_reducible rfl
        rotate_left
        · simp only [Act.put, List.setIfInBounds_toArray, List.set_cons_zero, List.set_cons_succ]
          rfl
        refine pure_ (i := 2) (N := some 15) (v := ?_) (a' := ?_) #[true, true, true, true, false, false, false, false, false, false, false, false, false] rfl rfl (by kernel_rfl) (fun _ _ _ h => h) (Or.inl ⟨by rfl, ?_⟩) ?_ ?_
        rotate_left
        · intro w'
          have hc_ := hcut w'; go_simp
          with_reducible rfl
        rotate_left
        · simp only [Act.put, List.setIfInBounds_toArray, List.set_cons_zero, List.set_cons_succ]
          rfl
        refine two_ (i := 4) (j := 9) (Ni := some 17) (Nj := some 5) #[true, true, true, true, true, false, false, false, false, false, false, false, false] #[true, true, true, true, false, false, false, false, false, true, false, false, false] rfl rfl rfl rfl (by kernel_rfl) (by decide) (by decide) (fun K_ hK_ => ?_) (fun K_ hK_ => ?_)
        · refine goes_ Try.func63 (by kernel_rfl) rfl #[.slice A1 (l0.drop p.toNat).length (c0 - p.toNat), .int .i64 a1] (by rfl) rfl rfl (by (try simp only [List.map_toArray, List.map_cons, List.map_nil]); (rw [show (l0.drop p.toNat).length = l0.length - p.toNat from List.length_drop] <;> rfl)) ?_
          refine (frame_Next.calls k1 A1 (c0 - p.toNat) (l0.drop p.toNat) a1 f0 f1 f2 f3 n e _ (HR1.out _ (below_step HB.out hHeld)) hC1 HN.out).mono ?_
          rintro e_ w_ ⟨v, rfl, ho, hb⟩
          obtain ⟨Ao, co, rfl⟩ := Kd.R_slice ho
          refine ⟨_, rfl, ?_⟩
          have HO := Aside0.mk (Kd.R_lower ho hHeld.size)
          clear ho
          refine hK_.out _ _ (below_step hHeld hb) (fun hHeld => ?_)
          clear hK_
          refine norm_ (a' := ?_) ?_ ?_
          rotate_left
          · simp only [Act.put, List.setIfInBounds_toArray, List.set_cons_zero, List.set_cons_succ]
            rfl
          clear hb
          refine pure_ (i := 5) (N := some 12) (v := ?_) (a' := ?_) #[true, true, true, true, true, true, false, false, false, false, false, false, false] rfl rfl (by kernel_rfl) (fun _ _ _ h => h) (Or.inl ⟨by rfl, ?_⟩) ?_ ?_
          rotate_left
          · intro w'
            go_simp
            with_reducible rfl
          rotate_left
          · simp only [Act.put, List.setIfInBounds_toArray, List.set_cons_zero, List.set_cons_succ]
            rfl
          refine pure_ (i := 6) (N := some 18) (v := ?_) (a' := ?_) #[true, true, true, true, true, true, true, false, false, false, false, false, false] rfl rfl (by kernel_rfl) (fun _ _ _ h => h) (Or.inl ⟨by rfl, ?_⟩) ?_ ?_
          rotate_left
          · intro w'
            go_simp
            with_reducible rfl
          rotate_left
          · simp only [Act.put, List.setIfInBounds_toArray, List.set_cons_zero, List.set_cons_succ]
            rfl
          refine pure_ (i := 7) (N := some 19) (v := ?_) (a' := ?_) #[true, true, true, true, true, true, true, true, false, false, false, false, false] rfl rfl (by kernel_rfl) (fun _ _ _ h => h) (Or.inl ⟨by rfl, ?_⟩) ?_ ?_
          rotate_left
          · intro w'
            go_simp
            with_reducible rfl
          rotate_left
          · simp only [Act.put, List.setIfInBounds_toArray, List.set_cons_zero, List.set_cons_succ]
            rfl
          refine pure_ (i := 8) (N := some 20) (v := ?_) (a' := ?_) #[true, true, true, true, true, true, true, true, true, false, false, false, false] rfl rfl (by kernel_rfl) (fun _ _ _ h => h) (Or.inl ⟨by rfl, ?_⟩) ?_ ?_
          rotate_left
          · intro w'
            go_simp
            with_reducible rfl
          rotate_left
          · simp only [Act.put, List.setIfInBounds_toArray, List.set_cons_zero, List.set_cons_succ]
            rfl
          refine one_ (i := 9) (N := some 5) #[true, true, true, true, true, true, true, true, true, true, false, false, false] rfl rfl (by kernel_rfl) (by decide) (fun K_ hK_ => ?_)
          refine box_step ?hw (N := 5) ?hd (cs := #[.int .i64 0, .int .i64 0, .int .i64 0, .slice none 0 0]) (t := 67) ?hr ?_
          (case hd => rfl)
          (case hw => rfl)
          (case hr => go_simp; done)
          intro g hg wb hbx hb
          have hgs : wr.heap.size ≤ g := by rw [hg]; exact hHeld.size
          clear hg
          replace HO := Aside0.mk (Kd.R_below HO.out hb)
          have BK := Aside0.mk hbx
          clear hbx
          refine hK_.out _ _ (below_step hHeld hb) (fun hHeld => ?_)
          clear hK_
          refine norm_ (a' := ?_) ?_ ?_
          rotate_left
          · simp only [Act.put, List.setIfInBounds_toArray, List.set_cons_zero, List.set_cons_succ]
            rfl
          clear hb
          refine one_ (i := 10) (N := none) #[true, true, true, true, true, true, true, true, true, true, true, false, false] rfl rfl (by kernel_rfl) (by decide) (fun K_ hK_ => ?_)
          have hs0 := (blk_cell BK.out 0).trans (show (#[.int .i64 0, .int .i64 0, .int .i64 0, .slice none 0 0] : Array Value)[0]? = some _ from rfl)
          have hs1 := (blk_cell BK.out 1).trans (show (#[.int .i64 0, .int .i64 0, .int .i64 0, .slice none 0 0] : Array Value)[1]? = some _ from rfl)
          have hs2 := (blk_cell BK.out 2).trans (show (#[.int .i64 0, .int .i64 0, .int .i64 0, .slice none 0 0] : Array Value)[2]? = some _ from rfl)
          have hs3 := (blk_cell BK.out 3).trans (show (#[.int .i64 0, .int .i64 0, .int .i64 0, .slice none 0 0] : Array Value)[3]? = some _ from rfl)
          have hf0 := blk_frozen BK.out 0
          have hf1 := blk_frozen BK.out 1
          have hf2 := blk_frozen BK.out 2
          have hf3 := blk_frozen BK.out 3
          refine skip_ (w1 := ?_) (by rfl) rfl ?_ ?_
          rotate_left
          · go_simp
            rfl
          refine hK_.out _ _ (by repeat (first | exact hHeld | refine below_set ?_ hgs)) (fun hHeld => ?_)
          clear hK_ hs0 hs1 hs2 hs3 hf0 hf1 hf2 hf3
          have BK2 := Aside0.mk (blk_put (blk_put (blk_put (blk_put BK.out 0 (.int .i64 f0) rfl) 1 (.int .i64 f1) rfl) 2 (.int .i64 f2) rfl) 3 (.slice Ao f3.length co) rfl)
          have HO2 := Aside0.mk (Kd.R_set (Kd.R_set (Kd.R_set (Kd.R_set HO.out BK.out (by decide) 0 (.int .i64 f0)) (blk_put BK.out 0 (.int .i64 f0) rfl) (by decide) 1 (.int .i64 f1)) (blk_put (blk_put BK.out 0 (.int .i64 f0) rfl) 1 (.int .i64 f1) rfl) (by decide) 2 (.int .i64 f2)) (blk_put (blk_put (blk_put BK.out 0 (.int .i64 f0) rfl) 1 (.int .i64 f1) rfl) 2 (.int .i64 f2) rfl) (by decide) 3 (.slice Ao f3.length co))
          clear BK HO
          generalize hgw : ((((wb.setCell ⟨g, 0, none⟩ (.int .i64 f0)).setCell ⟨g, 1, none⟩ (.int .i64 f1)).setCell ⟨g, 2, none⟩ (.int .i64 f2)).setCell ⟨g, 3, none⟩ (.slice Ao f3.length co)) = wq at hHeld BK2 HO2 ⊢
          clear hgw
          refine pure_ (i := 11) (N := some 6) (v := ?_) (a' := ?_) #[true, true, true, true, true, true, true, true, true, true, true, true, false] rfl rfl (by kernel_rfl) (fun _ _ _ h => h) (Or.inl ⟨by rfl, ?_⟩) ?_ ?_
          rotate_left
          · intro w'
            go_simp
            with_reducible rfl
          rotate_left
          · simp only [Act.put, List.setIfInBounds_toArray, List.set_cons_zero, List.set_cons_succ]
            rfl
          refine pure_ (i := 12) (N := some 7) (v := ?_) (a' := ?_) #[true, true, true, true, true, true, true, true, true, true, true, true, true] rfl rfl (by kernel_rfl) (fun _ _ _ h => h) (Or.inl ⟨by rfl, ?_⟩) ?_ ?_
          rotate_left
          · intro w'
            go_simp
            with_reducible rfl
          rotate_left
          · simp only [Act.put, List.setIfInBounds_toArray, List.set_cons_zero, List.set_cons_succ]
            rfl
          refine done_ (by kernel_rfl) ?_
          have hq0 : wq.cell? ⟨g, 0, none⟩ = some (.int .i64 f0) := (blk_cell BK2.out 0).trans rfl
          have hq1 : wq.cell? ⟨g, 1, none⟩ = some (.int .i64 f1) := (blk_cell BK2.out 1).trans rfl
          have hq2 : wq.cell? ⟨g, 2, none⟩ = some (.int .i64 f2) := (blk_cell BK2.out 2).trans rfl
          have hq3 : wq.cell? ⟨g, 3, none⟩ = some (.slice Ao f3.length co) := (blk_cell BK2.out 3).trans rfl
          obtain ⟨fn_, tmps_, assign_, body_, hy, hR⟩ := HY.out (p, m') ⟨⟨f0, f1, f2, f3⟩, .slice Ao f3.length co, wrap64 (p + n), e⟩ wq (HJ.out _ _ _ none HJs.out (below_grown hHeld) (fun r e => by cases e)) ⟨⟨c1, k1, n, HN.out, rfl⟩, Kd.R_lower HO2.out HM.out⟩
          simp only [Stp.encs, Stp.nx, Stp.Kp] at hy hR
          have HBq := Aside0.mk (below_step HB.out hHeld)
          have HBb2 := Aside0.mk (blk_below hb1 hHeld)
          have HBm2 := Aside0.mk (blk_below hm1 hHeld)
          clear HY HJ HJx HR0 HC0 HBb HBm hb1 hm1 hcb hcm HO2 BK2 HR1 hA1 hcut hC1 hHeld HJs HB hu67 hgs
          go_upto_region 4 with fail
          refine (wpIn_wide (n := 2)).1 ?_
          gi_wp2
          refine hR.mono ?_
          clear hR hy
          rintro e_ W3 (⟨rfl, hJ3, he, hk3, hk4, hk5⟩ | ⟨rfl, hJx3⟩)
          · gi_wp2
            go_wp2
            go_roundg k1
            case measure => omega
            case rel => exact ⟨wrap64 (p + n), W3.heap.size, rfl, ⟨hJ3⟩, ⟨Nat.le_refl _⟩, ⟨HG2.out he⟩, ⟨HBq.out.trans hk3⟩, ⟨hk4.trans HBb2.out⟩, ⟨hk5.trans HBm2.out⟩⟩
          · gi_wp2
            go_wp2
            refine bodyPost_ret (results_none rfl _ _ _) rfl ?_
            first | exact ⟨⟨_, rfl⟩, .inr ⟨_, _, hJx3⟩⟩ | exact ⟨⟨_, rfl⟩, .inr ⟨_, hJx3⟩⟩
        · refine box_step ?hw (N := 5) ?hd (cs := #[.int .i64 0, .int .i64 0, .int .i64 0, .slice none 0 0]) (t := 67) ?hr ?_
          (case hd => rfl)
          (case hw => rfl)
          (case hr => go_simp; done)
          intro g hg wb hbx hb
          have hgs : wr.heap.size ≤ g := by rw [hg]; exact hHeld.size
          clear hg
          have BK := Aside0.mk hbx
          clear hbx
          refine hK_.out _ _ (below_step hHeld hb) (fun hHeld => ?_)
          clear hK_
          refine norm_ (a' := ?_) ?_ ?_
          rotate_left
          · simp only [Act.put, List.setIfInBounds_toArray, List.set_cons_zero, List.set_cons_succ]
            rfl
          clear hb
          refine one_ (i := 4) (N := some 17) #[true, true, true, true, true, false, false, false, false, true, false, false, false] rfl rfl (by kernel_rfl) (by decide) (fun K_ hK_ => ?_)
          refine goes_ Try.func63 (by kernel_rfl) rfl #[.slice A1 (l0.drop p.toNat).length (c0 - p.toNat), .int .i64 a1] (by rfl) rfl rfl (by (try simp only [List.map_toArray, List.map_cons, List.map_nil]); (rw [show (l0.drop p.toNat).length = l0.length - p.toNat from List.length_drop] <;> rfl)) ?_
          refine (frame_Next.calls k1 A1 (c0 - p.toNat) (l0.drop p.toNat) a1 f0 f1 f2 f3 n e _ (HR1.out _ (below_step HB.out hHeld)) hC1 HN.out).mono ?_
          rintro e_ w_ ⟨v, rfl, ho, hb⟩
          obtain ⟨Ao, co, rfl⟩ := Kd.R_slice ho
          refine ⟨_, rfl, ?_⟩
          have HO := Aside0.mk (Kd.R_lower ho hHeld.size)
          clear ho
          replace BK := Aside0.mk (blk_below BK.out hb)
          refine hK_.out _ _ (below_step hHeld hb) (fun hHeld => ?_)
          clear hK_
          refine norm_ (a' := ?_) ?_ ?_
          rotate_left
          · simp only [Act.put, List.setIfInBounds_toArray, List.set_cons_zero, List.set_cons_succ]
            rfl
          clear hb
          refine pure_ (i := 5) (N := some 12) (v := ?_) (a' := ?_) #[true, true, true, true, true, true, false, false, false, true, false, false, false] rfl rfl (by kernel_rfl) (fun _ _ _ h => h) (Or.inl ⟨by rfl, ?_⟩) ?_ ?_
          rotate_left
          · intro w'
            go_simp
            with_reducible rfl
          rotate_left
          · simp only [Act.put, List.setIfInBounds_toArray, List.set_cons_zero, List.set_cons_succ]
            rfl
          refine pure_ (i := 6) (N := some 18) (v := ?_) (a' := ?_) #[true, true, true, true, true, true, true, false, false, true, false, false, false] rfl rfl (by kernel_rfl) (fun _ _ _ h => h) (Or.inl ⟨by rfl, ?_⟩) ?_ ?_
          rotate_left
          · intro w'
            go_simp
            with_reducible rfl
          rotate_left
          · simp only [Act.put, List.setIfInBounds_toArray, List.set_cons_zero, List.set_cons_succ]
            rfl
          refine pure_ (i := 7) (N := some 19) (v := ?_) (a' := ?_) #[true, true, true, true, true, true, true, true, false, true, false, false, false] rfl rfl (by kernel_rfl) (fun _ _ _ h => h) (Or.inl ⟨by rfl, ?_⟩) ?_ ?_
          rotate_left
          · intro w'
            go_simp
            with_reducible rfl
          rotate_left
          · simp only [Act.put, List.setIfInBounds_toArray, List.set_cons_zero, List.set_cons_succ]
            rfl
          refine pure_ (i := 8) (N := some 20) (v := ?_) (a' := ?_) #[true, true, true, true, true, true, true, true, true, true, false, false, false] rfl rfl (by kernel_rfl) (fun _ _ _ h => h) (Or.inl ⟨by rfl, ?_⟩) ?_ ?_
          rotate_left
          · intro w'
            go_simp
            with_reducible rfl
          rotate_left
          · simp only [Act.put, List.setIfInBounds_toArray, List.set_cons_zero, List.set_cons_succ]
            rfl
          refine one_ (i := 10) (N := none) #[true, true, true, true, true, true, true, true, true, true, true, false, false] rfl rfl (by kernel_rfl) (by decide) (fun K_ hK_ => ?_)
          have hs0 := (blk_cell BK.out 0).trans (show (#[.int .i64 0, .int .i64 0, .int .i64 0, .slice none 0 0] : Array Value)[0]? = some _ from rfl)
          have hs1 := (blk_cell BK.out 1).trans (show (#[.int .i64 0, .int .i64 0, .int .i64 0, .slice none 0 0] : Array Value)[1]? = some _ from rfl)
          have hs2 := (blk_cell BK.out 2).trans (show (#[.int .i64 0, .int .i64 0, .int .i64 0, .slice none 0 0] : Array Value)[2]? = some _ from rfl)
          have hs3 := (blk_cell BK.out 3).trans (show (#[.int .i64 0, .int .i64 0, .int .i64 0, .slice none 0 0] : Array Value)[3]? = some _ from rfl)
          have hf0 := blk_frozen BK.out 0
          have hf1 := blk_frozen BK.out 1
          have hf2 := blk_frozen BK.out 2
          have hf3 := blk_frozen BK.out 3
          refine skip_ (w1 := ?_) (by rfl) rfl ?_ ?_
          rotate_left
          · go_simp
            rfl
          refine hK_.out _ _ (by repeat (first | exact hHeld | refine below_set ?_ hgs)) (fun hHeld => ?_)
          clear hK_ hs0 hs1 hs2 hs3 hf0 hf1 hf2 hf3
          have BK2 := Aside0.mk (blk_put (blk_put (blk_put (blk_put BK.out 0 (.int .i64 f0) rfl) 1 (.int .i64 f1) rfl) 2 (.int .i64 f2) rfl) 3 (.slice Ao f3.length co) rfl)
          have HO2 := Aside0.mk (Kd.R_set (Kd.R_set (Kd.R_set (Kd.R_set HO.out BK.out (by decide) 0 (.int .i64 f0)) (blk_put BK.out 0 (.int .i64 f0) rfl) (by decide) 1 (.int .i64 f1)) (blk_put (blk_put BK.out 0 (.int .i64 f0) rfl) 1 (.int .i64 f1) rfl) (by decide) 2 (.int .i64 f2)) (blk_put (blk_put (blk_put BK.out 0 (.int .i64 f0) rfl) 1 (.int .i64 f1) rfl) 2 (.int .i64 f2) rfl) (by decide) 3 (.slice Ao f3.length co))
          clear BK HO
          generalize hgw : ((((w_.setCell ⟨g, 0, none⟩ (.int .i64 f0)).setCell ⟨g, 1, none⟩ (.int .i64 f1)).setCell ⟨g, 2, none⟩ (.int .i64 f2)).setCell ⟨g, 3, none⟩ (.slice Ao f3.length co)) = wq at hHeld BK2 HO2 ⊢
          clear hgw
          refine pure_ (i := 11) (N := some 6) (v := ?_) (a' := ?_) #[true, true, true, true, true, true, true, true, true, true, true, true, false] rfl rfl (by kernel_rfl) (fun _ _ _ h => h) (Or.inl ⟨by rfl, ?_⟩) ?_ ?_
          rotate_left
          · intro w'
            go_simp
            with_reducible rfl
          rotate_left
          · simp only [Act.put, List.setIfInBounds_toArray, List.set_cons_zero, List.set_cons_succ]
            rfl
          refine pure_ (i := 12) (N := some 7) (v := ?_) (a' := ?_) #[true, true, true, true, true, true, true, true, true, true, true, true, true] rfl rfl (by kernel_rfl) (fun _ _ _ h => h) (Or.inl ⟨by rfl, ?_⟩) ?_ ?_
          rotate_left
          · intro w'
            go_simp
            with_reducible rfl
          rotate_left
          · simp only [Act.put, List.setIfInBounds_toArray, List.set_cons_zero, List.set_cons_succ]
            rfl
          refine done_ (by kernel_rfl) ?_
          have hq0 : wq.cell? ⟨g, 0, none⟩ = some (.int .i64 f0) := (blk_cell BK2.out 0).trans rfl
          have hq1 : wq.cell? ⟨g, 1, none⟩ = some (.int .i64 f1) := (blk_cell BK2.out 1).trans rfl
          have hq2 : wq.cell? ⟨g, 2, none⟩ = some (.int .i64 f2) := (blk_cell BK2.out 2).trans rfl
          have hq3 : wq.cell? ⟨g, 3, none⟩ = some (.slice Ao f3.length co) := (blk_cell BK2.out 3).trans rfl
          obtain ⟨fn_, tmps_, assign_, body_, hy, hR⟩ := HY.out (p, m') ⟨⟨f0, f1, f2, f3⟩, .slice Ao f3.length co, wrap64 (p + n), e⟩ wq (HJ.out _ _ _ none HJs.out (below_grown hHeld) (fun r e => by cases e)) ⟨⟨c1, k1, n, HN.out, rfl⟩, Kd.R_lower HO2.out HM.out⟩
          simp only [Stp.encs, Stp.nx, Stp.Kp] at hy hR
          have HBq := Aside0.mk (below_step HB.out hHeld)
          have HBb2 := Aside0.mk (blk_below hb1 hHeld)
          have HBm2 := Aside0.mk (blk_below hm1 hHeld)
          clear HY HJ HJx HR0 HC0 HBb HBm hb1 hm1 hcb hcm HO2 BK2 HR1 hA1 hcut hC1 hHeld HJs HB hu67 hgs
          go_upto_region 4 with fail
          refine (wpIn_wide (n := 2)).1 ?_
          gi_wp2
          refine hR.mono ?_
          clear hR hy
          rintro e_ W3 (⟨rfl, hJ3, he, hk3, hk4, hk5⟩ | ⟨rfl, hJx3⟩)
          · gi_wp2
            go_wp2
            go_roundg k1
            case measure => omega
            case rel => exact ⟨wrap64 (p + n), W3.heap.size, rfl, ⟨hJ3⟩, ⟨Nat.le_refl _⟩, ⟨HG2.out he⟩, ⟨HBq.out.trans hk3⟩, ⟨hk4.trans HBb2.out⟩, ⟨hk5.trans HBm2.out⟩⟩
          · gi_wp2
            go_wp2
            refine bodyPost_ret (results_none rfl _ _ _) rfl ?_
            first | exact ⟨⟨_, rfl⟩, .inr ⟨_, _, hJx3⟩⟩ | exact ⟨⟨_, rfl⟩, .inr ⟨_, hJx3⟩⟩
    · have c1b : decide (p < (l0.length : Int)) = false := decide_eq_false c1
      go_wp2
      go_end0
      exact ⟨⟨_, rfl⟩, .inl ⟨p, c1, m', HJs.out⟩⟩
set_option maxHeartbeats 1000000 in
theorem frame_frames.calls (A0 : Option Addr) (c0 : Nat) (n : Nat) (a1 : Int) (w : World) :
    Calls Try.prog 94 #[.slice A0 n c0, .int .i64 a1] w fun e w' => ∃ Bb Bm, e = .returned (.func (.func 101) #[] #[.pointer (some ⟨Bb, 0, none⟩), .pointer (some ⟨Bm, 0, none⟩)]) ∧ w'.heap[Bb]? = some (.cells #[.slice A0 n c0] 22 (0, 0)) ∧ w'.heap[Bm]? = some (.cells #[.int .i64 a1] 3 (0, 0)) ∧ w.heap.size ≤ Bb ∧ w.heap.size ≤ Bm ∧ Below w.heap.size w w' := by
  go_enter Try.func94, Try.ntmps94
  go_wp2
  go_ret
  exact ⟨_, _, rfl, blk_alloc (blk_new _ _) _, (by have h := blk_new (w.alloc (.cells #[.slice A0 n c0] 22)) (.cells #[.int .i64 a1] 3); rwa [World.size_alloc] at h), Nat.le_refl _, Nat.le_succ _, below_alloc (below_alloc (Below.refl _ _) _) _⟩

theorem S_turn {α : Type} {d : Kd α} {e : Nat} {W W' : World} {base : Nat} {ok : Nat → Prop} {v : Value} {xs : List α} {row : Option Nat} (h : Kd.S d e W base ok v xs) (hg : W.grownBy W' row) (hr : ∀ r, row = some r → ∃ o : Obj, W.heap[r]? = some o ∧ o.isCells = false) : Kd.S d e W' base ok v xs := by
  refine Kd.S_mono (Kd.S_grown (Kd.S_bound h) hg (fun k hk e => ?_)) (fun k hk => hk.1)
  obtain ⟨_, _, _, q, hq, cells, hc⟩ := hk
  obtain ⟨o, ho, hn⟩ := hr k e.symm
  rw [hc] at ho
  cases ho
  cases hn
theorem blk_turn {W W' : World} {g t : Nat} {cs : Array Value} {row : Option Nat} (h : W.heap[g]? = some (.cells cs t (0, 0))) (hg : W.grownBy W' row) (hr : ∀ r, row = some r → ∃ o : Obj, W.heap[r]? = some o ∧ o.isCells = false) : W'.heap[g]? = some (.cells cs t (0, 0)) :=
  blk_grown h hg (fun e => by
    obtain ⟨o, ho, hn⟩ := hr g e.symm
    rw [h] at ho
    cases ho
    cases hn)

theorem R_still {α : Type} {d : Kd α} {e : Nat} {W W' : World} {base : Nat} {ok : Nat → Prop} {v : Value} {xs : List α} (h : Kd.R d e W base ok v xs) (hs : Still W W') : Kd.R d e W' base ok v xs := by
  refine Kd.R_mono (Kd.R_move (Kd.R_bound h) (fun k hk => ?_)) (fun k hk => hk.1)
  obtain ⟨_, _, _, q, hq, cells, hc⟩ := hk
  exact (hs.cells k _ hc rfl).trans hc.symm
theorem start_round {id n m l : Nat} {P : Program} {ops : Array Oper} {Q : Exit → Act → World → Prop} {S : World → Prop} {ds : List Nat} {a : Act} {w : World} (lst : Array Bool) (hm : P.follows .mixedOrders = true) (hn : ops.size = n) (hl : Array.replicate n false = lst)
    (hdef : ops.all Oper.plain = true) (hQ : ¬ LetsOut Q) (hS : S w.drew) (h : S w.drew → wpAnyLast P .any ops Q S ds n lst a w.drew) : (Code.region id ops true).wpIn (Fence.wide.inRound l) m P Q a w := by
  subst hn
  subst hl
  exact region_round hm hdef hQ (wpAny_of_last _ _ _ _ (h hS))
theorem next_one {k k' : Nat} {b : List Int} {m : Int} {r r' : Int × Int × Int × List Int × Int × Int} (h : frame_Next.f k b m = some r) (h' : frame_Next.f k' b m = some r') : r = r' :=
  Option.some.inj ((at_rounds (frame_Next.mono b m) (Nat.le_max_left k k') h).symm.trans (at_rounds (frame_Next.mono b m) (Nat.le_max_right k k') h'))
/-- Between two rounds: the three variables, the frames so far, what is still to come. -/
structure frame_All.I (w : World) (A0 : Option Addr) (c0 Bb Bm : Nat) (l0 : List Int) (a1 : Int) (r : List S67 × Int × Int) (s : Int × Nat) (W : World) (out : List S67) (v : Value) (kq : Nat) : Prop where
  ge : w.heap.size ≤ s.2
  bb : W.heap[Bb]? = some (.cells #[.slice A0 l0.length c0] 22 (0, 0))
  bm : W.heap[Bm]? = some (.cells #[.int .i64 a1] 3 (0, 0))
  bo : W.heap[w.heap.size]? = some (.cells #[v] 56 (0, 0))
  ba : W.heap[w.heap.size + 1]? = some (.cells #[.int .i64 s.1] 3 (0, 0))
  bl : W.heap[w.heap.size + 1 + 1]? = some (.cells #[.int .i64 0] 24 (0, 0))
  go : frame_All.l0 kq l0 a1 out s.1 = some r
  row : Kd.S k67 67 W w.heap.size (fun k => k < s.2) v out
  le : s.2 ≤ W.heap.size
  be : Below w.heap.size w W
def frame_All.J (w : World) (A0 : Option Addr) (c0 Bb Bm : Nat) (l0 : List Int) (a1 : Int) (r : List S67 × Int × Int) (s : Int × Nat) (W : World) : Prop := ∃ out v kq, frame_All.I w A0 c0 Bb Bm l0 a1 r s W out v kq
def frame_All.X (w : World) (r : List S67 × Int × Int) (c : Code) (s : Int × Nat) (W : World) : Prop :=
  c = .exit 0 ∧ ∃ v, W.heap[w.heap.size]? = some (.cells #[v] 56 (0, 0)) ∧ W.heap[w.heap.size + 1]? = some (.cells #[.int .i64 r.2.1] 3 (0, 0)) ∧ W.heap[w.heap.size + 1 + 1]? = some (.cells #[.int .i64 r.2.2] 24 (0, 0)) ∧ Kd.S k67 67 W w.heap.size (fun _ => True) v r.1 ∧ Below w.heap.size w W
theorem frame_All.J_own {w : World} {A0 : Option Addr} {c0 Bb Bm : Nat} {l0 : List Int} {a1 : Int} {r : List S67 × Int × Int} {B : Nat} (hB : w.heap.size ≤ B) : OwnFrom B (frame_All.J w A0 c0 Bb Bm l0 a1 r) := fun s A C row hs hg hr => by
  obtain ⟨out, v, kq, h⟩ := hs
  have hr' : ∀ r, row = some r → ∃ o : Obj, A.heap[r]? = some o ∧ o.isCells = false := fun r e => (hr r e).2
  exact ⟨out, v, kq, h.ge, blk_turn h.bb hg hr', blk_turn h.bm hg hr', blk_turn h.bo hg hr', blk_turn h.ba hg hr', blk_turn h.bl hg hr', h.go, S_turn h.row hg hr', Nat.le_trans h.le hg.size, h.be.grown hg h.be.size (fun k e => Nat.le_trans hB (hr k e).1)⟩
theorem frame_All.X_own {w : World} {r : List S67 × Int × Int} {B : Nat} (hB : w.heap.size ≤ B) (c : Code) : OwnFrom B (frame_All.X w r c) := fun s A C row hs hg hr => by
  obtain ⟨hc, v, h1, h2, h3, h4, h5⟩ := hs
  have hr' : ∀ r, row = some r → ∃ o : Obj, A.heap[r]? = some o ∧ o.isCells = false := fun r e => (hr r e).2
  exact ⟨hc, v, blk_turn h1 hg hr', blk_turn h2 hg hr', blk_turn h3 hg hr', S_turn h4 hg hr', h5.grown hg h5.size (fun k e => Nat.le_trans hB (hr k e).1)⟩
theorem frame_All.I.below {w W W' : World} {A0 : Option Addr} {c0 Bb Bm : Nat} {l0 : List Int} {a1 : Int} {r : List S67 × Int × Int} {s : Int × Nat} {out : List S67} {v : Value} {kq : Nat} (h : frame_All.I w A0 c0 Bb Bm l0 a1 r s W out v kq) (hb : Below W.heap.size W W') : frame_All.I w A0 c0 Bb Bm l0 a1 r s W' out v kq :=
  ⟨h.ge, blk_below h.bb hb, blk_below h.bm hb, blk_below h.bo hb, blk_below h.ba hb, blk_below h.bl hb, h.go, Kd.S_below h.row hb, Nat.le_trans h.le hb.size, below_step h.be hb⟩
section
attribute [local go_sem] Oper.semAt_some
set_option maxHeartbeats 4000000 in
set_option maxRecDepth 100000 in
theorem frame_All.calls (k : Nat) (A0 : Option Addr) (c0 : Nat) (l0 : List Int) (a1 : Int) (r1 : List (S67)) (r2 : Int) (r3 : Int) (w : World) (hr0 : Kd.C (Kd.int .u8) w A0 l0.length l0) (hc0 : l0.length ≤ c0) (h : frame_All.f k l0 a1 = some (r1, r2, r3)) :
    Calls Try.prog 64 #[.slice A0 l0.length c0, .int .i64 a1] w fun e w' => ∃ v0_ : Value, e = .returned (.tuple #[v0_, .int .i64 r2, .int .i64 r3]) ∧ Kd.S k67 67 w' w.heap.size (fun _ => True) v0_ r1 ∧ Below w.heap.size w w' := by
  have hu67 := Try.underlying67
  have hu150 := Try.underlying150
  have HR0 := Aside0.mk hr0
  have HC0 := Aside0.mk hc0
  clear hr0 hc0
  have HG := Aside0.mk (frame_All.goes l0 a1 k _ _ _ h)
  have H' := Aside0.mk h
  clear h
  refine (callsIn_wide (n := 3)).1 (callsIn_of_wp_marks Try.func64 rfl trivial (wpIn_wide.2 ?_))
  simp only [Try.ntmps64, List.size_toArray, List.length_cons, List.length_nil, Nat.reduceAdd, Nat.reduceSub, Array.replicate_succ, Array.replicate_zero, List.push_toArray, List.append_toArray, List.nil_append, List.cons_append]
  go_wp2_with (first | go_step3 | (go_at_call 94; refine (frame_frames.calls A0 c0 l0.length a1 _).mono ?_; rintro e_ w_ ⟨Bb, Bm, rfl, hb1, hb2, hgb, hgm, hb⟩))
  have h1 := blk_new w (.cells #[.slice none 0 0] 56)
  have h2 := blk_new (w.alloc (.cells #[.slice none 0 0] 56)) (.cells #[.int .i64 0] 3)
  have h3 := blk_new ((w.alloc (.cells #[.slice none 0 0] 56)).alloc (.cells #[.int .i64 0] 3)) (.cells #[.int .i64 0] 24)
  simp only [World.size_alloc] at h2 h3 hgb hgm
  have hI00 : frame_All.J w A0 c0 Bb Bm l0 a1 (r1, r2, r3) (0, w_.heap.size) w_ := ⟨[], .slice none 0 0, k, (below_step (below_alloc (below_alloc (below_alloc (Below.refl w.heap.size w) _) _) _) hb).size, hb1, hb2, blk_below (blk_alloc (blk_alloc h1 _) _) hb, blk_below (blk_alloc h2 _) hb, blk_below h3 hb, H'.out, Kd.S_nil _ _ _ _ _, Nat.le_refl _, below_step (below_alloc (below_alloc (below_alloc (Below.refl _ _) _) _) _) hb⟩
  have HB := Aside0.mk (below_step (below_alloc (below_alloc (below_alloc (Below.refl w.heap.size w) _) _) _) hb)
  clear h1 h2 h3 hb H'
  have hBw := HB.out.size
  refine (wpIn_wide (n := 3)).1 ?_
  refine rangeFunc_ok (s0 := ((0 : Int), w_.heap.size)) rfl (by omega) (gf := 101) (lb := #[.pointer (some ⟨Bb, 0, none⟩), .pointer (some ⟨Bm, 0, none⟩)]) rfl trivial (enters_of Try.func101 (by kernel_rfl) rfl)
    (frame_frames1.stops k A0 c0 l0 a1 w w_ Bb Bm w_.heap.size HB.out HR0.out HC0.out hb1 hb2 (Nat.le_refl _) HG.out)
    (fun x A C l o o' hl ho hc hw hk => ⟨hk.1, hk.2.1.grown (grownBy_putObj' C l o') (Nat.le_trans hBw (Nat.le_trans hl (Nat.le_of_lt (blk_lt ho)))) (fun k e => by cases e; exact Nat.le_trans hBw hl), (World.putObj_heap_other (by have := blk_lt hb1; omega)).trans hk.2.2.1, (World.putObj_heap_other (by have := blk_lt hb2; omega)).trans hk.2.2.2⟩) (Below.refl _ _) (fun _ => rfl)
    (frame_All.J w A0 c0 Bb Bm l0 a1 (r1, r2, r3)) (frame_All.X w (r1, r2, r3)) (frame_All.J_own hBw) (frame_All.X_own hBw) hI00
    (fun x a' W => ∃ Bs, w.heap.size + 1 + 1 < Bs ∧ W.heap[Bs]? = some (.cells #[.int .i64 x.f.f0, .int .i64 x.f.f1, .int .i64 x.f.f2, x.v, .int .i64 x.p, .int .i64 x.e] 150 (0, 0)) ∧ a' = { tmps := #[.slice A0 l0.length c0, .int .i64 a1, undef, undef, .slice none 0 0, .int .i64 0, .int .i64 0, .pointer (some ⟨w.heap.size, 0, none⟩), .pointer (some ⟨w.heap.size + 1, 0, none⟩), .pointer (some ⟨w.heap.size + 1 + 1, 0, none⟩), .pointer (some ⟨Bs, 0, none⟩), .slice A0 l0.length c0, .int .i64 a1, .func (.func 101) #[] #[.pointer (some ⟨Bb, 0, none⟩), .pointer (some ⟨Bm, 0, none⟩)], .agg #[.int .i64 x.f.f0, .int .i64 x.f.f1, .int .i64 x.f.f2, x.v, .int .i64 x.p, .int .i64 x.e], undef, undef, undef, undef, undef, undef, undef, undef, undef, undef, undef, undef, undef, undef, undef], defers := [] })
    (fun x a' _ A C row hs hg hr => by
      obtain ⟨Bs, hs1, hs2, hs3⟩ := hs
      exact ⟨Bs, hs1, blk_turn hs2 hg (fun r e => (hr r e).2), hs3⟩) ?assign ?body ?done ?stop
  case assign =>
    rintro l ⟨p0, m0⟩ x W K hle ⟨out, v, kq, hI⟩ hok hK
    obtain ⟨Ao, co, ev⟩ := Kd.R_slice hok.2
    have e0 : ((#[14] : Array Tmp).zip (Stp.encs x)).foldl (fun t (p, v) => t.setIfInBounds p v) (#[.slice A0 l0.length c0, .int .i64 a1, undef, undef, .slice none 0 0, .int .i64 0, .int .i64 0, .pointer (some ⟨w.heap.size, 0, none⟩), .pointer (some ⟨w.heap.size + 1, 0, none⟩), .pointer (some ⟨w.heap.size + 1 + 1, 0, none⟩), undef, .slice A0 l0.length c0, .int .i64 a1, .func (.func 101) #[] #[.pointer (some ⟨Bb, 0, none⟩), .pointer (some ⟨Bm, 0, none⟩)], undef, undef, undef, undef, undef, undef, undef, undef, undef, undef, undef, undef, undef, undef, undef, undef] : Array Value) = #[.slice A0 l0.length c0, .int .i64 a1, undef, undef, .slice none 0 0, .int .i64 0, .int .i64 0, .pointer (some ⟨w.heap.size, 0, none⟩), .pointer (some ⟨w.heap.size + 1, 0, none⟩), .pointer (some ⟨w.heap.size + 1 + 1, 0, none⟩), undef, .slice A0 l0.length c0, .int .i64 a1, .func (.func 101) #[] #[.pointer (some ⟨Bb, 0, none⟩), .pointer (some ⟨Bm, 0, none⟩)], .agg #[.int .i64 x.f.f0, .int .i64 x.f.f1, .int .i64 x.f.f2, x.v, .int .i64 x.p, .int .i64 x.e], undef, undef, undef, undef, undef, undef, undef, undef, undef, undef, undef, undef, undef, undef, undef] := by simp [Stp.encs]
    rw [e0]
    clear e0 hok
    rw [ev] at hK ⊢
    gi_wp2
    have hlt := blk_lt hI.bl
    exact hK _ _ (below_alloc (Below.refl _ _) _) ⟨out, v, kq, hI.below (below_alloc (Below.refl _ _) _)⟩ ⟨W.heap.size, by omega, blk_new _ _, rfl⟩
  case body =>
    rintro l ⟨p0, m0⟩ x a' W0 W hle hst hbw ⟨out, v, kq, hI⟩ ⟨⟨hp, k', n, hN, hx⟩, hR⟩ ⟨Bs, hBs, hs, rfl⟩
    simp only [] at hp hN hx hR hI
    obtain ⟨Ao, co, ev⟩ := Kd.R_slice hR
    rw [ev] at hs hR ⊢
    have hgo := hI.go
    cases kq with
    | zero => exact absurd hgo (by simp [frame_All.l0])
    | succ kq =>
    simp only [frame_All.l0] at hgo
    rw [if_pos hp] at hgo
    by_cases h0p : 0 ≤ p0
    case neg => rw [if_neg h0p] at hgo; cases hgo
    rw [if_pos h0p, if_pos (by omega)] at hgo
    obtain ⟨t, hN', hgo⟩ := Option.bind_eq_some_iff.mp hgo
    obtain rfl := next_one hN hN'
    simp only [] at hgo
    have q5 : W.cell? ⟨Bs, 5, none⟩ = some (.int .i64 x.e) := (blk_cell hs 5).trans rfl
    have hz2 : W.cell? ⟨w.heap.size + 1 + 1, 0, none⟩ = some (.int .i64 0) := (blk_cell hI.bl 0).trans rfl
    have hf2 := blk_frozen hI.bl 0
    by_cases ce : x.e = 0
    · have ceb : (x.e != 0) = false := bne_eq_false_iff_eq.mpr ce
      rw [if_pos ce] at hgo
      by_cases hlim : out.length < 2932031007402
      case neg => rw [if_neg hlim] at hgo; cases hgo
      rw [if_pos hlim, ← hx] at hgo
      clear hx hN hN'
      gi_upto_region 7 with fail
      clear q5 hz2 hf2 HR0 HC0 HG HB
      refine start_round (n := 9) (S := fun w' => w'.heap[Bs]? = some (.cells #[.int .i64 x.f.f0, .int .i64 x.f.f1, .int .i64 x.f.f2, .slice Ao x.f.f3.length co, .int .i64 x.p, .int .i64 x.e] 150 (0, 0))) (ds := []) #[false, false, false, false, false, false, false, false, false] (by kernel_rfl) rfl rfl (by kernel_rfl) (by rintro ⟨a_, w_, h_⟩; exact h_) (blk_drew hs) (fun hHeld => ?_)
      have HI1 := Aside0.mk (hI.below (below_drew1 (Below.refl W.heap.size W)))
      have HK1 := Aside0.mk (KeepsOthers.drew W)
      have HW1 := Aside0.mk (below_drew1 (hbw : Below w_.heap.size W0 W))
      have HS1 := Aside0.mk hHeld
      have HR1 := Aside0.mk (Kd.R_below (R_still hR hst) (below_drew1 (Below.refl W.heap.size W)))
      generalize W.drew = W1 at HI1 HK1 HW1 HR1 HS1 hHeld ⊢
      refine pure_ (i := 1) (N := some 21) (v := ?_) (a' := ?_) #[false, true, false, false, false, false, false, false, false] rfl rfl (by kernel_rfl) (fun _ _ _ h => h) (Or.inl ⟨by rfl, ?_⟩) ?_ ?_
      rotate_left
      · intro w'
        go_simp
        with_reducible rfl
      rotate_left
      · simp only [Act.put, List.setIfInBounds_toArray, List.set_cons_zero, List.set_cons_succ]
        rfl
      refine take_ (i := 2) (N := some 22) (v := ?_) (a' := ?_) #[false, true, true, false, false, false, false, false, false] rfl rfl (by kernel_rfl) (fun _ _ _ h => h) (Or.inl ⟨by rfl, ?_⟩) hHeld ?_ ?_
      rotate_left
      · intro w' hS_
        have c0_ := (blk_cell hS_ 0).trans (show (#[.int .i64 x.f.f0, .int .i64 x.f.f1, .int .i64 x.f.f2, .slice Ao x.f.f3.length co, .int .i64 x.p, .int .i64 x.e] : Array Value)[0]? = some _ from rfl); have c1_ := (blk_cell hS_ 1).trans (show (#[.int .i64 x.f.f0, .int .i64 x.f.f1, .int .i64 x.f.f2, .slice Ao x.f.f3.length co, .int .i64 x.p, .int .i64 x.e] : Array Value)[1]? = some _ from rfl); have c2_ := (blk_cell hS_ 2).trans (show (#[.int .i64 x.f.f0, .int .i64 x.f.f1, .int .i64 x.f.f2, .slice Ao x.f.f3.length co, .int .i64 x.p, .int .i64 x.e] : Array Value)[2]? = some _ from rfl); have c3_ := (blk_cell hS_ 3).trans (show (#[.int .i64 x.f.f0, .int .i64 x.f.f1, .int .i64 x.f.f2, .slice Ao x.f.f3.length co, .int .i64 x.p, .int .i64 x.e] : Array Value)[3]? = some _ from rfl)
        go_simp
        with_reducible rfl
      rotate_left
      · simp only [Act.put, List.setIfInBounds_toArray, List.set_cons_zero, List.set_cons_succ]
        rfl
      refine pure_ (i := 5) (N := some 25) (v := ?_) (a' := ?_) #[false, true, true, false, false, true, false, false, false] rfl rfl (by kernel_rfl) (fun _ _ _ h => h) (Or.inl ⟨by rfl, ?_⟩) ?_ ?_
      rotate_left
      · intro w'
        go_simp
        with_reducible rfl
      rotate_left
      · simp only [Act.put, List.setIfInBounds_toArray, List.set_cons_zero, List.set_cons_succ]
        rfl
      refine take_ (i := 6) (N := some 26) (v := ?_) (a' := ?_) #[false, true, true, false, false, true, true, false, false] rfl rfl (by kernel_rfl) (fun _ _ _ h => h) (Or.inl ⟨by rfl, ?_⟩) hHeld ?_ ?_
      rotate_left
      · intro w' hS_
        have c4_ := (blk_cell hS_ 4).trans (show (#[.int .i64 x.f.f0, .int .i64 x.f.f1, .int .i64 x.f.f2, .slice Ao x.f.f3.length co, .int .i64 x.p, .int .i64 x.e] : Array Value)[4]? = some _ from rfl)
        go_simp
        with_reducible rfl
      rotate_left
      · simp only [Act.put, List.setIfInBounds_toArray, List.set_cons_zero, List.set_cons_succ]
        rfl
      refine two_ (i := 0) (j := 3) (Ni := some 20) (Nj := some 23) #[true, true, true, false, false, true, true, false, false] #[false, true, true, true, false, true, true, false, false] rfl rfl rfl rfl (by kernel_rfl) (by decide) (by decide) (fun K_ hK_ => ?_) (fun K_ hK_ => ?_)
      · refine event_step (by rfl) (v := v) (w1 := W1) ?_ ?_
        · have hc_ := (blk_cell HI1.out.bo 0).trans (show (#[v] : Array Value)[0]? = some _ from rfl)
          go_simp
        refine hK_.out _ _ (hHeld) (fun hHeld => ?_)
        clear hK_
        refine norm_ (a' := ?_) ?_ ?_
        rotate_left
        · simp only [Act.put, List.setIfInBounds_toArray, List.set_cons_zero, List.set_cons_succ]
          rfl
        refine one_ (i := 3) (N := some 23) #[true, true, true, true, false, true, true, false, false] rfl rfl (by kernel_rfl) (by decide) (fun K_ hK_ => ?_)
        refine event_step (by rfl) (v := .slice (some ⟨W1.heap.size, 0, none⟩) 1 1) (w1 := W1.alloc (.cells #[.int .i64 x.f.f0, .int .i64 x.f.f1, .int .i64 x.f.f2, .slice Ao x.f.f3.length co] 67)) ?_ ?_
        · go_simp
        refine hK_.out _ _ (blk_alloc hHeld _) (fun hHeld => ?_)
        clear hK_
        refine norm_ (a' := ?_) ?_ ?_
        rotate_left
        · simp only [Act.put, List.setIfInBounds_toArray, List.set_cons_zero, List.set_cons_succ]
          rfl
        refine one_ (i := 4) (N := some 24) #[true, true, true, true, true, true, true, false, false] rfl rfl (by kernel_rfl) (by decide) (fun K_ hK_ => ?_)
        clear hHeld
        have hHeld := HS1.out
        refine Kd.S_append_step k67 (w0 := w) w.heap.size (by rfl) (.tmp 20) (.tmp 23) 56 67 (.agg #[(.int .i64 0), (.int .i64 0), (.int .i64 0), (.slice none 0 0)]) 48 rfl Try.underlying56 info67 rfl (by decide) (by omega) v out x.f [.int .i64 x.f.f0, .int .i64 x.f.f1, .int .i64 x.f.f2, .slice Ao x.f.f3.length co] (fun _ => True) (fun k_ => some k_ = (.slice Ao x.f.f3.length co : Value).ownBlock) rfl rfl ?aP ?aK (fun _ _ => trivial) ?aO HI1.out.be HI1.out.be.size ?aL ?_
        case aP => exact k67_mkM _ _ _ x.f (Kd.R_tight rfl (Kd.R_lower HR1.out HI1.out.ge))
        case aK =>
          intro k_ hk_
          refine ⟨trivial, fun e_ => ?_⟩
          obtain ⟨c_, hc_⟩ := Kd.R_typed HR1.out k_ hk_.symm
          obtain ⟨d_, hd_⟩ := Kd.S_typed HI1.out.row k_ e_.symm
          rw [hc_] at hd_
          cases hd_
        case aO => exact Kd.S_mono HI1.out.row (fun k_ hk_ => ⟨trivial, fun e_ => Nat.not_lt.2 (Kd.R_base HR1.out k_ e_.symm) hk_⟩)
        case aL => omega
        intro v1 w1 ho hb hg hat
        obtain ⟨A1, c1, rfl⟩ := Kd.R_slice (Kd.S_R ho)
        have hll : (out ++ [x.f]).length = out.length + 1 := by simp
        rw [hll] at ho ⊢
        clear hll
        have hbo := blk_grown HI1.out.bo hg (Kd.R_ne (Kd.S_R HI1.out.row) HI1.out.bo (by decide))
        have hba := blk_grown HI1.out.ba hg (Kd.R_ne (Kd.S_R HI1.out.row) HI1.out.ba (by decide))
        have hbl := blk_grown HI1.out.bl hg (Kd.R_ne (Kd.S_R HI1.out.row) HI1.out.bl (by decide))
        have hK1 : KeepsOthers W1 w1 := KeepsOthers.of_grownBy hg (fun j o e_ ho_ => by obtain ⟨d_, hd_⟩ := Kd.S_typed HI1.out.row j e_; rw [hd_] at ho_; cases ho_; rfl)
        have hW1 : Below w.heap.size W0 w1 := (HW1.out.mono hBw).trans (Below.grown (Below.refl _ _) hg HI1.out.be.size (fun k_ e_ => Kd.R_base (Kd.S_R HI1.out.row) k_ e_))
        have hs1 := blk_grown hHeld hg (Kd.R_ne (Kd.S_R HI1.out.row) hHeld (by decide))
        refine hK_.out _ _ (hs1) (fun hHeld => ?_)
        clear hK_
        refine norm_ (a' := ?_) ?_ ?_
        rotate_left
        · simp only [Act.put, List.setIfInBounds_toArray, List.set_cons_zero, List.set_cons_succ]
          rfl
        refine one_ (i := 7) (N := none) #[true, true, true, true, true, true, true, true, false] rfl rfl (by kernel_rfl) (by decide) (fun K_ hK_ => ?_)
        have hc_ := (blk_cell hbo 0).trans (show (#[v] : Array Value)[0]? = some _ from rfl)
        have hf_ := blk_frozen hbo 0
        refine skip_ (w1 := ?_) (by rfl) rfl ?_ ?_
        rotate_left
        · go_simp
          rfl
        refine hK_.out _ _ (blk_far (p := ⟨w.heap.size, 0, none⟩) hs1 (show Bs ≠ w.heap.size by omega) _) (fun hHeld => ?_)
        clear hK_
        refine one_ (i := 8) (N := none) #[true, true, true, true, true, true, true, true, true] rfl rfl (by kernel_rfl) (by decide) (fun K_ hK_ => ?_)
        have hc2_ := (blk_cell hba 0).trans (show (#[.int .i64 p0] : Array Value)[0]? = some _ from rfl)
        have hf2_ := blk_frozen hba 0
        refine skip_ (w1 := ?_) (by rfl) rfl ?_ ?_
        rotate_left
        · go_simp
          rfl
        refine hK_.out _ _ (blk_far (p := ⟨w.heap.size + 1, 0, none⟩) (blk_far (p := ⟨w.heap.size, 0, none⟩) hs1 (show Bs ≠ w.heap.size by omega) _) (show Bs ≠ w.heap.size + 1 by omega) _) (fun hHeld => ?_)
        clear hK_
        refine done_ (by kernel_rfl) ?_
        have hbb := blk_grown HI1.out.bb hg (Kd.R_ne (Kd.S_R HI1.out.row) HI1.out.bb (by decide))
        have hbm := blk_grown HI1.out.bm hg (Kd.R_ne (Kd.S_R HI1.out.row) HI1.out.bm (by decide))
        have hlt := Nat.lt_of_lt_of_le (blk_lt hb1) (Nat.le_refl w_.heap.size)
        refine ⟨HK1.out.trans (hK1.trans ((KeepsOthers.setCell _ _ _).trans (KeepsOthers.setCell _ _ _))), ⟨ce, ?_, ?_, ?_⟩, out ++ [x.f], .slice A1 (out.length + 1) c1, kq, ?_, ?_, ?_, ?_, ?_, ?_, ?_, ?_, Nat.le_refl _, ?_⟩
        · exact ((hW1.setCell (p := ⟨w.heap.size, 0, none⟩) (Nat.le_refl _) _).setCell (p := ⟨w.heap.size + 1, 0, none⟩) (Nat.le_succ _) _)
        · exact (blk_far (p := ⟨w.heap.size + 1, 0, none⟩) (blk_far (p := ⟨w.heap.size, 0, none⟩) hbb (show Bb ≠ w.heap.size by omega) _) (show Bb ≠ w.heap.size + 1 by omega) _).trans (HI1.out.bb.symm.trans (HW1.out.block _ (blk_lt hb1)))
        · exact (blk_far (p := ⟨w.heap.size + 1, 0, none⟩) (blk_far (p := ⟨w.heap.size, 0, none⟩) hbm (show Bm ≠ w.heap.size by omega) _) (show Bm ≠ w.heap.size + 1 by omega) _).trans (HI1.out.bm.symm.trans (HW1.out.block _ (blk_lt hb2)))
        · exact Nat.le_trans hb.size (by simp [Stp.nx])
        · exact blk_far (p := ⟨w.heap.size + 1, 0, none⟩) (blk_far (p := ⟨w.heap.size, 0, none⟩) hbb (show Bb ≠ w.heap.size by omega) _) (show Bb ≠ w.heap.size + 1 by omega) _
        · exact blk_far (p := ⟨w.heap.size + 1, 0, none⟩) (blk_far (p := ⟨w.heap.size, 0, none⟩) hbm (show Bm ≠ w.heap.size by omega) _) (show Bm ≠ w.heap.size + 1 by omega) _
        · exact blk_far (p := ⟨w.heap.size + 1, 0, none⟩) (blk_put hbo 0 _ rfl) (show w.heap.size ≠ w.heap.size + 1 by omega) _
        · exact blk_put (blk_far (p := ⟨w.heap.size, 0, none⟩) hba (show w.heap.size + 1 ≠ w.heap.size by omega) _) 0 _ rfl
        · exact blk_far (p := ⟨w.heap.size + 1, 0, none⟩) (blk_far (p := ⟨w.heap.size, 0, none⟩) hbl (show w.heap.size + 1 + 1 ≠ w.heap.size by omega) _) (show w.heap.size + 1 + 1 ≠ w.heap.size + 1 by omega) _
        · exact hgo
        · exact Kd.S_mono (Kd.S_bound (Kd.S_set (Kd.S_set ho hbo (by decide) 0 _) (blk_far (p := ⟨w.heap.size, 0, none⟩) hba (show w.heap.size + 1 ≠ w.heap.size by omega) _) (by decide) 0 _)) (fun k_ hk_ => hk_.2.2.1)
        · exact below_set (below_set hb (Nat.le_refl _)) (Nat.le_succ _)
      · refine event_step (by rfl) (v := .slice (some ⟨W1.heap.size, 0, none⟩) 1 1) (w1 := W1.alloc (.cells #[.int .i64 x.f.f0, .int .i64 x.f.f1, .int .i64 x.f.f2, .slice Ao x.f.f3.length co] 67)) ?_ ?_
        · go_simp
        refine hK_.out _ _ (blk_alloc hHeld _) (fun hHeld => ?_)
        clear hK_
        refine norm_ (a' := ?_) ?_ ?_
        rotate_left
        · simp only [Act.put, List.setIfInBounds_toArray, List.set_cons_zero, List.set_cons_succ]
          rfl
        refine one_ (i := 0) (N := some 20) #[true, true, true, true, false, true, true, false, false] rfl rfl (by kernel_rfl) (by decide) (fun K_ hK_ => ?_)
        refine event_step (by rfl) (v := v) (w1 := W1.alloc (.cells #[.int .i64 x.f.f0, .int .i64 x.f.f1, .int .i64 x.f.f2, .slice Ao x.f.f3.length co] 67)) ?_ ?_
        · have hc_ := (blk_cell (blk_alloc HI1.out.bo (.cells #[.int .i64 x.f.f0, .int .i64 x.f.f1, .int .i64 x.f.f2, .slice Ao x.f.f3.length co] 67)) 0).trans (show (#[v] : Array Value)[0]? = some _ from rfl)
          go_simp
        refine hK_.out _ _ (hHeld) (fun hHeld => ?_)
        clear hK_
        refine norm_ (a' := ?_) ?_ ?_
        rotate_left
        · simp only [Act.put, List.setIfInBounds_toArray, List.set_cons_zero, List.set_cons_succ]
          rfl
        refine one_ (i := 4) (N := some 24) #[true, true, true, true, true, true, true, false, false] rfl rfl (by kernel_rfl) (by decide) (fun K_ hK_ => ?_)
        clear hHeld
        have hHeld := HS1.out
        refine Kd.S_append_step k67 (w0 := w) w.heap.size (by rfl) (.tmp 20) (.tmp 23) 56 67 (.agg #[(.int .i64 0), (.int .i64 0), (.int .i64 0), (.slice none 0 0)]) 48 rfl Try.underlying56 info67 rfl (by decide) (by omega) v out x.f [.int .i64 x.f.f0, .int .i64 x.f.f1, .int .i64 x.f.f2, .slice Ao x.f.f3.length co] (fun _ => True) (fun k_ => some k_ = (.slice Ao x.f.f3.length co : Value).ownBlock) rfl rfl ?aP ?aK (fun _ _ => trivial) ?aO HI1.out.be HI1.out.be.size ?aL ?_
        case aP => exact k67_mkM _ _ _ x.f (Kd.R_tight rfl (Kd.R_lower HR1.out HI1.out.ge))
        case aK =>
          intro k_ hk_
          refine ⟨trivial, fun e_ => ?_⟩
          obtain ⟨c_, hc_⟩ := Kd.R_typed HR1.out k_ hk_.symm
          obtain ⟨d_, hd_⟩ := Kd.S_typed HI1.out.row k_ e_.symm
          rw [hc_] at hd_
          cases hd_
        case aO => exact Kd.S_mono HI1.out.row (fun k_ hk_ => ⟨trivial, fun e_ => Nat.not_lt.2 (Kd.R_base HR1.out k_ e_.symm) hk_⟩)
        case aL => omega
        intro v1 w1 ho hb hg hat
        obtain ⟨A1, c1, rfl⟩ := Kd.R_slice (Kd.S_R ho)
        have hll : (out ++ [x.f]).length = out.length + 1 := by simp
        rw [hll] at ho ⊢
        clear hll
        have hbo := blk_grown HI1.out.bo hg (Kd.R_ne (Kd.S_R HI1.out.row) HI1.out.bo (by decide))
        have hba := blk_grown HI1.out.ba hg (Kd.R_ne (Kd.S_R HI1.out.row) HI1.out.ba (by decide))
        have hbl := blk_grown HI1.out.bl hg (Kd.R_ne (Kd.S_R HI1.out.row) HI1.out.bl (by decide))
        have hK1 : KeepsOthers W1 w1 := KeepsOthers.of_grownBy hg (fun j o e_ ho_ => by obtain ⟨d_, hd_⟩ := Kd.S_typed HI1.out.row j e_; rw [hd_] at ho_; cases ho_; rfl)
        have hW1 : Below w.heap.size W0 w1 := (HW1.out.mono hBw).trans (Below.grown (Below.refl _ _) hg HI1.out.be.size (fun k_ e_ => Kd.R_base (Kd.S_R HI1.out.row) k_ e_))
        have hs1 := blk_grown hHeld hg (Kd.R_ne (Kd.S_R HI1.out.row) hHeld (by decide))
        refine hK_.out _ _ (hs1) (fun hHeld => ?_)
        clear hK_
        refine norm_ (a' := ?_) ?_ ?_
        rotate_left
        · simp only [Act.put, List.setIfInBounds_toArray, List.set_cons_zero, List.set_cons_succ]
          rfl
        refine one_ (i := 7) (N := none) #[true, true, true, true, true, true, true, true, false] rfl rfl (by kernel_rfl) (by decide) (fun K_ hK_ => ?_)
        have hc_ := (blk_cell hbo 0).trans (show (#[v] : Array Value)[0]? = some _ from rfl)
        have hf_ := blk_frozen hbo 0
        refine skip_ (w1 := ?_) (by rfl) rfl ?_ ?_
        rotate_left
        · go_simp
          rfl
        refine hK_.out _ _ (blk_far (p := ⟨w.heap.size, 0, none⟩) hs1 (show Bs ≠ w.heap.size by omega) _) (fun hHeld => ?_)
        clear hK_
        refine one_ (i := 8) (N := none) #[true, true, true, true, true, true, true, true, true] rfl rfl (by kernel_rfl) (by decide) (fun K_ hK_ => ?_)
        have hc2_ := (blk_cell hba 0).trans (show (#[.int .i64 p0] : Array Value)[0]? = some _ from rfl)
        have hf2_ := blk_frozen hba 0
        refine skip_ (w1 := ?_) (by rfl) rfl ?_ ?_
        rotate_left
        · go_simp
          rfl
        refine hK_.out _ _ (blk_far (p := ⟨w.heap.size + 1, 0, none⟩) (blk_far (p := ⟨w.heap.size, 0, none⟩) hs1 (show Bs ≠ w.heap.size by omega) _) (show Bs ≠ w.heap.size + 1 by omega) _) (fun hHeld => ?_)
        clear hK_
        refine done_ (by kernel_rfl) ?_
        have hbb := blk_grown HI1.out.bb hg (Kd.R_ne (Kd.S_R HI1.out.row) HI1.out.bb (by decide))
        have hbm := blk_grown HI1.out.bm hg (Kd.R_ne (Kd.S_R HI1.out.row) HI1.out.bm (by decide))
        have hlt := Nat.lt_of_lt_of_le (blk_lt hb1) (Nat.le_refl w_.heap.size)
        refine ⟨HK1.out.trans (hK1.trans ((KeepsOthers.setCell _ _ _).trans (KeepsOthers.setCell _ _ _))), ⟨ce, ?_, ?_, ?_⟩, out ++ [x.f], .slice A1 (out.length + 1) c1, kq, ?_, ?_, ?_, ?_, ?_, ?_, ?_, ?_, Nat.le_refl _, ?_⟩
        · exact ((hW1.setCell (p := ⟨w.heap.size, 0, none⟩) (Nat.le_refl _) _).setCell (p := ⟨w.heap.size + 1, 0, none⟩) (Nat.le_succ _) _)
        · exact (blk_far (p := ⟨w.heap.size + 1, 0, none⟩) (blk_far (p := ⟨w.heap.size, 0, none⟩) hbb (show Bb ≠ w.heap.size by omega) _) (show Bb ≠ w.heap.size + 1 by omega) _).trans (HI1.out.bb.symm.trans (HW1.out.block _ (blk_lt hb1)))
        · exact (blk_far (p := ⟨w.heap.size + 1, 0, none⟩) (blk_far (p := ⟨w.heap.size, 0, none⟩) hbm (show Bm ≠ w.heap.size by omega) _) (show Bm ≠ w.heap.size + 1 by omega) _).trans (HI1.out.bm.symm.trans (HW1.out.block _ (blk_lt hb2)))
        · exact Nat.le_trans hb.size (by simp [Stp.nx])
        · exact blk_far (p := ⟨w.heap.size + 1, 0, none⟩) (blk_far (p := ⟨w.heap.size, 0, none⟩) hbb (show Bb ≠ w.heap.size by omega) _) (show Bb ≠ w.heap.size + 1 by omega) _
        · exact blk_far (p := ⟨w.heap.size + 1, 0, none⟩) (blk_far (p := ⟨w.heap.size, 0, none⟩) hbm (show Bm ≠ w.heap.size by omega) _) (show Bm ≠ w.heap.size + 1 by omega) _
        · exact blk_far (p := ⟨w.heap.size + 1, 0, none⟩) (blk_put hbo 0 _ rfl) (show w.heap.size ≠ w.heap.size + 1 by omega) _
        · exact blk_put (blk_far (p := ⟨w.heap.size, 0, none⟩) hba (show w.heap.size + 1 ≠ w.heap.size by omega) _) 0 _ rfl
        · exact blk_far (p := ⟨w.heap.size + 1, 0, none⟩) (blk_far (p := ⟨w.heap.size, 0, none⟩) hbl (show w.heap.size + 1 + 1 ≠ w.heap.size by omega) _) (show w.heap.size + 1 + 1 ≠ w.heap.size + 1 by omega) _
        · exact hgo
        · exact Kd.S_mono (Kd.S_bound (Kd.S_set (Kd.S_set ho hbo (by decide) 0 _) (blk_far (p := ⟨w.heap.size, 0, none⟩) hba (show w.heap.size + 1 ≠ w.heap.size by omega) _) (by decide) 0 _)) (fun k_ hk_ => hk_.2.2.1)
        · exact below_set (below_set hb (Nat.le_refl _)) (Nat.le_succ _)
    · have ceb : (x.e != 0) = true := bne_iff_ne.mpr ce
      rw [if_neg ce] at hgo
      simp only [Option.some.injEq, Prod.mk.injEq] at hgo
      obtain ⟨rfl, rfl, rfl⟩ := hgo
      gi_wp2
      exact ⟨KeepsOthers.setCell _ _ _, rfl, v, blk_far hI.bo (by simp; omega) _, blk_far hI.ba (by simp) _, blk_put hI.bl 0 _ rfl, Kd.S_set (Kd.S_mono hI.row (fun _ _ => trivial)) hI.bl (by decide) 0 _, below_set hI.be (by omega)⟩
  case done =>
    rintro D ⟨p0, m0⟩ W hD hS ⟨out, v, kq, hI⟩ hK
    simp only [] at hS
    obtain ⟨A1, c1, ev⟩ := Kd.R_slice (Kd.S_R hI.row)
    subst ev
    have hgo := hI.go
    cases kq with
    | zero => exact absurd hgo (by simp [frame_All.l0])
    | succ kq =>
    simp only [frame_All.l0] at hgo
    rw [if_neg hS] at hgo
    simp only [Option.some.injEq, Prod.mk.injEq] at hgo
    obtain ⟨rfl, rfl, rfl⟩ := hgo
    have q0 : W.cell? ⟨w.heap.size, 0, none⟩ = some (.slice A1 out.length c1) := (blk_cell hI.bo 0).trans rfl
    have q1 : W.cell? ⟨w.heap.size + 1, 0, none⟩ = some (.int .i64 p0) := (blk_cell hI.ba 0).trans rfl
    have q2 : W.cell? ⟨w.heap.size + 1 + 1, 0, none⟩ = some (.int .i64 0) := (blk_cell hI.bl 0).trans rfl
    have hrow := S_turn (Kd.S_drew hI.row) (grownBy_putObj' W.drew D (.deferred none)) (fun r e => by cases e; exact ⟨_, hK, rfl⟩)
    have hbel := (below_drew1 hI.be).grown (grownBy_putObj' W.drew D (.deferred none)) hI.be.size (fun k_ e => by cases e; exact Nat.le_trans hBw hD)
    clear hI HR0 HC0 HG hI00
    go_wp2_with (first | go_step3)
    go_region
    go_wp2_with (first | go_step3)
    (try rw [Exit.noGoto_ret])
    refine ⟨by simp, .inl ⟨_, _, rfl, run_takeDeferred hK, ?_⟩⟩
    exact ⟨.tuple #[.slice A1 out.length c1, .int .i64 p0, .int .i64 0], by simp [results, Try.results64], ⟨_, rfl, Kd.S_mono hrow (fun _ _ => trivial), hbel⟩⟩
  case stop =>
    rintro D c ⟨p0, m0⟩ W hD ⟨rfl, v, h1, h2, h3, h4, h5⟩ hK
    obtain ⟨A1, c1, ev⟩ := Kd.R_slice (Kd.S_R h4)
    subst ev
    simp only [] at h1 h2 h3 h4
    have q0 : W.cell? ⟨w.heap.size, 0, none⟩ = some (.slice A1 r1.length c1) := (blk_cell h1 0).trans rfl
    have q1 : W.cell? ⟨w.heap.size + 1, 0, none⟩ = some (.int .i64 r2) := (blk_cell h2 0).trans rfl
    have q2 : W.cell? ⟨w.heap.size + 1 + 1, 0, none⟩ = some (.int .i64 r3) := (blk_cell h3 0).trans rfl
    have hrow := S_turn (Kd.S_drew h4) (grownBy_putObj' W.drew D (.deferred none)) (fun r e => by cases e; exact ⟨_, hK, rfl⟩)
    have hbel := (below_drew1 h5).grown (grownBy_putObj' W.drew D (.deferred none)) h5.size (fun k_ e => by cases e; exact Nat.le_trans hBw hD)
    clear h4 h5 HR0 HC0 HG hI00
    refine wpIn_wide.2 ?_
    go_wp2_with (first | go_step3)
    go_region
    go_wp2_with (first | go_step3)
    (try rw [Exit.noGoto_ret])
    refine ⟨by simp, .inl ⟨_, _, rfl, run_takeDeferred hK, ?_⟩⟩
    exact ⟨.tuple #[.slice A1 r1.length c1, .int .i64 r2, .int .i64 r3], by simp [results, Try.results64], ⟨_, rfl, Kd.S_mono hrow (fun _ _ => trivial), hbel⟩⟩
end
end

end Go.Proofs.Ytbmnplojpeabmaa.QB
