/-
  The law MeterPlays, walked: whatever limits and acts, true.
  Condition: none.
-/
import Derived.Test.YtjkadheknjkkbaaMeterB
import Derived.WalkKit
import Derived.Lib.SliceRun
import Derived.DeepKeys
namespace Go.Proofs.Ytjkadheknjkkbaa.QR
open Go Go.RowKit Go.Proofs.YtjkadheknjkkbaaW.PrintWords Go.Proofs.YtjkadheknjkkbaaW.PrintLast Go.Proofs.YtjkadheknjkkbaaW.PrintMore
attribute [local go_sem] max2_int min2_int max_two min_two max_three min_three max_four min_four
set_option linter.unusedVariables false
set_option linter.unusedSimpArgs false
attribute [local go_sem] eq30_alive eq30
open Go.Proofs.Ytjkadheknjkkbaa.Ob
/-! Any act on a meter, whatever its number. -/
def inr (k : Int) : Bool := decide (0 ≤ k) && decide (k < 6)
def actE (k : Int) : Int := if inr k = true then 0 else 1
def cntB (l c : Six) (k : Int) : Bool := if inr k = true then decide (l.at_ k < more (l.at_ k) (c.at_ k)) else false
def cntC (l c : Six) (k : Int) : Six := if inr k = true then c.put k (more (l.at_ k) (c.at_ k)) else c
def clrC (c : Six) (k : Int) : Six := if inr k = true then c.put k 0 else c
theorem inr_true {k : Int} (h : inr k = true) : 0 ≤ k ∧ k < 6 := by
  unfold inr at h
  simpa using h
theorem inr_false {k : Int} (h : inr k = false) : k < 0 ∨ 6 ≤ k := by
  unfold inr at h
  simp at h
  omega
theorem inr_bad {k : Int} (h : inr k = false) (p : Option Addr) : (p.isNone || decide (k < 0) || decide (6 ≤ k)) = true := by
  have := inr_false h
  rcases this with h | h
  · rw [decide_eq_true h, Bool.or_true, Bool.true_or]
  · rw [decide_eq_true h, Bool.or_true]
theorem six_cases {k : Int} (h : inr k = true) : k = 0 ∨ k = 1 ∨ k = 2 ∨ k = 3 ∨ k = 4 ∨ k = 5 := by
  have := inr_true h
  omega
theorem may_more {l c : Int} (h : may l c) : may l (more l c) := by
  unfold may more at *
  split <;> omega
theorem may_zero {l c : Int} (h : may l c) : may l 0 := by
  unfold may at *
  omega
theorem cntC_mays {l c : Six} {k : Int} (h : Mays l c) : Mays l (cntC l c k) := by
  unfold cntC
  cases hk : inr k
  · rw [if_neg (by decide)]; exact h
  · rw [if_pos rfl]
    obtain ⟨h0, h1, h2, h3, h4, h5⟩ := h
    rcases six_cases hk with rfl | rfl | rfl | rfl | rfl | rfl
    · exact ⟨may_more h0, h1, h2, h3, h4, h5⟩
    · exact ⟨h0, may_more h1, h2, h3, h4, h5⟩
    · exact ⟨h0, h1, may_more h2, h3, h4, h5⟩
    · exact ⟨h0, h1, h2, may_more h3, h4, h5⟩
    · exact ⟨h0, h1, h2, h3, may_more h4, h5⟩
    · exact ⟨h0, h1, h2, h3, h4, may_more h5⟩
theorem clrC_mays {l c : Six} {k : Int} (h : Mays l c) : Mays l (clrC c k) := by
  unfold clrC
  cases hk : inr k
  · rw [if_neg (by decide)]; exact h
  · rw [if_pos rfl]
    obtain ⟨h0, h1, h2, h3, h4, h5⟩ := h
    rcases six_cases hk with rfl | rfl | rfl | rfl | rfl | rfl
    · exact ⟨may_zero h0, h1, h2, h3, h4, h5⟩
    · exact ⟨h0, may_zero h1, h2, h3, h4, h5⟩
    · exact ⟨h0, h1, may_zero h2, h3, h4, h5⟩
    · exact ⟨h0, h1, h2, may_zero h3, h4, h5⟩
    · exact ⟨h0, h1, h2, h3, may_zero h4, h5⟩
    · exact ⟨h0, h1, h2, h3, h4, may_zero h5⟩
def tickC (c : Six) : Six := (0, 0, 0, 0, 0, c.2.2.2.2.2)
theorem meter_Tick.any (l c : Six) (g : Nat) (w : World) (hI : IsM 113 w g l c) :
    Calls Try.prog 27 #[.pointer (some ⟨g, 0, none⟩)] w fun e w' => (∃ v, e = .returned v) ∧ IsM 113 w' g l (tickC c) ∧ Keeps w w' (One g) := meter_Tick.calls l c g w hI
theorem r18_Tick.any (l c : Six) (g : Nat) (w : World) (hI : IsM 46 w g l c) :
    Calls Try.prog 28 #[.pointer (some ⟨g, 0, none⟩)] w fun e w' => (∃ v, e = .returned v) ∧ IsM 46 w' g l (tickC c) ∧ Keeps w w' (One g) := r18_Tick.calls l c g w hI
theorem tick_mays {l c : Six} (h : Mays l c) : Mays l (tickC c) := by
  obtain ⟨h0, h1, h2, h3, h4, h5⟩ := h
  exact ⟨may_zero h0, may_zero h1, may_zero h2, may_zero h3, may_zero h4, h5⟩
theorem rest_mays {l : Six} (h : restB 0 l = true) : Mays l (0, 0, 0, 0, 0, 0) := by
  unfold restB okB at h
  simp at h
  obtain ⟨h0, h1, h2, h3, h4, h5⟩ := h
  unfold Mays may
  refine ⟨?_, ?_, ?_, ?_, ?_, ?_⟩ <;> simp <;> omega
theorem meter_Count.any (l c : Six) (k : Int) (g : Nat) (w : World) (hI : IsM 113 w g l c) (hm : Mays l c) :
    Calls Try.prog 29 #[.pointer (some ⟨g, 0, none⟩), .int .i64 k] w fun e w' => e = .returned (.tuple #[.bool (cntB l c k), .int .i64 (actE k)]) ∧ IsM 113 w' g l (cntC l c k) ∧ Keeps w w' (One g) := by
  unfold cntB actE cntC
  cases hk : inr k
  · refine (meter_Count.bad (some ⟨g, 0, none⟩) k w (inr_bad hk _)).mono ?_
    rintro e w' ⟨he, nd, hw⟩
    rw [if_neg (by decide), if_neg (by decide), if_neg (by decide)]
    subst hw
    exact ⟨he, blk_below hI (pw_below_drewN (Below.refl _ _) nd), (Keeps.refl w (One g)).drewN nd⟩
  · obtain ⟨h0, h1⟩ := inr_true hk
    refine (meter_Count.calls l c k g w hI hm h0 h1).mono ?_
    rintro e w' ⟨he, hM, hK⟩
    rw [if_pos rfl, if_pos rfl, if_pos rfl]
    exact ⟨he, hM, hK⟩
theorem meter_Clear.any (l c : Six) (k : Int) (g : Nat) (w : World) (hI : IsM 113 w g l c) :
    Calls Try.prog 25 #[.pointer (some ⟨g, 0, none⟩), .int .i64 k] w fun e w' => e = .returned (.int .i64 (actE k)) ∧ IsM 113 w' g l (clrC c k) ∧ Keeps w w' (One g) := by
  unfold actE clrC
  cases hk : inr k
  · refine (meter_Clear.bad (some ⟨g, 0, none⟩) k w (inr_bad hk _)).mono ?_
    rintro e w' ⟨he, nd, hw⟩
    rw [if_neg (by decide), if_neg (by decide)]
    subst hw
    exact ⟨he, blk_below hI (pw_below_drewN (Below.refl _ _) nd), (Keeps.refl w (One g)).drewN nd⟩
  · obtain ⟨h0, h1⟩ := inr_true hk
    refine (meter_Clear.calls l c k g w hI h0 h1).mono ?_
    rintro e w' ⟨he, hM, hK⟩
    rw [if_pos rfl, if_pos rfl]
    exact ⟨he, hM, hK⟩
theorem r18_Count.any (l c : Six) (k : Int) (g : Nat) (w : World) (hI : IsM 46 w g l c) (hm : Mays l c) :
    Calls Try.prog 30 #[.pointer (some ⟨g, 0, none⟩), .int .i64 k] w fun e w' => e = .returned (.tuple #[.bool (cntB l c k), .int .i64 (actE k)]) ∧ IsM 46 w' g l (cntC l c k) ∧ Keeps w w' (One g) := by
  unfold cntB actE cntC
  cases hk : inr k
  · refine (r18_Count.bad (some ⟨g, 0, none⟩) k w (by have := inr_false hk; omega)).mono ?_
    rintro e w' ⟨he, hw⟩
    rw [if_neg (by decide), if_neg (by decide), if_neg (by decide)]
    subst hw
    exact ⟨he, hI, Keeps.refl _ _⟩
  · obtain ⟨h0, h1⟩ := inr_true hk
    refine (r18_Count.calls l c k g w hI hm h0 h1).mono ?_
    rintro e w' ⟨he, hM, hK⟩
    rw [if_pos rfl, if_pos rfl, if_pos rfl]
    exact ⟨he, hM, hK⟩
theorem r18_Clear.any (l c : Six) (k : Int) (g : Nat) (w : World) (hI : IsM 46 w g l c) :
    Calls Try.prog 26 #[.pointer (some ⟨g, 0, none⟩), .int .i64 k] w fun e w' => e = .returned (.int .i64 (actE k)) ∧ IsM 46 w' g l (clrC c k) ∧ Keeps w w' (One g) := by
  unfold actE clrC
  cases hk : inr k
  · refine (r18_Clear.bad (some ⟨g, 0, none⟩) k w (by have := inr_false hk; omega)).mono ?_
    rintro e w' ⟨he, hw⟩
    rw [if_neg (by decide), if_neg (by decide)]
    subst hw
    exact ⟨he, hI, Keeps.refl _ _⟩
  · obtain ⟨h0, h1⟩ := inr_true hk
    refine (r18_Clear.calls l c k g w hI h0 h1).mono ?_
    rintro e w' ⟨he, hM, hK⟩
    rw [if_pos rfl, if_pos rfl]
    exact ⟨he, hM, hK⟩
/-! The law's own types. -/
structure S30 where
  f0 : Int
  f1 : Int
  f2 : Int
  f3 : Int
  f4 : Int
  f5 : Int
def k30 : Kd S30 := Kd.iso (Kd.pair (Kd.int .i64) (Kd.pair (Kd.int .i64) (Kd.pair (Kd.int .i64) (Kd.pair (Kd.int .i64) (Kd.pair (Kd.int .i64) (Kd.int .i64)))))) (fun x : S30 => (x.f0, x.f1, x.f2, x.f3, x.f4, x.f5))
structure S40 where
  f0 : Int
  f1 : Int
def z40 : S40 := ⟨(0 : Int), (0 : Int)⟩
def k40 : Kd S40 := Kd.iso (Kd.pair (Kd.int .u8) (Kd.int .i64)) (fun x : S40 => (x.f0, x.f1))
theorem k40_open {w : World} {x : S40} {cs : List Value} (h : k40.K w x cs) : cs = [.int .u8 x.f0, .int .i64 x.f1] := by
  obtain ⟨_, _, rfl, rfl, rfl⟩ := h
  exact rfl
def rd_T40 (xs : List S40) (i : Int) : S40 := xs.getD i.toNat z40
theorem at_T40 {w : World} {A : Option Addr} {n : Nat} {xs : List S40} (h : Kd.C k40 w A n xs) (i : Int) (h0 : 0 ≤ i) (h1 : i < n) : ∃ ad , A = some ad ∧ w.cell? (ad.add (i.toNat * 2)) = some (.int .u8 (rd_T40 xs i).f0) ∧ w.cell? ⟨(ad.add (i.toNat * 2)).block, (ad.add (i.toNat * 2)).off + 1, none⟩ = some (.int .i64 (rd_T40 xs i).f1) := by
  obtain ⟨ad, c, e, _, hK, hc0⟩ := Kd.C_get h z40 i h0 h1
  have hc : ∀ j u, c[j]? = some u → w.cell? (ad.add (i.toNat * 2 + j)) = some u := hc0
  obtain rfl := k40_open hK
  exact ⟨ad, e, hc 0 _ rfl, by rw [← add_field _ _ 1 (by omega)]; exact hc 1 _ rfl⟩
theorem box_cells {w : World} {g : Nat} {l : Six} (h : w.heap[g]? = some (.cells l.vals.toArray 30 (0, 0))) : w.cell? ⟨g, 0, none⟩ = some (.int .i64 l.1) ∧ w.cell? ⟨g, 1, none⟩ = some (.int .i64 l.2.1) ∧ w.cell? ⟨g, 2, none⟩ = some (.int .i64 l.2.2.1) ∧ w.cell? ⟨g, 3, none⟩ = some (.int .i64 l.2.2.2.1) ∧ w.cell? ⟨g, 4, none⟩ = some (.int .i64 l.2.2.2.2.1) ∧ w.cell? ⟨g, 5, none⟩ = some (.int .i64 l.2.2.2.2.2) :=
  ⟨blk_cell h 0, blk_cell h 1, blk_cell h 2, blk_cell h 3, blk_cell h 4, blk_cell h 5⟩
theorem tail_cells {t : Nat} {w : World} {g : Nat} {l c : Six} (h : IsM t w g l c) : w.cell? ⟨g, 6, none⟩ = some (.int .i64 c.1) ∧ w.cell? ⟨g, 7, none⟩ = some (.int .i64 c.2.1) ∧ w.cell? ⟨g, 8, none⟩ = some (.int .i64 c.2.2.1) ∧ w.cell? ⟨g, 9, none⟩ = some (.int .i64 c.2.2.2.1) ∧ w.cell? ⟨g, 10, none⟩ = some (.int .i64 c.2.2.2.2.1) ∧ w.cell? ⟨g, 11, none⟩ = some (.int .i64 c.2.2.2.2.2) :=
  ⟨h.cell 6, h.cell 7, h.cell 8, h.cell 9, h.cell 10, h.cell 11⟩
theorem eq30_z (W : World) : (Op.equalIn 10000 30 (.agg #[.int .i64 0, .int .i64 0, .int .i64 0, .int .i64 0, .int .i64 0, .int .i64 0]) (.agg #[.int .i64 0, .int .i64 0, .int .i64 0, .int .i64 0, .int .i64 0, .int .i64 0])).run Try.prog W = .ok true W := eq30 (0, 0, 0, 0, 0, 0) W
theorem eq30_v (c : Six) (W : World) : (Op.equalIn 10000 30 (.agg c.vals.toArray) (.agg #[.int .i64 c.1, .int .i64 c.2.1, .int .i64 c.2.2.1, .int .i64 c.2.2.2.1, .int .i64 c.2.2.2.2.1, .int .i64 c.2.2.2.2.2])).run Try.prog W = .ok true W := eq30 c W
attribute [local go_sem] eq30_z eq30_v
set_option maxHeartbeats 16000000 in
set_option maxRecDepth 100000 in
theorem gantletlaw18_MeterPlays.six (l : Six) (A1 : Option Addr) (c1 : Nat) (l1 : List S40) (w : World) (hr1 : Kd.C k40 w A1 l1.length l1) (hc1 : l1.length ≤ c1) (hall : l1.all (fun x => decide (0 ≤ x.f0 ∧ x.f0 < 256)) = true) :
    Calls Try.prog 4 #[.agg l.vals.toArray, .slice A1 l1.length c1] w fun e w' => e = .returned (.bool true) ∧ Below w.heap.size w w' := by
  have HB := Aside0.mk (Below.refl w.heap.size w)
  have HR1 := Aside0.mk hr1
  clear hr1 hc1
  have hby : ∀ i : Int, 0 ≤ i → i < (l1.length : Int) → 0 ≤ (rd_T40 l1 i).f0 ∧ (rd_T40 l1 i).f0 < 256 := by
    intro i h0 h1
    have hi : i.toNat < l1.length := by omega
    have e : rd_T40 l1 i = l1[i.toNat] := by simp [rd_T40, hi]
    have := List.all_eq_true.1 hall _ (List.getElem_mem hi)
    rw [e]; exact of_decide_eq_true this
  have HY := Aside0.mk hby
  clear hall hby
  have hbx := blk_new w (.cells l.vals.toArray 30)
  have HX0 : Aside0 ((w.alloc (.cells l.vals.toArray 30)).heap[w.heap.size]? = some (.cells l.vals.toArray 30 (0, 0))) := ⟨hbx⟩
  clear hbx
  have HB0 := Aside0.mk (below_alloc (Below.refl w.heap.size w) (.cells l.vals.toArray 30))
  unfold Six.vals at HB0 HX0
  by_cases cl : (l1.length : Int) > 200
  · have c2b0 : decide (200 < (l1.length : Int)) = true := decide_eq_true cl
    have c2b1 : decide (200 < l1.length) = true := decide_eq_true (by omega)
    clear cl
    unfold Six.vals
    go_enter Try.func4, Try.ntmps4
    go_wp2_with (first | (go_at_call 21; refine (gantletlaw18_alive.calls _).mono ?_; rintro e_ w_ ⟨rfl, hb⟩; have HB1 := Aside0.mk (below_step HB0.out hb)))
    go_ret
    exact ⟨rfl, HB1.out⟩
  · have c2b0 : decide (200 < (l1.length : Int)) = false := decide_eq_false cl
    have c2b1 : decide (200 < l1.length) = false := decide_eq_false (by omega)
    have hlen : l1.length ≤ 200 := by omega
    clear cl
    cases hR : restB 0 l
    · unfold Six.vals
      go_enter Try.func4, Try.ntmps4
      go_wp2_with (first | (go_at_call 22; refine (meter_New.calls l _).mono ?_; rintro e_ w1 ⟨hb, hn⟩; obtain rfl := hn.none_ hR; have HB1 := Aside0.mk (below_step HB0.out hb); have hx := blk_below HX0.out hb; have HX1 := Aside0.mk hx; obtain ⟨x0, x1, x2, x3, x4, x5⟩ := box_cells hx; clear HB0 HX0 hb hn hx) | (go_at_call 23; refine (r18_Right.calls l _).mono ?_; rintro e_ w2 ⟨he, hb⟩; rw [hR] at he; subst he; have HB2 := Aside0.mk (below_step HB1.out hb); clear HB1 HX1 hb x0 x1 x2 x3 x4 x5) | (go_at_call 21; refine (gantletlaw18_alive.calls _).mono ?_; rintro e_ w3 ⟨rfl, hb⟩; have HB3 := Aside0.mk (below_step HB2.out hb); clear HB2 hb))
      go_ret
      exact ⟨rfl, HB3.out⟩
    · unfold Six.vals
      go_enter Try.func4, Try.ntmps4
      go_wp2_with (first | (go_at_call 22; refine (meter_New.calls l _).mono ?_; rintro e_ w1 ⟨hb, hn⟩; obtain ⟨g1, rfl, hM1, hg1⟩ := hn.get hR; have HB1 := Aside0.mk (below_step HB0.out hb); have hx := blk_below HX0.out hb; have HX1 := Aside0.mk hx; obtain ⟨x0, x1, x2, x3, x4, x5⟩ := box_cells hx; have HG1 := Aside0.mk (Nat.le_trans HB0.out.size hg1); clear HB0 HX0 hb hn hx hg1) | (go_at_call 23; refine (r18_Right.calls l _).mono ?_; rintro e_ w2 ⟨he, hb⟩; rw [hR] at he; subst he; have HB2 := Aside0.mk (below_step HB1.out hb); have hx := blk_below HX1.out hb; have HX2 := Aside0.mk hx; clear x0 x1 x2 x3 x4 x5; obtain ⟨x0, x1, x2, x3, x4, x5⟩ := box_cells hx; have hM2 := blk_below hM1 hb; clear HB1 HX1 hb hM1 hx) | (go_at_call 24; refine (r18_Begin.calls l _).mono ?_; rintro e_ w3 ⟨g2, rfl, hN3, hg2, hb⟩; have HB3 := Aside0.mk (below_step HB2.out hb); have hM3 := blk_below hM2 hb; have HG2 := Aside0.mk (Nat.lt_of_lt_of_le (blk_lt hM2) hg2); clear HB2 HX2 hb hM2 x0 x1 x2 x3 x4 x5 hg2))
      have HG12 : Aside0 (g1 ≠ g2) := ⟨fun e => by have h_ := HG2.out; rw [e] at h_; exact Nat.lt_irrefl _ h_⟩
      have HGE1 : Aside0 (∀ k, One g1 k → w.heap.size ≤ k) := ⟨one_ge HG1.out⟩
      have HGE2 : Aside0 (∀ k, One g2 k → w.heap.size ≤ k) := ⟨one_ge (Nat.le_trans HG1.out (Nat.le_of_lt HG2.out))⟩
      clear HG1 HG2
      go_loopg [9] (l1.length + 1) (fun kq v9 w' => ∃ (i : Int) (c : Six), v9 = .int .i64 i ∧ Aside0 (0 ≤ i ∧ i + kq = l1.length + 1) ∧ Aside0 (IsM 113 w' g1 l c) ∧ Aside0 (IsM 46 w' g2 l c) ∧ Aside0 (Mays l c) ∧ Aside0 (Below w.heap.size w w'))
      case atStart => exact ⟨0, (0, 0, 0, 0, 0, 0), rfl, ⟨by omega⟩, ⟨hM3⟩, ⟨hN3⟩, ⟨rest_mays hR⟩, HB3⟩
      case round =>
        clear hM3 hN3 HB3 c2b0 c2b1
        obtain ⟨i, c, rfl, HK, HM, HN, HC, HB⟩ := hrel
        by_cases c5 : i < (l1.length : Int)
        · have h0 := HK.out.1
          have c5b0 : decide (i < (l1.length : Int)) = true := decide_eq_true c5
          have c6b0 : decide (0 ≤ i) = true := decide_eq_true h0
          obtain ⟨ad, e1, hx, hx1⟩ := at_T40 HR1.out i h0 c5
          cases e1
          have HX1 := Aside0.mk hx1
          replace hx := (HB.out.cell (World.block_lt_of_cell? w _ hx)).trans hx
          replace hx1 := (HB.out.cell (World.block_lt_of_cell? w _ hx1)).trans hx1
          have hy := HY.out i h0 c5
          have p1 : (0 ≤ i) = True := eq_true h0
          have q1 : (i < (l1.length : Int)) = True := eq_true c5
          have hwr : wrap64 (i + 1) = i + 1 := by unfold wrap64; omega
          have HW := Aside0.mk hwr
          clear h0 hwr
          obtain ⟨k1, hk1⟩ : ∃ j, gk = j + 1 := ⟨gk - 1, by have := HK.out; omega⟩
          subst hk1
          generalize (rd_T40 l1 i).f1 = k at *
          generalize (rd_T40 l1 i).f0 = z at *
          cases cz3 : (z % 5 == 3)
          · cases cz4 : (z % 5 == 4)
            · skip
              go_upto_region 26 with (first | (go_at_call 29; refine (meter_Count.any l c k g1 _ HM.out HC.out).mono ?_; rintro e_ wa ⟨rfl, hM_, hK_⟩; have HM1 := Aside0.mk hM_; have HN1 := Aside0.mk (blk_keeps HN.out hK_ (fun e_ => HG12.out e_.symm)); have HB1 := Aside0.mk (hK_.under HB.out HGE1.out); clear hx1; have hx1 := (HB1.out.cell (World.block_lt_of_cell? w _ HX1.out)).trans HX1.out; clear HM HN HB hM_ hK_) | (go_at_call 30; refine (r18_Count.any l c k g2 _ HN1.out HC.out).mono ?_; rintro e_ wb ⟨rfl, hN_, hK_⟩; have HN2 := Aside0.mk hN_; have HM2 := Aside0.mk (blk_keeps HM1.out hK_ (fun e_ => HG12.out e_)); have HB2 := Aside0.mk (hK_.under HB1.out HGE2.out); clear HM1 HN1 HB1 hN_ hK_ hx1))
              refine start_ (n := 17) (S := fun w' => Below wb.heap.size wb w') (ds := []) #[false, false, false, false, false, false, false, false, false, false, false, false, false, false, false, false, false] (by kernel_rfl) rfl rfl (below_drew1 (Below.refl _ _)) (fun hHeld => ?_)
              refine pure_ (i := 0) (N := some 101) (v := ?_) (a' := ?_) #[true, false, false, false, false, false, false, false, false, false, false, false, false, false, false, false, false] rfl rfl (by kernel_rfl) (fun _ _ _ h => h) (Or.inl ⟨by rfl, ?_⟩) ?_ ?_
              rotate_left
              · intro w'
                go_simp
                with_reducible rfl
              rotate_left
              · simp only [Act.put, List.setIfInBounds_toArray, List.set_cons_zero, List.set_cons_succ]
                rfl
              refine pure_ (i := 1) (N := some 102) (v := ?_) (a' := ?_) #[true, true, false, false, false, false, false, false, false, false, false, false, false, false, false, false, false] rfl rfl (by kernel_rfl) (fun _ _ _ h => h) (Or.inl ⟨by rfl, ?_⟩) ?_ ?_
              rotate_left
              · intro w'
                go_simp
                with_reducible rfl
              rotate_left
              · simp only [Act.put, List.setIfInBounds_toArray, List.set_cons_zero, List.set_cons_succ]
                rfl
              refine pure_ (i := 2) (N := some 103) (v := ?_) (a' := ?_) #[true, true, true, false, false, false, false, false, false, false, false, false, false, false, false, false, false] rfl rfl (by kernel_rfl) (fun _ _ _ h => h) (Or.inl ⟨by rfl, ?_⟩) ?_ ?_
              rotate_left
              · intro w'
                go_simp
                with_reducible rfl
              rotate_left
              · simp only [Act.put, List.setIfInBounds_toArray, List.set_cons_zero, List.set_cons_succ]
                rfl
              refine pure_ (i := 3) (N := some 104) (v := ?_) (a' := ?_) #[true, true, true, true, false, false, false, false, false, false, false, false, false, false, false, false, false] rfl rfl (by kernel_rfl) (fun _ _ _ h => h) (Or.inl ⟨by rfl, ?_⟩) ?_ ?_
              rotate_left
              · intro w'
                go_simp
                with_reducible rfl
              rotate_left
              · simp only [Act.put, List.setIfInBounds_toArray, List.set_cons_zero, List.set_cons_succ]
                rfl
              refine pure_ (i := 4) (N := some 105) (v := ?_) (a' := ?_) #[true, true, true, true, true, false, false, false, false, false, false, false, false, false, false, false, false] rfl rfl (by kernel_rfl) (fun _ _ _ h => h) (Or.inl ⟨by rfl, ?_⟩) ?_ ?_
              rotate_left
              · intro w'
                go_simp
                with_reducible rfl
              rotate_left
              · simp only [Act.put, List.setIfInBounds_toArray, List.set_cons_zero, List.set_cons_succ]
                rfl
              refine pure_ (i := 5) (N := some 106) (v := ?_) (a' := ?_) #[true, true, true, true, true, true, false, false, false, false, false, false, false, false, false, false, false] rfl rfl (by kernel_rfl) (fun _ _ _ h => h) (Or.inl ⟨by rfl, ?_⟩) ?_ ?_
              rotate_left
              · intro w'
                go_simp
                with_reducible rfl
              rotate_left
              · simp only [Act.put, List.setIfInBounds_toArray, List.set_cons_zero, List.set_cons_succ]
                rfl
              refine pure_ (i := 6) (N := some 107) (v := ?_) (a' := ?_) #[true, true, true, true, true, true, true, false, false, false, false, false, false, false, false, false, false] rfl rfl (by kernel_rfl) (fun _ _ _ h => h) (Or.inl ⟨by rfl, ?_⟩) ?_ ?_
              rotate_left
              · intro w'
                go_simp
                with_reducible rfl
              rotate_left
              · simp only [Act.put, List.setIfInBounds_toArray, List.set_cons_zero, List.set_cons_succ]
                rfl
              refine pure_ (i := 7) (N := some 108) (v := ?_) (a' := ?_) #[true, true, true, true, true, true, true, true, false, false, false, false, false, false, false, false, false] rfl rfl (by kernel_rfl) (fun _ _ _ h => h) (Or.inl ⟨by rfl, ?_⟩) ?_ ?_
              rotate_left
              · intro w'
                go_simp
                with_reducible rfl
              rotate_left
              · simp only [Act.put, List.setIfInBounds_toArray, List.set_cons_zero, List.set_cons_succ]
                rfl
              refine pure_ (i := 8) (N := some 109) (v := ?_) (a' := ?_) #[true, true, true, true, true, true, true, true, true, false, false, false, false, false, false, false, false] rfl rfl (by kernel_rfl) (fun _ _ _ h => h) (Or.inl ⟨by rfl, ?_⟩) ?_ ?_
              rotate_left
              · intro w'
                go_simp
                with_reducible rfl
              rotate_left
              · simp only [Act.put, List.setIfInBounds_toArray, List.set_cons_zero, List.set_cons_succ]
                rfl
              refine pure_ (i := 9) (N := some 110) (v := ?_) (a' := ?_) #[true, true, true, true, true, true, true, true, true, true, false, false, false, false, false, false, false] rfl rfl (by kernel_rfl) (fun _ _ _ h => h) (Or.inl ⟨by rfl, ?_⟩) ?_ ?_
              rotate_left
              · intro w'
                go_simp
                with_reducible rfl
              rotate_left
              · simp only [Act.put, List.setIfInBounds_toArray, List.set_cons_zero, List.set_cons_succ]
                rfl
              refine pure_ (i := 11) (N := some 112) (v := ?_) (a' := ?_) #[true, true, true, true, true, true, true, true, true, true, false, true, false, false, false, false, false] rfl rfl (by kernel_rfl) (fun _ _ _ h => h) (Or.inl ⟨by rfl, ?_⟩) ?_ ?_
              rotate_left
              · intro w'
                go_simp
                with_reducible rfl
              rotate_left
              · simp only [Act.put, List.setIfInBounds_toArray, List.set_cons_zero, List.set_cons_succ]
                rfl
              refine pure_ (i := 12) (N := some 113) (v := ?_) (a' := ?_) #[true, true, true, true, true, true, true, true, true, true, false, true, true, false, false, false, false] rfl rfl (by kernel_rfl) (fun _ _ _ h => h) (Or.inl ⟨by rfl, ?_⟩) ?_ ?_
              rotate_left
              · intro w'
                go_simp
                with_reducible rfl
              rotate_left
              · simp only [Act.put, List.setIfInBounds_toArray, List.set_cons_zero, List.set_cons_succ]
                rfl
              refine pure_ (i := 13) (N := some 114) (v := ?_) (a' := ?_) #[true, true, true, true, true, true, true, true, true, true, false, true, true, true, false, false, false] rfl rfl (by kernel_rfl) (fun _ _ _ h => h) (Or.inl ⟨by rfl, ?_⟩) ?_ ?_
              rotate_left
              · intro w'
                go_simp
                with_reducible rfl
              rotate_left
              · simp only [Act.put, List.setIfInBounds_toArray, List.set_cons_zero, List.set_cons_succ]
                rfl
              refine take_ (i := 14) (N := some 115) (v := ?_) (a' := ?_) #[true, true, true, true, true, true, true, true, true, true, false, true, true, true, true, false, false] rfl rfl (by kernel_rfl) (fun _ _ _ h => h) (Or.inl ⟨by rfl, ?_⟩) hHeld ?_ ?_
              rotate_left
              · intro w' hS_
                obtain ⟨c6_, c7_, c8_, c9_, c10_, c11_⟩ := tail_cells (blk_below HN2.out hS_)
                go_simp
                with_reducible rfl
              rotate_left
              · simp only [Act.put, List.setIfInBounds_toArray, List.set_cons_zero, List.set_cons_succ]
                rfl
              refine one_ (i := 10) (N := some 111) #[true, true, true, true, true, true, true, true, true, true, true, true, true, true, true, false, false] rfl rfl (by kernel_rfl) (by decide) (fun K_ hK_ => ?_)
              refine call_ 31 _ (by rfl) rfl (by go_simp; rfl) ?_
              refine (meter_Counts.calls l (cntC l c k) g1 _ (blk_below HM2.out hHeld)).mono ?_
              rintro e_ wy ⟨rfl, hb_⟩
              refine ⟨_, rfl, ?_⟩
              have hHeld2 := below_step hHeld hb_
              refine hK_.out _ _ (hHeld2) (fun hHeld => ?_)
              clear hK_
              refine norm_ (a' := ?_) ?_ ?_
              rotate_left
              · simp only [Act.put, List.setIfInBounds_toArray, List.set_cons_zero, List.set_cons_succ]
                rfl
              refine pure_ (i := 15) (N := some 116) (v := ?_) (a' := ?_) #[true, true, true, true, true, true, true, true, true, true, true, true, true, true, true, true, false] rfl rfl (by kernel_rfl) (fun _ _ _ h => h) (Or.inl ⟨by rfl, ?_⟩) ?_ ?_
              rotate_left
              · intro w'
                go_simp
                with_reducible rfl
              rotate_left
              · simp only [Act.put, List.setIfInBounds_toArray, List.set_cons_zero, List.set_cons_succ]
                rfl
              refine pure_ (i := 16) (N := some 117) (v := ?_) (a' := ?_) #[true, true, true, true, true, true, true, true, true, true, true, true, true, true, true, true, true] rfl rfl (by kernel_rfl) (fun _ _ _ h => h) (Or.inl ⟨by rfl, ?_⟩) ?_ ?_
              rotate_left
              · intro w'
                go_simp
                with_reducible rfl
              rotate_left
              · simp only [Act.put, List.setIfInBounds_toArray, List.set_cons_zero, List.set_cons_succ]
                rfl
              refine done_ (by kernel_rfl) ?_
              go_wp2
              go_roundg k1
              case measure => omega
              case rel => exact ⟨i + 1, (cntC l c k), (by first | rfl | rw [HW.out]), ⟨by have := HK.out; omega⟩, ⟨blk_below HM2.out hHeld⟩, ⟨blk_below HN2.out hHeld⟩, ⟨cntC_mays HC.out⟩, ⟨below_step HB2.out hHeld⟩⟩
            · skip
              go_upto_region 26 with (first | (go_at_call 27; refine (meter_Tick.any l c g1 _ HM.out).mono ?_; rintro e_ wa ⟨⟨va_, rfl⟩, hM_, hK_⟩; have HM1 := Aside0.mk hM_; have HN1 := Aside0.mk (blk_keeps HN.out hK_ (fun e_ => HG12.out e_.symm)); have HB1 := Aside0.mk (hK_.under HB.out HGE1.out); clear hx1; have hx1 := (HB1.out.cell (World.block_lt_of_cell? w _ HX1.out)).trans HX1.out; clear HM HN HB hM_ hK_) | (go_at_call 28; refine (r18_Tick.any l c g2 _ HN1.out).mono ?_; rintro e_ wb ⟨⟨vb_, rfl⟩, hN_, hK_⟩; have HN2 := Aside0.mk hN_; have HM2 := Aside0.mk (blk_keeps HM1.out hK_ (fun e_ => HG12.out e_)); have HB2 := Aside0.mk (hK_.under HB1.out HGE2.out); clear HM1 HN1 HB1 hN_ hK_ hx1))
              refine start_ (n := 17) (S := fun w' => Below wb.heap.size wb w') (ds := []) #[false, false, false, false, false, false, false, false, false, false, false, false, false, false, false, false, false] (by kernel_rfl) rfl rfl (below_drew1 (Below.refl _ _)) (fun hHeld => ?_)
              refine pure_ (i := 0) (N := some 101) (v := ?_) (a' := ?_) #[true, false, false, false, false, false, false, false, false, false, false, false, false, false, false, false, false] rfl rfl (by kernel_rfl) (fun _ _ _ h => h) (Or.inl ⟨by rfl, ?_⟩) ?_ ?_
              rotate_left
              · intro w'
                go_simp
                with_reducible rfl
              rotate_left
              · simp only [Act.put, List.setIfInBounds_toArray, List.set_cons_zero, List.set_cons_succ]
                rfl
              refine pure_ (i := 1) (N := some 102) (v := ?_) (a' := ?_) #[true, true, false, false, false, false, false, false, false, false, false, false, false, false, false, false, false] rfl rfl (by kernel_rfl) (fun _ _ _ h => h) (Or.inl ⟨by rfl, ?_⟩) ?_ ?_
              rotate_left
              · intro w'
                go_simp
                with_reducible rfl
              rotate_left
              · simp only [Act.put, List.setIfInBounds_toArray, List.set_cons_zero, List.set_cons_succ]
                rfl
              refine pure_ (i := 2) (N := some 103) (v := ?_) (a' := ?_) #[true, true, true, false, false, false, false, false, false, false, false, false, false, false, false, false, false] rfl rfl (by kernel_rfl) (fun _ _ _ h => h) (Or.inl ⟨by rfl, ?_⟩) ?_ ?_
              rotate_left
              · intro w'
                go_simp
                with_reducible rfl
              rotate_left
              · simp only [Act.put, List.setIfInBounds_toArray, List.set_cons_zero, List.set_cons_succ]
                rfl
              refine pure_ (i := 3) (N := some 104) (v := ?_) (a' := ?_) #[true, true, true, true, false, false, false, false, false, false, false, false, false, false, false, false, false] rfl rfl (by kernel_rfl) (fun _ _ _ h => h) (Or.inl ⟨by rfl, ?_⟩) ?_ ?_
              rotate_left
              · intro w'
                go_simp
                with_reducible rfl
              rotate_left
              · simp only [Act.put, List.setIfInBounds_toArray, List.set_cons_zero, List.set_cons_succ]
                rfl
              refine pure_ (i := 4) (N := some 105) (v := ?_) (a' := ?_) #[true, true, true, true, true, false, false, false, false, false, false, false, false, false, false, false, false] rfl rfl (by kernel_rfl) (fun _ _ _ h => h) (Or.inl ⟨by rfl, ?_⟩) ?_ ?_
              rotate_left
              · intro w'
                go_simp
                with_reducible rfl
              rotate_left
              · simp only [Act.put, List.setIfInBounds_toArray, List.set_cons_zero, List.set_cons_succ]
                rfl
              refine pure_ (i := 5) (N := some 106) (v := ?_) (a' := ?_) #[true, true, true, true, true, true, false, false, false, false, false, false, false, false, false, false, false] rfl rfl (by kernel_rfl) (fun _ _ _ h => h) (Or.inl ⟨by rfl, ?_⟩) ?_ ?_
              rotate_left
              · intro w'
                go_simp
                with_reducible rfl
              rotate_left
              · simp only [Act.put, List.setIfInBounds_toArray, List.set_cons_zero, List.set_cons_succ]
                rfl
              refine pure_ (i := 6) (N := some 107) (v := ?_) (a' := ?_) #[true, true, true, true, true, true, true, false, false, false, false, false, false, false, false, false, false] rfl rfl (by kernel_rfl) (fun _ _ _ h => h) (Or.inl ⟨by rfl, ?_⟩) ?_ ?_
              rotate_left
              · intro w'
                go_simp
                with_reducible rfl
              rotate_left
              · simp only [Act.put, List.setIfInBounds_toArray, List.set_cons_zero, List.set_cons_succ]
                rfl
              refine pure_ (i := 7) (N := some 108) (v := ?_) (a' := ?_) #[true, true, true, true, true, true, true, true, false, false, false, false, false, false, false, false, false] rfl rfl (by kernel_rfl) (fun _ _ _ h => h) (Or.inl ⟨by rfl, ?_⟩) ?_ ?_
              rotate_left
              · intro w'
                go_simp
                with_reducible rfl
              rotate_left
              · simp only [Act.put, List.setIfInBounds_toArray, List.set_cons_zero, List.set_cons_succ]
                rfl
              refine pure_ (i := 8) (N := some 109) (v := ?_) (a' := ?_) #[true, true, true, true, true, true, true, true, true, false, false, false, false, false, false, false, false] rfl rfl (by kernel_rfl) (fun _ _ _ h => h) (Or.inl ⟨by rfl, ?_⟩) ?_ ?_
              rotate_left
              · intro w'
                go_simp
                with_reducible rfl
              rotate_left
              · simp only [Act.put, List.setIfInBounds_toArray, List.set_cons_zero, List.set_cons_succ]
                rfl
              refine pure_ (i := 9) (N := some 110) (v := ?_) (a' := ?_) #[true, true, true, true, true, true, true, true, true, true, false, false, false, false, false, false, false] rfl rfl (by kernel_rfl) (fun _ _ _ h => h) (Or.inl ⟨by rfl, ?_⟩) ?_ ?_
              rotate_left
              · intro w'
                go_simp
                with_reducible rfl
              rotate_left
              · simp only [Act.put, List.setIfInBounds_toArray, List.set_cons_zero, List.set_cons_succ]
                rfl
              refine pure_ (i := 11) (N := some 112) (v := ?_) (a' := ?_) #[true, true, true, true, true, true, true, true, true, true, false, true, false, false, false, false, false] rfl rfl (by kernel_rfl) (fun _ _ _ h => h) (Or.inl ⟨by rfl, ?_⟩) ?_ ?_
              rotate_left
              · intro w'
                go_simp
                with_reducible rfl
              rotate_left
              · simp only [Act.put, List.setIfInBounds_toArray, List.set_cons_zero, List.set_cons_succ]
                rfl
              refine pure_ (i := 12) (N := some 113) (v := ?_) (a' := ?_) #[true, true, true, true, true, true, true, true, true, true, false, true, true, false, false, false, false] rfl rfl (by kernel_rfl) (fun _ _ _ h => h) (Or.inl ⟨by rfl, ?_⟩) ?_ ?_
              rotate_left
              · intro w'
                go_simp
                with_reducible rfl
              rotate_left
              · simp only [Act.put, List.setIfInBounds_toArray, List.set_cons_zero, List.set_cons_succ]
                rfl
              refine pure_ (i := 13) (N := some 114) (v := ?_) (a' := ?_) #[true, true, true, true, true, true, true, true, true, true, false, true, true, true, false, false, false] rfl rfl (by kernel_rfl) (fun _ _ _ h => h) (Or.inl ⟨by rfl, ?_⟩) ?_ ?_
              rotate_left
              · intro w'
                go_simp
                with_reducible rfl
              rotate_left
              · simp only [Act.put, List.setIfInBounds_toArray, List.set_cons_zero, List.set_cons_succ]
                rfl
              refine take_ (i := 14) (N := some 115) (v := ?_) (a' := ?_) #[true, true, true, true, true, true, true, true, true, true, false, true, true, true, true, false, false] rfl rfl (by kernel_rfl) (fun _ _ _ h => h) (Or.inl ⟨by rfl, ?_⟩) hHeld ?_ ?_
              rotate_left
              · intro w' hS_
                obtain ⟨c6_, c7_, c8_, c9_, c10_, c11_⟩ := tail_cells (blk_below HN2.out hS_)
                go_simp
                with_reducible rfl
              rotate_left
              · simp only [Act.put, List.setIfInBounds_toArray, List.set_cons_zero, List.set_cons_succ]
                rfl
              refine one_ (i := 10) (N := some 111) #[true, true, true, true, true, true, true, true, true, true, true, true, true, true, true, false, false] rfl rfl (by kernel_rfl) (by decide) (fun K_ hK_ => ?_)
              refine call_ 31 _ (by rfl) rfl (by go_simp; rfl) ?_
              refine (meter_Counts.calls l (tickC c) g1 _ (blk_below HM2.out hHeld)).mono ?_
              rintro e_ wy ⟨rfl, hb_⟩
              refine ⟨_, rfl, ?_⟩
              have hHeld2 := below_step hHeld hb_
              refine hK_.out _ _ (hHeld2) (fun hHeld => ?_)
              clear hK_
              refine norm_ (a' := ?_) ?_ ?_
              rotate_left
              · simp only [Act.put, List.setIfInBounds_toArray, List.set_cons_zero, List.set_cons_succ]
                rfl
              refine pure_ (i := 15) (N := some 116) (v := ?_) (a' := ?_) #[true, true, true, true, true, true, true, true, true, true, true, true, true, true, true, true, false] rfl rfl (by kernel_rfl) (fun _ _ _ h => h) (Or.inl ⟨by rfl, ?_⟩) ?_ ?_
              rotate_left
              · intro w'
                go_simp
                with_reducible rfl
              rotate_left
              · simp only [Act.put, List.setIfInBounds_toArray, List.set_cons_zero, List.set_cons_succ]
                rfl
              refine pure_ (i := 16) (N := some 117) (v := ?_) (a' := ?_) #[true, true, true, true, true, true, true, true, true, true, true, true, true, true, true, true, true] rfl rfl (by kernel_rfl) (fun _ _ _ h => h) (Or.inl ⟨by rfl, ?_⟩) ?_ ?_
              rotate_left
              · intro w'
                go_simp
                with_reducible rfl
              rotate_left
              · simp only [Act.put, List.setIfInBounds_toArray, List.set_cons_zero, List.set_cons_succ]
                rfl
              refine done_ (by kernel_rfl) ?_
              go_wp2
              go_roundg k1
              case measure => omega
              case rel => exact ⟨i + 1, (tickC c), (by first | rfl | rw [HW.out]), ⟨by have := HK.out; omega⟩, ⟨blk_below HM2.out hHeld⟩, ⟨blk_below HN2.out hHeld⟩, ⟨tick_mays HC.out⟩, ⟨below_step HB2.out hHeld⟩⟩
          · skip
            go_upto_region 26 with (first | (go_at_call 25; refine (meter_Clear.any l c k g1 _ HM.out).mono ?_; rintro e_ wa ⟨rfl, hM_, hK_⟩; have HM1 := Aside0.mk hM_; have HN1 := Aside0.mk (blk_keeps HN.out hK_ (fun e_ => HG12.out e_.symm)); have HB1 := Aside0.mk (hK_.under HB.out HGE1.out); clear hx1; have hx1 := (HB1.out.cell (World.block_lt_of_cell? w _ HX1.out)).trans HX1.out; clear HM HN HB hM_ hK_) | (go_at_call 26; refine (r18_Clear.any l c k g2 _ HN1.out).mono ?_; rintro e_ wb ⟨rfl, hN_, hK_⟩; have HN2 := Aside0.mk hN_; have HM2 := Aside0.mk (blk_keeps HM1.out hK_ (fun e_ => HG12.out e_)); have HB2 := Aside0.mk (hK_.under HB1.out HGE2.out); clear HM1 HN1 HB1 hN_ hK_ hx1))
            refine start_ (n := 17) (S := fun w' => Below wb.heap.size wb w') (ds := []) #[false, false, false, false, false, false, false, false, false, false, false, false, false, false, false, false, false] (by kernel_rfl) rfl rfl (below_drew1 (Below.refl _ _)) (fun hHeld => ?_)
            refine pure_ (i := 0) (N := some 101) (v := ?_) (a' := ?_) #[true, false, false, false, false, false, false, false, false, false, false, false, false, false, false, false, false] rfl rfl (by kernel_rfl) (fun _ _ _ h => h) (Or.inl ⟨by rfl, ?_⟩) ?_ ?_
            rotate_left
            · intro w'
              go_simp
              with_reducible rfl
            rotate_left
            · simp only [Act.put, List.setIfInBounds_toArray, List.set_cons_zero, List.set_cons_succ]
              rfl
            refine pure_ (i := 1) (N := some 102) (v := ?_) (a' := ?_) #[true, true, false, false, false, false, false, false, false, false, false, false, false, false, false, false, false] rfl rfl (by kernel_rfl) (fun _ _ _ h => h) (Or.inl ⟨by rfl, ?_⟩) ?_ ?_
            rotate_left
            · intro w'
              go_simp
              with_reducible rfl
            rotate_left
            · simp only [Act.put, List.setIfInBounds_toArray, List.set_cons_zero, List.set_cons_succ]
              rfl
            refine pure_ (i := 2) (N := some 103) (v := ?_) (a' := ?_) #[true, true, true, false, false, false, false, false, false, false, false, false, false, false, false, false, false] rfl rfl (by kernel_rfl) (fun _ _ _ h => h) (Or.inl ⟨by rfl, ?_⟩) ?_ ?_
            rotate_left
            · intro w'
              go_simp
              with_reducible rfl
            rotate_left
            · simp only [Act.put, List.setIfInBounds_toArray, List.set_cons_zero, List.set_cons_succ]
              rfl
            refine pure_ (i := 3) (N := some 104) (v := ?_) (a' := ?_) #[true, true, true, true, false, false, false, false, false, false, false, false, false, false, false, false, false] rfl rfl (by kernel_rfl) (fun _ _ _ h => h) (Or.inl ⟨by rfl, ?_⟩) ?_ ?_
            rotate_left
            · intro w'
              go_simp
              with_reducible rfl
            rotate_left
            · simp only [Act.put, List.setIfInBounds_toArray, List.set_cons_zero, List.set_cons_succ]
              rfl
            refine pure_ (i := 4) (N := some 105) (v := ?_) (a' := ?_) #[true, true, true, true, true, false, false, false, false, false, false, false, false, false, false, false, false] rfl rfl (by kernel_rfl) (fun _ _ _ h => h) (Or.inl ⟨by rfl, ?_⟩) ?_ ?_
            rotate_left
            · intro w'
              go_simp
              with_reducible rfl
            rotate_left
            · simp only [Act.put, List.setIfInBounds_toArray, List.set_cons_zero, List.set_cons_succ]
              rfl
            refine pure_ (i := 5) (N := some 106) (v := ?_) (a' := ?_) #[true, true, true, true, true, true, false, false, false, false, false, false, false, false, false, false, false] rfl rfl (by kernel_rfl) (fun _ _ _ h => h) (Or.inl ⟨by rfl, ?_⟩) ?_ ?_
            rotate_left
            · intro w'
              go_simp
              with_reducible rfl
            rotate_left
            · simp only [Act.put, List.setIfInBounds_toArray, List.set_cons_zero, List.set_cons_succ]
              rfl
            refine pure_ (i := 6) (N := some 107) (v := ?_) (a' := ?_) #[true, true, true, true, true, true, true, false, false, false, false, false, false, false, false, false, false] rfl rfl (by kernel_rfl) (fun _ _ _ h => h) (Or.inl ⟨by rfl, ?_⟩) ?_ ?_
            rotate_left
            · intro w'
              go_simp
              with_reducible rfl
            rotate_left
            · simp only [Act.put, List.setIfInBounds_toArray, List.set_cons_zero, List.set_cons_succ]
              rfl
            refine pure_ (i := 7) (N := some 108) (v := ?_) (a' := ?_) #[true, true, true, true, true, true, true, true, false, false, false, false, false, false, false, false, false] rfl rfl (by kernel_rfl) (fun _ _ _ h => h) (Or.inl ⟨by rfl, ?_⟩) ?_ ?_
            rotate_left
            · intro w'
              go_simp
              with_reducible rfl
            rotate_left
            · simp only [Act.put, List.setIfInBounds_toArray, List.set_cons_zero, List.set_cons_succ]
              rfl
            refine pure_ (i := 8) (N := some 109) (v := ?_) (a' := ?_) #[true, true, true, true, true, true, true, true, true, false, false, false, false, false, false, false, false] rfl rfl (by kernel_rfl) (fun _ _ _ h => h) (Or.inl ⟨by rfl, ?_⟩) ?_ ?_
            rotate_left
            · intro w'
              go_simp
              with_reducible rfl
            rotate_left
            · simp only [Act.put, List.setIfInBounds_toArray, List.set_cons_zero, List.set_cons_succ]
              rfl
            refine pure_ (i := 9) (N := some 110) (v := ?_) (a' := ?_) #[true, true, true, true, true, true, true, true, true, true, false, false, false, false, false, false, false] rfl rfl (by kernel_rfl) (fun _ _ _ h => h) (Or.inl ⟨by rfl, ?_⟩) ?_ ?_
            rotate_left
            · intro w'
              go_simp
              with_reducible rfl
            rotate_left
            · simp only [Act.put, List.setIfInBounds_toArray, List.set_cons_zero, List.set_cons_succ]
              rfl
            refine pure_ (i := 11) (N := some 112) (v := ?_) (a' := ?_) #[true, true, true, true, true, true, true, true, true, true, false, true, false, false, false, false, false] rfl rfl (by kernel_rfl) (fun _ _ _ h => h) (Or.inl ⟨by rfl, ?_⟩) ?_ ?_
            rotate_left
            · intro w'
              go_simp
              with_reducible rfl
            rotate_left
            · simp only [Act.put, List.setIfInBounds_toArray, List.set_cons_zero, List.set_cons_succ]
              rfl
            refine pure_ (i := 12) (N := some 113) (v := ?_) (a' := ?_) #[true, true, true, true, true, true, true, true, true, true, false, true, true, false, false, false, false] rfl rfl (by kernel_rfl) (fun _ _ _ h => h) (Or.inl ⟨by rfl, ?_⟩) ?_ ?_
            rotate_left
            · intro w'
              go_simp
              with_reducible rfl
            rotate_left
            · simp only [Act.put, List.setIfInBounds_toArray, List.set_cons_zero, List.set_cons_succ]
              rfl
            refine pure_ (i := 13) (N := some 114) (v := ?_) (a' := ?_) #[true, true, true, true, true, true, true, true, true, true, false, true, true, true, false, false, false] rfl rfl (by kernel_rfl) (fun _ _ _ h => h) (Or.inl ⟨by rfl, ?_⟩) ?_ ?_
            rotate_left
            · intro w'
              go_simp
              with_reducible rfl
            rotate_left
            · simp only [Act.put, List.setIfInBounds_toArray, List.set_cons_zero, List.set_cons_succ]
              rfl
            refine take_ (i := 14) (N := some 115) (v := ?_) (a' := ?_) #[true, true, true, true, true, true, true, true, true, true, false, true, true, true, true, false, false] rfl rfl (by kernel_rfl) (fun _ _ _ h => h) (Or.inl ⟨by rfl, ?_⟩) hHeld ?_ ?_
            rotate_left
            · intro w' hS_
              obtain ⟨c6_, c7_, c8_, c9_, c10_, c11_⟩ := tail_cells (blk_below HN2.out hS_)
              go_simp
              with_reducible rfl
            rotate_left
            · simp only [Act.put, List.setIfInBounds_toArray, List.set_cons_zero, List.set_cons_succ]
              rfl
            refine one_ (i := 10) (N := some 111) #[true, true, true, true, true, true, true, true, true, true, true, true, true, true, true, false, false] rfl rfl (by kernel_rfl) (by decide) (fun K_ hK_ => ?_)
            refine call_ 31 _ (by rfl) rfl (by go_simp; rfl) ?_
            refine (meter_Counts.calls l (clrC c k) g1 _ (blk_below HM2.out hHeld)).mono ?_
            rintro e_ wy ⟨rfl, hb_⟩
            refine ⟨_, rfl, ?_⟩
            have hHeld2 := below_step hHeld hb_
            refine hK_.out _ _ (hHeld2) (fun hHeld => ?_)
            clear hK_
            refine norm_ (a' := ?_) ?_ ?_
            rotate_left
            · simp only [Act.put, List.setIfInBounds_toArray, List.set_cons_zero, List.set_cons_succ]
              rfl
            refine pure_ (i := 15) (N := some 116) (v := ?_) (a' := ?_) #[true, true, true, true, true, true, true, true, true, true, true, true, true, true, true, true, false] rfl rfl (by kernel_rfl) (fun _ _ _ h => h) (Or.inl ⟨by rfl, ?_⟩) ?_ ?_
            rotate_left
            · intro w'
              go_simp
              with_reducible rfl
            rotate_left
            · simp only [Act.put, List.setIfInBounds_toArray, List.set_cons_zero, List.set_cons_succ]
              rfl
            refine pure_ (i := 16) (N := some 117) (v := ?_) (a' := ?_) #[true, true, true, true, true, true, true, true, true, true, true, true, true, true, true, true, true] rfl rfl (by kernel_rfl) (fun _ _ _ h => h) (Or.inl ⟨by rfl, ?_⟩) ?_ ?_
            rotate_left
            · intro w'
              go_simp
              with_reducible rfl
            rotate_left
            · simp only [Act.put, List.setIfInBounds_toArray, List.set_cons_zero, List.set_cons_succ]
              rfl
            refine done_ (by kernel_rfl) ?_
            go_wp2
            go_roundg k1
            case measure => omega
            case rel => exact ⟨i + 1, (clrC c k), (by first | rfl | rw [HW.out]), ⟨by have := HK.out; omega⟩, ⟨blk_below HM2.out hHeld⟩, ⟨blk_below HN2.out hHeld⟩, ⟨clrC_mays HC.out⟩, ⟨below_step HB2.out hHeld⟩⟩
        · have c5b0 : decide (i < (l1.length : Int)) = false := decide_eq_false c5
          clear HM HN HC HR1 HY c5
          go_wp2_with (first | (go_at_call 27; refine (meter_Tick.nil _).mono ?_; rintro e_ wa ⟨⟨va_, rfl⟩, nd, hw_⟩; have HB1 : Aside0 (Below w.heap.size w wa) := ⟨by subst hw_; exact pw_below_drewN HB.out nd⟩; clear hw_ HB) | (go_at_call 29; refine (meter_Count.bad none 0 _ rfl).mono ?_; rintro e_ wb ⟨rfl, nd2, hw_⟩; have HB2 : Aside0 (Below w.heap.size w wb) := ⟨by subst hw_; exact pw_below_drewN HB1.out nd2⟩; clear hw_ HB1) | (go_at_call 21; refine (gantletlaw18_alive.calls _).mono ?_; rintro e_ wc ⟨rfl, hb_⟩; have HB3 := Aside0.mk (below_step HB2.out hb_); clear HB2 hb_) | (go_at_call 25; refine (meter_Clear.bad none 0 _ rfl).mono ?_; rintro e_ wd ⟨rfl, nd3, hw_⟩; have HB4 : Aside0 (Below w.heap.size w wd) := ⟨by subst hw_; exact pw_below_drewN HB3.out nd3⟩; clear hw_ HB3) | (go_at_call 31; refine (meter_Counts.nil _).mono ?_; rintro e_ we ⟨rfl, hb_⟩; have HB5 := Aside0.mk (below_step HB4.out hb_); clear HB4 hb_))
          go_ret
          exact ⟨rfl, HB5.out⟩
def gantletlaw18_MeterPlays.f (a0 a1 a2 a3 a4 a5 : Int) (l1 : List S40) : Option Bool := if l1.all (fun x => decide (0 ≤ x.f0 ∧ x.f0 < 256)) = true then some true else none
theorem gantletlaw18_MeterPlays.calls (a0 a1 a2 a3 a4 a5 : Int) (A1 : Option Addr) (c1 : Nat) (l1 : List S40) (r : Bool) (w : World) (hr1 : Kd.C k40 w A1 l1.length l1) (hc1 : l1.length ≤ c1) (h : gantletlaw18_MeterPlays.f a0 a1 a2 a3 a4 a5 l1 = some r) :
    Calls Try.prog 4 #[.agg #[.int .i64 a0, .int .i64 a1, .int .i64 a2, .int .i64 a3, .int .i64 a4, .int .i64 a5], .slice A1 l1.length c1] w fun e w' => e = .returned (.bool r) ∧ Below w.heap.size w w' := by
  unfold gantletlaw18_MeterPlays.f at h
  by_cases hall : l1.all (fun x => decide (0 ≤ x.f0 ∧ x.f0 < 256)) = true
  · rw [if_pos hall] at h
    obtain rfl := Option.some.inj h
    exact gantletlaw18_MeterPlays.six (a0, a1, a2, a3, a4, a5) A1 c1 l1 w hr1 hc1 hall
  · rw [if_neg hall] at h; cases h
end Go.Proofs.Ytjkadheknjkkbaa.QR
