-- written by a program of this session (wip/tools) out of the translation's own print and the session's texts; nothing here is trusted: Lean checks it
import Derived.Test.YtlbjhbanfpnogaaDoorQJ0
import Derived.Test.YtlbjhbanfpnogaaDoorQJ1
import Derived.Test.YtlbjhbanfpnogaaDoorQJ3
namespace Go.Proofs.YtlbjhbanfpnogaaDoor.QJ
open Go.Proofs.YtlbjhbanfpnogaaDoor.QH Go.Proofs.YtlbjhbanfpnogaaDoor.QI
open Go.RowKit Go.Proofs.YtlbjhbanfpnogaaDoorW.PrintWords Go.Proofs.YtlbjhbanfpnogaaDoorW.PrintLast Go.Proofs.YtlbjhbanfpnogaaDoorW.PrintMore
attribute [local go_sem] max2_int min2_int max_two min_two max_three min_three max_four min_four   -- for this text's walks alone
set_option linter.unusedVariables false
set_option linter.unusedSimpArgs false

attribute [local go_sem high] eqA44
/-! ### item_Decode: function 33 (the session's own) -/
theorem info44 : (Tryd.prog.info? 44).map (·.size) = some 4 := by kernel_rfl
theorem info9p : ∃ j, Tryd.prog.info? 9 = some j ∧ j.size ≠ 0 := by
 have h : (Tryd.prog.info? 9).map (fun j => j.size) = some 1 := by kernel_rfl
 obtain ⟨j, h1, h2⟩ := Option.map_eq_some_iff.1 h
 exact ⟨j, h1, by rw [h2]; decide⟩
/-- Is a text of an item left as it is? -/
def itSkip (kd n e : Int) (i : Nat) : Bool := if e = 0 then (if 1 ≤ kd ∧ kd ≤ 3 then (if i = 0 then decide (0 < n) else false) else true) else true
def itBound (most : Int) : Int := if 65536 < most then 65536 else most
def itStep (k : Nat) (l : List Int) (most : Int) (sk : Bool) (q e : Int) : Option (ByteArray × Int × Int) := if sk = true then some ((⟨#[]⟩ : ByteArray), q, e) else (if 0 ≤ q ∧ q ≤ l.length then ((literal_Decode.f k (l.drop q.toNat) (itBound most)).bind fun r => some (r.1, wrap64 (q + r.2.1), r.2.2)) else none)
def itEnd (kd n : Int) (nm vl : ByteArray) (q e : Int) : Int × Int × ByteArray × ByteArray × Int × Int := if e = 0 then (if kd = 0 ∧ n = 0 then (0, 0, (⟨#[]⟩ : ByteArray), (⟨#[]⟩ : ByteArray), 0, 3) else (kd, n, nm, vl, q, 0)) else (0, 0, (⟨#[]⟩ : ByteArray), (⟨#[]⟩ : ByteArray), 0, e)
def item_Decode.f (k : Nat) (l : List Int) (most : Int) : Option (Int × Int × ByteArray × ByteArray × Int × Int) := if (l.length : Int) = 0 then some (0, 0, (⟨#[]⟩ : ByteArray), (⟨#[]⟩ : ByteArray), 0, 2) else ((item_kind.f (rd l 0)).bind fun kd => (prefix_Decode.f k l (shB kd.toNat : Int)).bind fun d => (itStep k l most (itSkip kd d.1 d.2.2 0) d.2.1 d.2.2).bind fun x => (itStep k l most (itSkip kd d.1 x.2.2 1) x.2.1 x.2.2).bind fun y => some (itEnd kd d.1 x.1 y.1 y.2.1 y.2.2))
theorem itStep.mono (k : Nat) (l : List Int) (most : Int) (sk : Bool) (q e : Int) : LeO (itStep k l most sk q e) (itStep (k + 1) l most sk q e) := by
 unfold itStep
 exact LeO.ite (LeO.refl _) (LeO.ite (LeO.bind (literal_Decode.mono _ _ _) (fun _ => LeO.refl _)) (LeO.none _))
theorem item_Decode.mono : ∀ a0 a1 k, LeO (item_Decode.f k a0 a1) (item_Decode.f (k + 1) a0 a1) := by
 intro a0 a1 k
 unfold item_Decode.f
 exact LeO.ite (LeO.refl _) (LeO.bind (LeO.refl _) (fun _ => LeO.bind (prefix_Decode.mono _ _ _) (fun _ => LeO.bind (itStep.mono _ _ _ _ _ _) (fun _ => LeO.bind (itStep.mono _ _ _ _ _ _) (fun _ => LeO.refl _)))))
/-- What lies in memory while an item is read: the result ga, the item g, the row of pointers gp. -/
structure ItW (w : World) (ga g gp : Nat) (kd n : Int) (nm vl : ByteArray) (W : World) : Prop where
 be : Below w.heap.size w W
 ra : W.heap[ga]? = some (.cells #[.int .i64 0, .int .i64 0, .string ⟨#[]⟩, .string ⟨#[]⟩] 44 (0, 0))
 it : W.heap[g]? = some (.cells #[.int .i64 kd, .int .i64 n, .string nm, .string vl] 44 (0, 0))
 ps : W.heap[gp]? = some (.cells #[.pointer (some ⟨g, 2, none⟩), .pointer (some ⟨g, 3, none⟩)] 81 (0, 0))
 ne : w.heap.size ≤ ga ∧ ga ≠ g ∧ w.heap.size ≤ g ∧ gp ≠ g
theorem ItW.below {w W W' : World} {ga g gp : Nat} {kd n : Int} {nm vl : ByteArray} (h : ItW w ga g gp kd n nm vl W) (hb : Below W.heap.size W W') : ItW w ga g gp kd n nm vl W' :=
 ⟨below_step h.be hb, blk_below h.ra hb, blk_below h.it hb, blk_below h.ps hb, h.ne⟩
theorem ItW.put0 {w W : World} {ga g gp : Nat} {kd n : Int} {nm vl : ByteArray} (h : ItW w ga g gp kd n nm vl W) (s : ByteArray) : ItW w ga g gp kd n s vl (W.setCell ⟨g, 2, none⟩ (.string s)) :=
 ⟨h.be.setCell (p := ⟨g, 2, none⟩) h.ne.2.2.1 _, blk_far h.ra (p := ⟨g, 2, none⟩) h.ne.2.1 _, (blk_put h.it 2 _ rfl).trans rfl, blk_far h.ps (p := ⟨g, 2, none⟩) h.ne.2.2.2 _, h.ne⟩
theorem ItW.put1 {w W : World} {ga g gp : Nat} {kd n : Int} {nm vl : ByteArray} (h : ItW w ga g gp kd n nm vl W) (s : ByteArray) : ItW w ga g gp kd n nm s (W.setCell ⟨g, 3, none⟩ (.string s)) :=
 ⟨h.be.setCell (p := ⟨g, 3, none⟩) h.ne.2.2.1 _, blk_far h.ra (p := ⟨g, 3, none⟩) h.ne.2.1 _, (blk_put h.it 3 _ rfl).trans rfl, blk_far h.ps (p := ⟨g, 3, none⟩) h.ne.2.2.2 _, h.ne⟩
theorem four_sets {W : World} {b t : Nat} {z0 z1 z2 z3 y0 y1 y2 y3 : Value} (hz : W.heap[b]? = some (.cells #[z0, z1, z2, z3] t (0, 0))) :
  ((((W.setCell ⟨b, 0, none⟩ y0).setCell ⟨b, 1, none⟩ y1).setCell ⟨b, 2, none⟩ y2).setCell ⟨b, 3, none⟩ y3).heap[b]? = some (.cells #[y0, y1, y2, y3] t (0, 0)) :=
 (blk_put (blk_put (blk_put (blk_put hz 0 y0 rfl) 1 y1 rfl) 2 y2 rfl) 3 y3 rfl).trans rfl
theorem four_below {w W : World} {b : Nat} {y0 y1 y2 y3 : Value} (hb : Below w.heap.size w W) (hle : w.heap.size ≤ b) : Below w.heap.size w ((((W.setCell ⟨b, 0, none⟩ y0).setCell ⟨b, 1, none⟩ y1).setCell ⟨b, 2, none⟩ y2).setCell ⟨b, 3, none⟩ y3) :=
 (((hb.setCell (p := ⟨b, 0, none⟩) hle _).setCell (p := ⟨b, 1, none⟩) hle _).setCell (p := ⟨b, 2, none⟩) hle _).setCell (p := ⟨b, 3, none⟩) hle _
def Dec1 (w : World) (r1 r2 : Int) (r3 r4 : ByteArray) (r5 r6 : Int) (e : Ending) (w' : World) : Prop := e = .returned (.tuple #[.agg #[.int .i64 r1, .int .i64 r2, .string r3, .string r4], .int .i64 r5, .int .i64 r6]) ∧ Below w.heap.size w w'
/-- How far it is, behind i texts. -/
def ItS (dq de : Int) (x1 : ByteArray) (xq xe : Int) (y1 : ByteArray) (yq ye : Int) (i : Nat) (q e : Int) (nm vl : ByteArray) : Prop := (i = 0 → dq = q ∧ de = e ∧ ⟨#[]⟩ = nm ∧ ⟨#[]⟩ = vl) ∧ (i = 1 → xq = q ∧ xe = e ∧ x1 = nm ∧ ⟨#[]⟩ = vl) ∧ (i = 2 → yq = q ∧ ye = e ∧ x1 = nm ∧ y1 = vl)
theorem itStep_true {k : Nat} {l : List Int} {most q e : Int} {r : ByteArray × Int × Int} (h : itStep k l most true q e = some r) : r.1 = ⟨#[]⟩ ∧ r.2.1 = q ∧ r.2.2 = e := by
 unfold itStep at h
 rw [if_pos rfl] at h
 cases h
 exact ⟨rfl, rfl, rfl⟩
theorem itStep_false {k : Nat} {l : List Int} {most q e : Int} {r : ByteArray × Int × Int} (h : itStep k l most false q e = some r) : (0 ≤ q ∧ q ≤ l.length) ∧ ∃ u, literal_Decode.f k (l.drop q.toNat) (itBound most) = some (r.1, u, r.2.2) ∧ r.2.1 = wrap64 (q + u) := by
 unfold itStep at h
 rw [if_neg (by decide)] at h
 by_cases hq : 0 ≤ q ∧ q ≤ l.length
 ·
  rw [if_pos hq] at h
  obtain ⟨⟨s, u, f⟩, h1, h2⟩ := Option.bind_eq_some_iff.mp h
  cases h2
  exact ⟨hq, u, h1, rfl⟩
 ·
  rw [if_neg hq] at h; cases h
theorem itTexts (kk : Nat) : item_texts.f (kk : Int) = some (decide (1 ≤ (kk : Int) ∧ (kk : Int) ≤ 3)) := by
 unfold item_texts.f
 by_cases h : (kk : Int) ≥ 1
 ·
  rw [if_pos h]
  by_cases h2 : (kk : Int) ≤ 3
  ·
   rw [decide_eq_true h2, decide_eq_true ⟨h, h2⟩]
  ·
   rw [decide_eq_false h2, decide_eq_false (fun h3 => h2 h3.2)]
 ·
  rw [if_neg h, decide_eq_false (fun h3 => h h3.1)]
set_option maxHeartbeats 16000000 in
set_option maxRecDepth 100000 in
theorem item_Decode.is (k : Nat) (A0 : Option Addr) (c0 : Nat) (l0 : List Int) (a1 : Int) (r1 r2 : Int) (r3 r4 : ByteArray) (r5 r6 : Int) (w : World) (hG : GB w) (hr0 : Kd.C (Kd.int .u8) w A0 l0.length l0) (hc0 : l0.length ≤ c0) (h : item_Decode.f k l0 a1 = some (r1, r2, r3, r4, r5, r6)) :
  Calls Tryd.prog 33 #[.slice A0 l0.length c0, .int .i64 a1] w (Dec1 w r1 r2 r3 r4 r5 r6) := by
 unfold item_Decode.f at h
 have hu44 := Tryd.underlying44
 by_cases h0 : (l0.length : Int) = 0
 ·
  rw [if_pos h0] at h
  simp only [Option.some.injEq, Prod.mk.injEq] at h
  obtain ⟨rfl, rfl, rfl, rfl, rfl, rfl⟩ := h
  have b0 : ((l0.length : Int) == 0) = true := beq_iff_eq.mpr h0
  have b1 : (l0.length == 0) = true := beq_iff_eq.mpr (by omega)
  clear h0 hr0
  go_enter Tryd.func33, Tryd.ntmps33
  go_wp2_with fail
  refine bodyPost_ret (results_ctt rfl _ _ w.heap.size 44 _ (0, 0) _ rfl (blk_new w _) Tryd.underlying44 rfl info44) rfl ?_
  exact ⟨rfl, below_alloc (Below.refl _ _) _⟩
 ·
  rw [if_neg h0] at h
  obtain ⟨kd, hkd, h1⟩ := Option.bind_eq_some_iff.mp h
  obtain ⟨⟨n, dq, de⟩, hd, h2⟩ := Option.bind_eq_some_iff.mp h1
  obtain ⟨⟨x1, xq, xe⟩, hx, h3⟩ := Option.bind_eq_some_iff.mp h2
  obtain ⟨⟨y1, yq, ye⟩, hy, h4⟩ := Option.bind_eq_some_iff.mp h3
  have h5 := Option.some.inj h4
  clear h h1 h2 h3 h4
  simp only [] at hx hy h5
  obtain ⟨kk, hkk, rfl⟩ : ∃ kk : Nat, kk < 5 ∧ kd = (kk : Int) := by
   unfold item_kind.f at hkd
   by_cases hc : 0 ≤ rd l0 0 ∧ rd l0 0 < 256
   ·
    rw [if_pos hc] at hkd; exact ⟨_, kdN_lt _, (Option.some.inj hkd).symm⟩
   ·
    rw [if_neg hc] at hkd; cases hkd
  rw [Int.toNat_natCast] at hd
  have b0 : ((l0.length : Int) == 0) = false := beq_eq_false_iff_ne.mpr h0
  have b1 : (l0.length == 0) = false := beq_eq_false_iff_ne.mpr (by omega)
  have hpos : 0 < l0.length := by omega
  obtain ⟨ad, e0, hx0⟩ := Kd.at_int hr0 (0 : Int) (by omega) (by omega)
  subst e0
  rw [show ((0 : Int)).toNat = 0 from rfl, Addr.add_zero'] at hx0
  have hb1 := below_alloc (Below.refl w.heap.size w) (.cells #[.int .i64 0, .int .i64 0, .string ⟨#[]⟩, .string ⟨#[]⟩] 44)
  have hx1 := (hb1.cell (World.block_lt_of_cell? w _ hx0)).trans hx0
  have HB1 := Aside0.mk hb1
  have HA1 := Aside0.mk (blk_new w (.cells #[.int .i64 0, .int .i64 0, .string ⟨#[]⟩, .string ⟨#[]⟩] 44))
  have HG := Aside0.mk hG
  have HR0 := Aside0.mk hr0
  have HC0 := Aside0.mk hc0
  have HKD := Aside0.mk hkd
  have HD := Aside0.mk hd
  have HX := Aside0.mk hx
  have HY := Aside0.mk hy
  have HE5 := Aside0.mk h5
  have HKK := Aside0.mk hkk
  obtain ⟨i5, hi5, _, hsz5, _⟩ := info_parts info5
  obtain ⟨j9, hi9, hi9z⟩ := info9p
  have HI := Aside0.mk (And.intro hi5 hsz5)
  clear hG hr0 hkd hd hx hy h5 h0 hx0 hb1 hc0
  go_enter Tryd.func33, Tryd.ntmps33
  go_wp2_with fail
  refine (item_kind.calls (rd l0 0) (kk : Int) _ (HG.out.below HB1.out) HKD.out).mono ?_
  rintro e_ w1 ⟨rfl, hb⟩
  have HB2 := Aside0.mk (below_step HB1.out hb)
  have HA2 := Aside0.mk (blk_below HA1.out hb)
  have hbx := below_alloc (Below.refl w1.heap.size w1) (.cells #[.int .i64 (kk : Int), .int .i64 0, .string ⟨#[]⟩, .string ⟨#[]⟩] 44)
  have HBX := Aside0.mk (blk_new w1 (.cells #[.int .i64 (kk : Int), .int .i64 0, .string ⟨#[]⟩, .string ⟨#[]⟩] 44))
  have HB3 := Aside0.mk (below_step HB2.out hbx)
  have HA3 := Aside0.mk (blk_below HA2.out hbx)
  have HNE : Aside0 (w.heap.size < w1.heap.size) := ⟨blk_lt HA2.out⟩
  obtain ⟨s0, s1⟩ := (HG.out.below HB3.out).sh kk HKK.out
  have q0 : (w1.alloc (.cells #[.int .i64 (kk : Int), .int .i64 0, .string ⟨#[]⟩, .string ⟨#[]⟩] 44)).cell? ⟨w1.heap.size, 0, none⟩ = some (Value.int .i64 (kk : Int)) := (blk_cell HBX.out 0).trans rfl
  have hk5 : (kk : Int) < 5 := by omega
  have hk0 : (0 : Int) ≤ (kk : Int) := by omega
  clear hb hbx HB2 HA2 HA1 HB1 hx1 hkk
  go_wp2_with fail
  refine (prefix_Decode.calls k (some ad) c0 l0 (shB kk : Int) n dq de _ (Kd.C_below HR0.out HB3.out) HC0.out HD.out).mono ?_
  rintro e_ w2 ⟨rfl, ⟨nd, rfl⟩⟩
  have q1 : ((w1.alloc (.cells #[.int .i64 (kk : Int), .int .i64 0, .string ⟨#[]⟩, .string ⟨#[]⟩] 44)).drewN nd).cell? ⟨w1.heap.size, 1, none⟩ = some (Value.int .i64 0) := (blk_cell (HBX.out : ((w1.alloc (.cells #[.int .i64 (kk : Int), .int .i64 0, .string ⟨#[]⟩, .string ⟨#[]⟩] 44)).drewN nd).heap[w1.heap.size]? = _) 1).trans rfl
  have q1f := blk_frozen (HBX.out : ((w1.alloc (.cells #[.int .i64 (kk : Int), .int .i64 0, .string ⟨#[]⟩, .string ⟨#[]⟩] 44)).drewN nd).heap[w1.heap.size]? = _) 1
  clear s0 s1 q0
  have HW0 : Aside0 (ItW w w.heap.size w1.heap.size (w1.heap.size + 1) (kk : Int) n ⟨#[]⟩ ⟨#[]⟩ ((((w1.alloc (.cells #[.int .i64 (kk : Int), .int .i64 0, .string ⟨#[]⟩, .string ⟨#[]⟩] 44)).drewN nd).setCell ⟨w1.heap.size, 1, none⟩ (.int .i64 n)).alloc (.cells #[.pointer (some ⟨w1.heap.size, 2, none⟩), .pointer (some ⟨w1.heap.size, 3, none⟩)] 81))) := ⟨by
   have hn := HNE.out
   have hbe := HB3.out
   have hsz : (w1.alloc (.cells #[.int .i64 (kk : Int), .int .i64 0, .string ⟨#[]⟩, .string ⟨#[]⟩] 44)).heap.size = w1.heap.size + 1 := World.size_alloc _ _
   have hbz : (((w1.alloc (.cells #[.int .i64 (kk : Int), .int .i64 0, .string ⟨#[]⟩, .string ⟨#[]⟩] 44)).drewN nd).setCell ⟨w1.heap.size, 1, none⟩ (.int .i64 n)).heap.size = w1.heap.size + 1 := by rw [← hsz]; simp [World.setCell]
   have hnew := blk_new (((w1.alloc (.cells #[.int .i64 (kk : Int), .int .i64 0, .string ⟨#[]⟩, .string ⟨#[]⟩] 44)).drewN nd).setCell ⟨w1.heap.size, 1, none⟩ (.int .i64 n)) (.cells #[.pointer (some ⟨w1.heap.size, 2, none⟩), .pointer (some ⟨w1.heap.size, 3, none⟩)] 81)
   rw [hbz] at hnew
   exact ⟨below_alloc ((pw_below_drewN HB3.out nd).setCell (p := ⟨w1.heap.size, 1, none⟩) (by simp only []; omega) _) _, blk_alloc (blk_far (HA3.out : ((w1.alloc (.cells #[.int .i64 (kk : Int), .int .i64 0, .string ⟨#[]⟩, .string ⟨#[]⟩] 44)).drewN nd).heap[w.heap.size]? = _) (p := ⟨w1.heap.size, 1, none⟩) (by simp only []; omega) _) _, blk_alloc ((blk_put (HBX.out : ((w1.alloc (.cells #[.int .i64 (kk : Int), .int .i64 0, .string ⟨#[]⟩, .string ⟨#[]⟩] 44)).drewN nd).heap[w1.heap.size]? = _) 1 _ rfl).trans rfl) _, hnew, ⟨Nat.le_refl _, by omega, by omega, by omega⟩⟩⟩
  go_wp2_with fail
  obtain ⟨w5, hw5⟩ : ∃ W_ : World, W_ = ((((w1.alloc (.cells #[.int .i64 (kk : Int), .int .i64 0, .string ⟨#[]⟩, .string ⟨#[]⟩] 44)).drewN nd).setCell ⟨w1.heap.size, 1, none⟩ (.int .i64 n)).alloc (.cells #[.pointer (some ⟨w1.heap.size, 2, none⟩), .pointer (some ⟨w1.heap.size, 3, none⟩)] 81)) := ⟨_, rfl⟩
  rw [← hw5] at HW0 ⊢
  clear hw5 q1 q1f HBX HB3 HA3 HNE
  obtain ⟨g, hg⟩ : ∃ g, w1.heap.size = g := ⟨_, rfl⟩
  rw [hg] at HW0 ⊢
  clear hg
  obtain ⟨gp, hgp⟩ : ∃ q_, g + 1 = q_ := ⟨_, rfl⟩
  rw [hgp] at HW0 ⊢
  clear hgp
  obtain ⟨ga, hga⟩ : ∃ q_, w.heap.size = q_ := ⟨_, rfl⟩
  rw [hga] at HW0 ⊢
  clear hga
  go_loopg [9, 10, 42] 3 (fun kq v9 v10 v42 W_ => ∃ (i : Nat) (q e : Int) (nm vl : ByteArray), v9 = .int .i64 q ∧ v10 = .int .i64 e ∧ v42 = .int .i64 (i : Int) ∧ Aside0 (i + kq = 3 ∧ i ≤ 2) ∧ Aside0 (ItS dq de x1 xq xe y1 yq ye i q e nm vl) ∧ Aside0 (ItW w ga g gp (kk : Int) n nm vl W_))
  case atStart => exact ⟨0, dq, de, ⟨#[]⟩, ⟨#[]⟩, rfl, rfl, rfl, ⟨by omega⟩, ⟨⟨fun _ => ⟨rfl, rfl, rfl, rfl⟩, fun h_ => (by cases h_), fun h_ => (by cases h_)⟩⟩, HW0⟩
  case round =>
   clear HW0
   obtain ⟨i, q, e, nm, vl, rfl, rfl, rfl, HK, HST, HW⟩ := hrel
   have hi3 : i = 0 ∨ i = 1 ∨ i = 2 := by have := HK.out; omega
   rcases hi3 with rfl | rfl | rfl
   ·
    obtain ⟨rfl, rfl, rfl, rfl⟩ := HST.out.1 rfl
    obtain ⟨k1, hk1⟩ : ∃ q_, gk = q_ + 1 := ⟨gk - 1, by have := HK.out; omega⟩
    subst hk1
    have hix : decide (((0 : Nat) : Int) < 2) = true := by decide
    clear HST
    have p1_ : wr.cell? ⟨gp, 0, none⟩ = some (.pointer (some ⟨g, 2, none⟩)) := (blk_cell HW.out.ps 0).trans rfl
    have p0_ : wr.cell? ⟨g, 0, none⟩ = some (.int .i64 (kk : Int)) := (blk_cell HW.out.it 0).trans rfl
    by_cases he : de = 0
    ·
     have be_ : (de != 0) = false := bne_eq_false_iff_eq.mpr he
     have HE0 := Aside0.mk he
     by_cases ht : 1 ≤ (kk : Int) ∧ (kk : Int) ≤ 3
     ·
      have HTX : Aside0 (item_texts.f (kk : Int) = some true) := ⟨by rw [itTexts, decide_eq_true ht]⟩
      have HT0 := Aside0.mk ht
      clear ht he
      have hpt := fun (m_ : Nat) => run_eql_ptr_same (P := Tryd.prog) (wr.drewN m_) (⟨g, 2, none⟩ : Addr) Tryd.underlying81 hi9
      by_cases hn : 0 < n
      ·
       have bn_ : decide (0 < n) = true := decide_eq_true hn
       have HNT := Aside0.mk hn
       clear hn
       have hsk : itSkip (kk : Int) n de 0 = true := by unfold itSkip; rw [if_pos HE0.out, if_pos HT0.out, if_pos rfl, decide_eq_true HNT.out]
       have hs := HX.out
       rw [hsk] at hs
       have HE := Aside0.mk (itStep_true hs)
       clear hs hsk
       go_wp2_with fail
       refine (item_texts.calls (kk : Int) true _ HTX.out).mono ?_
       rintro e_ w3 ⟨rfl, ⟨nd, rfl⟩⟩
       go_wp2_with fail
       go_roundg k1
       case measure => omega
       case rel => exact ⟨1, dq, de, ⟨#[]⟩, ⟨#[]⟩, rfl, rfl, (by first | rfl | simp), ⟨by have := HK.out; omega⟩, ⟨⟨fun h_ => (by cases h_), fun _ => ⟨HE.out.2.1, HE.out.2.2, HE.out.1, rfl⟩, fun h_ => (by cases h_)⟩⟩, ⟨HW.out.below (pw_below_drewN (Below.refl _ _) nd)⟩⟩
      ·
       have bn_ : decide (0 < n) = false := decide_eq_false hn
       have HNF := Aside0.mk hn
       clear hn
       have hsk : itSkip (kk : Int) n de 0 = false := by unfold itSkip; rw [if_pos HE0.out, if_pos HT0.out, if_pos rfl, decide_eq_false HNF.out]
       have hs := HX.out
       rw [hsk] at hs
       obtain ⟨⟨hq0, hq1⟩, u, hL, hu⟩ := itStep_false hs
       simp only [] at hL hu
       have HL := Aside0.mk hL
       have HU := Aside0.mk hu
       obtain ⟨A5, hcut5, hA5, hC5⟩ := print_drop_of (P := Tryd.prog) (Value.int .u8) 0 22 5 .i64 Tryd.underlying22 hi5 hsz5 (some ad) c0 l0 dq hq0 hq1 HC0.out
       have HR5 := Aside0.mk (Kd.C_of_reads (h1 := fun _ => rfl) (hA5 _ (Kd.reads_of_C HR0.out)))
       have HC5 := Aside0.mk hC5
       have hq2 : dq.toNat ≤ l0.length := by omega
       clear hs hsk hL hu hA5 hC5
       by_cases hm : 65536 < a1
       ·
        have hmb := eq_true hm
        have HLM : Aside0 (literal_Decode.f k (l0.drop dq.toNat) 65536 = some (x1, u, xe)) := ⟨by rw [← HL.out]; unfold itBound; rw [if_pos hm]⟩
        clear hm HL
        go_wp2_with fail
        refine (item_texts.calls (kk : Int) true _ HTX.out).mono ?_
        rintro e_ w3 ⟨rfl, ⟨nd, rfl⟩⟩
        have HW3 := Aside0.mk (HW.out.below (pw_below_drewN (Below.refl _ _) nd))
        go_wp2_with fail
        (try rw [show l0.length - dq.toNat = (l0.drop dq.toNat).length from List.length_drop.symm])
        refine (literal_Decode.calls k A5 _ (l0.drop dq.toNat) 65536 x1 u xe _ (HG.out.below HW3.out.be) (Kd.C_below HR5.out HW3.out.be) HC5.out HLM.out).mono ?_
        rintro e_ w4 ⟨rfl, hb4⟩
        have HW4 := Aside0.mk (HW3.out.below hb4)
        have g0_ : w4.cell? ⟨g, 2, none⟩ = some (.string ⟨#[]⟩) := (blk_cell HW4.out.it 2).trans rfl
        have g1_ := blk_frozen HW4.out.it 2
        clear hb4 p0_ p1_ hpt hcut5
        go_wp2_with fail
        go_roundg k1
        case measure => omega
        case rel => exact ⟨1, xq, xe, x1, ⟨#[]⟩, (by rw [HU.out]), rfl, (by first | rfl | simp), ⟨by have := HK.out; omega⟩, ⟨⟨fun h_ => (by cases h_), fun _ => ⟨rfl, rfl, rfl, rfl⟩, fun h_ => (by cases h_)⟩⟩, ⟨HW4.out.put0 x1⟩⟩
       ·
        have hmb := eq_false hm
        have HLM : Aside0 (literal_Decode.f k (l0.drop dq.toNat) a1 = some (x1, u, xe)) := ⟨by rw [← HL.out]; unfold itBound; rw [if_neg hm]⟩
        clear hm HL
        go_wp2_with fail
        refine (item_texts.calls (kk : Int) true _ HTX.out).mono ?_
        rintro e_ w3 ⟨rfl, ⟨nd, rfl⟩⟩
        have HW3 := Aside0.mk (HW.out.below (pw_below_drewN (Below.refl _ _) nd))
        go_wp2_with fail
        (try rw [show l0.length - dq.toNat = (l0.drop dq.toNat).length from List.length_drop.symm])
        refine (literal_Decode.calls k A5 _ (l0.drop dq.toNat) a1 x1 u xe _ (HG.out.below HW3.out.be) (Kd.C_below HR5.out HW3.out.be) HC5.out HLM.out).mono ?_
        rintro e_ w4 ⟨rfl, hb4⟩
        have HW4 := Aside0.mk (HW3.out.below hb4)
        have g0_ : w4.cell? ⟨g, 2, none⟩ = some (.string ⟨#[]⟩) := (blk_cell HW4.out.it 2).trans rfl
        have g1_ := blk_frozen HW4.out.it 2
        clear hb4 p0_ p1_ hpt hcut5
        go_wp2_with fail
        go_roundg k1
        case measure => omega
        case rel => exact ⟨1, xq, xe, x1, ⟨#[]⟩, (by rw [HU.out]), rfl, (by first | rfl | simp), ⟨by have := HK.out; omega⟩, ⟨⟨fun h_ => (by cases h_), fun _ => ⟨rfl, rfl, rfl, rfl⟩, fun h_ => (by cases h_)⟩⟩, ⟨HW4.out.put0 x1⟩⟩
     ·
      have HTX : Aside0 (item_texts.f (kk : Int) = some false) := ⟨by rw [itTexts, decide_eq_false ht]⟩
      have HT0 := Aside0.mk ht
      clear ht he
      have hsk : itSkip (kk : Int) n de 0 = true := by unfold itSkip; rw [if_pos HE0.out, if_neg HT0.out]
      have hs := HX.out
      rw [hsk] at hs
      have HE := Aside0.mk (itStep_true hs)
      clear hs hsk
      go_wp2_with fail
      refine (item_texts.calls (kk : Int) false _ HTX.out).mono ?_
      rintro e_ w3 ⟨rfl, ⟨nd, rfl⟩⟩
      go_wp2_with fail
      go_roundg k1
      case measure => omega
      case rel => exact ⟨1, dq, de, ⟨#[]⟩, ⟨#[]⟩, rfl, rfl, (by first | rfl | simp), ⟨by have := HK.out; omega⟩, ⟨⟨fun h_ => (by cases h_), fun _ => ⟨HE.out.2.1, HE.out.2.2, HE.out.1, rfl⟩, fun h_ => (by cases h_)⟩⟩, ⟨HW.out.below (pw_below_drewN (Below.refl _ _) nd)⟩⟩
    ·
     have be_ : (de != 0) = true := bne_iff_ne.mpr he
     have HE0 := Aside0.mk he
     clear he
     have hsk : itSkip (kk : Int) n de 0 = true := by unfold itSkip; rw [if_neg HE0.out]
     have hs := HX.out
     rw [hsk] at hs
     have HE := Aside0.mk (itStep_true hs)
     clear hs hsk
     go_wp2_with fail
     go_roundg k1
     case measure => omega
     case rel => exact ⟨1, dq, de, ⟨#[]⟩, ⟨#[]⟩, rfl, rfl, (by first | rfl | simp), ⟨by have := HK.out; omega⟩, ⟨⟨fun h_ => (by cases h_), fun _ => ⟨HE.out.2.1, HE.out.2.2, HE.out.1, rfl⟩, fun h_ => (by cases h_)⟩⟩, HW⟩
   ·
    obtain ⟨rfl, rfl, rfl, rfl⟩ := HST.out.2.1 rfl
    obtain ⟨k1, hk1⟩ : ∃ q_, gk = q_ + 1 := ⟨gk - 1, by have := HK.out; omega⟩
    subst hk1
    have hix : decide (((1 : Nat) : Int) < 2) = true := by decide
    clear HST
    have p1_ : wr.cell? ⟨gp, 1, none⟩ = some (.pointer (some ⟨g, 3, none⟩)) := (blk_cell HW.out.ps 1).trans rfl
    have p0_ : wr.cell? ⟨g, 0, none⟩ = some (.int .i64 (kk : Int)) := (blk_cell HW.out.it 0).trans rfl
    by_cases he : xe = 0
    ·
     have be_ : (xe != 0) = false := bne_eq_false_iff_eq.mpr he
     have HE0 := Aside0.mk he
     by_cases ht : 1 ≤ (kk : Int) ∧ (kk : Int) ≤ 3
     ·
      have HTX : Aside0 (item_texts.f (kk : Int) = some true) := ⟨by rw [itTexts, decide_eq_true ht]⟩
      have HT0 := Aside0.mk ht
      clear ht he
      have hpt := fun (m_ : Nat) => run_eql_ptr_other (P := Tryd.prog) (wr.drewN m_) (a := ⟨g, 3, none⟩) (b := ⟨g, 2, none⟩) Tryd.underlying81 hi9 hi9z (by simp) HW.out.it HW.out.it
      have hsk : itSkip (kk : Int) n xe 1 = false := by unfold itSkip; rw [if_pos HE0.out, if_pos HT0.out, if_neg (by decide)]
      have hs := HY.out
      rw [hsk] at hs
      obtain ⟨⟨hq0, hq1⟩, u, hL, hu⟩ := itStep_false hs
      simp only [] at hL hu
      have HL := Aside0.mk hL
      have HU := Aside0.mk hu
      obtain ⟨A5, hcut5, hA5, hC5⟩ := print_drop_of (P := Tryd.prog) (Value.int .u8) 0 22 5 .i64 Tryd.underlying22 hi5 hsz5 (some ad) c0 l0 xq hq0 hq1 HC0.out
      have HR5 := Aside0.mk (Kd.C_of_reads (h1 := fun _ => rfl) (hA5 _ (Kd.reads_of_C HR0.out)))
      have HC5 := Aside0.mk hC5
      have hq2 : xq.toNat ≤ l0.length := by omega
      clear hs hsk hL hu hA5 hC5
      by_cases hm : 65536 < a1
      ·
       have hmb := eq_true hm
       have HLM : Aside0 (literal_Decode.f k (l0.drop xq.toNat) 65536 = some (y1, u, ye)) := ⟨by rw [← HL.out]; unfold itBound; rw [if_pos hm]⟩
       clear hm HL
       go_wp2_with fail
       refine (item_texts.calls (kk : Int) true _ HTX.out).mono ?_
       rintro e_ w3 ⟨rfl, ⟨nd, rfl⟩⟩
       have HW3 := Aside0.mk (HW.out.below (pw_below_drewN (Below.refl _ _) nd))
       go_wp2_with fail
       (try rw [show l0.length - xq.toNat = (l0.drop xq.toNat).length from List.length_drop.symm])
       refine (literal_Decode.calls k A5 _ (l0.drop xq.toNat) 65536 y1 u ye _ (HG.out.below HW3.out.be) (Kd.C_below HR5.out HW3.out.be) HC5.out HLM.out).mono ?_
       rintro e_ w4 ⟨rfl, hb4⟩
       have HW4 := Aside0.mk (HW3.out.below hb4)
       have g0_ : w4.cell? ⟨g, 3, none⟩ = some (.string ⟨#[]⟩) := (blk_cell HW4.out.it 3).trans rfl
       have g1_ := blk_frozen HW4.out.it 3
       clear hb4 p0_ p1_ hpt hcut5
       go_wp2_with fail
       go_roundg k1
       case measure => omega
       case rel => exact ⟨2, yq, ye, x1, y1, (by rw [HU.out]), rfl, (by first | rfl | simp), ⟨by have := HK.out; omega⟩, ⟨⟨fun h_ => (by cases h_), fun h_ => (by cases h_), fun _ => ⟨rfl, rfl, rfl, rfl⟩⟩⟩, ⟨HW4.out.put1 y1⟩⟩
      ·
       have hmb := eq_false hm
       have HLM : Aside0 (literal_Decode.f k (l0.drop xq.toNat) a1 = some (y1, u, ye)) := ⟨by rw [← HL.out]; unfold itBound; rw [if_neg hm]⟩
       clear hm HL
       go_wp2_with fail
       refine (item_texts.calls (kk : Int) true _ HTX.out).mono ?_
       rintro e_ w3 ⟨rfl, ⟨nd, rfl⟩⟩
       have HW3 := Aside0.mk (HW.out.below (pw_below_drewN (Below.refl _ _) nd))
       go_wp2_with fail
       (try rw [show l0.length - xq.toNat = (l0.drop xq.toNat).length from List.length_drop.symm])
       refine (literal_Decode.calls k A5 _ (l0.drop xq.toNat) a1 y1 u ye _ (HG.out.below HW3.out.be) (Kd.C_below HR5.out HW3.out.be) HC5.out HLM.out).mono ?_
       rintro e_ w4 ⟨rfl, hb4⟩
       have HW4 := Aside0.mk (HW3.out.below hb4)
       have g0_ : w4.cell? ⟨g, 3, none⟩ = some (.string ⟨#[]⟩) := (blk_cell HW4.out.it 3).trans rfl
       have g1_ := blk_frozen HW4.out.it 3
       clear hb4 p0_ p1_ hpt hcut5
       go_wp2_with fail
       go_roundg k1
       case measure => omega
       case rel => exact ⟨2, yq, ye, x1, y1, (by rw [HU.out]), rfl, (by first | rfl | simp), ⟨by have := HK.out; omega⟩, ⟨⟨fun h_ => (by cases h_), fun h_ => (by cases h_), fun _ => ⟨rfl, rfl, rfl, rfl⟩⟩⟩, ⟨HW4.out.put1 y1⟩⟩
     ·
      have HTX : Aside0 (item_texts.f (kk : Int) = some false) := ⟨by rw [itTexts, decide_eq_false ht]⟩
      have HT0 := Aside0.mk ht
      clear ht he
      have hsk : itSkip (kk : Int) n xe 1 = true := by unfold itSkip; rw [if_pos HE0.out, if_neg HT0.out]
      have hs := HY.out
      rw [hsk] at hs
      have HE := Aside0.mk (itStep_true hs)
      clear hs hsk
      go_wp2_with fail
      refine (item_texts.calls (kk : Int) false _ HTX.out).mono ?_
      rintro e_ w3 ⟨rfl, ⟨nd, rfl⟩⟩
      go_wp2_with fail
      go_roundg k1
      case measure => omega
      case rel => exact ⟨2, xq, xe, x1, ⟨#[]⟩, rfl, rfl, (by first | rfl | simp), ⟨by have := HK.out; omega⟩, ⟨⟨fun h_ => (by cases h_), fun h_ => (by cases h_), fun _ => ⟨HE.out.2.1, HE.out.2.2, rfl, HE.out.1⟩⟩⟩, ⟨HW.out.below (pw_below_drewN (Below.refl _ _) nd)⟩⟩
    ·
     have be_ : (xe != 0) = true := bne_iff_ne.mpr he
     have HE0 := Aside0.mk he
     clear he
     have hsk : itSkip (kk : Int) n xe 1 = true := by unfold itSkip; rw [if_neg HE0.out]
     have hs := HY.out
     rw [hsk] at hs
     have HE := Aside0.mk (itStep_true hs)
     clear hs hsk
     go_wp2_with fail
     go_roundg k1
     case measure => omega
     case rel => exact ⟨2, xq, xe, x1, ⟨#[]⟩, rfl, rfl, (by first | rfl | simp), ⟨by have := HK.out; omega⟩, ⟨⟨fun h_ => (by cases h_), fun h_ => (by cases h_), fun _ => ⟨HE.out.2.1, HE.out.2.2, rfl, HE.out.1⟩⟩⟩, HW⟩
   ·
    obtain ⟨rfl, rfl, rfl, rfl⟩ := HST.out.2.2 rfl
    have hix : decide (((2 : Nat) : Int) < 2) = false := by decide
    clear HST
    have p0_ : wr.cell? ⟨g, 0, none⟩ = some (.int .i64 (kk : Int)) := (blk_cell HW.out.it 0).trans rfl
    have r0_ : wr.cell? ⟨ga, 0, none⟩ = some (.int .i64 0) := (blk_cell HW.out.ra 0).trans rfl
    have f0_ := blk_frozen HW.out.ra 0
    have r1_ : wr.cell? ⟨ga, 1, none⟩ = some (.int .i64 0) := (blk_cell HW.out.ra 1).trans rfl
    have f1_ := blk_frozen HW.out.ra 1
    have r2_ : wr.cell? ⟨ga, 2, none⟩ = some (.string ⟨#[]⟩) := (blk_cell HW.out.ra 2).trans rfl
    have f2_ := blk_frozen HW.out.ra 2
    have r3_ : wr.cell? ⟨ga, 3, none⟩ = some (.string ⟨#[]⟩) := (blk_cell HW.out.ra 3).trans rfl
    have f3_ := blk_frozen HW.out.ra 3
    have hE := HE5.out
    unfold itEnd at hE
    by_cases he : ye = 0
    ·
     rw [if_pos he] at hE
     have be_ : (ye == 0) = true := beq_iff_eq.mpr he
     have be2 : (ye != 0) = false := bne_eq_false_iff_eq.mpr he
     by_cases hkn : (kk : Int) = 0 ∧ n = 0
     ·
      rw [if_pos hkn] at hE
      simp only [Prod.mk.injEq] at hE
      obtain ⟨rfl, rfl, rfl, rfl, rfl, rfl⟩ := hE
      have bk_ : ((kk : Int) == 0) = true := beq_iff_eq.mpr hkn.1
      have bn_ : (n == 0) = true := beq_iff_eq.mpr hkn.2
      clear hkn he
      go_wp2_with fail
      refine bodyPost_ret (results_ctt rfl _ _ ga 44 _ (0, 0) _ rfl (four_sets HW.out.ra) Tryd.underlying44 rfl info44) rfl ?_
      exact ⟨rfl, four_below HW.out.be HW.out.ne.1⟩
     ·
      rw [if_neg hkn] at hE
      simp only [Prod.mk.injEq] at hE
      obtain ⟨rfl, rfl, rfl, rfl, rfl, rfl⟩ := hE
      have p1_ : wr.cell? ⟨g, 1, none⟩ = some (.int .i64 n) := (blk_cell HW.out.it 1).trans rfl
      have p2_ : wr.cell? ⟨g, 2, none⟩ = some (.string x1) := (blk_cell HW.out.it 2).trans rfl
      have p3_ : wr.cell? ⟨g, 3, none⟩ = some (.string y1) := (blk_cell HW.out.it 3).trans rfl
      by_cases hk0 : (kk : Int) = 0
      ·
       have bk_ : ((kk : Int) == 0) = true := beq_iff_eq.mpr hk0
       have bn_ : (n == 0) = false := beq_eq_false_iff_ne.mpr (fun h_ => hkn ⟨hk0, h_⟩)
       clear hkn he hk0
       go_wp2_with fail
       refine bodyPost_ret (results_ctt rfl _ _ ga 44 _ (0, 0) _ rfl (four_sets HW.out.ra) Tryd.underlying44 rfl info44) rfl ?_
       exact ⟨rfl, four_below HW.out.be HW.out.ne.1⟩
      ·
       have bk_ : ((kk : Int) == 0) = false := beq_eq_false_iff_ne.mpr hk0
       clear hkn he hk0
       go_wp2_with fail
       refine bodyPost_ret (results_ctt rfl _ _ ga 44 _ (0, 0) _ rfl (four_sets HW.out.ra) Tryd.underlying44 rfl info44) rfl ?_
       exact ⟨rfl, four_below HW.out.be HW.out.ne.1⟩
    ·
     rw [if_neg he] at hE
     simp only [Prod.mk.injEq] at hE
     obtain ⟨rfl, rfl, rfl, rfl, rfl, rfl⟩ := hE
     have be_ : (ye == 0) = false := beq_eq_false_iff_ne.mpr he
     have be2 : (ye != 0) = true := bne_iff_ne.mpr he
     clear he
     go_wp2_with fail
     refine bodyPost_ret (results_ctt rfl _ _ ga 44 _ (0, 0) _ rfl (four_sets HW.out.ra) Tryd.underlying44 rfl info44) rfl ?_
     exact ⟨rfl, four_below HW.out.be HW.out.ne.1⟩
theorem item_Decode.calls (k : Nat) (A0 : Option Addr) (c0 : Nat) (l0 : List Int) (a1 : Int) (r1 r2 : Int) (r3 r4 : ByteArray) (r5 r6 : Int) (w : World) (hG : GB w) (hr0 : Kd.C (Kd.int .u8) w A0 l0.length l0) (hc0 : l0.length ≤ c0) (h : item_Decode.f k l0 a1 = some (r1, r2, r3, r4, r5, r6)) :
  Calls Tryd.prog 33 #[.slice A0 l0.length c0, .int .i64 a1] w fun e w' => e = .returned (.tuple #[.agg #[.int .i64 r1, .int .i64 r2, .string r3, .string r4], .int .i64 r5, .int .i64 r6]) ∧ Below w.heap.size w w' :=
 (item_Decode.is k A0 c0 l0 a1 r1 r2 r3 r4 r5 r6 w hG hr0 hc0 h).mono fun _ _ h => h
end Go.Proofs.YtlbjhbanfpnogaaDoor.QJ
