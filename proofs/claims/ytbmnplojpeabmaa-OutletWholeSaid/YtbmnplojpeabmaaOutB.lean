/-
  Outlet's Fill, and the document's.
  Conditions: none of its own; lemmas that the claim's row rests on.
-/
import Derived.Test.YtbmnplojpeabmaaOutA
import Derived.WalkKit
namespace Go.Proofs.Ytbmnplojpeabmaa.QO
open Go.RowKit Go.Proofs.YtbmnplojpeabmaaW.PrintWords Go.Proofs.YtbmnplojpeabmaaW.PrintLast Go.Proofs.YtbmnplojpeabmaaW.PrintMore
attribute [local go_sem] max2_int min2_int max_two min_two max_three min_three max_four min_four
set_option linter.unusedVariables false
set_option linter.unusedSimpArgs false
open Go.Proofs.Ytbmnplojpeabmaa.Ob
/-- An outlet moved on: its block, its row and new memory were written. -/
def Mv (w : World) (g : Nat) (v : Value) (w' : World) (v' : Value) : Prop := Keeps w w' (Foot g v) ∧ (v'.ownBlock = v.ownBlock ∨ ∃ b, v'.ownBlock = some b ∧ w.heap.size ≤ b)
theorem Mv.refl (w : World) (g : Nat) (v : Value) : Mv w g v w v := ⟨Keeps.refl _ _, .inl rfl⟩
theorem Mv.trans {w w1 w2 : World} {g : Nat} {v v1 v2 : Value} (h : Mv w g v w1 v1) (k : Mv w1 g v1 w2 v2) : Mv w g v w2 v2 := by
  refine ⟨h.1.then_ k.1 (fun i hi => ?_), ?_⟩
  · rcases hi with rfl | hi
    · exact .inl (.inl rfl)
    · rcases h.2 with e | ⟨b, e, hb⟩
      · exact .inl (.inr (by rw [← e]; exact hi))
      · rw [e] at hi; cases hi; exact .inr hb
  · rcases k.2 with e | ⟨b, e, hb⟩
    · rcases h.2 with e2 | ⟨b, e2, hb⟩
      · exact .inl (e.trans e2)
      · exact .inr ⟨b, e.trans e2, hb⟩
    · exact .inr ⟨b, e, Nat.le_trans h.1.size hb⟩
theorem Mv.below {w w1 w2 : World} {g : Nat} {v v1 : Value} (h : Mv w g v w1 v1) (hb : Below w1.heap.size w1 w2) : Mv w g v w2 v1 := ⟨h.1.below hb, h.2⟩
theorem Mv.under {w0 w w1 : World} {g : Nat} {v v1 : Value} (h : Mv w g v w1 v1) (hB : Below w0.heap.size w0 w) (hg : w0.heap.size ≤ g) (hv : ∀ k, v.ownBlock = some k → w0.heap.size ≤ k) : Below w0.heap.size w0 w1 :=
  h.1.under hB (fun k hk => by rcases hk with rfl | hk; exact hg; exact hv k hk)
theorem Mv.ge {w0 w w1 : World} {g : Nat} {v v1 : Value} (h : Mv w g v w1 v1) (hB : Below w0.heap.size w0 w) (hv : ∀ k, v.ownBlock = some k → w0.heap.size ≤ k) : ∀ k, v1.ownBlock = some k → w0.heap.size ≤ k := by
  intro k hk
  rcases h.2 with e | ⟨b, e, hb⟩
  · exact hv k (by rw [← e]; exact hk)
  · rw [e] at hk; cases hk; exact Nat.le_trans hB.size hb
/-- What filling gives: the bytes, how many frames. -/
def fillL (E : S67 → List Int × Int) (n : Int) : List S67 → List Int → Nat → List Int × Nat
  | [], b, d => (b, d)
  | x :: r, b, d => if n ≤ (b.length : Int) then (b, d) else if (E x).2 ≠ 0 then (b, d) else fillL E n r (b ++ (E x).1) (d + 1)
theorem drop_rd {fl : List S67} {i : Int} (h0 : 0 ≤ i) (h1 : i < fl.length) : fl.drop i.toNat = rd_T67 fl i :: fl.drop (i + 1).toNat ∧ rd_T67 fl i ∈ fl := by
  have hi : i.toNat < fl.length := by omega
  have e : rd_T67 fl i = fl[i.toNat] := by simp [rd_T67, hi]
  refine ⟨?_, by rw [e]; exact List.getElem_mem hi⟩
  rw [e, List.drop_eq_getElem_cons hi, show (i + 1).toNat = i.toNat + 1 by omega]
set_option maxHeartbeats 8000000 in
set_option maxRecDepth 100000 in
theorem outlet_Fill.calls (E : S67 → List Int × Int) (k : Nat) (n : Int) (A2 : Option Addr) (c2 : Nat) (fl : List S67) (w : World) (g : Nat) (v : Value) (b : List Int) (hI : IsO w g v b)
    (hr : ∀ w' v', Mv w g v w' v' → Kd.C k67 w' A2 fl.length fl) (hE : ∀ x ∈ fl, frame_Encode.f k x.f0 x.f1 x.f2 x.f3 = some (E x)) (hL : ∀ x ∈ fl, (E x).1.length ≤ 1000) (hb : b.length + 1000 * fl.length ≤ 140737488355328) :
    Calls Try.prog 38 #[.pointer (some ⟨g, 0, none⟩), .int .i64 n, .slice A2 fl.length c2] w fun e w' => e = .returned (.int .i64 (fillL E n fl b 0).2) ∧ ∃ v', IsO w' g v' (fillL E n fl b 0).1 ∧ Mv w g v w' v' := by
  have hu67 := Try.underlying67
  have HI := Aside0.mk hI
  have HR := Aside0.mk hr
  have HE := Aside0.mk hE
  have HL := Aside0.mk hL
  have HN := Aside0.mk hb
  have HM := Aside0.mk (Mv.refl w g v)
  clear hI hr hE hL hb
  generalize hR : fillL E n fl b 0 = R
  have HR0 := Aside0.mk hR
  clear hR
  go_enter Try.func38, Try.ntmps38
  go_wp2_with (first | go_step3)
  go_loopg [7, 15] (fl.length + 1) (fun kq v7 v15 w' => ∃ (i : Int) (v' : Value) (b' : List Int), v7 = .int .i64 i ∧ v15 = .int .i64 i ∧ Aside0 (0 ≤ i ∧ i + kq = fl.length + 1) ∧ Aside0 (IsO w' g v' b') ∧ Aside0 (Mv w g v w' v') ∧ Aside0 (fillL E n (fl.drop i.toNat) b' i.toNat = R) ∧ Aside0 (b'.length + 1000 * (fl.length - i.toNat) ≤ 140737488355328))
  case atStart => exact ⟨0, v, b, rfl, rfl, ⟨by omega⟩, HI, HM, HR0, HN⟩
  case round =>
    clear HI HM HR0 HN
    obtain ⟨i, v', b', rfl, rfl, HK, HI, HM, HF, HN⟩ := hrel
    by_cases c5 : i < (fl.length : Int)
    · have h0 := HK.out.1
      have c5b0 : decide (i < (fl.length : Int)) = true := decide_eq_true c5
      have c6b0 : decide (0 ≤ i) = true := decide_eq_true h0
      obtain ⟨ad, A3, c3, e1, hx0, hx1, hx2, hx3, hc3, hrp⟩ := at_T67 (HR.out _ _ HM.out) i h0 c5
      cases e1
      have HP := Aside0.mk hrp
      have HF2 := HF.out
      obtain ⟨hd, hm⟩ := drop_rd h0 c5
      rw [hd] at HF2
      have hEx := HE.out _ hm
      have hLx := HL.out _ hm
      have HFF := Aside0.mk HF2
      clear HF HF2 hd hm hrp
      have p1 : (0 ≤ i) = True := eq_true h0
      have q1 : (i < (fl.length : Int)) = True := eq_true c5
      have hwr : wrap64 (i + 1) = i + 1 := by have := (HR.out _ _ HM.out).2.1; unfold wrap64; omega
      have HW := Aside0.mk hwr
      clear hwr
      obtain ⟨k1, hk1⟩ : ∃ j, gk = j + 1 := ⟨gk - 1, by have := HK.out; omega⟩
      subst hk1
      generalize hX : rd_T67 fl i = X at *
      obtain ⟨x0, x1, x2, x3⟩ := X
      simp only [] at hx0 hx1 hx2 hx3 hc3 hEx HP
      rcases hEq : E ⟨x0, x1, x2, x3⟩ with ⟨r1, r2⟩
      rw [hEq] at hEx hLx
      have hBA : ∀ (cs : Array Value) (nd : Nat), Below wr.heap.size wr ((wr.alloc (.cells cs 67)).drewN nd) := fun cs nd => pw_below_drewN (below_alloc (Below.refl _ _) _) nd
      have HBA := Aside0.mk hBA
      clear hBA
      by_cases c6 : n ≤ (b'.length : Int)
      · have c6b : decide (n ≤ (b'.length : Int)) = true := decide_eq_true c6
        have hfin : R = (b', i.toNat) := by have h_ := HFF.out; simp only [fillL] at h_; rw [if_pos c6] at h_; exact h_.symm
        go_wp2_with (first | go_step3 | (go_at_call 42; refine (outlet_Len.is _ g v' b' (HI.out.below (below_alloc (Below.refl _ _) _))).mono ?_; rintro e_ w1 ⟨rfl, nd, hw⟩; subst hw))
        unfold Exit.noGoto
        go_ret
        refine ⟨by rw [hfin]; simp; omega, v', by rw [hfin]; exact HI.out.below (HBA.out _ _), HM.out.below (HBA.out _ _)⟩
      · have c6b : decide (n ≤ (b'.length : Int)) = false := decide_eq_false c6
        by_cases c7 : r2 = 0
        · subst c7
          have hfin : fillL E n (fl.drop (i + 1).toNat) (b' ++ r1) (i.toNat + 1) = R := by have h_ := HFF.out; simp only [fillL] at h_; rw [if_neg c6, hEq] at h_; simpa using h_
          go_wp2_with (first | go_step3 | (go_at_call 42; refine (outlet_Len.is _ g v' b' (HI.out.below (below_alloc (Below.refl _ _) _))).mono ?_; rintro e_ w1 ⟨rfl, nd, hw⟩; subst hw) | (go_at_call 40; refine (outlet_Push.ok k _ g v' b' x0 x1 x2 A3 c3 x3 r1 (HI.out.below (HBA.out _ _)) (Kd.C_below HP.out (HBA.out _ _)) hc3 hEx (by have := HN.out; have : r1.length ≤ 1000 := hLx; have := HK.out; omega)).mono ?_; rintro e_ w2 ⟨rfl, v2, hI2, hk2, ho2⟩; have HI2 := Aside0.mk hI2; have HM2 := Aside0.mk ((HM.out.below (HBA.out _ _)).trans ⟨hk2, ho2⟩); clear hI2 hk2 ho2))
          go_roundg k1
          case measure => omega
          case rel => exact ⟨i + 1, v2, b' ++ r1, (by first | rfl | rw [HW.out]), (by first | rfl | rw [HW.out]), ⟨by have := HK.out; omega⟩, HI2, HM2, ⟨by rw [show (i + 1).toNat = i.toNat + 1 by have := HK.out; omega]; rw [show (i + 1).toNat = i.toNat + 1 by have := HK.out; omega] at hfin; exact hfin⟩, ⟨by have := HN.out; have : r1.length ≤ 1000 := hLx; have := HK.out; simp; omega⟩⟩
        · have c7b : (r2 != 0) = true := bne_iff_ne.mpr c7
          have hfin : R = (b', i.toNat) := by have h_ := HFF.out; simp only [fillL] at h_; rw [if_neg c6, hEq, if_pos c7] at h_; exact h_.symm
          go_wp2_with (first | go_step3 | (go_at_call 42; refine (outlet_Len.is _ g v' b' (HI.out.below (below_alloc (Below.refl _ _) _))).mono ?_; rintro e_ w1 ⟨rfl, nd, hw⟩; subst hw) | (go_at_call 40; refine (outlet_Push.bad k _ (some ⟨g, 0, none⟩) x0 x1 x2 A3 c3 x3 r1 r2 (Kd.C_below HP.out (HBA.out _ _)) hc3 hEx (.inr c7)).mono ?_; rintro e_ w2 ⟨rfl, hb2⟩; have HI2 := Aside0.mk ((HI.out.below (HBA.out _ _)).below hb2); have HM2 := Aside0.mk ((HM.out.below (HBA.out _ _)).below hb2); clear hb2))
          unfold Exit.noGoto
          go_ret
          refine ⟨by rw [hfin]; simp; omega, v', by rw [hfin]; exact HI2.out, HM2.out⟩
    · have c5b0 : decide (i < (fl.length : Int)) = false := decide_eq_false c5
      have hfin : R = (b', i.toNat) := by
        have h_ := HF.out
        have h2 := HK.out
        rw [List.drop_eq_nil_of_le (by omega)] at h_
        exact h_.symm
      go_wp2_with (first | go_step3)
      go_ret
      refine ⟨by rw [hfin]; have h2 := HK.out; simp; omega, v', by rw [hfin]; exact HI.out, HM.out⟩
/-- A row that is read. -/
def Rd (w : World) (v : Value) (l : List Int) : Prop := ∃ A c, v = .slice A l.length c ∧ l.length ≤ c ∧ Kd.C (Kd.int .u8) w A l.length l ∧ ∀ k, v.ownBlock = some k → k < w.heap.size
theorem Rd.below {w w1 : World} {v : Value} {l : List Int} (h : Rd w v l) (hb : Below w.heap.size w w1) : Rd w1 v l := by
  obtain ⟨A, c, e, h1, h2, h3⟩ := h
  exact ⟨A, c, e, h1, Kd.C_below h2 hb, fun k hk => Nat.lt_of_lt_of_le (h3 k hk) hb.size⟩
theorem Rd.of_Gr {w : World} {v : Value} {l : List Int} (h : Gr (Value.int .u8) u8one 5 w v l) : Rd w v l := by
  obtain ⟨A, c, e, h1, h2⟩ := h.reads 0
  exact ⟨A, c, e, h1, h2, h.lt⟩
theorem Rd.keeps {w w1 : World} {v : Value} {l : List Int} {S : Nat → Prop} (h : Rd w v l) (hk : Keeps w w1 S) (hn : ∀ k, v.ownBlock = some k → ¬ S k) : Rd w1 v l := by
  obtain ⟨A, c, rfl, h1, h2, h3⟩ := h
  exact ⟨A, c, rfl, h1, C_same h2 (fun ad e h0 => by subst e; exact hk.block _ (h3 _ ownBlock_some) (hn _ ownBlock_some)), fun k hk2 => Nat.lt_of_lt_of_le (h3 k hk2) hk.size⟩
theorem Rd.lt {w : World} {v : Value} {l : List Int} (h : Rd w v l) : ∀ k, v.ownBlock = some k → k < w.heap.size := by
  obtain ⟨A, c, e, h1, h2, h3⟩ := h
  exact h3
/-- A row's block is the one it was, or new. -/
def Nw (w : World) (v v' : Value) : Prop := ∀ k, v'.ownBlock = some k → v.ownBlock = some k ∨ w.heap.size ≤ k
theorem Nw.trans {w w1 : World} {v v1 v2 : Value} (h : Nw w v v1) (k : Nw w1 v1 v2) (hs : w.heap.size ≤ w1.heap.size) : Nw w v v2 := fun i hi => (k i hi).elim (fun e => h i e) (fun e => .inr (Nat.le_trans hs e))
set_option maxHeartbeats 8000000 in
set_option maxRecDepth 100000 in
theorem r14_Fill.calls (E : S67 → List Int × Int) (k : Nat) (n : Int) (A2 : Option Addr) (c2 : Nat) (fl : List S67) (w0 w : World) (v : Value) (b : List Int) (hB : Below w0.heap.size w0 w) (hI : Rd w v b)
    (hr : Kd.C k67 w0 A2 fl.length fl) (hE : ∀ x ∈ fl, gantletref02_Encode.f k x.f0 x.f1 x.f2 x.f3 = some (E x)) (hL : ∀ x ∈ fl, (E x).1.length ≤ 1000) (hb : b.length + 1000 * fl.length ≤ 140737488355328) :
    Calls Try.prog 39 #[v, .int .i64 n, .slice A2 fl.length c2] w fun e w' => ∃ v', e = .returned (.tuple #[v', .int .i64 (fillL E n fl b 0).2]) ∧ Rd w' v' (fillL E n fl b 0).1 ∧ Nw w v v' ∧ Below w.heap.size w w' := by
  have hu67 := Try.underlying67
  have HI := Aside0.mk hI
  have HR := Aside0.mk hr
  have HB := Aside0.mk hB
  have HE := Aside0.mk hE
  have HL := Aside0.mk hL
  have HN := Aside0.mk hb
  have HM : Aside0 (Nw w v v) := ⟨fun k hk => .inl hk⟩
  have HBB := Aside0.mk (Below.refl w.heap.size w)
  clear hI hr hB hE hL hb
  generalize hR : fillL E n fl b 0 = R
  have HR0 := Aside0.mk hR
  clear hR
  go_enter Try.func39, Try.ntmps39
  go_wp2
  go_loopg [8, 9] (fl.length + 1) (fun kq v8 v9 w' => ∃ (i : Int) (b' : List Int), v9 = .int .i64 i ∧ Aside0 (0 ≤ i ∧ i + kq = fl.length + 1 ∧ i ≤ fl.length) ∧ Aside0 (Rd w' v8 b') ∧ Aside0 (Nw w v v8) ∧ Aside0 (Below w.heap.size w w') ∧ Aside0 (fillL E n (fl.drop i.toNat) b' i.toNat = R) ∧ Aside0 (b'.length + 1000 * (fl.length - i.toNat) ≤ 140737488355328))
  case atStart => exact ⟨0, b, rfl, ⟨by omega⟩, HI, HM, HBB, HR0, HN⟩
  case round =>
    clear HI HM HR0 HN HBB
    obtain ⟨i, b', rfl, HK, HI, HM, HBB, HF, HN⟩ := hrel
    obtain ⟨Ab, cb, rfl, hcb, hrb, _⟩ := HI.out
    have HRB := Aside0.mk hrb
    clear hrb
    by_cases c5 : i < (fl.length : Int)
    · have h0 := HK.out.1
      have c5b0 : decide (i < (fl.length : Int)) = true := decide_eq_true c5
      have c6b0 : decide (0 ≤ i) = true := decide_eq_true h0
      obtain ⟨ad, A3, c3, e1, hx0, hx1, hx2, hx3, hc3, hrp⟩ := at_T67 HR.out i h0 c5
      cases e1
      have HBw := Aside0.mk (below_step HB.out HBB.out)
      replace hx0 := (HBw.out.cell (World.block_lt_of_cell? w0 _ hx0)).trans hx0
      replace hx1 := (HBw.out.cell (World.block_lt_of_cell? w0 _ hx1)).trans hx1
      replace hx2 := (HBw.out.cell (World.block_lt_of_cell? w0 _ hx2)).trans hx2
      replace hx3 := (HBw.out.cell (World.block_lt_of_cell? w0 _ hx3)).trans hx3
      have HP := Aside0.mk (Kd.C_below hrp HBw.out)
      have HF2 := HF.out
      obtain ⟨hd, hm⟩ := drop_rd h0 c5
      rw [hd] at HF2
      have hEx := HE.out _ hm
      have hLx := HL.out _ hm
      have HFF := Aside0.mk HF2
      clear HF HF2 hd hm hrp
      have p1 : (0 ≤ i) = True := eq_true h0
      have q1 : (i < (fl.length : Int)) = True := eq_true c5
      have hwr : wrap64 (i + 1) = i + 1 := by have := HR.out.2.1; unfold wrap64; omega
      have HW := Aside0.mk hwr
      clear hwr
      obtain ⟨k1, hk1⟩ : ∃ j, gk = j + 1 := ⟨gk - 1, by have := HK.out; omega⟩
      subst hk1
      generalize hX : rd_T67 fl i = X at *
      obtain ⟨x0, x1, x2, x3⟩ := X
      simp only [] at hx0 hx1 hx2 hx3 hc3 hEx HP
      rcases hEq : E ⟨x0, x1, x2, x3⟩ with ⟨r1, r2⟩
      rw [hEq] at hEx hLx
      by_cases c6 : n ≤ (b'.length : Int)
      · have c6b : decide (n ≤ (b'.length : Int)) = true := decide_eq_true c6
        have hfin : R = (b', i.toNat) := by have h_ := HFF.out; simp only [fillL] at h_; rw [if_pos c6] at h_; exact h_.symm
        have HFIN := Aside0.mk hfin
        clear hfin
        go_wp2
        go_ret2
        refine ⟨.slice Ab b'.length cb, by rw [HFIN.out]; show Ending.returned (.tuple #[.slice Ab b'.length cb, .int .i64 i]) = .returned (.tuple #[.slice Ab b'.length cb, .int .i64 ((i.toNat : Nat) : Int)]); rw [Int.toNat_of_nonneg HK.out.1], by rw [HFIN.out]; exact HI.out, HM.out, HBB.out⟩
      · have c6b : decide (n ≤ (b'.length : Int)) = false := decide_eq_false c6
        by_cases c7 : r2 = 0
        · subst c7
          have hfin : fillL E n (fl.drop (i + 1).toNat) (b' ++ r1) (i.toNat + 1) = R := by have h_ := HFF.out; simp only [fillL] at h_; rw [if_neg c6, hEq] at h_; simpa using h_
          go_wp2_with (first | (go_at_call 41; refine (r14_Push.ok k _ Ab cb b' x0 x1 x2 A3 c3 x3 r1 HRB.out hcb HP.out hc3 hEx (by have := HN.out; have : r1.length ≤ 1000 := hLx; have := HK.out; omega)).mono ?_; rintro e_ w2 ⟨v2, rfl, hG2, hb2, ho2⟩; have HI2 := Aside0.mk (Rd.of_Gr hG2); have HO2 := Aside0.mk ho2; have HB2 := Aside0.mk hb2; clear hG2 hb2 ho2))
          go_roundg k1
          case measure => omega
          case rel => exact ⟨i + 1, b' ++ r1, (by first | rfl | rw [HW.out]), ⟨by have := HK.out; omega⟩, HI2, ⟨fun q hq => .inr (Nat.le_trans HBB.out.size (HO2.out q hq))⟩, ⟨below_step HBB.out HB2.out⟩, ⟨by rw [show (i + 1).toNat = i.toNat + 1 by have := HK.out; omega]; rw [show (i + 1).toNat = i.toNat + 1 by have := HK.out; omega] at hfin; exact hfin⟩, ⟨by have := HN.out; have : r1.length ≤ 1000 := hLx; have := HK.out; simp; omega⟩⟩
        · have c7b : (r2 != 0) = true := bne_iff_ne.mpr c7
          have hfin : R = (b', i.toNat) := by have h_ := HFF.out; simp only [fillL] at h_; rw [if_neg c6, hEq, if_pos c7] at h_; exact h_.symm
          have HFIN := Aside0.mk hfin
          clear hfin
          go_wp2_with (first | (go_at_call 41; refine (r14_Push.bad k _ (.slice Ab b'.length cb) x0 x1 x2 A3 c3 x3 r1 r2 HP.out hc3 hEx c7).mono ?_; rintro e_ w2 ⟨rfl, hb2⟩; have HI2 := Aside0.mk (HI.out.below hb2); have HB2 := Aside0.mk (below_step HBB.out hb2); clear hb2))
          go_ret2
          refine ⟨.slice Ab b'.length cb, by rw [HFIN.out]; show Ending.returned (.tuple #[.slice Ab b'.length cb, .int .i64 i]) = .returned (.tuple #[.slice Ab b'.length cb, .int .i64 ((i.toNat : Nat) : Int)]); rw [Int.toNat_of_nonneg HK.out.1], by rw [HFIN.out]; exact HI2.out, HM.out, HB2.out⟩
    · have c5b0 : decide (i < (fl.length : Int)) = false := decide_eq_false c5
      have hfin : R = (b', fl.length) := by
        have h_ := HF.out
        have h2 := HK.out
        rw [List.drop_eq_nil_of_le (by omega)] at h_
        rw [show i.toNat = fl.length by omega] at h_
        exact h_.symm
      have HFIN := Aside0.mk hfin
      clear hfin
      go_wp2
      go_ret2
      refine ⟨_, by rw [HFIN.out]; rfl, by rw [HFIN.out]; exact HI.out, HM.out, HBB.out⟩
end Go.Proofs.Ytbmnplojpeabmaa.QO
