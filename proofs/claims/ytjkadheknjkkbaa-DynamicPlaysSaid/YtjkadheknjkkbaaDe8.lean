/-
  DYNAMIC: DynamicPlays.
  Conditions: none of its own; lemmas that the claim's row rests on.
-/
import Derived.Test.YtjkadheknjkkbaaDe7
import Derived.WalkKit
namespace Go.Proofs.Ytjkadheknjkkbaa.De
open Go.RowKit Go.Proofs.YtjkadheknjkkbaaW.PrintWords Go.Proofs.YtjkadheknjkkbaaW.PrintLast Go.Proofs.YtjkadheknjkkbaaW.PrintMore
attribute [local go_sem] max2_int min2_int max_two min_two max_three min_three max_four min_four
set_option linter.unusedVariables false
set_option linter.unusedSimpArgs false
open Go.Proofs.Ytjkadheknjkkbaa.Ob Go.Proofs.Ytjkadheknjkkbaa.QD
open Go.Proofs.YtjkadheknjkkbaaR
/-- Which acts are gone through. -/
theorem fits_l0 (l : List S80) (hl : l.length ≤ 60) : ∀ (m q : List S80) (k : Nat), q ++ m = l → m.length < k → ∃ r, gantletlaw07_Fits.l0 k l (q.length : Nat) = some r ∧ (r = true → ∀ x ∈ m, x.f1.f0.size ≤ 300 ∧ x.f1.f1.size ≤ 300)
  | [], q, k, e, hk => by
    obtain ⟨j, rfl⟩ : ∃ j, k = j + 1 := ⟨k - 1, by omega⟩
    subst e
    refine ⟨true, ?_, fun _ x hx => by cases hx⟩
    unfold gantletlaw07_Fits.l0
    rw [if_neg (by simp)]
  | x :: m, q, k, e, hk => by
    obtain ⟨j, rfl⟩ : ∃ j, k = j + 1 := ⟨k - 1, by omega⟩
    obtain ⟨r, ih, ih2⟩ := fits_l0 l hl m (q ++ [x]) j (by simpa using e) (by simp at hk; omega)
    have hq : q.length < l.length := by rw [← e]; simp
    have hr : rd_T80 l (q.length : Int) = x := by rw [← e]; simp [rd_T80]
    have w1 : wrap64 ((q.length : Int) + 1) = ((q ++ [x]).length : Nat) := by
      rw [List.length_append, List.length_singleton]
      unfold wrap64
      push_cast
      omega
    unfold gantletlaw07_Fits.l0
    rw [if_pos (by omega), if_pos (by omega), hr, w1]
    by_cases h1 : (x.f1.f0.size : Int) > 300
    · exact ⟨false, if_pos h1, fun h => by cases h⟩
    · rw [if_neg h1]
      by_cases h2 : (x.f1.f1.size : Int) > 300
      · exact ⟨false, if_pos h2, fun h => by cases h⟩
      · rw [if_neg h2]
        refine ⟨r, ih, fun h y hy => ?_⟩
        rcases List.mem_cons.1 hy with rfl | hy
        · constructor <;> omega
        · exact ih2 h y hy
theorem fits_f (l : List S80) (k : Nat) (hk : l.length < k) : ∃ r, gantletlaw07_Fits.f k l = some r ∧ (r = true → l.length ≤ 60 ∧ ∀ x ∈ l, x.f1.f0.size ≤ 300 ∧ x.f1.f1.size ≤ 300) := by
  unfold gantletlaw07_Fits.f
  by_cases h : (l.length : Int) > 60
  · exact ⟨false, if_pos h, fun h => by cases h⟩
  · rw [if_neg h]
    obtain ⟨r, h1, h2⟩ := fits_l0 l (by omega) l [] k rfl hk
    exact ⟨r, h1, fun h3 => ⟨by omega, h2 h3⟩⟩
/-- A table in g, the document's in gd. -/
def Sw (w : World) (g gd : Nat) (b mY mV : Int) (l lV : List S78) : Prop := ∃ v v', IsY w g b mY v l (sumY l) ∧ IsV w gd b mV v' lV ∧ g ≠ gd ∧ v.ownBlock ≠ some gd ∧ v'.ownBlock ≠ some g
section
variable {w : World} {g gd : Nat} {b mY mV : Int} {l lV : List S78}
theorem Sw.below {w' : World} (h : Sw w g gd b mY mV l lV) (hb : Below w.heap.size w w') : Sw w' g gd b mY mV l lV := by
  obtain ⟨v, v', hY, hV, h1, h2, h3⟩ := h
  exact ⟨v, v', hY.below hb, hV.below hb, h1, h2, h3⟩
theorem Sw.lt (h : Sw w g gd b mY mV l lV) : g < w.heap.size ∧ gd < w.heap.size := by
  obtain ⟨v, v', hY, hV, h1, h2, h3⟩ := h
  exact ⟨blk_lt hY.1, blk_lt hV.1⟩
theorem Sw.turnY (h : Sw w g gd b mY mV l lV) {w' : World} {m2 : Int} {v2 : Value} {l2 : List S78} (hI : IsY w' g b m2 v2 l2 (sumY l2)) (hk : Keeps w w' (One g)) (hn : ∀ k, v2.ownBlock = some k → w.heap.size ≤ k) : Sw w' g gd b m2 mV l2 lV := by
  obtain ⟨v, v', hY, hV, h1, h2, h3⟩ := h
  refine ⟨v2, v', hI, hV.keeps hk (fun q hf e => ?_), h1, fun e => ?_, h3⟩
  · have e2 : q = g := e
    rcases hf with e3 | hf
    · exact h1 (e2.symm.trans e3)
    · exact h3 (by rw [← e2]; exact hf)
  · have := hn gd e; have := blk_lt hV.1; omega
theorem Sw.turnV (h : Sw w g gd b mY mV l lV) {w' : World} {m2 : Int} {v2 : Value} {l2 : List S78} (hI : IsV w' gd b m2 v2 l2) (hk : Keeps w w' (One gd)) (hn : ∀ k, v2.ownBlock = some k → w.heap.size ≤ k) : Sw w' g gd b mY m2 l l2 := by
  obtain ⟨v, v', hY, hV, h1, h2, h3⟩ := h
  refine ⟨v, v2, hY.keeps hk (fun q hf e => ?_), hI, h1, h2, fun e => ?_⟩
  · have e2 : q = gd := e
    rcases hf with e3 | hf
    · exact h1 (e3.symm.trans e2)
    · exact h2 (by rw [← e2]; exact hf)
  · have := hn g e; have := blk_lt hY.1; omega
theorem Sw.add (h : Sw w g gd b mY mV l lV) (x : S78) (hl : l.length ≤ 1000) (hs : ∀ y ∈ l, szF y ≤ 1000) (h0 : x.f0.size ≤ 300) (h1 : x.f1.size ≤ 300) :
    Calls Try.prog 53 #[.pointer (some ⟨g, 0, none⟩), .agg #[.string x.f0, .string x.f1]] w fun e w' => e = .returned (.int .i64 0) ∧ Sw w' g gd b mY mV (yA mY x l) lV ∧ Keeps w w' (One g) := by
  have hh := h
  obtain ⟨v, v', hY, _⟩ := h
  refine (dynamic_Add.is w g b mY v l x hY hl hs h0 h1).mono ?_
  rintro e w' ⟨rfl, v2, hI, hk, hn⟩
  exact ⟨rfl, hh.turnY hI hk hn, hk⟩
theorem Sw.addV (h : Sw w g gd b mY mV l lV) (x : S78) (hl : lV.length ≤ 900) (hs : ∀ y ∈ lV, szF y ≤ 1000) (hx : szF x ≤ 1000) :
    Calls Try.prog 54 #[.pointer (some ⟨gd, 0, none⟩), .agg #[.string x.f0, .string x.f1]] w fun e w' => ∃ v0, e = .returned v0 ∧ Sw w' g gd b mY mV l (fitP mV 0 (x :: lV)) ∧ Keeps w w' (One gd) := by
  have hh := h
  obtain ⟨v, v', _, hV, _⟩ := h
  refine (r07_Add.is w gd b mV v' lV x hV hl hs hx).mono ?_
  rintro e w' ⟨v0, rfl, v2, hI, hk, hn⟩
  exact ⟨v0, rfl, hh.turnV hI hk hn, hk⟩
theorem Sw.most (h : Sw w g gd b mY mV l lV) (n : Int) (hl : l.length ≤ 1000) (hs : ∀ y ∈ l, szF y ≤ 1000) (h0 : 0 ≤ n) (h1 : n ≤ b) :
    Calls Try.prog 50 #[.pointer (some ⟨g, 0, none⟩), .int .i64 n] w fun e w' => e = .returned (.int .i64 0) ∧ Sw w' g gd b n mV (yE n 0 l) lV ∧ Keeps w w' (One g) := by
  have hh := h
  obtain ⟨v, v', hY, _⟩ := h
  refine (dynamic_SetMost.is w g b mY v l n hY hl hs h0 h1).mono ?_
  rintro e w' ⟨rfl, v2, hI, hk, hn⟩
  exact ⟨rfl, hh.turnY hI hk hn, hk⟩
theorem Sw.mostBad (h : Sw w g gd b mY mV l lV) (n : Int) (h0 : n < 0 ∨ b < n) :
    Calls Try.prog 50 #[.pointer (some ⟨g, 0, none⟩), .int .i64 n] w fun e w' => e = .returned (.int .i64 1) ∧ w' = w := by
  obtain ⟨v, v', hY, _⟩ := h
  exact dynamic_SetMost.bad w g b mY _ v l n hY h0
theorem Sw.mostV (h : Sw w g gd b mY mV l lV) (n : Int) (hl : lV.length ≤ 1000) (hs : ∀ y ∈ lV, szF y ≤ 1000) (h0 : 0 ≤ n) (h1 : n ≤ b) :
    Calls Try.prog 51 #[.pointer (some ⟨gd, 0, none⟩), .int .i64 n] w fun e w' => e = .returned (.int .i64 0) ∧ Sw w' g gd b mY n l (fitP n 0 lV) ∧ Keeps w w' (One gd) := by
  have hh := h
  obtain ⟨v, v', _, hV, _⟩ := h
  refine (r07_SetMost.is w gd b mV v' lV n hV hl hs h0 h1).mono ?_
  rintro e w' ⟨rfl, v2, hI, hk, hn⟩
  exact ⟨rfl, hh.turnV hI hk hn, hk⟩
theorem Sw.mostVBad (h : Sw w g gd b mY mV l lV) (n : Int) (h0 : n < 0 ∨ b < n) :
    Calls Try.prog 51 #[.pointer (some ⟨gd, 0, none⟩), .int .i64 n] w fun e w' => e = .returned (.int .i64 1) ∧ w' = w := by
  obtain ⟨v, v', _, hV, _⟩ := h
  exact r07_SetMost.bad w gd b mV v' lV n hV h0
/-- A clone goes on alone. -/
theorem Sw.clone (h : Sw w g gd b mY mV l lV) (hl : l.length ≤ 1000) :
    Calls Try.prog 52 #[.pointer (some ⟨g, 0, none⟩)] w fun e w' => ∃ g2, e = .returned (.pointer (some ⟨g2, 0, none⟩)) ∧ Sw w' g gd b mY mV l lV ∧ w.heap.size ≤ g2 ∧ Below w.heap.size w w' ∧ ∀ w3, Keeps w' w3 (One g) → Sw w3 g2 gd b mY mV l lV := by
  have hh := h
  obtain ⟨v, v', hY, hV, h1, h2, h3⟩ := h
  refine (dynamic_Clone.is w g b mY _ v l hY (by omega)).mono ?_
  rintro e w' ⟨g2, rfl, v2, hI, hg2, hn2, hb⟩
  refine ⟨g2, rfl, hh.below hb, hg2, hb, fun w3 hk => ⟨v2, v', hI.keeps hk (fun k hk2 e => ?_), (hV.below hb).keeps hk (fun k hk2 e => ?_), ?_, fun e => ?_, fun e => ?_⟩⟩
  · have e2 : k = g := e
    have := blk_lt hY.1
    rcases hk2 with rfl | hk2
    · omega
    · have := hn2 k hk2; omega
  · have e2 : k = g := e
    subst e2
    rcases hk2 with rfl | hk2
    · exact h1 rfl
    · exact h3 hk2
  · have := blk_lt hV.1; omega
  · have := hn2 gd e; have := blk_lt hV.1; omega
  · have := hV.2.1.lt g2 e; omega
theorem Sw.has (h : Sw w g gd b mY mY l l.reverse) (hl : l.length ≤ 900) (hs : ∀ x ∈ l, szF x ≤ 1000) :
    Calls Try.prog 55 #[.pointer (some ⟨g, 0, none⟩), .pointer (some ⟨gd, 0, none⟩)] w fun e w' => e = .returned (.bool true) ∧ Below w.heap.size w w' := by
  obtain ⟨v, v', hY, hV, h1, h2, h3⟩ := h
  exact has.is w g gd b mY v v' l l.reverse hY hV rfl hl hs
end
theorem yE_sz {l : List S78} {m r : Int} (hs : ∀ x ∈ l, szF x ≤ 1000) : ∀ x ∈ yE m r l, szF x ≤ 1000 := fun x hx => hs x (List.mem_of_mem_drop hx)
theorem yA_sz {l : List S78} {m : Int} {x : S78} (hs : ∀ x ∈ l, szF x ≤ 1000) (hx : szF x ≤ 1000) : ∀ y ∈ yA m x l, szF y ≤ 1000 := by
  intro y hy
  unfold yA at hy
  split at hy
  · rcases List.mem_append.1 hy with h | h
    · exact yE_sz hs y h
    · rw [List.mem_singleton.1 h]; exact hx
  · exact yE_sz hs y hy
theorem yA_len (m : Int) (x : S78) (l : List S78) : (yA m x l).length ≤ l.length + 1 := by
  have h := yE_len m (szF x) l
  unfold yA
  split
  · rw [List.length_append, List.length_singleton]; omega
  · omega
set_option maxHeartbeats 16000000 in
set_option maxRecDepth 100000 in
theorem gantletlaw07_DynamicPlays.main (a0 : Int) (A1 : Option Addr) (c1 : Nat) (l1 : List S80) (w : World) (hr1 : Kd.C k80 w A1 l1.length l1) (hc1 : l1.length ≤ c1) (hby : ∀ x ∈ l1, 0 ≤ x.f0 ∧ x.f0 < 256) :
    Calls Try.prog 6 #[.int .i64 a0, .slice A1 l1.length c1] w fun e w' => e = .returned (.bool true) ∧ Below w.heap.size w w' := by
  have hu78 := Try.underlying78
  have hu80 := Try.underlying80
  have HC := Aside0.mk hr1
  have HY := Aside0.mk hby
  obtain ⟨k, hk⟩ : ∃ k, l1.length < k := ⟨_, Nat.lt_succ_self _⟩
  obtain ⟨r, hr, hr2⟩ := fits_f l1 k hk
  have HR := Aside0.mk hr
  have HR2 := Aside0.mk hr2
  clear hr1 hby hk hr hr2
  go_enter Try.func6, Try.ntmps6
  go_wp2_with fail
  refine (gantletlaw07_Fits.calls k A1 c1 l1 r w HC.out hc1 HR.out).mono ?_
  rintro e_ w1 ⟨rfl, hd1⟩
  have HB1 := Aside0.mk (Drawn0.below hd1)
  clear hd1
  cases r with
  | false =>
    go_wp2_with fail
    refine (alive.is _).mono ?_
    rintro e_ w2 ⟨rfl, hb2⟩
    have HB2 := Aside0.mk (below_step HB1.out hb2)
    clear hb2
    go_wp2_with fail
    go_ret
    exact ⟨rfl, HB2.out⟩
  | true =>
    have HF : Aside0 (∀ x ∈ l1, x.f1.f0.size ≤ 300 ∧ x.f1.f1.size ≤ 300) := ⟨(HR2.out rfl).2⟩
    have HN : Aside0 (l1.length ≤ 60) := ⟨(HR2.out rfl).1⟩
    clear HR HR2
    by_cases hbad : a0 < 0 ∨ 4096 < a0
    · go_wp2_with fail
      refine (dynamic_New.bad a0 _ hbad).mono ?_
      rintro e_ w_ ⟨rfl, hw_⟩
      rw [hw_]
      clear hw_ w_
      have hb1 : (decide (a0 < 0) = true) ∨ (decide (a0 < 0) = false ∧ decide (4096 < a0) = true) := by
        rcases hbad with h | h
        · exact .inl (decide_eq_true h)
        · by_cases h2 : a0 < 0
          · exact .inl (decide_eq_true h2)
          · exact .inr ⟨decide_eq_false h2, decide_eq_true h⟩
      rcases hb1 with hb1 | ⟨hb1, hb2⟩
      · go_wp2_with fail
        refine (alive.is _).mono ?_
        rintro e_ w2 ⟨rfl, hb⟩
        have HB2 := Aside0.mk (below_step HB1.out hb)
        clear hb
        go_wp2_with fail
        go_ret
        exact ⟨rfl, HB2.out⟩
      · go_wp2_with fail
        refine (alive.is _).mono ?_
        rintro e_ w2 ⟨rfl, hb⟩
        have HB2 := Aside0.mk (below_step HB1.out hb)
        clear hb
        go_wp2_with fail
        go_ret
        exact ⟨rfl, HB2.out⟩
    · have hg1 : decide (a0 < 0) = false := decide_eq_false (by omega)
      have hg2 : decide (4096 < a0) = false := decide_eq_false (by omega)
      go_wp2_with fail
      refine (dynamic_New.ok a0 _ (by omega) (by omega)).mono ?_
      rintro e_ w2 ⟨g0, rfl, hI2, hg0, hb2⟩
      have HI2 := Aside0.mk hI2
      have HB2 := Aside0.mk (below_step HB1.out hb2)
      have HG0 : Aside0 (w.heap.size ≤ g0) := ⟨Nat.le_trans HB1.out.size hg0⟩
      clear hI2 hb2 hg0
      go_wp2_with fail
      refine (r07_Begin.is a0 _).mono ?_
      rintro e_ w3 ⟨gd, rfl, hI3, hgd, hb3⟩
      have HS3 : Aside0 (Sw w3 g0 gd a0 a0 a0 [] ([] : List S78).reverse) := ⟨⟨_, _, HI2.out.below hb3, hI3, (by have := blk_lt HI2.out.1; omega), by simp [Value.ownBlock], by simp [Value.ownBlock]⟩⟩
      have HB3 := Aside0.mk (below_step HB2.out hb3)
      have HGD : Aside0 (w.heap.size ≤ gd) := ⟨Nat.le_trans HB2.out.size hgd⟩
      clear hI3 hb3 hgd HI2 HB2 HB1
      go_wp2
      go_loopg [6, 9] (l1.length + 1) (fun kq v6 v9 w' => ∃ (j g : Nat) (most : Int) (l : List S78), v6 = .pointer (some ⟨g, 0, none⟩) ∧ v9 = .int .i64 (j : Int) ∧ Aside0 (Sw w' g gd a0 most most l l.reverse) ∧ Aside0 (j + kq = l1.length + 1 ∧ j ≤ l1.length) ∧ Aside0 (Below w.heap.size w w' ∧ w.heap.size ≤ g) ∧ Aside0 (l.length ≤ j ∧ (∀ x ∈ l, szF x ≤ 1000) ∧ 0 ≤ most ∧ most ≤ a0))
      case atStart => exact ⟨0, g0, a0, [], rfl, rfl, HS3, ⟨by omega⟩, ⟨HB3.out, HG0.out⟩, ⟨by simp, by simp, by omega, by omega⟩⟩
      case round =>
        clear HS3 HB3 HG0
        obtain ⟨j, g, most, l, rfl, rfl, HSW, HJ, HBG, HQ⟩ := hrel
        by_cases c1 : j < l1.length
        · obtain ⟨k1, hk1⟩ : ∃ q, gk = q + 1 := ⟨gk - 1, by have := HJ.out; omega⟩
          subst hk1
          obtain ⟨ad, rfl, y0_, y1_, y2_, y3_⟩ := at_T80 HC.out (j : Int) (by omega) (by omega)
          rw [Int.toNat_natCast] at y0_ y1_ y2_ y3_
          have q1 : ((j : Int) < (l1.length : Int)) = True := eq_true (by omega)
          have q0 : ((0 : Int) ≤ (j : Int)) = True := eq_true (by omega)
          have hmem : rd_T80 l1 (j : Int) ∈ l1 := by have e : rd_T80 l1 (j : Int) = l1[j] := by simp [rd_T80, c1]
                                                     rw [e]; exact List.getElem_mem c1
          obtain ⟨X, hX⟩ : ∃ X, rd_T80 l1 (j : Int) = X := ⟨_, rfl⟩
          rw [hX] at y0_ y1_ y2_ y3_ hmem
          have HXW : Aside0 (∀ W, Below w.heap.size w W → W.cell? (ad.add (j * 4)) = some (.int .u8 X.f0) ∧ W.cell? ⟨(ad.add (j * 4)).block, (ad.add (j * 4)).off + 1, none⟩ = some (.string X.f1.f0) ∧ W.cell? ⟨(ad.add (j * 4)).block, (ad.add (j * 4)).off + 2, none⟩ = some (.string X.f1.f1) ∧ W.cell? ⟨(ad.add (j * 4)).block, (ad.add (j * 4)).off + 3, none⟩ = some (.int .i64 X.f2)) := ⟨fun W hB => ⟨(hB.cell (World.block_lt_of_cell? w _ y0_)).trans y0_, (hB.cell (World.block_lt_of_cell? w _ y1_)).trans y1_, (hB.cell (World.block_lt_of_cell? w _ y2_)).trans y2_, (hB.cell (World.block_lt_of_cell? w _ y3_)).trans y3_⟩⟩
          have HXS := Aside0.mk (HF.out X hmem)
          have hz : szF X.f1 ≤ 1000 := by have h1 := HXS.out; unfold szF; omega
          have HZ := Aside0.mk hz
          have hX0 := HY.out X hmem
          have HC1 := Aside0.mk c1
          clear hX hmem y0_ y1_ y2_ y3_ hz c1
          obtain ⟨r5, hr5⟩ : ∃ r5, X.f0.tmod 5 = r5 := ⟨_, rfl⟩
          clear hX0
          have x0_ := (HXW.out wr HBG.out.1).1
          have x1_ := (HXW.out wr HBG.out.1).2.1
          have x2_ := (HXW.out wr HBG.out.1).2.2.1
          have x3_ := (HXW.out wr HBG.out.1).2.2.2
          by_cases c3 : r5 = 3
          · subst c3
            by_cases cb : X.f2 < 0 ∨ a0 < X.f2
            · go_wp2_with fail
              refine (Sw.mostBad HSW.out X.f2 cb).mono ?_
              rintro e_ w_ ⟨rfl, hw_⟩
              rw [hw_]
              clear hw_ w_
              go_wp2_with fail
              refine (Sw.mostVBad HSW.out X.f2 cb).mono ?_
              rintro e_ w_ ⟨rfl, hw_⟩
              rw [hw_]
              clear hw_ w_
              have HB4 := Aside0.mk HBG.out.1
              have HS4 := Aside0.mk HQ.out.2.1
              have HL4 : Aside0 (l.length ≤ j + 1) := ⟨by have := HQ.out.1; omega⟩
              clear x0_ x1_ x2_ x3_
              go_wp2_with fail
              refine (Sw.has HSW.out (by have := HL4.out; have := HJ.out; have := HN.out; omega) HS4.out).mono ?_
              rintro e_ w8 ⟨rfl, hb8⟩
              have HB8 := Aside0.mk (below_step HB4.out hb8)
              have HS8 := Aside0.mk (HSW.out.below hb8)
              clear hb8 HSW HB4
              go_upto_region 28 with fail
              refine start_ (n := 22) (S := fun w' => Below w8.heap.size w8 w') (ds := []) #[false, false, false, false, false, false, false, false, false, false, false, false, false, false, false, false, false, false, false, false, false, false] (by kernel_rfl) rfl rfl (below_drew1 (Below.refl _ _)) (fun hHeld => ?_)
              refine pure_ (i := 0) (N := some 109) (v := ?_) (a' := ?_) #[true, false, false, false, false, false, false, false, false, false, false, false, false, false, false, false, false, false, false, false, false, false] rfl rfl (by kernel_rfl) (fun _ _ _ h => h) (Or.inl ⟨by rfl, ?_⟩) ?_ ?_
              rotate_left
              · intro w'
                go_simp
                with_reducible rfl
              rotate_left
              · simp only [Act.put, List.getElem_toArray, List.getElem_cons_succ, List.getElem_cons_zero, List.setIfInBounds_toArray, List.set_cons_zero, List.set_cons_succ]
                rfl
              refine pure_ (i := 1) (N := some 110) (v := ?_) (a' := ?_) #[true, true, false, false, false, false, false, false, false, false, false, false, false, false, false, false, false, false, false, false, false, false] rfl rfl (by kernel_rfl) (fun _ _ _ h => h) (Or.inl ⟨by rfl, ?_⟩) ?_ ?_
              rotate_left
              · intro w'
                go_simp
                with_reducible rfl
              rotate_left
              · simp only [Act.put, List.getElem_toArray, List.getElem_cons_succ, List.getElem_cons_zero, List.setIfInBounds_toArray, List.set_cons_zero, List.set_cons_succ]
                rfl
              refine pure_ (i := 2) (N := some 111) (v := ?_) (a' := ?_) #[true, true, true, false, false, false, false, false, false, false, false, false, false, false, false, false, false, false, false, false, false, false] rfl rfl (by kernel_rfl) (fun _ _ _ h => h) (Or.inl ⟨by rfl, ?_⟩) ?_ ?_
              rotate_left
              · intro w'
                go_simp
                with_reducible rfl
              rotate_left
              · simp only [Act.put, List.getElem_toArray, List.getElem_cons_succ, List.getElem_cons_zero, List.setIfInBounds_toArray, List.set_cons_zero, List.set_cons_succ]
                rfl
              refine pure_ (i := 3) (N := some 112) (v := ?_) (a' := ?_) #[true, true, true, true, false, false, false, false, false, false, false, false, false, false, false, false, false, false, false, false, false, false] rfl rfl (by kernel_rfl) (fun _ _ _ h => h) (Or.inl ⟨by rfl, ?_⟩) ?_ ?_
              rotate_left
              · intro w'
                go_simp
                with_reducible rfl
              rotate_left
              · simp only [Act.put, List.getElem_toArray, List.getElem_cons_succ, List.getElem_cons_zero, List.setIfInBounds_toArray, List.set_cons_zero, List.set_cons_succ]
                rfl
              refine pure_ (i := 4) (N := some 113) (v := ?_) (a' := ?_) #[true, true, true, true, true, false, false, false, false, false, false, false, false, false, false, false, false, false, false, false, false, false] rfl rfl (by kernel_rfl) (fun _ _ _ h => h) (Or.inl ⟨by rfl, ?_⟩) ?_ ?_
              rotate_left
              · intro w'
                go_simp
                with_reducible rfl
              rotate_left
              · simp only [Act.put, List.getElem_toArray, List.getElem_cons_succ, List.getElem_cons_zero, List.setIfInBounds_toArray, List.set_cons_zero, List.set_cons_succ]
                rfl
              refine pure_ (i := 5) (N := some 114) (v := ?_) (a' := ?_) #[true, true, true, true, true, true, false, false, false, false, false, false, false, false, false, false, false, false, false, false, false, false] rfl rfl (by kernel_rfl) (fun _ _ _ h => h) (Or.inl ⟨by rfl, ?_⟩) ?_ ?_
              rotate_left
              · intro w'
                go_simp
                with_reducible rfl
              rotate_left
              · simp only [Act.put, List.getElem_toArray, List.getElem_cons_succ, List.getElem_cons_zero, List.setIfInBounds_toArray, List.set_cons_zero, List.set_cons_succ]
                rfl
              refine pure_ (i := 6) (N := some 115) (v := ?_) (a' := ?_) #[true, true, true, true, true, true, true, false, false, false, false, false, false, false, false, false, false, false, false, false, false, false] rfl rfl (by kernel_rfl) (fun _ _ _ h => h) (Or.inl ⟨by rfl, ?_⟩) ?_ ?_
              rotate_left
              · intro w'
                go_simp
                with_reducible rfl
              rotate_left
              · simp only [Act.put, List.getElem_toArray, List.getElem_cons_succ, List.getElem_cons_zero, List.setIfInBounds_toArray, List.set_cons_zero, List.set_cons_succ]
                rfl
              refine pure_ (i := 7) (N := some 116) (v := ?_) (a' := ?_) #[true, true, true, true, true, true, true, true, false, false, false, false, false, false, false, false, false, false, false, false, false, false] rfl rfl (by kernel_rfl) (fun _ _ _ h => h) (Or.inl ⟨by rfl, ?_⟩) ?_ ?_
              rotate_left
              · intro w'
                go_simp
                with_reducible rfl
              rotate_left
              · simp only [Act.put, List.getElem_toArray, List.getElem_cons_succ, List.getElem_cons_zero, List.setIfInBounds_toArray, List.set_cons_zero, List.set_cons_succ]
                rfl
              refine pure_ (i := 8) (N := some 117) (v := ?_) (a' := ?_) #[true, true, true, true, true, true, true, true, true, false, false, false, false, false, false, false, false, false, false, false, false, false] rfl rfl (by kernel_rfl) (fun _ _ _ h => h) (Or.inl ⟨by rfl, ?_⟩) ?_ ?_
              rotate_left
              · intro w'
                go_simp
                with_reducible rfl
              rotate_left
              · simp only [Act.put, List.getElem_toArray, List.getElem_cons_succ, List.getElem_cons_zero, List.setIfInBounds_toArray, List.set_cons_zero, List.set_cons_succ]
                rfl
              refine pure_ (i := 9) (N := some 118) (v := ?_) (a' := ?_) #[true, true, true, true, true, true, true, true, true, true, false, false, false, false, false, false, false, false, false, false, false, false] rfl rfl (by kernel_rfl) (fun _ _ _ h => h) (Or.inl ⟨by rfl, ?_⟩) ?_ ?_
              rotate_left
              · intro w'
                go_simp
                with_reducible rfl
              rotate_left
              · simp only [Act.put, List.getElem_toArray, List.getElem_cons_succ, List.getElem_cons_zero, List.setIfInBounds_toArray, List.set_cons_zero, List.set_cons_succ]
                rfl
              refine pure_ (i := 10) (N := some 119) (v := ?_) (a' := ?_) #[true, true, true, true, true, true, true, true, true, true, true, false, false, false, false, false, false, false, false, false, false, false] rfl rfl (by kernel_rfl) (fun _ _ _ h => h) (Or.inl ⟨by rfl, ?_⟩) ?_ ?_
              rotate_left
              · intro w'
                go_simp
                with_reducible rfl
              rotate_left
              · simp only [Act.put, List.getElem_toArray, List.getElem_cons_succ, List.getElem_cons_zero, List.setIfInBounds_toArray, List.set_cons_zero, List.set_cons_succ]
                rfl
              refine pure_ (i := 11) (N := some 120) (v := ?_) (a' := ?_) #[true, true, true, true, true, true, true, true, true, true, true, true, false, false, false, false, false, false, false, false, false, false] rfl rfl (by kernel_rfl) (fun _ _ _ h => h) (Or.inl ⟨by rfl, ?_⟩) ?_ ?_
              rotate_left
              · intro w'
                go_simp
                with_reducible rfl
              rotate_left
              · simp only [Act.put, List.getElem_toArray, List.getElem_cons_succ, List.getElem_cons_zero, List.setIfInBounds_toArray, List.set_cons_zero, List.set_cons_succ]
                rfl
              refine take_ (i := 12) (N := some 121) (v := ?_) (a' := ?_) #[true, true, true, true, true, true, true, true, true, true, true, true, true, false, false, false, false, false, false, false, false, false] rfl rfl (by kernel_rfl) (fun _ _ _ h => h) (Or.inl ⟨by rfl, ?_⟩) hHeld ?_ ?_
              rotate_left
              · intro w' hS_
                have x0_ := (HXW.out w' (below_step HB8.out hS_)).1
                have x1_ := (HXW.out w' (below_step HB8.out hS_)).2.1
                have x2_ := (HXW.out w' (below_step HB8.out hS_)).2.2.1
                have x3_ := (HXW.out w' (below_step HB8.out hS_)).2.2.2
                go_simp
                with_reducible rfl
              rotate_left
              · simp only [Act.put, List.getElem_toArray, List.getElem_cons_succ, List.getElem_cons_zero, List.setIfInBounds_toArray, List.set_cons_zero, List.set_cons_succ]
                rfl
              refine pure_ (i := 14) (N := some 123) (v := ?_) (a' := ?_) #[true, true, true, true, true, true, true, true, true, true, true, true, true, false, true, false, false, false, false, false, false, false] rfl rfl (by kernel_rfl) (fun _ _ _ h => h) (Or.inl ⟨by rfl, ?_⟩) ?_ ?_
              rotate_left
              · intro w'
                go_simp
                with_reducible rfl
              rotate_left
              · simp only [Act.put, List.getElem_toArray, List.getElem_cons_succ, List.getElem_cons_zero, List.setIfInBounds_toArray, List.set_cons_zero, List.set_cons_succ]
                rfl
              refine pure_ (i := 15) (N := some 124) (v := ?_) (a' := ?_) #[true, true, true, true, true, true, true, true, true, true, true, true, true, false, true, true, false, false, false, false, false, false] rfl rfl (by kernel_rfl) (fun _ _ _ h => h) (Or.inl ⟨by rfl, ?_⟩) ?_ ?_
              rotate_left
              · intro w'
                go_simp
                with_reducible rfl
              rotate_left
              · simp only [Act.put, List.getElem_toArray, List.getElem_cons_succ, List.getElem_cons_zero, List.setIfInBounds_toArray, List.set_cons_zero, List.set_cons_succ]
                rfl
              refine pure_ (i := 16) (N := some 125) (v := ?_) (a' := ?_) #[true, true, true, true, true, true, true, true, true, true, true, true, true, false, true, true, true, false, false, false, false, false] rfl rfl (by kernel_rfl) (fun _ _ _ h => h) (Or.inl ⟨by rfl, ?_⟩) ?_ ?_
              rotate_left
              · intro w'
                go_simp
                with_reducible rfl
              rotate_left
              · simp only [Act.put, List.getElem_toArray, List.getElem_cons_succ, List.getElem_cons_zero, List.setIfInBounds_toArray, List.set_cons_zero, List.set_cons_succ]
                rfl
              refine pure_ (i := 17) (N := some 126) (v := ?_) (a' := ?_) #[true, true, true, true, true, true, true, true, true, true, true, true, true, false, true, true, true, true, false, false, false, false] rfl rfl (by kernel_rfl) (fun _ _ _ h => h) (Or.inl ⟨by rfl, ?_⟩) ?_ ?_
              rotate_left
              · intro w'
                go_simp
                with_reducible rfl
              rotate_left
              · simp only [Act.put, List.getElem_toArray, List.getElem_cons_succ, List.getElem_cons_zero, List.setIfInBounds_toArray, List.set_cons_zero, List.set_cons_succ]
                rfl
              refine take_ (i := 18) (N := some 127) (v := ?_) (a' := ?_) #[true, true, true, true, true, true, true, true, true, true, true, true, true, false, true, true, true, true, true, false, false, false] rfl rfl (by kernel_rfl) (fun _ _ _ h => h) (Or.inl ⟨by rfl, ?_⟩) hHeld ?_ ?_
              rotate_left
              · intro w' hS_
                have x0_ := (HXW.out w' (below_step HB8.out hS_)).1
                have x1_ := (HXW.out w' (below_step HB8.out hS_)).2.1
                have x2_ := (HXW.out w' (below_step HB8.out hS_)).2.2.1
                have x3_ := (HXW.out w' (below_step HB8.out hS_)).2.2.2
                go_simp
                with_reducible rfl
              rotate_left
              · simp only [Act.put, List.getElem_toArray, List.getElem_cons_succ, List.getElem_cons_zero, List.setIfInBounds_toArray, List.set_cons_zero, List.set_cons_succ]
                rfl
              refine one_ (i := 13) (N := some 122) #[true, true, true, true, true, true, true, true, true, true, true, true, true, true, true, true, true, true, true, false, false, false] rfl rfl (by kernel_rfl) (by decide) (fun K_ hK_ => ?_)
              have HD_ := Aside0.mk hHeld
              clear hHeld
              refine goes_ Try.func56 (by kernel_rfl) rfl #[.agg #[.string X.f1.f0, .string X.f1.f1]] (by rfl) rfl rfl (by (try simp only [List.map_toArray, List.map_cons, List.map_nil]); first | done | rfl | (simp only [List.length_drop, List.length_take]; rfl)) ?_
              refine (dynamic_Size.is X.f1 _ (by have := HXS.out.1; omega) (by have := HXS.out.2; omega)).mono ?_
              rintro e_ w_ ⟨rfl, hw_⟩
              refine ⟨_, rfl, ?_⟩
              have hb_ := below_step HD_.out hw_
              clear HD_ hw_
              refine hK_.out _ _ (hb_) (fun hHeld => ?_)
              clear hK_
              refine norm_ (a' := ?_) ?_ ?_
              rotate_left
              · simp only [Act.put, List.getElem_toArray, List.getElem_cons_succ, List.getElem_cons_zero, List.setIfInBounds_toArray, List.set_cons_zero, List.set_cons_succ]
                rfl
              refine one_ (i := 19) (N := some 128) #[true, true, true, true, true, true, true, true, true, true, true, true, true, true, true, true, true, true, true, true, false, false] rfl rfl (by kernel_rfl) (by decide) (fun K_ hK_ => ?_)
              have HD_ := Aside0.mk hHeld
              clear hHeld
              refine goes_ Try.func57 (by kernel_rfl) rfl #[.agg #[.string X.f1.f0, .string X.f1.f1]] (by rfl) rfl rfl (by (try simp only [List.map_toArray, List.map_cons, List.map_nil]); first | done | rfl | (simp only [List.length_drop, List.length_take]; rfl)) ?_
              refine (r07_Size.is X.f1 _ (by have := HXS.out.1; omega) (by have := HXS.out.2; omega)).mono ?_
              rintro e_ w_ ⟨rfl, hw_⟩
              refine ⟨_, rfl, ?_⟩
              have hb_ := below_step HD_.out hw_
              clear HD_ hw_
              refine hK_.out _ _ (hb_) (fun hHeld => ?_)
              clear hK_
              refine norm_ (a' := ?_) ?_ ?_
              rotate_left
              · simp only [Act.put, List.getElem_toArray, List.getElem_cons_succ, List.getElem_cons_zero, List.setIfInBounds_toArray, List.set_cons_zero, List.set_cons_succ]
                rfl
              refine pure_ (i := 20) (N := some 129) (v := ?_) (a' := ?_) #[true, true, true, true, true, true, true, true, true, true, true, true, true, true, true, true, true, true, true, true, true, false] rfl rfl (by kernel_rfl) (fun _ _ _ h => h) (Or.inl ⟨by rfl, ?_⟩) ?_ ?_
              rotate_left
              · intro w'
                go_simp
                with_reducible rfl
              rotate_left
              · simp only [Act.put, List.getElem_toArray, List.getElem_cons_succ, List.getElem_cons_zero, List.setIfInBounds_toArray, List.set_cons_zero, List.set_cons_succ]
                rfl
              refine pure_ (i := 21) (N := some 130) (v := ?_) (a' := ?_) #[true, true, true, true, true, true, true, true, true, true, true, true, true, true, true, true, true, true, true, true, true, true] rfl rfl (by kernel_rfl) (fun _ _ _ h => h) (Or.inl ⟨by rfl, ?_⟩) ?_ ?_
              rotate_left
              · intro w'
                go_simp
                with_reducible rfl
              rotate_left
              · simp only [Act.put, List.getElem_toArray, List.getElem_cons_succ, List.getElem_cons_zero, List.setIfInBounds_toArray, List.set_cons_zero, List.set_cons_succ]
                rfl
              refine done_ (by kernel_rfl) ?_
              go_wp2
              go_roundg k1
              case measure => omega
              case rel =>
                refine ⟨j + 1, g, most, l, ?_, ?_, ⟨HS8.out.below hHeld⟩, ⟨by have := HJ.out; have := HC1.out; omega⟩, ⟨below_step HB8.out hHeld, ?_⟩, ⟨?_, HS4.out, ?_⟩⟩
                · first | rfl | trivial
                · have e1 : wrap64 ((j : Int) + 1) = ((j + 1 : Nat) : Int) := by unfold wrap64; have := HJ.out; have := HN.out; push_cast; omega
                  first | rw [e1] | rw [i64_w, e1]
                · first | exact HBG.out.2 | (have := HG2.out; have := HBG.out.1.size; omega)
                · have := HL4.out; have := HQ.out; omega
                · first | exact HQ.out.2.2 | (constructor <;> omega)

            · go_wp2_with fail
              refine (Sw.most HSW.out X.f2 (by have := HQ.out.1; have := HJ.out; have := HN.out; omega) HQ.out.2.1 (by omega) (by omega)).mono ?_
              rintro e_ w4 ⟨rfl, hs4, hk4⟩
              have HB4 := Aside0.mk (hk4.under HBG.out.1 (fun k e => by rw [show k = g from e]; exact HBG.out.2))
              have HSX := Aside0.mk hs4
              clear hk4 hs4 HSW
              clear x0_ x1_ x2_ x3_
              have x0a_ := (HXW.out w4 HB4.out).1
              have x1a_ := (HXW.out w4 HB4.out).2.1
              have x2a_ := (HXW.out w4 HB4.out).2.2.1
              have x3a_ := (HXW.out w4 HB4.out).2.2.2
              go_wp2_with fail
              refine (Sw.mostV HSX.out X.f2 (by rw [List.length_reverse]; have := HQ.out.1; have := HJ.out; have := HN.out; omega) (fun y hy => HQ.out.2.1 y (List.mem_reverse.1 hy)) (by omega) (by omega)).mono ?_
              rintro e_ w5 ⟨rfl, hs5, hk5⟩
              rw [← yE_fit] at hs5
              have HB5 := Aside0.mk (hk5.under HB4.out (fun k e => by rw [show k = gd from e]; exact HGD.out))
              have HSY := Aside0.mk hs5
              have HS5 := Aside0.mk (yE_sz (m := X.f2) (r := 0) HQ.out.2.1)
              have HL5 : Aside0 ((yE X.f2 0 l).length ≤ j + 1) := ⟨by have := HQ.out.1; have := yE_len X.f2 0 l; omega⟩
              clear hk5 hs5 HSX HB4
              clear x0a_ x1a_ x2a_ x3a_
              go_wp2_with fail
              refine (Sw.has HSY.out (by have := HL5.out; have := HJ.out; have := HN.out; omega) HS5.out).mono ?_
              rintro e_ w8 ⟨rfl, hb8⟩
              have HB8 := Aside0.mk (below_step HB5.out hb8)
              have HS8 := Aside0.mk (HSY.out.below hb8)
              clear hb8 HSY HB5
              go_upto_region 28 with fail
              refine start_ (n := 22) (S := fun w' => Below w8.heap.size w8 w') (ds := []) #[false, false, false, false, false, false, false, false, false, false, false, false, false, false, false, false, false, false, false, false, false, false] (by kernel_rfl) rfl rfl (below_drew1 (Below.refl _ _)) (fun hHeld => ?_)
              refine pure_ (i := 0) (N := some 109) (v := ?_) (a' := ?_) #[true, false, false, false, false, false, false, false, false, false, false, false, false, false, false, false, false, false, false, false, false, false] rfl rfl (by kernel_rfl) (fun _ _ _ h => h) (Or.inl ⟨by rfl, ?_⟩) ?_ ?_
              rotate_left
              · intro w'
                go_simp
                with_reducible rfl
              rotate_left
              · simp only [Act.put, List.getElem_toArray, List.getElem_cons_succ, List.getElem_cons_zero, List.setIfInBounds_toArray, List.set_cons_zero, List.set_cons_succ]
                rfl
              refine pure_ (i := 1) (N := some 110) (v := ?_) (a' := ?_) #[true, true, false, false, false, false, false, false, false, false, false, false, false, false, false, false, false, false, false, false, false, false] rfl rfl (by kernel_rfl) (fun _ _ _ h => h) (Or.inl ⟨by rfl, ?_⟩) ?_ ?_
              rotate_left
              · intro w'
                go_simp
                with_reducible rfl
              rotate_left
              · simp only [Act.put, List.getElem_toArray, List.getElem_cons_succ, List.getElem_cons_zero, List.setIfInBounds_toArray, List.set_cons_zero, List.set_cons_succ]
                rfl
              refine pure_ (i := 2) (N := some 111) (v := ?_) (a' := ?_) #[true, true, true, false, false, false, false, false, false, false, false, false, false, false, false, false, false, false, false, false, false, false] rfl rfl (by kernel_rfl) (fun _ _ _ h => h) (Or.inl ⟨by rfl, ?_⟩) ?_ ?_
              rotate_left
              · intro w'
                go_simp
                with_reducible rfl
              rotate_left
              · simp only [Act.put, List.getElem_toArray, List.getElem_cons_succ, List.getElem_cons_zero, List.setIfInBounds_toArray, List.set_cons_zero, List.set_cons_succ]
                rfl
              refine pure_ (i := 3) (N := some 112) (v := ?_) (a' := ?_) #[true, true, true, true, false, false, false, false, false, false, false, false, false, false, false, false, false, false, false, false, false, false] rfl rfl (by kernel_rfl) (fun _ _ _ h => h) (Or.inl ⟨by rfl, ?_⟩) ?_ ?_
              rotate_left
              · intro w'
                go_simp
                with_reducible rfl
              rotate_left
              · simp only [Act.put, List.getElem_toArray, List.getElem_cons_succ, List.getElem_cons_zero, List.setIfInBounds_toArray, List.set_cons_zero, List.set_cons_succ]
                rfl
              refine pure_ (i := 4) (N := some 113) (v := ?_) (a' := ?_) #[true, true, true, true, true, false, false, false, false, false, false, false, false, false, false, false, false, false, false, false, false, false] rfl rfl (by kernel_rfl) (fun _ _ _ h => h) (Or.inl ⟨by rfl, ?_⟩) ?_ ?_
              rotate_left
              · intro w'
                go_simp
                with_reducible rfl
              rotate_left
              · simp only [Act.put, List.getElem_toArray, List.getElem_cons_succ, List.getElem_cons_zero, List.setIfInBounds_toArray, List.set_cons_zero, List.set_cons_succ]
                rfl
              refine pure_ (i := 5) (N := some 114) (v := ?_) (a' := ?_) #[true, true, true, true, true, true, false, false, false, false, false, false, false, false, false, false, false, false, false, false, false, false] rfl rfl (by kernel_rfl) (fun _ _ _ h => h) (Or.inl ⟨by rfl, ?_⟩) ?_ ?_
              rotate_left
              · intro w'
                go_simp
                with_reducible rfl
              rotate_left
              · simp only [Act.put, List.getElem_toArray, List.getElem_cons_succ, List.getElem_cons_zero, List.setIfInBounds_toArray, List.set_cons_zero, List.set_cons_succ]
                rfl
              refine pure_ (i := 6) (N := some 115) (v := ?_) (a' := ?_) #[true, true, true, true, true, true, true, false, false, false, false, false, false, false, false, false, false, false, false, false, false, false] rfl rfl (by kernel_rfl) (fun _ _ _ h => h) (Or.inl ⟨by rfl, ?_⟩) ?_ ?_
              rotate_left
              · intro w'
                go_simp
                with_reducible rfl
              rotate_left
              · simp only [Act.put, List.getElem_toArray, List.getElem_cons_succ, List.getElem_cons_zero, List.setIfInBounds_toArray, List.set_cons_zero, List.set_cons_succ]
                rfl
              refine pure_ (i := 7) (N := some 116) (v := ?_) (a' := ?_) #[true, true, true, true, true, true, true, true, false, false, false, false, false, false, false, false, false, false, false, false, false, false] rfl rfl (by kernel_rfl) (fun _ _ _ h => h) (Or.inl ⟨by rfl, ?_⟩) ?_ ?_
              rotate_left
              · intro w'
                go_simp
                with_reducible rfl
              rotate_left
              · simp only [Act.put, List.getElem_toArray, List.getElem_cons_succ, List.getElem_cons_zero, List.setIfInBounds_toArray, List.set_cons_zero, List.set_cons_succ]
                rfl
              refine pure_ (i := 8) (N := some 117) (v := ?_) (a' := ?_) #[true, true, true, true, true, true, true, true, true, false, false, false, false, false, false, false, false, false, false, false, false, false] rfl rfl (by kernel_rfl) (fun _ _ _ h => h) (Or.inl ⟨by rfl, ?_⟩) ?_ ?_
              rotate_left
              · intro w'
                go_simp
                with_reducible rfl
              rotate_left
              · simp only [Act.put, List.getElem_toArray, List.getElem_cons_succ, List.getElem_cons_zero, List.setIfInBounds_toArray, List.set_cons_zero, List.set_cons_succ]
                rfl
              refine pure_ (i := 9) (N := some 118) (v := ?_) (a' := ?_) #[true, true, true, true, true, true, true, true, true, true, false, false, false, false, false, false, false, false, false, false, false, false] rfl rfl (by kernel_rfl) (fun _ _ _ h => h) (Or.inl ⟨by rfl, ?_⟩) ?_ ?_
              rotate_left
              · intro w'
                go_simp
                with_reducible rfl
              rotate_left
              · simp only [Act.put, List.getElem_toArray, List.getElem_cons_succ, List.getElem_cons_zero, List.setIfInBounds_toArray, List.set_cons_zero, List.set_cons_succ]
                rfl
              refine pure_ (i := 10) (N := some 119) (v := ?_) (a' := ?_) #[true, true, true, true, true, true, true, true, true, true, true, false, false, false, false, false, false, false, false, false, false, false] rfl rfl (by kernel_rfl) (fun _ _ _ h => h) (Or.inl ⟨by rfl, ?_⟩) ?_ ?_
              rotate_left
              · intro w'
                go_simp
                with_reducible rfl
              rotate_left
              · simp only [Act.put, List.getElem_toArray, List.getElem_cons_succ, List.getElem_cons_zero, List.setIfInBounds_toArray, List.set_cons_zero, List.set_cons_succ]
                rfl
              refine pure_ (i := 11) (N := some 120) (v := ?_) (a' := ?_) #[true, true, true, true, true, true, true, true, true, true, true, true, false, false, false, false, false, false, false, false, false, false] rfl rfl (by kernel_rfl) (fun _ _ _ h => h) (Or.inl ⟨by rfl, ?_⟩) ?_ ?_
              rotate_left
              · intro w'
                go_simp
                with_reducible rfl
              rotate_left
              · simp only [Act.put, List.getElem_toArray, List.getElem_cons_succ, List.getElem_cons_zero, List.setIfInBounds_toArray, List.set_cons_zero, List.set_cons_succ]
                rfl
              refine take_ (i := 12) (N := some 121) (v := ?_) (a' := ?_) #[true, true, true, true, true, true, true, true, true, true, true, true, true, false, false, false, false, false, false, false, false, false] rfl rfl (by kernel_rfl) (fun _ _ _ h => h) (Or.inl ⟨by rfl, ?_⟩) hHeld ?_ ?_
              rotate_left
              · intro w' hS_
                have x0_ := (HXW.out w' (below_step HB8.out hS_)).1
                have x1_ := (HXW.out w' (below_step HB8.out hS_)).2.1
                have x2_ := (HXW.out w' (below_step HB8.out hS_)).2.2.1
                have x3_ := (HXW.out w' (below_step HB8.out hS_)).2.2.2
                go_simp
                with_reducible rfl
              rotate_left
              · simp only [Act.put, List.getElem_toArray, List.getElem_cons_succ, List.getElem_cons_zero, List.setIfInBounds_toArray, List.set_cons_zero, List.set_cons_succ]
                rfl
              refine pure_ (i := 14) (N := some 123) (v := ?_) (a' := ?_) #[true, true, true, true, true, true, true, true, true, true, true, true, true, false, true, false, false, false, false, false, false, false] rfl rfl (by kernel_rfl) (fun _ _ _ h => h) (Or.inl ⟨by rfl, ?_⟩) ?_ ?_
              rotate_left
              · intro w'
                go_simp
                with_reducible rfl
              rotate_left
              · simp only [Act.put, List.getElem_toArray, List.getElem_cons_succ, List.getElem_cons_zero, List.setIfInBounds_toArray, List.set_cons_zero, List.set_cons_succ]
                rfl
              refine pure_ (i := 15) (N := some 124) (v := ?_) (a' := ?_) #[true, true, true, true, true, true, true, true, true, true, true, true, true, false, true, true, false, false, false, false, false, false] rfl rfl (by kernel_rfl) (fun _ _ _ h => h) (Or.inl ⟨by rfl, ?_⟩) ?_ ?_
              rotate_left
              · intro w'
                go_simp
                with_reducible rfl
              rotate_left
              · simp only [Act.put, List.getElem_toArray, List.getElem_cons_succ, List.getElem_cons_zero, List.setIfInBounds_toArray, List.set_cons_zero, List.set_cons_succ]
                rfl
              refine pure_ (i := 16) (N := some 125) (v := ?_) (a' := ?_) #[true, true, true, true, true, true, true, true, true, true, true, true, true, false, true, true, true, false, false, false, false, false] rfl rfl (by kernel_rfl) (fun _ _ _ h => h) (Or.inl ⟨by rfl, ?_⟩) ?_ ?_
              rotate_left
              · intro w'
                go_simp
                with_reducible rfl
              rotate_left
              · simp only [Act.put, List.getElem_toArray, List.getElem_cons_succ, List.getElem_cons_zero, List.setIfInBounds_toArray, List.set_cons_zero, List.set_cons_succ]
                rfl
              refine pure_ (i := 17) (N := some 126) (v := ?_) (a' := ?_) #[true, true, true, true, true, true, true, true, true, true, true, true, true, false, true, true, true, true, false, false, false, false] rfl rfl (by kernel_rfl) (fun _ _ _ h => h) (Or.inl ⟨by rfl, ?_⟩) ?_ ?_
              rotate_left
              · intro w'
                go_simp
                with_reducible rfl
              rotate_left
              · simp only [Act.put, List.getElem_toArray, List.getElem_cons_succ, List.getElem_cons_zero, List.setIfInBounds_toArray, List.set_cons_zero, List.set_cons_succ]
                rfl
              refine take_ (i := 18) (N := some 127) (v := ?_) (a' := ?_) #[true, true, true, true, true, true, true, true, true, true, true, true, true, false, true, true, true, true, true, false, false, false] rfl rfl (by kernel_rfl) (fun _ _ _ h => h) (Or.inl ⟨by rfl, ?_⟩) hHeld ?_ ?_
              rotate_left
              · intro w' hS_
                have x0_ := (HXW.out w' (below_step HB8.out hS_)).1
                have x1_ := (HXW.out w' (below_step HB8.out hS_)).2.1
                have x2_ := (HXW.out w' (below_step HB8.out hS_)).2.2.1
                have x3_ := (HXW.out w' (below_step HB8.out hS_)).2.2.2
                go_simp
                with_reducible rfl
              rotate_left
              · simp only [Act.put, List.getElem_toArray, List.getElem_cons_succ, List.getElem_cons_zero, List.setIfInBounds_toArray, List.set_cons_zero, List.set_cons_succ]
                rfl
              refine one_ (i := 13) (N := some 122) #[true, true, true, true, true, true, true, true, true, true, true, true, true, true, true, true, true, true, true, false, false, false] rfl rfl (by kernel_rfl) (by decide) (fun K_ hK_ => ?_)
              have HD_ := Aside0.mk hHeld
              clear hHeld
              refine goes_ Try.func56 (by kernel_rfl) rfl #[.agg #[.string X.f1.f0, .string X.f1.f1]] (by rfl) rfl rfl (by (try simp only [List.map_toArray, List.map_cons, List.map_nil]); first | done | rfl | (simp only [List.length_drop, List.length_take]; rfl)) ?_
              refine (dynamic_Size.is X.f1 _ (by have := HXS.out.1; omega) (by have := HXS.out.2; omega)).mono ?_
              rintro e_ w_ ⟨rfl, hw_⟩
              refine ⟨_, rfl, ?_⟩
              have hb_ := below_step HD_.out hw_
              clear HD_ hw_
              refine hK_.out _ _ (hb_) (fun hHeld => ?_)
              clear hK_
              refine norm_ (a' := ?_) ?_ ?_
              rotate_left
              · simp only [Act.put, List.getElem_toArray, List.getElem_cons_succ, List.getElem_cons_zero, List.setIfInBounds_toArray, List.set_cons_zero, List.set_cons_succ]
                rfl
              refine one_ (i := 19) (N := some 128) #[true, true, true, true, true, true, true, true, true, true, true, true, true, true, true, true, true, true, true, true, false, false] rfl rfl (by kernel_rfl) (by decide) (fun K_ hK_ => ?_)
              have HD_ := Aside0.mk hHeld
              clear hHeld
              refine goes_ Try.func57 (by kernel_rfl) rfl #[.agg #[.string X.f1.f0, .string X.f1.f1]] (by rfl) rfl rfl (by (try simp only [List.map_toArray, List.map_cons, List.map_nil]); first | done | rfl | (simp only [List.length_drop, List.length_take]; rfl)) ?_
              refine (r07_Size.is X.f1 _ (by have := HXS.out.1; omega) (by have := HXS.out.2; omega)).mono ?_
              rintro e_ w_ ⟨rfl, hw_⟩
              refine ⟨_, rfl, ?_⟩
              have hb_ := below_step HD_.out hw_
              clear HD_ hw_
              refine hK_.out _ _ (hb_) (fun hHeld => ?_)
              clear hK_
              refine norm_ (a' := ?_) ?_ ?_
              rotate_left
              · simp only [Act.put, List.getElem_toArray, List.getElem_cons_succ, List.getElem_cons_zero, List.setIfInBounds_toArray, List.set_cons_zero, List.set_cons_succ]
                rfl
              refine pure_ (i := 20) (N := some 129) (v := ?_) (a' := ?_) #[true, true, true, true, true, true, true, true, true, true, true, true, true, true, true, true, true, true, true, true, true, false] rfl rfl (by kernel_rfl) (fun _ _ _ h => h) (Or.inl ⟨by rfl, ?_⟩) ?_ ?_
              rotate_left
              · intro w'
                go_simp
                with_reducible rfl
              rotate_left
              · simp only [Act.put, List.getElem_toArray, List.getElem_cons_succ, List.getElem_cons_zero, List.setIfInBounds_toArray, List.set_cons_zero, List.set_cons_succ]
                rfl
              refine pure_ (i := 21) (N := some 130) (v := ?_) (a' := ?_) #[true, true, true, true, true, true, true, true, true, true, true, true, true, true, true, true, true, true, true, true, true, true] rfl rfl (by kernel_rfl) (fun _ _ _ h => h) (Or.inl ⟨by rfl, ?_⟩) ?_ ?_
              rotate_left
              · intro w'
                go_simp
                with_reducible rfl
              rotate_left
              · simp only [Act.put, List.getElem_toArray, List.getElem_cons_succ, List.getElem_cons_zero, List.setIfInBounds_toArray, List.set_cons_zero, List.set_cons_succ]
                rfl
              refine done_ (by kernel_rfl) ?_
              go_wp2
              go_roundg k1
              case measure => omega
              case rel =>
                refine ⟨j + 1, g, X.f2, (yE X.f2 0 l), ?_, ?_, ⟨HS8.out.below hHeld⟩, ⟨by have := HJ.out; have := HC1.out; omega⟩, ⟨below_step HB8.out hHeld, ?_⟩, ⟨?_, HS5.out, ?_⟩⟩
                · first | rfl | trivial
                · have e1 : wrap64 ((j : Int) + 1) = ((j + 1 : Nat) : Int) := by unfold wrap64; have := HJ.out; have := HN.out; push_cast; omega
                  first | rw [e1] | rw [i64_w, e1]
                · first | exact HBG.out.2 | (have := HG2.out; have := HBG.out.1.size; omega)
                · have := HL5.out; have := HQ.out; omega
                · first | exact HQ.out.2.2 | (constructor <;> omega)

          · by_cases c4 : r5 = 4
            · subst c4
              clear c3
              go_wp2_with fail
              refine (Sw.clone HSW.out (by have := HQ.out.1; have := HJ.out; have := HN.out; omega)).mono ?_
              rintro e_ w4 ⟨g2, rfl, hs4, hg2, hb4, hs5⟩
              have HB4 := Aside0.mk (below_step HBG.out.1 hb4)
              have HSX := Aside0.mk hs4
              have HS5 := Aside0.mk hs5
              have HG2 := Aside0.mk hg2
              clear hb4 hs4 hs5 hg2 HSW
              clear x0_ x1_ x2_ x3_
              have x0a_ := (HXW.out w4 HB4.out).1
              have x1a_ := (HXW.out w4 HB4.out).2.1
              have x2a_ := (HXW.out w4 HB4.out).2.2.1
              have x3a_ := (HXW.out w4 HB4.out).2.2.2
              go_wp2_with fail
              refine (Sw.add HSX.out X.f1 (by have := HQ.out.1; have := HJ.out; have := HN.out; omega) HQ.out.2.1 HXS.out.1 HXS.out.2).mono ?_
              rintro e_ w5 ⟨rfl, _, hk5⟩
              have HB5 := Aside0.mk (hk5.under HB4.out (fun k e => by rw [show k = g from e]; exact HBG.out.2))
              have HSY := Aside0.mk (HS5.out w5 hk5)
              have HS6 := Aside0.mk HQ.out.2.1
              have HL6 : Aside0 (l.length ≤ j + 1) := ⟨by have := HQ.out.1; omega⟩
              clear hk5 HSX HB4 HS5
              clear x0a_ x1a_ x2a_ x3a_
              go_wp2_with fail
              refine (Sw.has HSY.out (by have := HL6.out; have := HJ.out; have := HN.out; omega) HS6.out).mono ?_
              rintro e_ w8 ⟨rfl, hb8⟩
              have HB8 := Aside0.mk (below_step HB5.out hb8)
              have HS8 := Aside0.mk (HSY.out.below hb8)
              clear hb8 HSY HB5
              go_upto_region 28 with fail
              refine start_ (n := 22) (S := fun w' => Below w8.heap.size w8 w') (ds := []) #[false, false, false, false, false, false, false, false, false, false, false, false, false, false, false, false, false, false, false, false, false, false] (by kernel_rfl) rfl rfl (below_drew1 (Below.refl _ _)) (fun hHeld => ?_)
              refine pure_ (i := 0) (N := some 109) (v := ?_) (a' := ?_) #[true, false, false, false, false, false, false, false, false, false, false, false, false, false, false, false, false, false, false, false, false, false] rfl rfl (by kernel_rfl) (fun _ _ _ h => h) (Or.inl ⟨by rfl, ?_⟩) ?_ ?_
              rotate_left
              · intro w'
                go_simp
                with_reducible rfl
              rotate_left
              · simp only [Act.put, List.getElem_toArray, List.getElem_cons_succ, List.getElem_cons_zero, List.setIfInBounds_toArray, List.set_cons_zero, List.set_cons_succ]
                rfl
              refine pure_ (i := 1) (N := some 110) (v := ?_) (a' := ?_) #[true, true, false, false, false, false, false, false, false, false, false, false, false, false, false, false, false, false, false, false, false, false] rfl rfl (by kernel_rfl) (fun _ _ _ h => h) (Or.inl ⟨by rfl, ?_⟩) ?_ ?_
              rotate_left
              · intro w'
                go_simp
                with_reducible rfl
              rotate_left
              · simp only [Act.put, List.getElem_toArray, List.getElem_cons_succ, List.getElem_cons_zero, List.setIfInBounds_toArray, List.set_cons_zero, List.set_cons_succ]
                rfl
              refine pure_ (i := 2) (N := some 111) (v := ?_) (a' := ?_) #[true, true, true, false, false, false, false, false, false, false, false, false, false, false, false, false, false, false, false, false, false, false] rfl rfl (by kernel_rfl) (fun _ _ _ h => h) (Or.inl ⟨by rfl, ?_⟩) ?_ ?_
              rotate_left
              · intro w'
                go_simp
                with_reducible rfl
              rotate_left
              · simp only [Act.put, List.getElem_toArray, List.getElem_cons_succ, List.getElem_cons_zero, List.setIfInBounds_toArray, List.set_cons_zero, List.set_cons_succ]
                rfl
              refine pure_ (i := 3) (N := some 112) (v := ?_) (a' := ?_) #[true, true, true, true, false, false, false, false, false, false, false, false, false, false, false, false, false, false, false, false, false, false] rfl rfl (by kernel_rfl) (fun _ _ _ h => h) (Or.inl ⟨by rfl, ?_⟩) ?_ ?_
              rotate_left
              · intro w'
                go_simp
                with_reducible rfl
              rotate_left
              · simp only [Act.put, List.getElem_toArray, List.getElem_cons_succ, List.getElem_cons_zero, List.setIfInBounds_toArray, List.set_cons_zero, List.set_cons_succ]
                rfl
              refine pure_ (i := 4) (N := some 113) (v := ?_) (a' := ?_) #[true, true, true, true, true, false, false, false, false, false, false, false, false, false, false, false, false, false, false, false, false, false] rfl rfl (by kernel_rfl) (fun _ _ _ h => h) (Or.inl ⟨by rfl, ?_⟩) ?_ ?_
              rotate_left
              · intro w'
                go_simp
                with_reducible rfl
              rotate_left
              · simp only [Act.put, List.getElem_toArray, List.getElem_cons_succ, List.getElem_cons_zero, List.setIfInBounds_toArray, List.set_cons_zero, List.set_cons_succ]
                rfl
              refine pure_ (i := 5) (N := some 114) (v := ?_) (a' := ?_) #[true, true, true, true, true, true, false, false, false, false, false, false, false, false, false, false, false, false, false, false, false, false] rfl rfl (by kernel_rfl) (fun _ _ _ h => h) (Or.inl ⟨by rfl, ?_⟩) ?_ ?_
              rotate_left
              · intro w'
                go_simp
                with_reducible rfl
              rotate_left
              · simp only [Act.put, List.getElem_toArray, List.getElem_cons_succ, List.getElem_cons_zero, List.setIfInBounds_toArray, List.set_cons_zero, List.set_cons_succ]
                rfl
              refine pure_ (i := 6) (N := some 115) (v := ?_) (a' := ?_) #[true, true, true, true, true, true, true, false, false, false, false, false, false, false, false, false, false, false, false, false, false, false] rfl rfl (by kernel_rfl) (fun _ _ _ h => h) (Or.inl ⟨by rfl, ?_⟩) ?_ ?_
              rotate_left
              · intro w'
                go_simp
                with_reducible rfl
              rotate_left
              · simp only [Act.put, List.getElem_toArray, List.getElem_cons_succ, List.getElem_cons_zero, List.setIfInBounds_toArray, List.set_cons_zero, List.set_cons_succ]
                rfl
              refine pure_ (i := 7) (N := some 116) (v := ?_) (a' := ?_) #[true, true, true, true, true, true, true, true, false, false, false, false, false, false, false, false, false, false, false, false, false, false] rfl rfl (by kernel_rfl) (fun _ _ _ h => h) (Or.inl ⟨by rfl, ?_⟩) ?_ ?_
              rotate_left
              · intro w'
                go_simp
                with_reducible rfl
              rotate_left
              · simp only [Act.put, List.getElem_toArray, List.getElem_cons_succ, List.getElem_cons_zero, List.setIfInBounds_toArray, List.set_cons_zero, List.set_cons_succ]
                rfl
              refine pure_ (i := 8) (N := some 117) (v := ?_) (a' := ?_) #[true, true, true, true, true, true, true, true, true, false, false, false, false, false, false, false, false, false, false, false, false, false] rfl rfl (by kernel_rfl) (fun _ _ _ h => h) (Or.inl ⟨by rfl, ?_⟩) ?_ ?_
              rotate_left
              · intro w'
                go_simp
                with_reducible rfl
              rotate_left
              · simp only [Act.put, List.getElem_toArray, List.getElem_cons_succ, List.getElem_cons_zero, List.setIfInBounds_toArray, List.set_cons_zero, List.set_cons_succ]
                rfl
              refine pure_ (i := 9) (N := some 118) (v := ?_) (a' := ?_) #[true, true, true, true, true, true, true, true, true, true, false, false, false, false, false, false, false, false, false, false, false, false] rfl rfl (by kernel_rfl) (fun _ _ _ h => h) (Or.inl ⟨by rfl, ?_⟩) ?_ ?_
              rotate_left
              · intro w'
                go_simp
                with_reducible rfl
              rotate_left
              · simp only [Act.put, List.getElem_toArray, List.getElem_cons_succ, List.getElem_cons_zero, List.setIfInBounds_toArray, List.set_cons_zero, List.set_cons_succ]
                rfl
              refine pure_ (i := 10) (N := some 119) (v := ?_) (a' := ?_) #[true, true, true, true, true, true, true, true, true, true, true, false, false, false, false, false, false, false, false, false, false, false] rfl rfl (by kernel_rfl) (fun _ _ _ h => h) (Or.inl ⟨by rfl, ?_⟩) ?_ ?_
              rotate_left
              · intro w'
                go_simp
                with_reducible rfl
              rotate_left
              · simp only [Act.put, List.getElem_toArray, List.getElem_cons_succ, List.getElem_cons_zero, List.setIfInBounds_toArray, List.set_cons_zero, List.set_cons_succ]
                rfl
              refine pure_ (i := 11) (N := some 120) (v := ?_) (a' := ?_) #[true, true, true, true, true, true, true, true, true, true, true, true, false, false, false, false, false, false, false, false, false, false] rfl rfl (by kernel_rfl) (fun _ _ _ h => h) (Or.inl ⟨by rfl, ?_⟩) ?_ ?_
              rotate_left
              · intro w'
                go_simp
                with_reducible rfl
              rotate_left
              · simp only [Act.put, List.getElem_toArray, List.getElem_cons_succ, List.getElem_cons_zero, List.setIfInBounds_toArray, List.set_cons_zero, List.set_cons_succ]
                rfl
              refine take_ (i := 12) (N := some 121) (v := ?_) (a' := ?_) #[true, true, true, true, true, true, true, true, true, true, true, true, true, false, false, false, false, false, false, false, false, false] rfl rfl (by kernel_rfl) (fun _ _ _ h => h) (Or.inl ⟨by rfl, ?_⟩) hHeld ?_ ?_
              rotate_left
              · intro w' hS_
                have x0_ := (HXW.out w' (below_step HB8.out hS_)).1
                have x1_ := (HXW.out w' (below_step HB8.out hS_)).2.1
                have x2_ := (HXW.out w' (below_step HB8.out hS_)).2.2.1
                have x3_ := (HXW.out w' (below_step HB8.out hS_)).2.2.2
                go_simp
                with_reducible rfl
              rotate_left
              · simp only [Act.put, List.getElem_toArray, List.getElem_cons_succ, List.getElem_cons_zero, List.setIfInBounds_toArray, List.set_cons_zero, List.set_cons_succ]
                rfl
              refine pure_ (i := 14) (N := some 123) (v := ?_) (a' := ?_) #[true, true, true, true, true, true, true, true, true, true, true, true, true, false, true, false, false, false, false, false, false, false] rfl rfl (by kernel_rfl) (fun _ _ _ h => h) (Or.inl ⟨by rfl, ?_⟩) ?_ ?_
              rotate_left
              · intro w'
                go_simp
                with_reducible rfl
              rotate_left
              · simp only [Act.put, List.getElem_toArray, List.getElem_cons_succ, List.getElem_cons_zero, List.setIfInBounds_toArray, List.set_cons_zero, List.set_cons_succ]
                rfl
              refine pure_ (i := 15) (N := some 124) (v := ?_) (a' := ?_) #[true, true, true, true, true, true, true, true, true, true, true, true, true, false, true, true, false, false, false, false, false, false] rfl rfl (by kernel_rfl) (fun _ _ _ h => h) (Or.inl ⟨by rfl, ?_⟩) ?_ ?_
              rotate_left
              · intro w'
                go_simp
                with_reducible rfl
              rotate_left
              · simp only [Act.put, List.getElem_toArray, List.getElem_cons_succ, List.getElem_cons_zero, List.setIfInBounds_toArray, List.set_cons_zero, List.set_cons_succ]
                rfl
              refine pure_ (i := 16) (N := some 125) (v := ?_) (a' := ?_) #[true, true, true, true, true, true, true, true, true, true, true, true, true, false, true, true, true, false, false, false, false, false] rfl rfl (by kernel_rfl) (fun _ _ _ h => h) (Or.inl ⟨by rfl, ?_⟩) ?_ ?_
              rotate_left
              · intro w'
                go_simp
                with_reducible rfl
              rotate_left
              · simp only [Act.put, List.getElem_toArray, List.getElem_cons_succ, List.getElem_cons_zero, List.setIfInBounds_toArray, List.set_cons_zero, List.set_cons_succ]
                rfl
              refine pure_ (i := 17) (N := some 126) (v := ?_) (a' := ?_) #[true, true, true, true, true, true, true, true, true, true, true, true, true, false, true, true, true, true, false, false, false, false] rfl rfl (by kernel_rfl) (fun _ _ _ h => h) (Or.inl ⟨by rfl, ?_⟩) ?_ ?_
              rotate_left
              · intro w'
                go_simp
                with_reducible rfl
              rotate_left
              · simp only [Act.put, List.getElem_toArray, List.getElem_cons_succ, List.getElem_cons_zero, List.setIfInBounds_toArray, List.set_cons_zero, List.set_cons_succ]
                rfl
              refine take_ (i := 18) (N := some 127) (v := ?_) (a' := ?_) #[true, true, true, true, true, true, true, true, true, true, true, true, true, false, true, true, true, true, true, false, false, false] rfl rfl (by kernel_rfl) (fun _ _ _ h => h) (Or.inl ⟨by rfl, ?_⟩) hHeld ?_ ?_
              rotate_left
              · intro w' hS_
                have x0_ := (HXW.out w' (below_step HB8.out hS_)).1
                have x1_ := (HXW.out w' (below_step HB8.out hS_)).2.1
                have x2_ := (HXW.out w' (below_step HB8.out hS_)).2.2.1
                have x3_ := (HXW.out w' (below_step HB8.out hS_)).2.2.2
                go_simp
                with_reducible rfl
              rotate_left
              · simp only [Act.put, List.getElem_toArray, List.getElem_cons_succ, List.getElem_cons_zero, List.setIfInBounds_toArray, List.set_cons_zero, List.set_cons_succ]
                rfl
              refine one_ (i := 13) (N := some 122) #[true, true, true, true, true, true, true, true, true, true, true, true, true, true, true, true, true, true, true, false, false, false] rfl rfl (by kernel_rfl) (by decide) (fun K_ hK_ => ?_)
              have HD_ := Aside0.mk hHeld
              clear hHeld
              refine goes_ Try.func56 (by kernel_rfl) rfl #[.agg #[.string X.f1.f0, .string X.f1.f1]] (by rfl) rfl rfl (by (try simp only [List.map_toArray, List.map_cons, List.map_nil]); first | done | rfl | (simp only [List.length_drop, List.length_take]; rfl)) ?_
              refine (dynamic_Size.is X.f1 _ (by have := HXS.out.1; omega) (by have := HXS.out.2; omega)).mono ?_
              rintro e_ w_ ⟨rfl, hw_⟩
              refine ⟨_, rfl, ?_⟩
              have hb_ := below_step HD_.out hw_
              clear HD_ hw_
              refine hK_.out _ _ (hb_) (fun hHeld => ?_)
              clear hK_
              refine norm_ (a' := ?_) ?_ ?_
              rotate_left
              · simp only [Act.put, List.getElem_toArray, List.getElem_cons_succ, List.getElem_cons_zero, List.setIfInBounds_toArray, List.set_cons_zero, List.set_cons_succ]
                rfl
              refine one_ (i := 19) (N := some 128) #[true, true, true, true, true, true, true, true, true, true, true, true, true, true, true, true, true, true, true, true, false, false] rfl rfl (by kernel_rfl) (by decide) (fun K_ hK_ => ?_)
              have HD_ := Aside0.mk hHeld
              clear hHeld
              refine goes_ Try.func57 (by kernel_rfl) rfl #[.agg #[.string X.f1.f0, .string X.f1.f1]] (by rfl) rfl rfl (by (try simp only [List.map_toArray, List.map_cons, List.map_nil]); first | done | rfl | (simp only [List.length_drop, List.length_take]; rfl)) ?_
              refine (r07_Size.is X.f1 _ (by have := HXS.out.1; omega) (by have := HXS.out.2; omega)).mono ?_
              rintro e_ w_ ⟨rfl, hw_⟩
              refine ⟨_, rfl, ?_⟩
              have hb_ := below_step HD_.out hw_
              clear HD_ hw_
              refine hK_.out _ _ (hb_) (fun hHeld => ?_)
              clear hK_
              refine norm_ (a' := ?_) ?_ ?_
              rotate_left
              · simp only [Act.put, List.getElem_toArray, List.getElem_cons_succ, List.getElem_cons_zero, List.setIfInBounds_toArray, List.set_cons_zero, List.set_cons_succ]
                rfl
              refine pure_ (i := 20) (N := some 129) (v := ?_) (a' := ?_) #[true, true, true, true, true, true, true, true, true, true, true, true, true, true, true, true, true, true, true, true, true, false] rfl rfl (by kernel_rfl) (fun _ _ _ h => h) (Or.inl ⟨by rfl, ?_⟩) ?_ ?_
              rotate_left
              · intro w'
                go_simp
                with_reducible rfl
              rotate_left
              · simp only [Act.put, List.getElem_toArray, List.getElem_cons_succ, List.getElem_cons_zero, List.setIfInBounds_toArray, List.set_cons_zero, List.set_cons_succ]
                rfl
              refine pure_ (i := 21) (N := some 130) (v := ?_) (a' := ?_) #[true, true, true, true, true, true, true, true, true, true, true, true, true, true, true, true, true, true, true, true, true, true] rfl rfl (by kernel_rfl) (fun _ _ _ h => h) (Or.inl ⟨by rfl, ?_⟩) ?_ ?_
              rotate_left
              · intro w'
                go_simp
                with_reducible rfl
              rotate_left
              · simp only [Act.put, List.getElem_toArray, List.getElem_cons_succ, List.getElem_cons_zero, List.setIfInBounds_toArray, List.set_cons_zero, List.set_cons_succ]
                rfl
              refine done_ (by kernel_rfl) ?_
              go_wp2
              go_roundg k1
              case measure => omega
              case rel =>
                refine ⟨j + 1, g2, most, l, ?_, ?_, ⟨HS8.out.below hHeld⟩, ⟨by have := HJ.out; have := HC1.out; omega⟩, ⟨below_step HB8.out hHeld, ?_⟩, ⟨?_, HS6.out, ?_⟩⟩
                · first | rfl | trivial
                · have e1 : wrap64 ((j : Int) + 1) = ((j + 1 : Nat) : Int) := by unfold wrap64; have := HJ.out; have := HN.out; push_cast; omega
                  first | rw [e1] | rw [i64_w, e1]
                · first | exact HBG.out.2 | (have := HG2.out; have := HBG.out.1.size; omega)
                · have := HL6.out; have := HQ.out; omega
                · first | exact HQ.out.2.2 | (constructor <;> omega)

            · have d3 : (r5 = 3) = False := eq_false c3
              have d4 : (r5 = 4) = False := eq_false c4
              go_wp2_with fail
              refine (Sw.add HSW.out X.f1 (by have := HQ.out.1; have := HJ.out; have := HN.out; omega) HQ.out.2.1 HXS.out.1 HXS.out.2).mono ?_
              rintro e_ w4 ⟨rfl, hs4, hk4⟩
              have HB4 := Aside0.mk (hk4.under HBG.out.1 (fun k e => by rw [show k = g from e]; exact HBG.out.2))
              have HSX := Aside0.mk hs4
              clear hk4 hs4 HSW
              clear x0_ x1_ x2_ x3_
              have x0a_ := (HXW.out w4 HB4.out).1
              have x1a_ := (HXW.out w4 HB4.out).2.1
              have x2a_ := (HXW.out w4 HB4.out).2.2.1
              have x3a_ := (HXW.out w4 HB4.out).2.2.2
              go_wp2_with fail
              refine (Sw.addV HSX.out X.f1 (by rw [List.length_reverse]; have := HQ.out.1; have := HJ.out; have := HN.out; omega) (fun y hy => HQ.out.2.1 y (List.mem_reverse.1 hy)) HZ.out).mono ?_
              rintro e_ w5 ⟨v0_, rfl, hs5, hk5⟩
              rw [← yA_fit] at hs5
              have HB5 := Aside0.mk (hk5.under HB4.out (fun k e => by rw [show k = gd from e]; exact HGD.out))
              have HSY := Aside0.mk hs5
              have HS5 := Aside0.mk (yA_sz (m := most) HQ.out.2.1 HZ.out)
              have HL5 : Aside0 ((yA most X.f1 l).length ≤ j + 1) := ⟨by have := HQ.out.1; have := yA_len most X.f1 l; omega⟩
              clear hk5 hs5 HSX HB4
              clear x0a_ x1a_ x2a_ x3a_
              go_wp2_with fail
              refine (Sw.has HSY.out (by have := HL5.out; have := HJ.out; have := HN.out; omega) HS5.out).mono ?_
              rintro e_ w8 ⟨rfl, hb8⟩
              have HB8 := Aside0.mk (below_step HB5.out hb8)
              have HS8 := Aside0.mk (HSY.out.below hb8)
              clear hb8 HSY HB5
              go_upto_region 28 with fail
              refine start_ (n := 22) (S := fun w' => Below w8.heap.size w8 w') (ds := []) #[false, false, false, false, false, false, false, false, false, false, false, false, false, false, false, false, false, false, false, false, false, false] (by kernel_rfl) rfl rfl (below_drew1 (Below.refl _ _)) (fun hHeld => ?_)
              refine pure_ (i := 0) (N := some 109) (v := ?_) (a' := ?_) #[true, false, false, false, false, false, false, false, false, false, false, false, false, false, false, false, false, false, false, false, false, false] rfl rfl (by kernel_rfl) (fun _ _ _ h => h) (Or.inl ⟨by rfl, ?_⟩) ?_ ?_
              rotate_left
              · intro w'
                go_simp
                with_reducible rfl
              rotate_left
              · simp only [Act.put, List.getElem_toArray, List.getElem_cons_succ, List.getElem_cons_zero, List.setIfInBounds_toArray, List.set_cons_zero, List.set_cons_succ]
                rfl
              refine pure_ (i := 1) (N := some 110) (v := ?_) (a' := ?_) #[true, true, false, false, false, false, false, false, false, false, false, false, false, false, false, false, false, false, false, false, false, false] rfl rfl (by kernel_rfl) (fun _ _ _ h => h) (Or.inl ⟨by rfl, ?_⟩) ?_ ?_
              rotate_left
              · intro w'
                go_simp
                with_reducible rfl
              rotate_left
              · simp only [Act.put, List.getElem_toArray, List.getElem_cons_succ, List.getElem_cons_zero, List.setIfInBounds_toArray, List.set_cons_zero, List.set_cons_succ]
                rfl
              refine pure_ (i := 2) (N := some 111) (v := ?_) (a' := ?_) #[true, true, true, false, false, false, false, false, false, false, false, false, false, false, false, false, false, false, false, false, false, false] rfl rfl (by kernel_rfl) (fun _ _ _ h => h) (Or.inl ⟨by rfl, ?_⟩) ?_ ?_
              rotate_left
              · intro w'
                go_simp
                with_reducible rfl
              rotate_left
              · simp only [Act.put, List.getElem_toArray, List.getElem_cons_succ, List.getElem_cons_zero, List.setIfInBounds_toArray, List.set_cons_zero, List.set_cons_succ]
                rfl
              refine pure_ (i := 3) (N := some 112) (v := ?_) (a' := ?_) #[true, true, true, true, false, false, false, false, false, false, false, false, false, false, false, false, false, false, false, false, false, false] rfl rfl (by kernel_rfl) (fun _ _ _ h => h) (Or.inl ⟨by rfl, ?_⟩) ?_ ?_
              rotate_left
              · intro w'
                go_simp
                with_reducible rfl
              rotate_left
              · simp only [Act.put, List.getElem_toArray, List.getElem_cons_succ, List.getElem_cons_zero, List.setIfInBounds_toArray, List.set_cons_zero, List.set_cons_succ]
                rfl
              refine pure_ (i := 4) (N := some 113) (v := ?_) (a' := ?_) #[true, true, true, true, true, false, false, false, false, false, false, false, false, false, false, false, false, false, false, false, false, false] rfl rfl (by kernel_rfl) (fun _ _ _ h => h) (Or.inl ⟨by rfl, ?_⟩) ?_ ?_
              rotate_left
              · intro w'
                go_simp
                with_reducible rfl
              rotate_left
              · simp only [Act.put, List.getElem_toArray, List.getElem_cons_succ, List.getElem_cons_zero, List.setIfInBounds_toArray, List.set_cons_zero, List.set_cons_succ]
                rfl
              refine pure_ (i := 5) (N := some 114) (v := ?_) (a' := ?_) #[true, true, true, true, true, true, false, false, false, false, false, false, false, false, false, false, false, false, false, false, false, false] rfl rfl (by kernel_rfl) (fun _ _ _ h => h) (Or.inl ⟨by rfl, ?_⟩) ?_ ?_
              rotate_left
              · intro w'
                go_simp
                with_reducible rfl
              rotate_left
              · simp only [Act.put, List.getElem_toArray, List.getElem_cons_succ, List.getElem_cons_zero, List.setIfInBounds_toArray, List.set_cons_zero, List.set_cons_succ]
                rfl
              refine pure_ (i := 6) (N := some 115) (v := ?_) (a' := ?_) #[true, true, true, true, true, true, true, false, false, false, false, false, false, false, false, false, false, false, false, false, false, false] rfl rfl (by kernel_rfl) (fun _ _ _ h => h) (Or.inl ⟨by rfl, ?_⟩) ?_ ?_
              rotate_left
              · intro w'
                go_simp
                with_reducible rfl
              rotate_left
              · simp only [Act.put, List.getElem_toArray, List.getElem_cons_succ, List.getElem_cons_zero, List.setIfInBounds_toArray, List.set_cons_zero, List.set_cons_succ]
                rfl
              refine pure_ (i := 7) (N := some 116) (v := ?_) (a' := ?_) #[true, true, true, true, true, true, true, true, false, false, false, false, false, false, false, false, false, false, false, false, false, false] rfl rfl (by kernel_rfl) (fun _ _ _ h => h) (Or.inl ⟨by rfl, ?_⟩) ?_ ?_
              rotate_left
              · intro w'
                go_simp
                with_reducible rfl
              rotate_left
              · simp only [Act.put, List.getElem_toArray, List.getElem_cons_succ, List.getElem_cons_zero, List.setIfInBounds_toArray, List.set_cons_zero, List.set_cons_succ]
                rfl
              refine pure_ (i := 8) (N := some 117) (v := ?_) (a' := ?_) #[true, true, true, true, true, true, true, true, true, false, false, false, false, false, false, false, false, false, false, false, false, false] rfl rfl (by kernel_rfl) (fun _ _ _ h => h) (Or.inl ⟨by rfl, ?_⟩) ?_ ?_
              rotate_left
              · intro w'
                go_simp
                with_reducible rfl
              rotate_left
              · simp only [Act.put, List.getElem_toArray, List.getElem_cons_succ, List.getElem_cons_zero, List.setIfInBounds_toArray, List.set_cons_zero, List.set_cons_succ]
                rfl
              refine pure_ (i := 9) (N := some 118) (v := ?_) (a' := ?_) #[true, true, true, true, true, true, true, true, true, true, false, false, false, false, false, false, false, false, false, false, false, false] rfl rfl (by kernel_rfl) (fun _ _ _ h => h) (Or.inl ⟨by rfl, ?_⟩) ?_ ?_
              rotate_left
              · intro w'
                go_simp
                with_reducible rfl
              rotate_left
              · simp only [Act.put, List.getElem_toArray, List.getElem_cons_succ, List.getElem_cons_zero, List.setIfInBounds_toArray, List.set_cons_zero, List.set_cons_succ]
                rfl
              refine pure_ (i := 10) (N := some 119) (v := ?_) (a' := ?_) #[true, true, true, true, true, true, true, true, true, true, true, false, false, false, false, false, false, false, false, false, false, false] rfl rfl (by kernel_rfl) (fun _ _ _ h => h) (Or.inl ⟨by rfl, ?_⟩) ?_ ?_
              rotate_left
              · intro w'
                go_simp
                with_reducible rfl
              rotate_left
              · simp only [Act.put, List.getElem_toArray, List.getElem_cons_succ, List.getElem_cons_zero, List.setIfInBounds_toArray, List.set_cons_zero, List.set_cons_succ]
                rfl
              refine pure_ (i := 11) (N := some 120) (v := ?_) (a' := ?_) #[true, true, true, true, true, true, true, true, true, true, true, true, false, false, false, false, false, false, false, false, false, false] rfl rfl (by kernel_rfl) (fun _ _ _ h => h) (Or.inl ⟨by rfl, ?_⟩) ?_ ?_
              rotate_left
              · intro w'
                go_simp
                with_reducible rfl
              rotate_left
              · simp only [Act.put, List.getElem_toArray, List.getElem_cons_succ, List.getElem_cons_zero, List.setIfInBounds_toArray, List.set_cons_zero, List.set_cons_succ]
                rfl
              refine take_ (i := 12) (N := some 121) (v := ?_) (a' := ?_) #[true, true, true, true, true, true, true, true, true, true, true, true, true, false, false, false, false, false, false, false, false, false] rfl rfl (by kernel_rfl) (fun _ _ _ h => h) (Or.inl ⟨by rfl, ?_⟩) hHeld ?_ ?_
              rotate_left
              · intro w' hS_
                have x0_ := (HXW.out w' (below_step HB8.out hS_)).1
                have x1_ := (HXW.out w' (below_step HB8.out hS_)).2.1
                have x2_ := (HXW.out w' (below_step HB8.out hS_)).2.2.1
                have x3_ := (HXW.out w' (below_step HB8.out hS_)).2.2.2
                go_simp
                with_reducible rfl
              rotate_left
              · simp only [Act.put, List.getElem_toArray, List.getElem_cons_succ, List.getElem_cons_zero, List.setIfInBounds_toArray, List.set_cons_zero, List.set_cons_succ]
                rfl
              refine pure_ (i := 14) (N := some 123) (v := ?_) (a' := ?_) #[true, true, true, true, true, true, true, true, true, true, true, true, true, false, true, false, false, false, false, false, false, false] rfl rfl (by kernel_rfl) (fun _ _ _ h => h) (Or.inl ⟨by rfl, ?_⟩) ?_ ?_
              rotate_left
              · intro w'
                go_simp
                with_reducible rfl
              rotate_left
              · simp only [Act.put, List.getElem_toArray, List.getElem_cons_succ, List.getElem_cons_zero, List.setIfInBounds_toArray, List.set_cons_zero, List.set_cons_succ]
                rfl
              refine pure_ (i := 15) (N := some 124) (v := ?_) (a' := ?_) #[true, true, true, true, true, true, true, true, true, true, true, true, true, false, true, true, false, false, false, false, false, false] rfl rfl (by kernel_rfl) (fun _ _ _ h => h) (Or.inl ⟨by rfl, ?_⟩) ?_ ?_
              rotate_left
              · intro w'
                go_simp
                with_reducible rfl
              rotate_left
              · simp only [Act.put, List.getElem_toArray, List.getElem_cons_succ, List.getElem_cons_zero, List.setIfInBounds_toArray, List.set_cons_zero, List.set_cons_succ]
                rfl
              refine pure_ (i := 16) (N := some 125) (v := ?_) (a' := ?_) #[true, true, true, true, true, true, true, true, true, true, true, true, true, false, true, true, true, false, false, false, false, false] rfl rfl (by kernel_rfl) (fun _ _ _ h => h) (Or.inl ⟨by rfl, ?_⟩) ?_ ?_
              rotate_left
              · intro w'
                go_simp
                with_reducible rfl
              rotate_left
              · simp only [Act.put, List.getElem_toArray, List.getElem_cons_succ, List.getElem_cons_zero, List.setIfInBounds_toArray, List.set_cons_zero, List.set_cons_succ]
                rfl
              refine pure_ (i := 17) (N := some 126) (v := ?_) (a' := ?_) #[true, true, true, true, true, true, true, true, true, true, true, true, true, false, true, true, true, true, false, false, false, false] rfl rfl (by kernel_rfl) (fun _ _ _ h => h) (Or.inl ⟨by rfl, ?_⟩) ?_ ?_
              rotate_left
              · intro w'
                go_simp
                with_reducible rfl
              rotate_left
              · simp only [Act.put, List.getElem_toArray, List.getElem_cons_succ, List.getElem_cons_zero, List.setIfInBounds_toArray, List.set_cons_zero, List.set_cons_succ]
                rfl
              refine take_ (i := 18) (N := some 127) (v := ?_) (a' := ?_) #[true, true, true, true, true, true, true, true, true, true, true, true, true, false, true, true, true, true, true, false, false, false] rfl rfl (by kernel_rfl) (fun _ _ _ h => h) (Or.inl ⟨by rfl, ?_⟩) hHeld ?_ ?_
              rotate_left
              · intro w' hS_
                have x0_ := (HXW.out w' (below_step HB8.out hS_)).1
                have x1_ := (HXW.out w' (below_step HB8.out hS_)).2.1
                have x2_ := (HXW.out w' (below_step HB8.out hS_)).2.2.1
                have x3_ := (HXW.out w' (below_step HB8.out hS_)).2.2.2
                go_simp
                with_reducible rfl
              rotate_left
              · simp only [Act.put, List.getElem_toArray, List.getElem_cons_succ, List.getElem_cons_zero, List.setIfInBounds_toArray, List.set_cons_zero, List.set_cons_succ]
                rfl
              refine one_ (i := 13) (N := some 122) #[true, true, true, true, true, true, true, true, true, true, true, true, true, true, true, true, true, true, true, false, false, false] rfl rfl (by kernel_rfl) (by decide) (fun K_ hK_ => ?_)
              have HD_ := Aside0.mk hHeld
              clear hHeld
              refine goes_ Try.func56 (by kernel_rfl) rfl #[.agg #[.string X.f1.f0, .string X.f1.f1]] (by rfl) rfl rfl (by (try simp only [List.map_toArray, List.map_cons, List.map_nil]); first | done | rfl | (simp only [List.length_drop, List.length_take]; rfl)) ?_
              refine (dynamic_Size.is X.f1 _ (by have := HXS.out.1; omega) (by have := HXS.out.2; omega)).mono ?_
              rintro e_ w_ ⟨rfl, hw_⟩
              refine ⟨_, rfl, ?_⟩
              have hb_ := below_step HD_.out hw_
              clear HD_ hw_
              refine hK_.out _ _ (hb_) (fun hHeld => ?_)
              clear hK_
              refine norm_ (a' := ?_) ?_ ?_
              rotate_left
              · simp only [Act.put, List.getElem_toArray, List.getElem_cons_succ, List.getElem_cons_zero, List.setIfInBounds_toArray, List.set_cons_zero, List.set_cons_succ]
                rfl
              refine one_ (i := 19) (N := some 128) #[true, true, true, true, true, true, true, true, true, true, true, true, true, true, true, true, true, true, true, true, false, false] rfl rfl (by kernel_rfl) (by decide) (fun K_ hK_ => ?_)
              have HD_ := Aside0.mk hHeld
              clear hHeld
              refine goes_ Try.func57 (by kernel_rfl) rfl #[.agg #[.string X.f1.f0, .string X.f1.f1]] (by rfl) rfl rfl (by (try simp only [List.map_toArray, List.map_cons, List.map_nil]); first | done | rfl | (simp only [List.length_drop, List.length_take]; rfl)) ?_
              refine (r07_Size.is X.f1 _ (by have := HXS.out.1; omega) (by have := HXS.out.2; omega)).mono ?_
              rintro e_ w_ ⟨rfl, hw_⟩
              refine ⟨_, rfl, ?_⟩
              have hb_ := below_step HD_.out hw_
              clear HD_ hw_
              refine hK_.out _ _ (hb_) (fun hHeld => ?_)
              clear hK_
              refine norm_ (a' := ?_) ?_ ?_
              rotate_left
              · simp only [Act.put, List.getElem_toArray, List.getElem_cons_succ, List.getElem_cons_zero, List.setIfInBounds_toArray, List.set_cons_zero, List.set_cons_succ]
                rfl
              refine pure_ (i := 20) (N := some 129) (v := ?_) (a' := ?_) #[true, true, true, true, true, true, true, true, true, true, true, true, true, true, true, true, true, true, true, true, true, false] rfl rfl (by kernel_rfl) (fun _ _ _ h => h) (Or.inl ⟨by rfl, ?_⟩) ?_ ?_
              rotate_left
              · intro w'
                go_simp
                with_reducible rfl
              rotate_left
              · simp only [Act.put, List.getElem_toArray, List.getElem_cons_succ, List.getElem_cons_zero, List.setIfInBounds_toArray, List.set_cons_zero, List.set_cons_succ]
                rfl
              refine pure_ (i := 21) (N := some 130) (v := ?_) (a' := ?_) #[true, true, true, true, true, true, true, true, true, true, true, true, true, true, true, true, true, true, true, true, true, true] rfl rfl (by kernel_rfl) (fun _ _ _ h => h) (Or.inl ⟨by rfl, ?_⟩) ?_ ?_
              rotate_left
              · intro w'
                go_simp
                with_reducible rfl
              rotate_left
              · simp only [Act.put, List.getElem_toArray, List.getElem_cons_succ, List.getElem_cons_zero, List.setIfInBounds_toArray, List.set_cons_zero, List.set_cons_succ]
                rfl
              refine done_ (by kernel_rfl) ?_
              go_wp2
              go_roundg k1
              case measure => omega
              case rel =>
                refine ⟨j + 1, g, most, (yA most X.f1 l), ?_, ?_, ⟨HS8.out.below hHeld⟩, ⟨by have := HJ.out; have := HC1.out; omega⟩, ⟨below_step HB8.out hHeld, ?_⟩, ⟨?_, HS5.out, ?_⟩⟩
                · first | rfl | trivial
                · have e1 : wrap64 ((j : Int) + 1) = ((j + 1 : Nat) : Int) := by unfold wrap64; have := HJ.out; have := HN.out; push_cast; omega
                  first | rw [e1] | rw [i64_w, e1]
                · first | exact HBG.out.2 | (have := HG2.out; have := HBG.out.1.size; omega)
                · have := HL5.out; have := HQ.out; omega
                · first | exact HQ.out.2.2 | (constructor <;> omega)

        · have c1b : decide ((j : Int) < (l1.length : Int)) = false := decide_eq_false (by omega)
          have HB4 := Aside0.mk HBG.out.1
          go_wp2_with fail
          refine (dynamic_Get.none_ 1 _).mono ?_
          rintro e_ w4 ⟨rfl, hb4⟩
          have hb5 := below_step HB4.out (below_step hb4 (below_alloc (Below.refl w4.heap.size w4) (.cells #[.string ⟨#[]⟩, .string ⟨#[]⟩] 78)))
          have HB5 := Aside0.mk hb5
          clear hb4 hb5
          go_wp2_with fail
          refine (alive.is _).mono ?_
          rintro e_ w5 ⟨rfl, hb6⟩
          have HB6 := Aside0.mk (below_step HB5.out hb6)
          clear hb6
          go_wp2_with fail
          refine (dynamic_Add.none_ ⟨#[]⟩ ⟨#[]⟩ _).mono ?_
          rintro e_ w6 ⟨rfl, hb7⟩
          have HB7 := Aside0.mk (below_step HB6.out hb7)
          clear hb7
          go_wp2_with fail
          refine (dynamic_SetMost.none_ 0 _).mono ?_
          rintro e_ w_ ⟨rfl, hw_⟩
          rw [hw_]
          clear hw_ w_
          go_wp2_with fail
          refine (dynamic_Len.none_ _).mono ?_
          rintro e_ w_ ⟨rfl, hw_⟩
          rw [hw_]
          clear hw_ w_
          go_wp2_with fail
          refine (dynamic_TSize.none_ _).mono ?_
          rintro e_ w_ ⟨rfl, hw_⟩
          rw [hw_]
          clear hw_ w_
          go_wp2_with fail
          refine (dynamic_Most.none_ _).mono ?_
          rintro e_ w_ ⟨rfl, hw_⟩
          rw [hw_]
          clear hw_ w_
          go_wp2_with fail
          refine (dynamic_Clone.none_ _).mono ?_
          rintro e_ w_ ⟨rfl, hw_⟩
          rw [hw_]
          clear hw_ w_
          go_wp2_with fail
          go_ret
          exact ⟨rfl, HB7.out⟩
def gantletlaw07_DynamicPlays.f (a0 : Int) (l : List S80) : Option Bool := if l.all (fun x => decide (0 ≤ x.f0 ∧ x.f0 < 256)) = true then some true else none
theorem gantletlaw07_DynamicPlays.calls (a0 : Int) (A1 : Option Addr) (c1 : Nat) (l1 : List S80) (r : Bool) (w : World) (hr1 : Kd.C k80 w A1 l1.length l1) (hc1 : l1.length ≤ c1) (h : gantletlaw07_DynamicPlays.f a0 l1 = some r) :
    Calls Try.prog 6 #[.int .i64 a0, .slice A1 l1.length c1] w fun e w' => e = .returned (.bool r) ∧ Below w.heap.size w w' := by
  unfold gantletlaw07_DynamicPlays.f at h
  by_cases hall : l1.all (fun x => decide (0 ≤ x.f0 ∧ x.f0 < 256)) = true
  · rw [if_pos hall] at h
    obtain rfl := Option.some.inj h
    refine gantletlaw07_DynamicPlays.main a0 A1 c1 l1 w hr1 hc1 (fun x hx => ?_)
    exact of_decide_eq_true (List.all_eq_true.1 hall x hx)
  · rw [if_neg hall] at h; cases h
end Go.Proofs.Ytjkadheknjkkbaa.De
