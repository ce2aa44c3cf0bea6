/-
  CONTROL: sameness, fits, the law's walk.
  Conditions: none of its own; lemmas that the claim's row rests on.
-/
import Derived.Test.YtbmnplojpeabmaaCtH
import Derived.WalkKit
namespace Go.Proofs.Ytbmnplojpeabmaa.QK
open Go.RowKit Go.Proofs.YtbmnplojpeabmaaW.PrintWords Go.Proofs.YtbmnplojpeabmaaW.PrintLast Go.Proofs.YtbmnplojpeabmaaW.PrintMore
attribute [local go_sem] max2_int min2_int max_two min_two max_three min_three max_four min_four
set_option linter.unusedVariables false
set_option linter.unusedSimpArgs false
open Go.Proofs.Ytbmnplojpeabmaa.Ob
theorem wr_in' {i : Int} (h0 : 0 ≤ i) (h1 : i ≤ 1000000) : wrap64 (i + 1) = i + 1 := by unfold wrap64; omega
theorem same01_l (l : List Int) (hl : l.length ≤ 1000000) (d : Nat) : ∀ (k : Nat) (i : Int), 0 ≤ i → i ≤ (l.length : Int) → (l.length : Int) - i = (d : Int) → d < k → gantletref01_Same.l0 k l l i = some true := by
  induction d with
  | zero =>
    intro k i h0 h1 hd hk
    obtain ⟨k, rfl⟩ : ∃ m, k = m + 1 := ⟨k - 1, by omega⟩
    simp only [gantletref01_Same.l0]
    rw [if_neg (by omega)]
  | succ d ih =>
    intro k i h0 h1 hd hk
    obtain ⟨k, rfl⟩ : ∃ m, k = m + 1 := ⟨k - 1, by omega⟩
    simp only [gantletref01_Same.l0]
    rw [if_pos (by omega), if_pos h0, if_pos (by omega), if_pos trivial, wr_in' h0 (by omega), ih k (i + 1) (by omega) (by omega) (by omega) (by omega)]
theorem same01_self {k : Nat} (l : List Int) (hl : l.length ≤ 1000000) (hk : l.length < k) : gantletref01_Same.f k l l = some true := by
  unfold gantletref01_Same.f
  rw [if_pos rfl, same01_l l hl l.length k 0 (by omega) (by omega) (by omega) hk]
theorem same02_self {k : Nat} (a b c : Int) (l : List Int) (hl : l.length ≤ 1000000) (hk : l.length < k) : gantletref02_Same.f k a b c l a b c l = some true := by
  unfold gantletref02_Same.f
  rw [same01_self l hl hk]
  simp
theorem fits_l0 (x : List S82) (hx : x.length ≤ 200) : ∀ (e k : Nat) (i : Int), 0 ≤ i → i ≤ (x.length : Int) → (x.length : Int) - i = (e : Int) → e < k → gantletlaw19_fits.l0 k x i = some false ∨ (gantletlaw19_fits.l0 k x i = some true ∧ ∀ j : Int, i ≤ j → j < x.length → (rd_T82 x j).f1.f3.length ≤ 300) := by
  intro e
  induction e with
  | zero =>
    intro k i h0 h1 he hk
    obtain ⟨k, rfl⟩ : ∃ j, k = j + 1 := ⟨k - 1, by omega⟩
    right
    simp only [gantletlaw19_fits.l0]
    rw [if_neg (by omega)]
    exact ⟨rfl, fun n h1 h2 => by omega⟩
  | succ e ih =>
    intro k i h0 h1 he hk
    obtain ⟨k, rfl⟩ : ∃ j, k = j + 1 := ⟨k - 1, by omega⟩
    simp only [gantletlaw19_fits.l0]
    rw [if_pos (by omega), if_pos h0]
    by_cases hp : (((rd_T82 x i).f1.f3).length : Int) > 300
    · rw [if_pos hp]; exact .inl rfl
    · rw [if_neg hp, wr_in' h0 (by omega)]
      rcases ih k (i + 1) (by omega) (by omega) (by omega) (by omega) with h4 | ⟨h4, h5⟩
      · exact .inl h4
      · refine .inr ⟨h4, fun j h6 h7 => ?_⟩
        rcases Int.lt_or_eq_of_le h6 with h8 | h8
        · exact h5 j (by omega) h7
        · subst h8; omega
theorem fits_eq (x : List S82) : gantletlaw19_fits.f 2000 x = some false ∨ (gantletlaw19_fits.f 2000 x = some true ∧ x.length ≤ 200 ∧ ∀ j : Int, 0 ≤ j → j < x.length → (rd_T82 x j).f1.f3.length ≤ 300) := by
  unfold gantletlaw19_fits.f
  by_cases hx : (x.length : Int) > 200
  · rw [if_pos hx]; exact .inl rfl
  · rw [if_neg hx]
    rcases fits_l0 x (by omega) x.length 2000 0 (by omega) (by omega) (by omega) (by omega) with h | ⟨h, hn⟩
    · exact .inl h
    · exact .inr ⟨h, by omega, hn⟩
theorem FK67_of {w W : World} {x0 x1 x2 : Int} {x3 : List Int} {A3 : Option Addr} {c3 : Nat} (hC : Kd.C (Kd.int .u8) w A3 x3.length x3) (hc3 : x3.length ≤ c3) (hB : Below w.heap.size w W) :
    Kd.FK k67 W (fun k => k < w.heap.size) ⟨x0, x1, x2, x3⟩ [.int .i64 x0, .int .i64 x1, .int .i64 x2, .slice A3 x3.length c3] := fun W' hW =>
  k67_mk W' ⟨x0, x1, x2, x3⟩ hc3 (Kd.Heap.C (Kd.heap_int .u8) (fun k hlt => (hW k hlt (Nat.lt_of_lt_of_le hlt hB.size)).trans (hB.block k hlt)) hC)
/-- Both queues at the law's turn. -/
def Both (w0 W : World) (g1 g2 : Nat) (room : Int) (l : List S67) (ended : Bool) : Prop := ∃ v1 ok1 v2 ok2, StD w0 W g1 g2 room l ended v1 ok1 l ended v2 ok2 (fun _ _ => False)
set_option maxHeartbeats 8000000 in
set_option maxRecDepth 100000 in
theorem gantletlaw19_ControlPlays.main (room : Int) (A0 : Option Addr) (c0 : Nat) (l0 : List S82) (w : World) (hr0 : Kd.C k82 w A0 l0.length l0) (hc0 : l0.length ≤ c0) (hby : ∀ i : Int, 0 ≤ i → i < (l0.length : Int) → 0 ≤ (rd_T82 l0 i).f0 ∧ (rd_T82 l0 i).f0 < 256) :
    Calls Try.prog 8 #[.int .i64 room, .slice A0 l0.length c0] w fun e w' => e = .returned (.bool true) ∧ Below w.heap.size w w' := by
  have hu67 := Try.underlying67
  have hu82 := Try.underlying82
  have HR0 := Aside0.mk hr0
  have HC0 := Aside0.mk hc0
  have HY := Aside0.mk hby
  clear hr0 hc0 hby
  have HGO : Aside0 True := ⟨trivial⟩
  rcases fits_eq l0 with hf | ⟨hf, hl, hact⟩
  · have HF := Aside0.mk hf
    clear hf
    go_enter Try.func8, Try.ntmps8
    go_wp2_with (first | (go_at_call 45; refine (gantletlaw19_fits.calls 2000 A0 c0 l0 false _ HR0.out HC0.out HF.out).mono ?_; rintro e_ w1 ⟨rfl, hd⟩; have HB1 := Aside0.mk hd.below; clear hd) | (go_at_call 46; refine (gantletlaw19_alive.calls _).mono ?_; rintro e_ w2 ⟨rfl, hb⟩; have HB2 := Aside0.mk (below_step HB1.out hb); clear hb HB1))
    go_ret
    exact ⟨rfl, HB2.out⟩
  · have HF := Aside0.mk hf
    have HA := Aside0.mk hact
    have HL := Aside0.mk hl
    clear hf hact hl
    by_cases hroom : room < 1 ∨ 64 < room
    · have HRM := Aside0.mk hroom
      by_cases h1 : room < 1
      · have h1b : decide (room < 1) = true := decide_eq_true h1
        clear hroom h1
        go_enter Try.func8, Try.ntmps8
        go_wp2_with (first | (go_at_call 45; refine (gantletlaw19_fits.calls 2000 A0 c0 l0 true _ HR0.out HC0.out HF.out).mono ?_; rintro e_ w1 ⟨rfl, hd⟩; have HB1 := Aside0.mk hd.below; clear hd) | (go_at_call 47; refine (control_New.bad room _ HRM.out).mono ?_; rintro e_ w1b ⟨rfl, rfl⟩) | (go_at_call 46; refine (gantletlaw19_alive.calls _).mono ?_; rintro e_ w2 ⟨rfl, hb⟩; have HB2 := Aside0.mk (below_step HB1.out hb); clear hb HB1))
        go_ret
        exact ⟨rfl, HB2.out⟩
      · have h1b : decide (room < 1) = false := decide_eq_false h1
        have h2b : decide (64 < room) = true := decide_eq_true (by omega)
        clear hroom h1
        go_enter Try.func8, Try.ntmps8
        go_wp2_with (first | (go_at_call 45; refine (gantletlaw19_fits.calls 2000 A0 c0 l0 true _ HR0.out HC0.out HF.out).mono ?_; rintro e_ w1 ⟨rfl, hd⟩; have HB1 := Aside0.mk hd.below; clear hd) | (go_at_call 47; refine (control_New.bad room _ HRM.out).mono ?_; rintro e_ w1b ⟨rfl, rfl⟩) | (go_at_call 46; refine (gantletlaw19_alive.calls _).mono ?_; rintro e_ w2 ⟨rfl, hb⟩; have HB2 := Aside0.mk (below_step HB1.out hb); clear hb HB1))
        go_ret
        exact ⟨rfl, HB2.out⟩
    · have h1b : decide (room < 1) = false := decide_eq_false (by omega)
      have h2b : decide (64 < room) = false := decide_eq_false (by omega)
      have HRM : Aside0 (1 ≤ room ∧ room ≤ 64) := ⟨by omega⟩
      clear hroom
      go_enter Try.func8, Try.ntmps8
      go_wp2_with (first | (go_at_call 45; refine (gantletlaw19_fits.calls 2000 A0 c0 l0 true _ HR0.out HC0.out HF.out).mono ?_; rintro e_ w1 ⟨rfl, hd⟩; have HB1 := Aside0.mk hd.below; clear hd) | (go_at_call 47; refine (control_New.ok room _ HRM.out.1 HRM.out.2).mono ?_; rintro e_ w2 ⟨g1, rfl, hI, hg, hb⟩; have HI2 := Aside0.mk hI; have HG1 := Aside0.mk (Nat.le_trans HB1.out.size hg); have HB2 := Aside0.mk (below_step HB1.out hb); clear hI hg hb HB1) | (go_at_call 48; refine (r19_Begin.is room _).mono ?_; rintro e_ w3 ⟨g2, rfl, hD, hg, hb⟩; have HS3 : Aside0 (Both w w3 g1 g2 room [] false) := ⟨⟨_, _, _, _, ⟨⟨HI2.out.below hb, below_step HB2.out hb, HG1.out, (fun k hk => by cases hk), (fun b o h => h.elim)⟩, hD, Nat.le_trans HB2.out.size hg, (fun e => by have := blk_lt HI2.out.blk; omega), (fun k hk => hk.elim), (fun hk => by cases hk), (fun hk => hk.elim), (fun b o h => h.elim)⟩⟩⟩; clear hD hb hg HI2 HB2 HG1))
      clear h1b h2b
      go_loopg [9] (l0.length + 1) (fun kq v9 w' => ∃ (i : Int) (l : List S67) (ended : Bool), v9 = .int .i64 i ∧ Aside0 (0 ≤ i ∧ i + kq = l0.length + 1) ∧ Aside0 (Both w w' g1 g2 room l ended) ∧ Aside0 (l.length ≤ i.toNat ∧ sumF l ≤ 300 * i.toNat))
      case atStart => exact ⟨0, [], false, rfl, ⟨by omega⟩, HS3, ⟨by simp [sumF]⟩⟩
      case round =>
        clear HS3
        obtain ⟨i, l, ended, rfl, HK, HS, HN⟩ := hrel
        by_cases c5 : i < (l0.length : Int)
        · obtain ⟨v1, ok1, v2, ok2, hst⟩ := HS.out
          have HS0 := Aside0.mk hst
          have hbe := hst.c.be
          clear hst HS
          have h0 := HK.out.1
          have c5b : decide (i < (l0.length : Int)) = true := decide_eq_true c5
          have c6b : decide (0 ≤ i) = true := decide_eq_true h0
          obtain ⟨ad, A4, c4, e1, hx0, hx1, hx2, hx3, hx4, hc4, hC4⟩ := at_T82 HR0.out i h0 c5
          cases e1
          have HX0 := Aside0.mk hx0
          have HX1 := Aside0.mk hx1
          have HX2 := Aside0.mk hx2
          have HX3 := Aside0.mk hx3
          have HX4 := Aside0.mk hx4
          replace hx0 := (hbe.cell (World.block_lt_of_cell? w _ hx0)).trans hx0
          have HC4 := Aside0.mk hC4
          have HCC := Aside0.mk hc4
          have hy := HY.out i h0 c5
          have ha := HA.out i h0 c5
          have p1 : (0 ≤ i) = True := eq_true h0
          have q1 : (i < (l0.length : Int)) = True := eq_true c5
          have hwr : wrap64 (i + 1) = i + 1 := by unfold wrap64; have := HL.out; omega
          have HW := Aside0.mk hwr
          obtain ⟨k1, hk1⟩ : ∃ j, gk = j + 1 := ⟨gk - 1, by have := HK.out; omega⟩
          subst hk1
          clear hx1 hx2 hx3 hx4 hwr hC4 hc4 hbe
          generalize (rd_T82 l0 i).f0 = z at *
          generalize (rd_T82 l0 i).f1 = xx at *
          obtain ⟨x0, x1, x2, x3⟩ := xx
          simp only [] at HX1 HX2 HX3 HX4 HC4 HCC ha
          have HAx := Aside0.mk ha
          clear ha
          cases cz3 : (z % 6 == 3)
          · cases cz4 : (z % 6 == 4)
            · cases cz5 : (z % 6 == 5)
              · go_wp2
                obtain ⟨r_, l', e', hq⟩ : ∃ r_ l' e', pushR false room l ended ⟨x0, x1, x2, x3⟩ = (r_, l', e') := ⟨_, _, _, rfl⟩
                have hql := pushR_len false room l ended ⟨x0, x1, x2, x3⟩
                rw [hq] at hql
                have HQ := Aside0.mk hq
                have HQL := Aside0.mk hql
                clear hq hql hx0
                refine start_ (n := 15) (S := fun w' => Below w.heap.size w w') (ds := []) #[false, false, false, false, false, false, false, false, false, false, false, false, false, false, false] (by kernel_rfl) rfl rfl (below_drew1 HS0.out.c.be) (fun hHeld => ?_)
                refine pure_ (i := 0) (N := some 63) (v := ?_) (a' := ?_) #[true, false, false, false, false, false, false, false, false, false, false, false, false, false, false] rfl rfl (by kernel_rfl) (fun _ _ _ h => h) (Or.inl ⟨by rfl, ?_⟩) ?_ ?_
                rotate_left
                · intro w'
                  go_simp
                  with_reducible rfl
                rotate_left
                · simp only [Act.put, List.setIfInBounds_toArray, List.set_cons_zero, List.set_cons_succ]
                  rfl
                refine pure_ (i := 1) (N := some 64) (v := ?_) (a' := ?_) #[true, true, false, false, false, false, false, false, false, false, false, false, false, false, false] rfl rfl (by kernel_rfl) (fun _ _ _ h => h) (Or.inl ⟨by rfl, ?_⟩) ?_ ?_
                rotate_left
                · intro w'
                  go_simp
                  with_reducible rfl
                rotate_left
                · simp only [Act.put, List.setIfInBounds_toArray, List.set_cons_zero, List.set_cons_succ]
                  rfl
                refine pure_ (i := 2) (N := some 65) (v := ?_) (a' := ?_) #[true, true, true, false, false, false, false, false, false, false, false, false, false, false, false] rfl rfl (by kernel_rfl) (fun _ _ _ h => h) (Or.inl ⟨by rfl, ?_⟩) ?_ ?_
                rotate_left
                · intro w'
                  go_simp
                  with_reducible rfl
                rotate_left
                · simp only [Act.put, List.setIfInBounds_toArray, List.set_cons_zero, List.set_cons_succ]
                  rfl
                refine pure_ (i := 3) (N := some 66) (v := ?_) (a' := ?_) #[true, true, true, true, false, false, false, false, false, false, false, false, false, false, false] rfl rfl (by kernel_rfl) (fun _ _ _ h => h) (Or.inl ⟨by rfl, ?_⟩) ?_ ?_
                rotate_left
                · intro w'
                  go_simp
                  with_reducible rfl
                rotate_left
                · simp only [Act.put, List.setIfInBounds_toArray, List.set_cons_zero, List.set_cons_succ]
                  rfl
                refine pure_ (i := 4) (N := some 67) (v := ?_) (a' := ?_) #[true, true, true, true, true, false, false, false, false, false, false, false, false, false, false] rfl rfl (by kernel_rfl) (fun _ _ _ h => h) (Or.inl ⟨by rfl, ?_⟩) ?_ ?_
                rotate_left
                · intro w'
                  go_simp
                  with_reducible rfl
                rotate_left
                · simp only [Act.put, List.setIfInBounds_toArray, List.set_cons_zero, List.set_cons_succ]
                  rfl
                refine take_ (i := 5) (N := some 68) (v := ?_) (a' := ?_) #[true, true, true, true, true, true, false, false, false, false, false, false, false, false, false] rfl rfl (by kernel_rfl) (fun _ _ _ h => h) (Or.inl ⟨by rfl, ?_⟩) hHeld ?_ ?_
                rotate_left
                · intro w' hS_
                  have b1_ := (hS_.cell (World.block_lt_of_cell? w _ HX1.out)).trans HX1.out
                  have b2_ := (hS_.cell (World.block_lt_of_cell? w _ HX2.out)).trans HX2.out
                  have b3_ := (hS_.cell (World.block_lt_of_cell? w _ HX3.out)).trans HX3.out
                  have b4_ := (hS_.cell (World.block_lt_of_cell? w _ HX4.out)).trans HX4.out
                  go_simp
                  with_reducible rfl
                rotate_left
                · simp only [Act.put, List.setIfInBounds_toArray, List.set_cons_zero, List.set_cons_succ]
                  rfl
                refine pure_ (i := 7) (N := some 70) (v := ?_) (a' := ?_) #[true, true, true, true, true, true, false, true, false, false, false, false, false, false, false] rfl rfl (by kernel_rfl) (fun _ _ _ h => h) (Or.inl ⟨by rfl, ?_⟩) ?_ ?_
                rotate_left
                · intro w'
                  go_simp
                  with_reducible rfl
                rotate_left
                · simp only [Act.put, List.setIfInBounds_toArray, List.set_cons_zero, List.set_cons_succ]
                  rfl
                refine pure_ (i := 8) (N := some 71) (v := ?_) (a' := ?_) #[true, true, true, true, true, true, false, true, true, false, false, false, false, false, false] rfl rfl (by kernel_rfl) (fun _ _ _ h => h) (Or.inl ⟨by rfl, ?_⟩) ?_ ?_
                rotate_left
                · intro w'
                  go_simp
                  with_reducible rfl
                rotate_left
                · simp only [Act.put, List.setIfInBounds_toArray, List.set_cons_zero, List.set_cons_succ]
                  rfl
                refine pure_ (i := 9) (N := some 72) (v := ?_) (a' := ?_) #[true, true, true, true, true, true, false, true, true, true, false, false, false, false, false] rfl rfl (by kernel_rfl) (fun _ _ _ h => h) (Or.inl ⟨by rfl, ?_⟩) ?_ ?_
                rotate_left
                · intro w'
                  go_simp
                  with_reducible rfl
                rotate_left
                · simp only [Act.put, List.setIfInBounds_toArray, List.set_cons_zero, List.set_cons_succ]
                  rfl
                refine pure_ (i := 10) (N := some 73) (v := ?_) (a' := ?_) #[true, true, true, true, true, true, false, true, true, true, true, false, false, false, false] rfl rfl (by kernel_rfl) (fun _ _ _ h => h) (Or.inl ⟨by rfl, ?_⟩) ?_ ?_
                rotate_left
                · intro w'
                  go_simp
                  with_reducible rfl
                rotate_left
                · simp only [Act.put, List.setIfInBounds_toArray, List.set_cons_zero, List.set_cons_succ]
                  rfl
                refine pure_ (i := 11) (N := some 74) (v := ?_) (a' := ?_) #[true, true, true, true, true, true, false, true, true, true, true, true, false, false, false] rfl rfl (by kernel_rfl) (fun _ _ _ h => h) (Or.inl ⟨by rfl, ?_⟩) ?_ ?_
                rotate_left
                · intro w'
                  go_simp
                  with_reducible rfl
                rotate_left
                · simp only [Act.put, List.setIfInBounds_toArray, List.set_cons_zero, List.set_cons_succ]
                  rfl
                refine take_ (i := 12) (N := some 75) (v := ?_) (a' := ?_) #[true, true, true, true, true, true, false, true, true, true, true, true, true, false, false] rfl rfl (by kernel_rfl) (fun _ _ _ h => h) (Or.inl ⟨by rfl, ?_⟩) hHeld ?_ ?_
                rotate_left
                · intro w' hS_
                  have b1_ := (hS_.cell (World.block_lt_of_cell? w _ HX1.out)).trans HX1.out
                  have b2_ := (hS_.cell (World.block_lt_of_cell? w _ HX2.out)).trans HX2.out
                  have b3_ := (hS_.cell (World.block_lt_of_cell? w _ HX3.out)).trans HX3.out
                  have b4_ := (hS_.cell (World.block_lt_of_cell? w _ HX4.out)).trans HX4.out
                  go_simp
                  with_reducible rfl
                rotate_left
                · simp only [Act.put, List.setIfInBounds_toArray, List.set_cons_zero, List.set_cons_succ]
                  rfl
                refine one_ (i := 6) (N := some 69) #[true, true, true, true, true, true, true, true, true, true, true, true, true, false, false] rfl rfl (by kernel_rfl) (by decide) (fun K_ hK_ => ?_)
                have HH_ := Aside0.mk hHeld
                clear hHeld
                refine goes_ Try.func54 (by kernel_rfl) rfl #[.pointer (some ⟨g1, 0, none⟩), .agg #[.int .i64 x0, .int .i64 x1, .int .i64 x2, .slice A4 x3.length c4]] (by rfl) rfl rfl (by (try simp only [List.map_toArray, List.map_cons, List.map_nil]); first | done | rfl | (simp only [List.length_drop, List.length_take]; rfl)) ?_
                refine (StD.pushC (HS0.out.below (below_drew (Below.refl _ _))) x0 x1 x2 A4 c4 x3 HC4.out HCC.out (by have := HAx.out; omega) (by have := HN.out.1; have := HL.out; have := c5; omega)).mono ?_
                rintro e_ wc ⟨he, v1b, ok1b, hSb⟩
                rw [HQ.out] at he hSb
                subst he
                refine ⟨_, rfl, ?_⟩
                have HSC := Aside0.mk hSb
                have hbe_ := hSb.c.be
                clear hSb HH_ HS0
                refine hK_.out _ _ (hbe_) (fun hHeld => ?_)
                clear hK_
                refine norm_ (a' := ?_) ?_ ?_
                rotate_left
                · simp only [Act.put, List.setIfInBounds_toArray, List.set_cons_zero, List.set_cons_succ]
                  rfl
                refine one_ (i := 13) (N := some 76) #[true, true, true, true, true, true, true, true, true, true, true, true, true, true, false] rfl rfl (by kernel_rfl) (by decide) (fun K_ hK_ => ?_)
                have HH_ := Aside0.mk hHeld
                clear hHeld
                refine goes_ Try.func55 (by kernel_rfl) rfl #[.pointer (some ⟨g2, 0, none⟩), .agg #[.int .i64 x0, .int .i64 x1, .int .i64 x2, .slice A4 x3.length c4]] (by rfl) rfl rfl (by (try simp only [List.map_toArray, List.map_cons, List.map_nil]); first | done | rfl | (simp only [List.length_drop, List.length_take]; rfl)) ?_
                refine (StD.pushD HSC.out x0 x1 x2 A4 c4 x3 (FK67_of HC4.out HCC.out HH_.out) (fun _ h => h) (by have := HN.out.1; have := HL.out; have := c5; omega)).mono ?_
                rintro e_ wz ⟨he, v2b, ok2b, hSb⟩
                rw [HQ.out] at he hSb
                subst he
                refine ⟨_, rfl, ?_⟩
                have HSZ := Aside0.mk hSb
                have hbe_ := hSb.c.be
                clear hSb HH_ HSC
                refine hK_.out _ _ (hbe_) (fun hHeld => ?_)
                clear hK_
                refine norm_ (a' := ?_) ?_ ?_
                rotate_left
                · simp only [Act.put, List.setIfInBounds_toArray, List.set_cons_zero, List.set_cons_succ]
                  rfl
                refine pure_ (i := 14) (N := some 77) (v := ?_) (a' := ?_) #[true, true, true, true, true, true, true, true, true, true, true, true, true, true, true] rfl rfl (by kernel_rfl) (fun _ _ _ h => h) (Or.inl ⟨by rfl, ?_⟩) ?_ ?_
                rotate_left
                · intro w'
                  go_simp
                  with_reducible rfl
                rotate_left
                · simp only [Act.put, List.setIfInBounds_toArray, List.set_cons_zero, List.set_cons_succ]
                  rfl
                refine done_ (by kernel_rfl) ?_
                have HBz : Aside0 (Both w wz g1 g2 room l' e') := ⟨⟨_, _, _, _, HSZ.out⟩⟩
                have HNz : Aside0 (l'.length ≤ (i + 1).toNat ∧ sumF l' ≤ 300 * (i + 1).toNat) := ⟨by have h1 := HQL.out; have h2 := HN.out; have h3 := HAx.out; simp only [] at h1; omega⟩
                clear hHeld HSZ HQL HQ HN HC4 HCC HAx HX0 HX1 HX2 HX3 HX4
                have HLN : Aside0 (l'.length ≤ 100000 ∧ sumF l' ≤ 1000000000) := ⟨by have h1 := HNz.out; have h2 := HL.out; have h3 := c5; omega⟩
                obtain ⟨v1z, ok1z, v2z, ok2z, hst⟩ := HBz.out
                obtain ⟨A2z, c2z, rfl⟩ := hst.d.form
                have HSZ := Aside0.mk hst
                clear hst HBz
                go_wp2
                refine start_ (n := 24) (S := fun w' => Below wz.heap.size wz w') (ds := []) #[false, false, false, false, false, false, false, false, false, false, false, false, false, false, false, false, false, false, false, false, false, false, false, false] (by kernel_rfl) rfl rfl (below_drew1 (Below.refl _ _)) (fun hHeld => ?_)
                refine pure_ (i := 0) (N := some 118) (v := ?_) (a' := ?_) #[true, false, false, false, false, false, false, false, false, false, false, false, false, false, false, false, false, false, false, false, false, false, false, false] rfl rfl (by kernel_rfl) (fun _ _ _ h => h) (Or.inl ⟨by rfl, ?_⟩) ?_ ?_
                rotate_left
                · intro w'
                  go_simp
                  with_reducible rfl
                rotate_left
                · simp only [Act.put, List.setIfInBounds_toArray, List.set_cons_zero, List.set_cons_succ]
                  rfl
                refine pure_ (i := 2) (N := some 120) (v := ?_) (a' := ?_) #[true, false, true, false, false, false, false, false, false, false, false, false, false, false, false, false, false, false, false, false, false, false, false, false] rfl rfl (by kernel_rfl) (fun _ _ _ h => h) (Or.inl ⟨by rfl, ?_⟩) ?_ ?_
                rotate_left
                · intro w'
                  go_simp
                  with_reducible rfl
                rotate_left
                · simp only [Act.put, List.setIfInBounds_toArray, List.set_cons_zero, List.set_cons_succ]
                  rfl
                refine pure_ (i := 3) (N := some 121) (v := ?_) (a' := ?_) #[true, false, true, true, false, false, false, false, false, false, false, false, false, false, false, false, false, false, false, false, false, false, false, false] rfl rfl (by kernel_rfl) (fun _ _ _ h => h) (Or.inl ⟨by rfl, ?_⟩) ?_ ?_
                rotate_left
                · intro w'
                  go_simp
                  with_reducible rfl
                rotate_left
                · simp only [Act.put, List.setIfInBounds_toArray, List.set_cons_zero, List.set_cons_succ]
                  rfl
                refine pure_ (i := 4) (N := some 122) (v := ?_) (a' := ?_) #[true, false, true, true, true, false, false, false, false, false, false, false, false, false, false, false, false, false, false, false, false, false, false, false] rfl rfl (by kernel_rfl) (fun _ _ _ h => h) (Or.inl ⟨by rfl, ?_⟩) ?_ ?_
                rotate_left
                · intro w'
                  go_simp
                  with_reducible rfl
                rotate_left
                · simp only [Act.put, List.setIfInBounds_toArray, List.set_cons_zero, List.set_cons_succ]
                  rfl
                refine take_ (i := 5) (N := some 123) (v := ?_) (a' := ?_) #[true, false, true, true, true, true, false, false, false, false, false, false, false, false, false, false, false, false, false, false, false, false, false, false] rfl rfl (by kernel_rfl) (fun _ _ _ h => h) (Or.inl ⟨by rfl, ?_⟩) hHeld ?_ ?_
                rotate_left
                · intro w' hS_
                  have b1_ : w'.cell? ⟨g2, 1, none⟩ = some (.slice A2z l'.length c2z) := (blk_cell (HSZ.out.below hS_).d.blk 1).trans rfl
                  go_simp
                  with_reducible rfl
                rotate_left
                · simp only [Act.put, List.setIfInBounds_toArray, List.set_cons_zero, List.set_cons_succ]
                  rfl
                refine pure_ (i := 6) (N := some 124) (v := ?_) (a' := ?_) #[true, false, true, true, true, true, true, false, false, false, false, false, false, false, false, false, false, false, false, false, false, false, false, false] rfl rfl (by kernel_rfl) (fun _ _ _ h => h) (Or.inl ⟨by rfl, ?_⟩) ?_ ?_
                rotate_left
                · intro w'
                  go_simp
                  with_reducible rfl
                rotate_left
                · simp only [Act.put, List.setIfInBounds_toArray, List.set_cons_zero, List.set_cons_succ]
                  rfl
                refine one_ (i := 1) (N := some 119) #[true, true, true, true, true, true, true, false, false, false, false, false, false, false, false, false, false, false, false, false, false, false, false, false] rfl rfl (by kernel_rfl) (by decide) (fun K_ hK_ => ?_)
                have HH_ := Aside0.mk hHeld
                clear hHeld
                refine goes_ Try.func56 (by kernel_rfl) rfl #[.pointer (some ⟨g1, 0, none⟩)] (by rfl) rfl rfl (by (try simp only [List.map_toArray, List.map_cons, List.map_nil]); first | done | rfl | (simp only [List.length_drop, List.length_take]; rfl)) ?_
                refine (control_Len.is (HSZ.out.below (below_drew (Below.refl _ _))).c.io).mono ?_
                rintro e_ w56 ⟨rfl, hw_⟩
                rw [hw_]
                clear hw_ w56
                refine ⟨_, rfl, ?_⟩
                have hbe_ := HH_.out
                clear HH_
                refine hK_.out _ _ (hbe_) (fun hHeld => ?_)
                clear hK_
                refine norm_ (a' := ?_) ?_ ?_
                rotate_left
                · simp only [Act.put, List.setIfInBounds_toArray, List.set_cons_zero, List.set_cons_succ]
                  rfl
                refine pure_ (i := 7) (N := some 125) (v := ?_) (a' := ?_) #[true, true, true, true, true, true, true, true, false, false, false, false, false, false, false, false, false, false, false, false, false, false, false, false] rfl rfl (by kernel_rfl) (fun _ _ _ h => h) (Or.inl ⟨by rfl, ?_⟩) ?_ ?_
                rotate_left
                · intro w'
                  go_simp
                  with_reducible rfl
                rotate_left
                · simp only [Act.put, List.setIfInBounds_toArray, List.set_cons_zero, List.set_cons_succ]
                  rfl
                refine pure_ (i := 8) (N := some 126) (v := ?_) (a' := ?_) #[true, true, true, true, true, true, true, true, true, false, false, false, false, false, false, false, false, false, false, false, false, false, false, false] rfl rfl (by kernel_rfl) (fun _ _ _ h => h) (Or.inl ⟨by rfl, ?_⟩) ?_ ?_
                rotate_left
                · intro w'
                  go_simp
                  with_reducible rfl
                rotate_left
                · simp only [Act.put, List.setIfInBounds_toArray, List.set_cons_zero, List.set_cons_succ]
                  rfl
                refine pure_ (i := 9) (N := some 127) (v := ?_) (a' := ?_) #[true, true, true, true, true, true, true, true, true, true, false, false, false, false, false, false, false, false, false, false, false, false, false, false] rfl rfl (by kernel_rfl) (fun _ _ _ h => h) (Or.inl ⟨by rfl, ?_⟩) ?_ ?_
                rotate_left
                · intro w'
                  go_simp
                  with_reducible rfl
                rotate_left
                · simp only [Act.put, List.setIfInBounds_toArray, List.set_cons_zero, List.set_cons_succ]
                  rfl
                refine pure_ (i := 11) (N := some 129) (v := ?_) (a' := ?_) #[true, true, true, true, true, true, true, true, true, true, false, true, false, false, false, false, false, false, false, false, false, false, false, false] rfl rfl (by kernel_rfl) (fun _ _ _ h => h) (Or.inl ⟨by rfl, ?_⟩) ?_ ?_
                rotate_left
                · intro w'
                  go_simp
                  with_reducible rfl
                rotate_left
                · simp only [Act.put, List.setIfInBounds_toArray, List.set_cons_zero, List.set_cons_succ]
                  rfl
                refine one_ (i := 10) (N := some 128) #[true, true, true, true, true, true, true, true, true, true, true, true, false, false, false, false, false, false, false, false, false, false, false, false] rfl rfl (by kernel_rfl) (by decide) (fun K_ hK_ => ?_)
                have HH_ := Aside0.mk hHeld
                clear hHeld
                refine goes_ Try.func57 (by kernel_rfl) rfl #[.pointer (some ⟨g1, 0, none⟩)] (by rfl) rfl rfl (by (try simp only [List.map_toArray, List.map_cons, List.map_nil]); first | done | rfl | (simp only [List.length_drop, List.length_take]; rfl)) ?_
                refine (control_Bytes.is _ g1 room _ l' e' _ (HSZ.out.below (below_drew (Below.refl _ _))).c.io HLN.out.1 HLN.out.2).mono ?_
                rintro e_ wy ⟨rfl, hb_⟩
                refine ⟨_, rfl, ?_⟩
                have HSY := Aside0.mk ((HSZ.out.below (below_drew (Below.refl _ _))).below hb_)
                have hbe_ := below_step HH_.out hb_
                clear hb_ HH_
                refine hK_.out _ _ (hbe_) (fun hHeld => ?_)
                clear hK_
                refine norm_ (a' := ?_) ?_ ?_
                rotate_left
                · simp only [Act.put, List.setIfInBounds_toArray, List.set_cons_zero, List.set_cons_succ]
                  rfl
                refine one_ (i := 12) (N := some 130) #[true, true, true, true, true, true, true, true, true, true, true, true, true, false, false, false, false, false, false, false, false, false, false, false] rfl rfl (by kernel_rfl) (by decide) (fun K_ hK_ => ?_)
                have HH_ := Aside0.mk hHeld
                clear hHeld
                refine goes_ Try.func58 (by kernel_rfl) rfl #[.pointer (some ⟨g2, 0, none⟩)] (by rfl) rfl rfl (by (try simp only [List.map_toArray, List.map_cons, List.map_nil]); first | done | rfl | (simp only [List.length_drop, List.length_take]; rfl)) ?_
                refine (r19_Bytes.is _ g2 room _ l' e' _ HSY.out.d HLN.out.1 HLN.out.2).mono ?_
                rintro e_ w58 ⟨rfl, hw_⟩
                rw [hw_]
                clear hw_ w58
                refine ⟨_, rfl, ?_⟩
                have hbe_ := HH_.out
                clear HH_
                refine hK_.out _ _ (hbe_) (fun hHeld => ?_)
                clear hK_
                refine norm_ (a' := ?_) ?_ ?_
                rotate_left
                · simp only [Act.put, List.setIfInBounds_toArray, List.set_cons_zero, List.set_cons_succ]
                  rfl
                refine pure_ (i := 13) (N := some 131) (v := ?_) (a' := ?_) #[true, true, true, true, true, true, true, true, true, true, true, true, true, true, false, false, false, false, false, false, false, false, false, false] rfl rfl (by kernel_rfl) (fun _ _ _ h => h) (Or.inl ⟨by rfl, ?_⟩) ?_ ?_
                rotate_left
                · intro w'
                  go_simp
                  with_reducible rfl
                rotate_left
                · simp only [Act.put, List.setIfInBounds_toArray, List.set_cons_zero, List.set_cons_succ]
                  rfl
                refine pure_ (i := 14) (N := some 132) (v := ?_) (a' := ?_) #[true, true, true, true, true, true, true, true, true, true, true, true, true, true, true, false, false, false, false, false, false, false, false, false] rfl rfl (by kernel_rfl) (fun _ _ _ h => h) (Or.inl ⟨by rfl, ?_⟩) ?_ ?_
                rotate_left
                · intro w'
                  go_simp
                  with_reducible rfl
                rotate_left
                · simp only [Act.put, List.setIfInBounds_toArray, List.set_cons_zero, List.set_cons_succ]
                  rfl
                refine pure_ (i := 15) (N := some 133) (v := ?_) (a' := ?_) #[true, true, true, true, true, true, true, true, true, true, true, true, true, true, true, true, false, false, false, false, false, false, false, false] rfl rfl (by kernel_rfl) (fun _ _ _ h => h) (Or.inl ⟨by rfl, ?_⟩) ?_ ?_
                rotate_left
                · intro w'
                  go_simp
                  with_reducible rfl
                rotate_left
                · simp only [Act.put, List.setIfInBounds_toArray, List.set_cons_zero, List.set_cons_succ]
                  rfl
                refine pure_ (i := 16) (N := some 134) (v := ?_) (a' := ?_) #[true, true, true, true, true, true, true, true, true, true, true, true, true, true, true, true, true, false, false, false, false, false, false, false] rfl rfl (by kernel_rfl) (fun _ _ _ h => h) (Or.inl ⟨by rfl, ?_⟩) ?_ ?_
                rotate_left
                · intro w'
                  go_simp
                  with_reducible rfl
                rotate_left
                · simp only [Act.put, List.setIfInBounds_toArray, List.set_cons_zero, List.set_cons_succ]
                  rfl
                refine pure_ (i := 18) (N := some 136) (v := ?_) (a' := ?_) #[true, true, true, true, true, true, true, true, true, true, true, true, true, true, true, true, true, false, true, false, false, false, false, false] rfl rfl (by kernel_rfl) (fun _ _ _ h => h) (Or.inl ⟨by rfl, ?_⟩) ?_ ?_
                rotate_left
                · intro w'
                  go_simp
                  with_reducible rfl
                rotate_left
                · simp only [Act.put, List.setIfInBounds_toArray, List.set_cons_zero, List.set_cons_succ]
                  rfl
                refine pure_ (i := 19) (N := some 137) (v := ?_) (a' := ?_) #[true, true, true, true, true, true, true, true, true, true, true, true, true, true, true, true, true, false, true, true, false, false, false, false] rfl rfl (by kernel_rfl) (fun _ _ _ h => h) (Or.inl ⟨by rfl, ?_⟩) ?_ ?_
                rotate_left
                · intro w'
                  go_simp
                  with_reducible rfl
                rotate_left
                · simp only [Act.put, List.setIfInBounds_toArray, List.set_cons_zero, List.set_cons_succ]
                  rfl
                refine pure_ (i := 20) (N := some 138) (v := ?_) (a' := ?_) #[true, true, true, true, true, true, true, true, true, true, true, true, true, true, true, true, true, false, true, true, true, false, false, false] rfl rfl (by kernel_rfl) (fun _ _ _ h => h) (Or.inl ⟨by rfl, ?_⟩) ?_ ?_
                rotate_left
                · intro w'
                  go_simp
                  with_reducible rfl
                rotate_left
                · simp only [Act.put, List.setIfInBounds_toArray, List.set_cons_zero, List.set_cons_succ]
                  rfl
                refine take_ (i := 21) (N := some 139) (v := ?_) (a' := ?_) #[true, true, true, true, true, true, true, true, true, true, true, true, true, true, true, true, true, false, true, true, true, true, false, false] rfl rfl (by kernel_rfl) (fun _ _ _ h => h) (Or.inl ⟨by rfl, ?_⟩) hHeld ?_ ?_
                rotate_left
                · intro w' hS_
                  have b1_ : w'.cell? ⟨g2, 2, none⟩ = some (.bool e') := (blk_cell (HSZ.out.below hS_).d.blk 2).trans rfl
                  go_simp
                  with_reducible rfl
                rotate_left
                · simp only [Act.put, List.setIfInBounds_toArray, List.set_cons_zero, List.set_cons_succ]
                  rfl
                refine one_ (i := 17) (N := some 135) #[true, true, true, true, true, true, true, true, true, true, true, true, true, true, true, true, true, true, true, true, true, true, false, false] rfl rfl (by kernel_rfl) (by decide) (fun K_ hK_ => ?_)
                have HH_ := Aside0.mk hHeld
                clear hHeld
                refine goes_ Try.func59 (by kernel_rfl) rfl #[.pointer (some ⟨g1, 0, none⟩)] (by rfl) rfl rfl (by (try simp only [List.map_toArray, List.map_cons, List.map_nil]); first | done | rfl | (simp only [List.length_drop, List.length_take]; rfl)) ?_
                refine (control_Ended.is HSY.out.c.io).mono ?_
                rintro e_ w59 ⟨rfl, hw_⟩
                rw [hw_]
                clear hw_ w59
                refine ⟨_, rfl, ?_⟩
                have hbe_ := HH_.out
                clear HH_
                refine hK_.out _ _ (hbe_) (fun hHeld => ?_)
                clear hK_
                refine norm_ (a' := ?_) ?_ ?_
                rotate_left
                · simp only [Act.put, List.setIfInBounds_toArray, List.set_cons_zero, List.set_cons_succ]
                  rfl
                refine pure_ (i := 22) (N := some 140) (v := ?_) (a' := ?_) #[true, true, true, true, true, true, true, true, true, true, true, true, true, true, true, true, true, true, true, true, true, true, true, false] rfl rfl (by kernel_rfl) (fun _ _ _ h => h) (Or.inl ⟨by rfl, ?_⟩) ?_ ?_
                rotate_left
                · intro w'
                  go_simp
                  with_reducible rfl
                rotate_left
                · simp only [Act.put, List.setIfInBounds_toArray, List.set_cons_zero, List.set_cons_succ]
                  rfl
                refine pure_ (i := 23) (N := some 141) (v := ?_) (a' := ?_) #[true, true, true, true, true, true, true, true, true, true, true, true, true, true, true, true, true, true, true, true, true, true, true, true] rfl rfl (by kernel_rfl) (fun _ _ _ h => h) (Or.inl ⟨by rfl, ?_⟩) ?_ ?_
                rotate_left
                · intro w'
                  go_simp
                  with_reducible rfl
                rotate_left
                · simp only [Act.put, List.setIfInBounds_toArray, List.set_cons_zero, List.set_cons_succ]
                  rfl
                refine done_ (by kernel_rfl) ?_
                have HBy : Aside0 (Both w wy g1 g2 room l' e') := ⟨⟨_, _, _, _, HSY.out⟩⟩
                clear hHeld HSZ HSY
                go_wp2
                go_roundg k1
                case measure => omega
                case rel => exact ⟨i + 1, l', e', (by rw [HW.out]), ⟨by have := HK.out; omega⟩, HBy, HNz⟩
              · go_wp2
                obtain ⟨r_, l', e', hq⟩ : ∃ r_ l' e', pushR true room l ended ⟨x0, x1, x2, x3⟩ = (r_, l', e') := ⟨_, _, _, rfl⟩
                have hql := pushR_len true room l ended ⟨x0, x1, x2, x3⟩
                rw [hq] at hql
                have HQ := Aside0.mk hq
                have HQL := Aside0.mk hql
                clear hq hql hx0
                refine start_ (n := 15) (S := fun w' => Below w.heap.size w w') (ds := []) #[false, false, false, false, false, false, false, false, false, false, false, false, false, false, false] (by kernel_rfl) rfl rfl (below_drew1 HS0.out.c.be) (fun hHeld => ?_)
                refine pure_ (i := 0) (N := some 103) (v := ?_) (a' := ?_) #[true, false, false, false, false, false, false, false, false, false, false, false, false, false, false] rfl rfl (by kernel_rfl) (fun _ _ _ h => h) (Or.inl ⟨by rfl, ?_⟩) ?_ ?_
                rotate_left
                · intro w'
                  go_simp
                  with_reducible rfl
                rotate_left
                · simp only [Act.put, List.setIfInBounds_toArray, List.set_cons_zero, List.set_cons_succ]
                  rfl
                refine pure_ (i := 1) (N := some 104) (v := ?_) (a' := ?_) #[true, true, false, false, false, false, false, false, false, false, false, false, false, false, false] rfl rfl (by kernel_rfl) (fun _ _ _ h => h) (Or.inl ⟨by rfl, ?_⟩) ?_ ?_
                rotate_left
                · intro w'
                  go_simp
                  with_reducible rfl
                rotate_left
                · simp only [Act.put, List.setIfInBounds_toArray, List.set_cons_zero, List.set_cons_succ]
                  rfl
                refine pure_ (i := 2) (N := some 105) (v := ?_) (a' := ?_) #[true, true, true, false, false, false, false, false, false, false, false, false, false, false, false] rfl rfl (by kernel_rfl) (fun _ _ _ h => h) (Or.inl ⟨by rfl, ?_⟩) ?_ ?_
                rotate_left
                · intro w'
                  go_simp
                  with_reducible rfl
                rotate_left
                · simp only [Act.put, List.setIfInBounds_toArray, List.set_cons_zero, List.set_cons_succ]
                  rfl
                refine pure_ (i := 3) (N := some 106) (v := ?_) (a' := ?_) #[true, true, true, true, false, false, false, false, false, false, false, false, false, false, false] rfl rfl (by kernel_rfl) (fun _ _ _ h => h) (Or.inl ⟨by rfl, ?_⟩) ?_ ?_
                rotate_left
                · intro w'
                  go_simp
                  with_reducible rfl
                rotate_left
                · simp only [Act.put, List.setIfInBounds_toArray, List.set_cons_zero, List.set_cons_succ]
                  rfl
                refine pure_ (i := 4) (N := some 107) (v := ?_) (a' := ?_) #[true, true, true, true, true, false, false, false, false, false, false, false, false, false, false] rfl rfl (by kernel_rfl) (fun _ _ _ h => h) (Or.inl ⟨by rfl, ?_⟩) ?_ ?_
                rotate_left
                · intro w'
                  go_simp
                  with_reducible rfl
                rotate_left
                · simp only [Act.put, List.setIfInBounds_toArray, List.set_cons_zero, List.set_cons_succ]
                  rfl
                refine take_ (i := 5) (N := some 108) (v := ?_) (a' := ?_) #[true, true, true, true, true, true, false, false, false, false, false, false, false, false, false] rfl rfl (by kernel_rfl) (fun _ _ _ h => h) (Or.inl ⟨by rfl, ?_⟩) hHeld ?_ ?_
                rotate_left
                · intro w' hS_
                  have b1_ := (hS_.cell (World.block_lt_of_cell? w _ HX1.out)).trans HX1.out
                  have b2_ := (hS_.cell (World.block_lt_of_cell? w _ HX2.out)).trans HX2.out
                  have b3_ := (hS_.cell (World.block_lt_of_cell? w _ HX3.out)).trans HX3.out
                  have b4_ := (hS_.cell (World.block_lt_of_cell? w _ HX4.out)).trans HX4.out
                  go_simp
                  with_reducible rfl
                rotate_left
                · simp only [Act.put, List.setIfInBounds_toArray, List.set_cons_zero, List.set_cons_succ]
                  rfl
                refine pure_ (i := 7) (N := some 110) (v := ?_) (a' := ?_) #[true, true, true, true, true, true, false, true, false, false, false, false, false, false, false] rfl rfl (by kernel_rfl) (fun _ _ _ h => h) (Or.inl ⟨by rfl, ?_⟩) ?_ ?_
                rotate_left
                · intro w'
                  go_simp
                  with_reducible rfl
                rotate_left
                · simp only [Act.put, List.setIfInBounds_toArray, List.set_cons_zero, List.set_cons_succ]
                  rfl
                refine pure_ (i := 8) (N := some 111) (v := ?_) (a' := ?_) #[true, true, true, true, true, true, false, true, true, false, false, false, false, false, false] rfl rfl (by kernel_rfl) (fun _ _ _ h => h) (Or.inl ⟨by rfl, ?_⟩) ?_ ?_
                rotate_left
                · intro w'
                  go_simp
                  with_reducible rfl
                rotate_left
                · simp only [Act.put, List.setIfInBounds_toArray, List.set_cons_zero, List.set_cons_succ]
                  rfl
                refine pure_ (i := 9) (N := some 112) (v := ?_) (a' := ?_) #[true, true, true, true, true, true, false, true, true, true, false, false, false, false, false] rfl rfl (by kernel_rfl) (fun _ _ _ h => h) (Or.inl ⟨by rfl, ?_⟩) ?_ ?_
                rotate_left
                · intro w'
                  go_simp
                  with_reducible rfl
                rotate_left
                · simp only [Act.put, List.setIfInBounds_toArray, List.set_cons_zero, List.set_cons_succ]
                  rfl
                refine pure_ (i := 10) (N := some 113) (v := ?_) (a' := ?_) #[true, true, true, true, true, true, false, true, true, true, true, false, false, false, false] rfl rfl (by kernel_rfl) (fun _ _ _ h => h) (Or.inl ⟨by rfl, ?_⟩) ?_ ?_
                rotate_left
                · intro w'
                  go_simp
                  with_reducible rfl
                rotate_left
                · simp only [Act.put, List.setIfInBounds_toArray, List.set_cons_zero, List.set_cons_succ]
                  rfl
                refine pure_ (i := 11) (N := some 114) (v := ?_) (a' := ?_) #[true, true, true, true, true, true, false, true, true, true, true, true, false, false, false] rfl rfl (by kernel_rfl) (fun _ _ _ h => h) (Or.inl ⟨by rfl, ?_⟩) ?_ ?_
                rotate_left
                · intro w'
                  go_simp
                  with_reducible rfl
                rotate_left
                · simp only [Act.put, List.setIfInBounds_toArray, List.set_cons_zero, List.set_cons_succ]
                  rfl
                refine take_ (i := 12) (N := some 115) (v := ?_) (a' := ?_) #[true, true, true, true, true, true, false, true, true, true, true, true, true, false, false] rfl rfl (by kernel_rfl) (fun _ _ _ h => h) (Or.inl ⟨by rfl, ?_⟩) hHeld ?_ ?_
                rotate_left
                · intro w' hS_
                  have b1_ := (hS_.cell (World.block_lt_of_cell? w _ HX1.out)).trans HX1.out
                  have b2_ := (hS_.cell (World.block_lt_of_cell? w _ HX2.out)).trans HX2.out
                  have b3_ := (hS_.cell (World.block_lt_of_cell? w _ HX3.out)).trans HX3.out
                  have b4_ := (hS_.cell (World.block_lt_of_cell? w _ HX4.out)).trans HX4.out
                  go_simp
                  with_reducible rfl
                rotate_left
                · simp only [Act.put, List.setIfInBounds_toArray, List.set_cons_zero, List.set_cons_succ]
                  rfl
                refine one_ (i := 6) (N := some 109) #[true, true, true, true, true, true, true, true, true, true, true, true, true, false, false] rfl rfl (by kernel_rfl) (by decide) (fun K_ hK_ => ?_)
                have HH_ := Aside0.mk hHeld
                clear hHeld
                refine goes_ Try.func52 (by kernel_rfl) rfl #[.pointer (some ⟨g1, 0, none⟩), .agg #[.int .i64 x0, .int .i64 x1, .int .i64 x2, .slice A4 x3.length c4]] (by rfl) rfl rfl (by (try simp only [List.map_toArray, List.map_cons, List.map_nil]); first | done | rfl | (simp only [List.length_drop, List.length_take]; rfl)) ?_
                refine (StD.lastC (HS0.out.below (below_drew (Below.refl _ _))) x0 x1 x2 A4 c4 x3 HC4.out HCC.out (by have := HAx.out; omega) (by have := HN.out.1; have := HL.out; have := c5; omega)).mono ?_
                rintro e_ wc ⟨he, v1b, ok1b, hSb⟩
                rw [HQ.out] at he hSb
                subst he
                refine ⟨_, rfl, ?_⟩
                have HSC := Aside0.mk hSb
                have hbe_ := hSb.c.be
                clear hSb HH_ HS0
                refine hK_.out _ _ (hbe_) (fun hHeld => ?_)
                clear hK_
                refine norm_ (a' := ?_) ?_ ?_
                rotate_left
                · simp only [Act.put, List.setIfInBounds_toArray, List.set_cons_zero, List.set_cons_succ]
                  rfl
                refine one_ (i := 13) (N := some 116) #[true, true, true, true, true, true, true, true, true, true, true, true, true, true, false] rfl rfl (by kernel_rfl) (by decide) (fun K_ hK_ => ?_)
                have HH_ := Aside0.mk hHeld
                clear hHeld
                refine goes_ Try.func53 (by kernel_rfl) rfl #[.pointer (some ⟨g2, 0, none⟩), .agg #[.int .i64 x0, .int .i64 x1, .int .i64 x2, .slice A4 x3.length c4]] (by rfl) rfl rfl (by (try simp only [List.map_toArray, List.map_cons, List.map_nil]); first | done | rfl | (simp only [List.length_drop, List.length_take]; rfl)) ?_
                refine (StD.lastD HSC.out x0 x1 x2 A4 c4 x3 (FK67_of HC4.out HCC.out HH_.out) (fun _ h => h) (by have := HN.out.1; have := HL.out; have := c5; omega)).mono ?_
                rintro e_ wz ⟨he, v2b, ok2b, hSb⟩
                rw [HQ.out] at he hSb
                subst he
                refine ⟨_, rfl, ?_⟩
                have HSZ := Aside0.mk hSb
                have hbe_ := hSb.c.be
                clear hSb HH_ HSC
                refine hK_.out _ _ (hbe_) (fun hHeld => ?_)
                clear hK_
                refine norm_ (a' := ?_) ?_ ?_
                rotate_left
                · simp only [Act.put, List.setIfInBounds_toArray, List.set_cons_zero, List.set_cons_succ]
                  rfl
                refine pure_ (i := 14) (N := some 117) (v := ?_) (a' := ?_) #[true, true, true, true, true, true, true, true, true, true, true, true, true, true, true] rfl rfl (by kernel_rfl) (fun _ _ _ h => h) (Or.inl ⟨by rfl, ?_⟩) ?_ ?_
                rotate_left
                · intro w'
                  go_simp
                  with_reducible rfl
                rotate_left
                · simp only [Act.put, List.setIfInBounds_toArray, List.set_cons_zero, List.set_cons_succ]
                  rfl
                refine done_ (by kernel_rfl) ?_
                have HBz : Aside0 (Both w wz g1 g2 room l' e') := ⟨⟨_, _, _, _, HSZ.out⟩⟩
                have HNz : Aside0 (l'.length ≤ (i + 1).toNat ∧ sumF l' ≤ 300 * (i + 1).toNat) := ⟨by have h1 := HQL.out; have h2 := HN.out; have h3 := HAx.out; simp only [] at h1; omega⟩
                clear hHeld HSZ HQL HQ HN HC4 HCC HAx HX0 HX1 HX2 HX3 HX4
                have HLN : Aside0 (l'.length ≤ 100000 ∧ sumF l' ≤ 1000000000) := ⟨by have h1 := HNz.out; have h2 := HL.out; have h3 := c5; omega⟩
                obtain ⟨v1z, ok1z, v2z, ok2z, hst⟩ := HBz.out
                obtain ⟨A2z, c2z, rfl⟩ := hst.d.form
                have HSZ := Aside0.mk hst
                clear hst HBz
                go_wp2
                refine start_ (n := 24) (S := fun w' => Below wz.heap.size wz w') (ds := []) #[false, false, false, false, false, false, false, false, false, false, false, false, false, false, false, false, false, false, false, false, false, false, false, false] (by kernel_rfl) rfl rfl (below_drew1 (Below.refl _ _)) (fun hHeld => ?_)
                refine pure_ (i := 0) (N := some 118) (v := ?_) (a' := ?_) #[true, false, false, false, false, false, false, false, false, false, false, false, false, false, false, false, false, false, false, false, false, false, false, false] rfl rfl (by kernel_rfl) (fun _ _ _ h => h) (Or.inl ⟨by rfl, ?_⟩) ?_ ?_
                rotate_left
                · intro w'
                  go_simp
                  with_reducible rfl
                rotate_left
                · simp only [Act.put, List.setIfInBounds_toArray, List.set_cons_zero, List.set_cons_succ]
                  rfl
                refine pure_ (i := 2) (N := some 120) (v := ?_) (a' := ?_) #[true, false, true, false, false, false, false, false, false, false, false, false, false, false, false, false, false, false, false, false, false, false, false, false] rfl rfl (by kernel_rfl) (fun _ _ _ h => h) (Or.inl ⟨by rfl, ?_⟩) ?_ ?_
                rotate_left
                · intro w'
                  go_simp
                  with_reducible rfl
                rotate_left
                · simp only [Act.put, List.setIfInBounds_toArray, List.set_cons_zero, List.set_cons_succ]
                  rfl
                refine pure_ (i := 3) (N := some 121) (v := ?_) (a' := ?_) #[true, false, true, true, false, false, false, false, false, false, false, false, false, false, false, false, false, false, false, false, false, false, false, false] rfl rfl (by kernel_rfl) (fun _ _ _ h => h) (Or.inl ⟨by rfl, ?_⟩) ?_ ?_
                rotate_left
                · intro w'
                  go_simp
                  with_reducible rfl
                rotate_left
                · simp only [Act.put, List.setIfInBounds_toArray, List.set_cons_zero, List.set_cons_succ]
                  rfl
                refine pure_ (i := 4) (N := some 122) (v := ?_) (a' := ?_) #[true, false, true, true, true, false, false, false, false, false, false, false, false, false, false, false, false, false, false, false, false, false, false, false] rfl rfl (by kernel_rfl) (fun _ _ _ h => h) (Or.inl ⟨by rfl, ?_⟩) ?_ ?_
                rotate_left
                · intro w'
                  go_simp
                  with_reducible rfl
                rotate_left
                · simp only [Act.put, List.setIfInBounds_toArray, List.set_cons_zero, List.set_cons_succ]
                  rfl
                refine take_ (i := 5) (N := some 123) (v := ?_) (a' := ?_) #[true, false, true, true, true, true, false, false, false, false, false, false, false, false, false, false, false, false, false, false, false, false, false, false] rfl rfl (by kernel_rfl) (fun _ _ _ h => h) (Or.inl ⟨by rfl, ?_⟩) hHeld ?_ ?_
                rotate_left
                · intro w' hS_
                  have b1_ : w'.cell? ⟨g2, 1, none⟩ = some (.slice A2z l'.length c2z) := (blk_cell (HSZ.out.below hS_).d.blk 1).trans rfl
                  go_simp
                  with_reducible rfl
                rotate_left
                · simp only [Act.put, List.setIfInBounds_toArray, List.set_cons_zero, List.set_cons_succ]
                  rfl
                refine pure_ (i := 6) (N := some 124) (v := ?_) (a' := ?_) #[true, false, true, true, true, true, true, false, false, false, false, false, false, false, false, false, false, false, false, false, false, false, false, false] rfl rfl (by kernel_rfl) (fun _ _ _ h => h) (Or.inl ⟨by rfl, ?_⟩) ?_ ?_
                rotate_left
                · intro w'
                  go_simp
                  with_reducible rfl
                rotate_left
                · simp only [Act.put, List.setIfInBounds_toArray, List.set_cons_zero, List.set_cons_succ]
                  rfl
                refine one_ (i := 1) (N := some 119) #[true, true, true, true, true, true, true, false, false, false, false, false, false, false, false, false, false, false, false, false, false, false, false, false] rfl rfl (by kernel_rfl) (by decide) (fun K_ hK_ => ?_)
                have HH_ := Aside0.mk hHeld
                clear hHeld
                refine goes_ Try.func56 (by kernel_rfl) rfl #[.pointer (some ⟨g1, 0, none⟩)] (by rfl) rfl rfl (by (try simp only [List.map_toArray, List.map_cons, List.map_nil]); first | done | rfl | (simp only [List.length_drop, List.length_take]; rfl)) ?_
                refine (control_Len.is (HSZ.out.below (below_drew (Below.refl _ _))).c.io).mono ?_
                rintro e_ w56 ⟨rfl, hw_⟩
                rw [hw_]
                clear hw_ w56
                refine ⟨_, rfl, ?_⟩
                have hbe_ := HH_.out
                clear HH_
                refine hK_.out _ _ (hbe_) (fun hHeld => ?_)
                clear hK_
                refine norm_ (a' := ?_) ?_ ?_
                rotate_left
                · simp only [Act.put, List.setIfInBounds_toArray, List.set_cons_zero, List.set_cons_succ]
                  rfl
                refine pure_ (i := 7) (N := some 125) (v := ?_) (a' := ?_) #[true, true, true, true, true, true, true, true, false, false, false, false, false, false, false, false, false, false, false, false, false, false, false, false] rfl rfl (by kernel_rfl) (fun _ _ _ h => h) (Or.inl ⟨by rfl, ?_⟩) ?_ ?_
                rotate_left
                · intro w'
                  go_simp
                  with_reducible rfl
                rotate_left
                · simp only [Act.put, List.setIfInBounds_toArray, List.set_cons_zero, List.set_cons_succ]
                  rfl
                refine pure_ (i := 8) (N := some 126) (v := ?_) (a' := ?_) #[true, true, true, true, true, true, true, true, true, false, false, false, false, false, false, false, false, false, false, false, false, false, false, false] rfl rfl (by kernel_rfl) (fun _ _ _ h => h) (Or.inl ⟨by rfl, ?_⟩) ?_ ?_
                rotate_left
                · intro w'
                  go_simp
                  with_reducible rfl
                rotate_left
                · simp only [Act.put, List.setIfInBounds_toArray, List.set_cons_zero, List.set_cons_succ]
                  rfl
                refine pure_ (i := 9) (N := some 127) (v := ?_) (a' := ?_) #[true, true, true, true, true, true, true, true, true, true, false, false, false, false, false, false, false, false, false, false, false, false, false, false] rfl rfl (by kernel_rfl) (fun _ _ _ h => h) (Or.inl ⟨by rfl, ?_⟩) ?_ ?_
                rotate_left
                · intro w'
                  go_simp
                  with_reducible rfl
                rotate_left
                · simp only [Act.put, List.setIfInBounds_toArray, List.set_cons_zero, List.set_cons_succ]
                  rfl
                refine pure_ (i := 11) (N := some 129) (v := ?_) (a' := ?_) #[true, true, true, true, true, true, true, true, true, true, false, true, false, false, false, false, false, false, false, false, false, false, false, false] rfl rfl (by kernel_rfl) (fun _ _ _ h => h) (Or.inl ⟨by rfl, ?_⟩) ?_ ?_
                rotate_left
                · intro w'
                  go_simp
                  with_reducible rfl
                rotate_left
                · simp only [Act.put, List.setIfInBounds_toArray, List.set_cons_zero, List.set_cons_succ]
                  rfl
                refine one_ (i := 10) (N := some 128) #[true, true, true, true, true, true, true, true, true, true, true, true, false, false, false, false, false, false, false, false, false, false, false, false] rfl rfl (by kernel_rfl) (by decide) (fun K_ hK_ => ?_)
                have HH_ := Aside0.mk hHeld
                clear hHeld
                refine goes_ Try.func57 (by kernel_rfl) rfl #[.pointer (some ⟨g1, 0, none⟩)] (by rfl) rfl rfl (by (try simp only [List.map_toArray, List.map_cons, List.map_nil]); first | done | rfl | (simp only [List.length_drop, List.length_take]; rfl)) ?_
                refine (control_Bytes.is _ g1 room _ l' e' _ (HSZ.out.below (below_drew (Below.refl _ _))).c.io HLN.out.1 HLN.out.2).mono ?_
                rintro e_ wy ⟨rfl, hb_⟩
                refine ⟨_, rfl, ?_⟩
                have HSY := Aside0.mk ((HSZ.out.below (below_drew (Below.refl _ _))).below hb_)
                have hbe_ := below_step HH_.out hb_
                clear hb_ HH_
                refine hK_.out _ _ (hbe_) (fun hHeld => ?_)
                clear hK_
                refine norm_ (a' := ?_) ?_ ?_
                rotate_left
                · simp only [Act.put, List.setIfInBounds_toArray, List.set_cons_zero, List.set_cons_succ]
                  rfl
                refine one_ (i := 12) (N := some 130) #[true, true, true, true, true, true, true, true, true, true, true, true, true, false, false, false, false, false, false, false, false, false, false, false] rfl rfl (by kernel_rfl) (by decide) (fun K_ hK_ => ?_)
                have HH_ := Aside0.mk hHeld
                clear hHeld
                refine goes_ Try.func58 (by kernel_rfl) rfl #[.pointer (some ⟨g2, 0, none⟩)] (by rfl) rfl rfl (by (try simp only [List.map_toArray, List.map_cons, List.map_nil]); first | done | rfl | (simp only [List.length_drop, List.length_take]; rfl)) ?_
                refine (r19_Bytes.is _ g2 room _ l' e' _ HSY.out.d HLN.out.1 HLN.out.2).mono ?_
                rintro e_ w58 ⟨rfl, hw_⟩
                rw [hw_]
                clear hw_ w58
                refine ⟨_, rfl, ?_⟩
                have hbe_ := HH_.out
                clear HH_
                refine hK_.out _ _ (hbe_) (fun hHeld => ?_)
                clear hK_
                refine norm_ (a' := ?_) ?_ ?_
                rotate_left
                · simp only [Act.put, List.setIfInBounds_toArray, List.set_cons_zero, List.set_cons_succ]
                  rfl
                refine pure_ (i := 13) (N := some 131) (v := ?_) (a' := ?_) #[true, true, true, true, true, true, true, true, true, true, true, true, true, true, false, false, false, false, false, false, false, false, false, false] rfl rfl (by kernel_rfl) (fun _ _ _ h => h) (Or.inl ⟨by rfl, ?_⟩) ?_ ?_
                rotate_left
                · intro w'
                  go_simp
                  with_reducible rfl
                rotate_left
                · simp only [Act.put, List.setIfInBounds_toArray, List.set_cons_zero, List.set_cons_succ]
                  rfl
                refine pure_ (i := 14) (N := some 132) (v := ?_) (a' := ?_) #[true, true, true, true, true, true, true, true, true, true, true, true, true, true, true, false, false, false, false, false, false, false, false, false] rfl rfl (by kernel_rfl) (fun _ _ _ h => h) (Or.inl ⟨by rfl, ?_⟩) ?_ ?_
                rotate_left
                · intro w'
                  go_simp
                  with_reducible rfl
                rotate_left
                · simp only [Act.put, List.setIfInBounds_toArray, List.set_cons_zero, List.set_cons_succ]
                  rfl
                refine pure_ (i := 15) (N := some 133) (v := ?_) (a' := ?_) #[true, true, true, true, true, true, true, true, true, true, true, true, true, true, true, true, false, false, false, false, false, false, false, false] rfl rfl (by kernel_rfl) (fun _ _ _ h => h) (Or.inl ⟨by rfl, ?_⟩) ?_ ?_
                rotate_left
                · intro w'
                  go_simp
                  with_reducible rfl
                rotate_left
                · simp only [Act.put, List.setIfInBounds_toArray, List.set_cons_zero, List.set_cons_succ]
                  rfl
                refine pure_ (i := 16) (N := some 134) (v := ?_) (a' := ?_) #[true, true, true, true, true, true, true, true, true, true, true, true, true, true, true, true, true, false, false, false, false, false, false, false] rfl rfl (by kernel_rfl) (fun _ _ _ h => h) (Or.inl ⟨by rfl, ?_⟩) ?_ ?_
                rotate_left
                · intro w'
                  go_simp
                  with_reducible rfl
                rotate_left
                · simp only [Act.put, List.setIfInBounds_toArray, List.set_cons_zero, List.set_cons_succ]
                  rfl
                refine pure_ (i := 18) (N := some 136) (v := ?_) (a' := ?_) #[true, true, true, true, true, true, true, true, true, true, true, true, true, true, true, true, true, false, true, false, false, false, false, false] rfl rfl (by kernel_rfl) (fun _ _ _ h => h) (Or.inl ⟨by rfl, ?_⟩) ?_ ?_
                rotate_left
                · intro w'
                  go_simp
                  with_reducible rfl
                rotate_left
                · simp only [Act.put, List.setIfInBounds_toArray, List.set_cons_zero, List.set_cons_succ]
                  rfl
                refine pure_ (i := 19) (N := some 137) (v := ?_) (a' := ?_) #[true, true, true, true, true, true, true, true, true, true, true, true, true, true, true, true, true, false, true, true, false, false, false, false] rfl rfl (by kernel_rfl) (fun _ _ _ h => h) (Or.inl ⟨by rfl, ?_⟩) ?_ ?_
                rotate_left
                · intro w'
                  go_simp
                  with_reducible rfl
                rotate_left
                · simp only [Act.put, List.setIfInBounds_toArray, List.set_cons_zero, List.set_cons_succ]
                  rfl
                refine pure_ (i := 20) (N := some 138) (v := ?_) (a' := ?_) #[true, true, true, true, true, true, true, true, true, true, true, true, true, true, true, true, true, false, true, true, true, false, false, false] rfl rfl (by kernel_rfl) (fun _ _ _ h => h) (Or.inl ⟨by rfl, ?_⟩) ?_ ?_
                rotate_left
                · intro w'
                  go_simp
                  with_reducible rfl
                rotate_left
                · simp only [Act.put, List.setIfInBounds_toArray, List.set_cons_zero, List.set_cons_succ]
                  rfl
                refine take_ (i := 21) (N := some 139) (v := ?_) (a' := ?_) #[true, true, true, true, true, true, true, true, true, true, true, true, true, true, true, true, true, false, true, true, true, true, false, false] rfl rfl (by kernel_rfl) (fun _ _ _ h => h) (Or.inl ⟨by rfl, ?_⟩) hHeld ?_ ?_
                rotate_left
                · intro w' hS_
                  have b1_ : w'.cell? ⟨g2, 2, none⟩ = some (.bool e') := (blk_cell (HSZ.out.below hS_).d.blk 2).trans rfl
                  go_simp
                  with_reducible rfl
                rotate_left
                · simp only [Act.put, List.setIfInBounds_toArray, List.set_cons_zero, List.set_cons_succ]
                  rfl
                refine one_ (i := 17) (N := some 135) #[true, true, true, true, true, true, true, true, true, true, true, true, true, true, true, true, true, true, true, true, true, true, false, false] rfl rfl (by kernel_rfl) (by decide) (fun K_ hK_ => ?_)
                have HH_ := Aside0.mk hHeld
                clear hHeld
                refine goes_ Try.func59 (by kernel_rfl) rfl #[.pointer (some ⟨g1, 0, none⟩)] (by rfl) rfl rfl (by (try simp only [List.map_toArray, List.map_cons, List.map_nil]); first | done | rfl | (simp only [List.length_drop, List.length_take]; rfl)) ?_
                refine (control_Ended.is HSY.out.c.io).mono ?_
                rintro e_ w59 ⟨rfl, hw_⟩
                rw [hw_]
                clear hw_ w59
                refine ⟨_, rfl, ?_⟩
                have hbe_ := HH_.out
                clear HH_
                refine hK_.out _ _ (hbe_) (fun hHeld => ?_)
                clear hK_
                refine norm_ (a' := ?_) ?_ ?_
                rotate_left
                · simp only [Act.put, List.setIfInBounds_toArray, List.set_cons_zero, List.set_cons_succ]
                  rfl
                refine pure_ (i := 22) (N := some 140) (v := ?_) (a' := ?_) #[true, true, true, true, true, true, true, true, true, true, true, true, true, true, true, true, true, true, true, true, true, true, true, false] rfl rfl (by kernel_rfl) (fun _ _ _ h => h) (Or.inl ⟨by rfl, ?_⟩) ?_ ?_
                rotate_left
                · intro w'
                  go_simp
                  with_reducible rfl
                rotate_left
                · simp only [Act.put, List.setIfInBounds_toArray, List.set_cons_zero, List.set_cons_succ]
                  rfl
                refine pure_ (i := 23) (N := some 141) (v := ?_) (a' := ?_) #[true, true, true, true, true, true, true, true, true, true, true, true, true, true, true, true, true, true, true, true, true, true, true, true] rfl rfl (by kernel_rfl) (fun _ _ _ h => h) (Or.inl ⟨by rfl, ?_⟩) ?_ ?_
                rotate_left
                · intro w'
                  go_simp
                  with_reducible rfl
                rotate_left
                · simp only [Act.put, List.setIfInBounds_toArray, List.set_cons_zero, List.set_cons_succ]
                  rfl
                refine done_ (by kernel_rfl) ?_
                have HBy : Aside0 (Both w wy g1 g2 room l' e') := ⟨⟨_, _, _, _, HSY.out⟩⟩
                clear hHeld HSZ HSY
                go_wp2
                go_roundg k1
                case measure => omega
                case rel => exact ⟨i + 1, l', e', (by rw [HW.out]), ⟨by have := HK.out; omega⟩, HBy, HNz⟩
            · cases l with
              | nil =>
                go_wp2_with (first | (have h_ := HS0; clear h_; go_at_call 49; refine (control_Pop.empty _ g1 room _ _ _ HS0.out.c.io).mono ?_; rintro e_ wa ⟨rfl, hb⟩; have HSA := Aside0.mk (HS0.out.below hb); clear hb HS0 hx0) | (have h_ := HSA; clear h_; go_at_call 50; refine (r19_Pop.empty _ g2 room _ _ _ (HSA.out.alloc _).d).mono ?_; rintro e_ wb ⟨rfl, hb⟩; have HSB := Aside0.mk (((HSA.out.alloc (.cells #[.int .i64 0, .int .i64 0, .int .i64 0, .slice none 0 0] 67)).below hb).alloc (.cells #[.int .i64 0, .int .i64 0, .int .i64 0, .slice none 0 0] 67)); have hbx := (HSB.out.c.kp wa.heap.size _ (.inl (.inr ⟨rfl, rfl⟩))).1; have q0_ := (blk_cell hbx 0).trans rfl; have q1_ := (blk_cell hbx 1).trans rfl; have q2_ := (blk_cell hbx 2).trans rfl; have q3_ := (blk_cell hbx 3).trans rfl; clear hb hbx HSA) | (have h_ := HSB; clear h_; go_at_call 51; refine (gantletref02_Same.calls 2000 0 0 0 none 0 [] 0 0 0 none 0 [] true _ (C_nil8 _ _) (Nat.le_refl 0) (C_nil8 _ _) (Nat.le_refl 0) (same02_self 0 0 0 [] (by decide) (by decide))).mono ?_; rintro e_ wz ⟨rfl, hb⟩; obtain ⟨l', e', HBz, HNz⟩ : ∃ l' e', Aside0 (Both w wz g1 g2 room l' e') ∧ Aside0 (l'.length ≤ (i + 1).toNat ∧ sumF l' ≤ 300 * (i + 1).toNat) := ⟨[], ended, ⟨⟨_, _, _, _, (HSB.out.below hb).forget⟩⟩, ⟨by simp [sumF]⟩⟩; clear hb HSB q0_ q1_ q2_ q3_))
                have HLN : Aside0 (l'.length ≤ 100000 ∧ sumF l' ≤ 1000000000) := ⟨by have h1 := HNz.out; have h2 := HL.out; have h3 := c5; omega⟩
                obtain ⟨v1z, ok1z, v2z, ok2z, hst⟩ := HBz.out
                obtain ⟨A2z, c2z, rfl⟩ := hst.d.form
                have HSZ := Aside0.mk hst
                clear hst HBz
                refine start_ (n := 24) (S := fun w' => Below wz.heap.size wz w') (ds := []) #[false, false, false, false, false, false, false, false, false, false, false, false, false, false, false, false, false, false, false, false, false, false, false, false] (by kernel_rfl) rfl rfl (below_drew1 (Below.refl _ _)) (fun hHeld => ?_)
                refine pure_ (i := 0) (N := some 118) (v := ?_) (a' := ?_) #[true, false, false, false, false, false, false, false, false, false, false, false, false, false, false, false, false, false, false, false, false, false, false, false] rfl rfl (by kernel_rfl) (fun _ _ _ h => h) (Or.inl ⟨by rfl, ?_⟩) ?_ ?_
                rotate_left
                · intro w'
                  go_simp
                  with_reducible rfl
                rotate_left
                · simp only [Act.put, List.setIfInBounds_toArray, List.set_cons_zero, List.set_cons_succ]
                  rfl
                refine pure_ (i := 2) (N := some 120) (v := ?_) (a' := ?_) #[true, false, true, false, false, false, false, false, false, false, false, false, false, false, false, false, false, false, false, false, false, false, false, false] rfl rfl (by kernel_rfl) (fun _ _ _ h => h) (Or.inl ⟨by rfl, ?_⟩) ?_ ?_
                rotate_left
                · intro w'
                  go_simp
                  with_reducible rfl
                rotate_left
                · simp only [Act.put, List.setIfInBounds_toArray, List.set_cons_zero, List.set_cons_succ]
                  rfl
                refine pure_ (i := 3) (N := some 121) (v := ?_) (a' := ?_) #[true, false, true, true, false, false, false, false, false, false, false, false, false, false, false, false, false, false, false, false, false, false, false, false] rfl rfl (by kernel_rfl) (fun _ _ _ h => h) (Or.inl ⟨by rfl, ?_⟩) ?_ ?_
                rotate_left
                · intro w'
                  go_simp
                  with_reducible rfl
                rotate_left
                · simp only [Act.put, List.setIfInBounds_toArray, List.set_cons_zero, List.set_cons_succ]
                  rfl
                refine pure_ (i := 4) (N := some 122) (v := ?_) (a' := ?_) #[true, false, true, true, true, false, false, false, false, false, false, false, false, false, false, false, false, false, false, false, false, false, false, false] rfl rfl (by kernel_rfl) (fun _ _ _ h => h) (Or.inl ⟨by rfl, ?_⟩) ?_ ?_
                rotate_left
                · intro w'
                  go_simp
                  with_reducible rfl
                rotate_left
                · simp only [Act.put, List.setIfInBounds_toArray, List.set_cons_zero, List.set_cons_succ]
                  rfl
                refine take_ (i := 5) (N := some 123) (v := ?_) (a' := ?_) #[true, false, true, true, true, true, false, false, false, false, false, false, false, false, false, false, false, false, false, false, false, false, false, false] rfl rfl (by kernel_rfl) (fun _ _ _ h => h) (Or.inl ⟨by rfl, ?_⟩) hHeld ?_ ?_
                rotate_left
                · intro w' hS_
                  have b1_ : w'.cell? ⟨g2, 1, none⟩ = some (.slice A2z l'.length c2z) := (blk_cell (HSZ.out.below hS_).d.blk 1).trans rfl
                  go_simp
                  with_reducible rfl
                rotate_left
                · simp only [Act.put, List.setIfInBounds_toArray, List.set_cons_zero, List.set_cons_succ]
                  rfl
                refine pure_ (i := 6) (N := some 124) (v := ?_) (a' := ?_) #[true, false, true, true, true, true, true, false, false, false, false, false, false, false, false, false, false, false, false, false, false, false, false, false] rfl rfl (by kernel_rfl) (fun _ _ _ h => h) (Or.inl ⟨by rfl, ?_⟩) ?_ ?_
                rotate_left
                · intro w'
                  go_simp
                  with_reducible rfl
                rotate_left
                · simp only [Act.put, List.setIfInBounds_toArray, List.set_cons_zero, List.set_cons_succ]
                  rfl
                refine one_ (i := 1) (N := some 119) #[true, true, true, true, true, true, true, false, false, false, false, false, false, false, false, false, false, false, false, false, false, false, false, false] rfl rfl (by kernel_rfl) (by decide) (fun K_ hK_ => ?_)
                have HH_ := Aside0.mk hHeld
                clear hHeld
                refine goes_ Try.func56 (by kernel_rfl) rfl #[.pointer (some ⟨g1, 0, none⟩)] (by rfl) rfl rfl (by (try simp only [List.map_toArray, List.map_cons, List.map_nil]); first | done | rfl | (simp only [List.length_drop, List.length_take]; rfl)) ?_
                refine (control_Len.is (HSZ.out.below (below_drew (Below.refl _ _))).c.io).mono ?_
                rintro e_ w56 ⟨rfl, hw_⟩
                rw [hw_]
                clear hw_ w56
                refine ⟨_, rfl, ?_⟩
                have hbe_ := HH_.out
                clear HH_
                refine hK_.out _ _ (hbe_) (fun hHeld => ?_)
                clear hK_
                refine norm_ (a' := ?_) ?_ ?_
                rotate_left
                · simp only [Act.put, List.setIfInBounds_toArray, List.set_cons_zero, List.set_cons_succ]
                  rfl
                refine pure_ (i := 7) (N := some 125) (v := ?_) (a' := ?_) #[true, true, true, true, true, true, true, true, false, false, false, false, false, false, false, false, false, false, false, false, false, false, false, false] rfl rfl (by kernel_rfl) (fun _ _ _ h => h) (Or.inl ⟨by rfl, ?_⟩) ?_ ?_
                rotate_left
                · intro w'
                  go_simp
                  with_reducible rfl
                rotate_left
                · simp only [Act.put, List.setIfInBounds_toArray, List.set_cons_zero, List.set_cons_succ]
                  rfl
                refine pure_ (i := 8) (N := some 126) (v := ?_) (a' := ?_) #[true, true, true, true, true, true, true, true, true, false, false, false, false, false, false, false, false, false, false, false, false, false, false, false] rfl rfl (by kernel_rfl) (fun _ _ _ h => h) (Or.inl ⟨by rfl, ?_⟩) ?_ ?_
                rotate_left
                · intro w'
                  go_simp
                  with_reducible rfl
                rotate_left
                · simp only [Act.put, List.setIfInBounds_toArray, List.set_cons_zero, List.set_cons_succ]
                  rfl
                refine pure_ (i := 9) (N := some 127) (v := ?_) (a' := ?_) #[true, true, true, true, true, true, true, true, true, true, false, false, false, false, false, false, false, false, false, false, false, false, false, false] rfl rfl (by kernel_rfl) (fun _ _ _ h => h) (Or.inl ⟨by rfl, ?_⟩) ?_ ?_
                rotate_left
                · intro w'
                  go_simp
                  with_reducible rfl
                rotate_left
                · simp only [Act.put, List.setIfInBounds_toArray, List.set_cons_zero, List.set_cons_succ]
                  rfl
                refine pure_ (i := 11) (N := some 129) (v := ?_) (a' := ?_) #[true, true, true, true, true, true, true, true, true, true, false, true, false, false, false, false, false, false, false, false, false, false, false, false] rfl rfl (by kernel_rfl) (fun _ _ _ h => h) (Or.inl ⟨by rfl, ?_⟩) ?_ ?_
                rotate_left
                · intro w'
                  go_simp
                  with_reducible rfl
                rotate_left
                · simp only [Act.put, List.setIfInBounds_toArray, List.set_cons_zero, List.set_cons_succ]
                  rfl
                refine one_ (i := 10) (N := some 128) #[true, true, true, true, true, true, true, true, true, true, true, true, false, false, false, false, false, false, false, false, false, false, false, false] rfl rfl (by kernel_rfl) (by decide) (fun K_ hK_ => ?_)
                have HH_ := Aside0.mk hHeld
                clear hHeld
                refine goes_ Try.func57 (by kernel_rfl) rfl #[.pointer (some ⟨g1, 0, none⟩)] (by rfl) rfl rfl (by (try simp only [List.map_toArray, List.map_cons, List.map_nil]); first | done | rfl | (simp only [List.length_drop, List.length_take]; rfl)) ?_
                refine (control_Bytes.is _ g1 room _ l' e' _ (HSZ.out.below (below_drew (Below.refl _ _))).c.io HLN.out.1 HLN.out.2).mono ?_
                rintro e_ wy ⟨rfl, hb_⟩
                refine ⟨_, rfl, ?_⟩
                have HSY := Aside0.mk ((HSZ.out.below (below_drew (Below.refl _ _))).below hb_)
                have hbe_ := below_step HH_.out hb_
                clear hb_ HH_
                refine hK_.out _ _ (hbe_) (fun hHeld => ?_)
                clear hK_
                refine norm_ (a' := ?_) ?_ ?_
                rotate_left
                · simp only [Act.put, List.setIfInBounds_toArray, List.set_cons_zero, List.set_cons_succ]
                  rfl
                refine one_ (i := 12) (N := some 130) #[true, true, true, true, true, true, true, true, true, true, true, true, true, false, false, false, false, false, false, false, false, false, false, false] rfl rfl (by kernel_rfl) (by decide) (fun K_ hK_ => ?_)
                have HH_ := Aside0.mk hHeld
                clear hHeld
                refine goes_ Try.func58 (by kernel_rfl) rfl #[.pointer (some ⟨g2, 0, none⟩)] (by rfl) rfl rfl (by (try simp only [List.map_toArray, List.map_cons, List.map_nil]); first | done | rfl | (simp only [List.length_drop, List.length_take]; rfl)) ?_
                refine (r19_Bytes.is _ g2 room _ l' e' _ HSY.out.d HLN.out.1 HLN.out.2).mono ?_
                rintro e_ w58 ⟨rfl, hw_⟩
                rw [hw_]
                clear hw_ w58
                refine ⟨_, rfl, ?_⟩
                have hbe_ := HH_.out
                clear HH_
                refine hK_.out _ _ (hbe_) (fun hHeld => ?_)
                clear hK_
                refine norm_ (a' := ?_) ?_ ?_
                rotate_left
                · simp only [Act.put, List.setIfInBounds_toArray, List.set_cons_zero, List.set_cons_succ]
                  rfl
                refine pure_ (i := 13) (N := some 131) (v := ?_) (a' := ?_) #[true, true, true, true, true, true, true, true, true, true, true, true, true, true, false, false, false, false, false, false, false, false, false, false] rfl rfl (by kernel_rfl) (fun _ _ _ h => h) (Or.inl ⟨by rfl, ?_⟩) ?_ ?_
                rotate_left
                · intro w'
                  go_simp
                  with_reducible rfl
                rotate_left
                · simp only [Act.put, List.setIfInBounds_toArray, List.set_cons_zero, List.set_cons_succ]
                  rfl
                refine pure_ (i := 14) (N := some 132) (v := ?_) (a' := ?_) #[true, true, true, true, true, true, true, true, true, true, true, true, true, true, true, false, false, false, false, false, false, false, false, false] rfl rfl (by kernel_rfl) (fun _ _ _ h => h) (Or.inl ⟨by rfl, ?_⟩) ?_ ?_
                rotate_left
                · intro w'
                  go_simp
                  with_reducible rfl
                rotate_left
                · simp only [Act.put, List.setIfInBounds_toArray, List.set_cons_zero, List.set_cons_succ]
                  rfl
                refine pure_ (i := 15) (N := some 133) (v := ?_) (a' := ?_) #[true, true, true, true, true, true, true, true, true, true, true, true, true, true, true, true, false, false, false, false, false, false, false, false] rfl rfl (by kernel_rfl) (fun _ _ _ h => h) (Or.inl ⟨by rfl, ?_⟩) ?_ ?_
                rotate_left
                · intro w'
                  go_simp
                  with_reducible rfl
                rotate_left
                · simp only [Act.put, List.setIfInBounds_toArray, List.set_cons_zero, List.set_cons_succ]
                  rfl
                refine pure_ (i := 16) (N := some 134) (v := ?_) (a' := ?_) #[true, true, true, true, true, true, true, true, true, true, true, true, true, true, true, true, true, false, false, false, false, false, false, false] rfl rfl (by kernel_rfl) (fun _ _ _ h => h) (Or.inl ⟨by rfl, ?_⟩) ?_ ?_
                rotate_left
                · intro w'
                  go_simp
                  with_reducible rfl
                rotate_left
                · simp only [Act.put, List.setIfInBounds_toArray, List.set_cons_zero, List.set_cons_succ]
                  rfl
                refine pure_ (i := 18) (N := some 136) (v := ?_) (a' := ?_) #[true, true, true, true, true, true, true, true, true, true, true, true, true, true, true, true, true, false, true, false, false, false, false, false] rfl rfl (by kernel_rfl) (fun _ _ _ h => h) (Or.inl ⟨by rfl, ?_⟩) ?_ ?_
                rotate_left
                · intro w'
                  go_simp
                  with_reducible rfl
                rotate_left
                · simp only [Act.put, List.setIfInBounds_toArray, List.set_cons_zero, List.set_cons_succ]
                  rfl
                refine pure_ (i := 19) (N := some 137) (v := ?_) (a' := ?_) #[true, true, true, true, true, true, true, true, true, true, true, true, true, true, true, true, true, false, true, true, false, false, false, false] rfl rfl (by kernel_rfl) (fun _ _ _ h => h) (Or.inl ⟨by rfl, ?_⟩) ?_ ?_
                rotate_left
                · intro w'
                  go_simp
                  with_reducible rfl
                rotate_left
                · simp only [Act.put, List.setIfInBounds_toArray, List.set_cons_zero, List.set_cons_succ]
                  rfl
                refine pure_ (i := 20) (N := some 138) (v := ?_) (a' := ?_) #[true, true, true, true, true, true, true, true, true, true, true, true, true, true, true, true, true, false, true, true, true, false, false, false] rfl rfl (by kernel_rfl) (fun _ _ _ h => h) (Or.inl ⟨by rfl, ?_⟩) ?_ ?_
                rotate_left
                · intro w'
                  go_simp
                  with_reducible rfl
                rotate_left
                · simp only [Act.put, List.setIfInBounds_toArray, List.set_cons_zero, List.set_cons_succ]
                  rfl
                refine take_ (i := 21) (N := some 139) (v := ?_) (a' := ?_) #[true, true, true, true, true, true, true, true, true, true, true, true, true, true, true, true, true, false, true, true, true, true, false, false] rfl rfl (by kernel_rfl) (fun _ _ _ h => h) (Or.inl ⟨by rfl, ?_⟩) hHeld ?_ ?_
                rotate_left
                · intro w' hS_
                  have b1_ : w'.cell? ⟨g2, 2, none⟩ = some (.bool e') := (blk_cell (HSZ.out.below hS_).d.blk 2).trans rfl
                  go_simp
                  with_reducible rfl
                rotate_left
                · simp only [Act.put, List.setIfInBounds_toArray, List.set_cons_zero, List.set_cons_succ]
                  rfl
                refine one_ (i := 17) (N := some 135) #[true, true, true, true, true, true, true, true, true, true, true, true, true, true, true, true, true, true, true, true, true, true, false, false] rfl rfl (by kernel_rfl) (by decide) (fun K_ hK_ => ?_)
                have HH_ := Aside0.mk hHeld
                clear hHeld
                refine goes_ Try.func59 (by kernel_rfl) rfl #[.pointer (some ⟨g1, 0, none⟩)] (by rfl) rfl rfl (by (try simp only [List.map_toArray, List.map_cons, List.map_nil]); first | done | rfl | (simp only [List.length_drop, List.length_take]; rfl)) ?_
                refine (control_Ended.is HSY.out.c.io).mono ?_
                rintro e_ w59 ⟨rfl, hw_⟩
                rw [hw_]
                clear hw_ w59
                refine ⟨_, rfl, ?_⟩
                have hbe_ := HH_.out
                clear HH_
                refine hK_.out _ _ (hbe_) (fun hHeld => ?_)
                clear hK_
                refine norm_ (a' := ?_) ?_ ?_
                rotate_left
                · simp only [Act.put, List.setIfInBounds_toArray, List.set_cons_zero, List.set_cons_succ]
                  rfl
                refine pure_ (i := 22) (N := some 140) (v := ?_) (a' := ?_) #[true, true, true, true, true, true, true, true, true, true, true, true, true, true, true, true, true, true, true, true, true, true, true, false] rfl rfl (by kernel_rfl) (fun _ _ _ h => h) (Or.inl ⟨by rfl, ?_⟩) ?_ ?_
                rotate_left
                · intro w'
                  go_simp
                  with_reducible rfl
                rotate_left
                · simp only [Act.put, List.setIfInBounds_toArray, List.set_cons_zero, List.set_cons_succ]
                  rfl
                refine pure_ (i := 23) (N := some 141) (v := ?_) (a' := ?_) #[true, true, true, true, true, true, true, true, true, true, true, true, true, true, true, true, true, true, true, true, true, true, true, true] rfl rfl (by kernel_rfl) (fun _ _ _ h => h) (Or.inl ⟨by rfl, ?_⟩) ?_ ?_
                rotate_left
                · intro w'
                  go_simp
                  with_reducible rfl
                rotate_left
                · simp only [Act.put, List.setIfInBounds_toArray, List.set_cons_zero, List.set_cons_succ]
                  rfl
                refine done_ (by kernel_rfl) ?_
                have HBy : Aside0 (Both w wy g1 g2 room l' e') := ⟨⟨_, _, _, _, HSY.out⟩⟩
                clear hHeld HSZ HSY
                go_wp2
                go_roundg k1
                case measure => omega
                case rel => exact ⟨i + 1, l', e', (by rw [HW.out]), ⟨by have := HK.out; omega⟩, HBy, HNz⟩
              | cons y l =>
                obtain ⟨y0, y1, y2, y3⟩ := y
                have hyl : y3.length + sumF l ≤ 300 * i.toNat := HN.out.2
                have HYL : Aside0 (l.length ≤ 10000 ∧ y3.length ≤ 1000000 ∧ y3.length < 2000000) := ⟨by have h1 := HN.out.1; have h2 := HL.out; have h3 := c5; simp only [List.length_cons] at h1; omega⟩
                have HD3 := Aside0.mk HS0.out.d3
                have HNz' : Aside0 (l.length ≤ (i + 1).toNat ∧ sumF l ≤ 300 * (i + 1).toNat) := ⟨by have h1 := HN.out.1; simp only [List.length_cons] at h1; omega⟩
                clear hyl
                go_wp2_with (first | (have h_ := HS0; clear h_; go_at_call 49; refine (control_Pop.is _ l _ g1 room _ _ _ HS0.out.c.io HYL.out.1).mono ?_; rintro e_ wa ⟨Aa, ca, va, oka, rfl, hc, hF, hI, hm, hown⟩; have HSA := Aside0.mk (HS0.out.moveC hI hm); have HFA := Aside0.mk hF; have HCA := Aside0.mk hc; clear hc hF hI hm hown HS0 hx0) | (have h_ := HSA; clear h_; go_at_call 50; refine (r19_Pop.is _ l _ g2 room _ _ _ (HSA.out.alloc _).d HYL.out.1).mono ?_; rintro e_ wb ⟨Ab, cb, vb, okb, rfl, hc, hF, hI, hm⟩; have HSB := Aside0.mk (((HSA.out.alloc (.cells #[.int .i64 y0, .int .i64 y1, .int .i64 y2, .slice Aa y3.length ca] 67)).moveD hI hm (fun _ h => h.elim)).alloc (.cells #[.int .i64 y0, .int .i64 y1, .int .i64 y2, .slice Ab y3.length cb] 67)); have HFB := Aside0.mk (Kd.F_now (Kd.F_below hF (below_alloc (Below.refl _ _) (.cells #[.int .i64 y0, .int .i64 y1, .int .i64 y2, .slice Ab y3.length cb] 67)))); have HFA2 := Aside0.mk (Kd.F_now (Kd.F_below (Kd.F_step (Kd.F_bound (Kd.F_below HFA.out (below_alloc (Below.refl _ _) (.cells #[.int .i64 y0, .int .i64 y1, .int .i64 y2, .slice Aa y3.length ca] 67)))) (fun k ho hlt => hm.1.block k hlt (fun e => by rcases e with rfl; exact HD3.out ho.1))) (below_alloc (Below.refl _ _) (.cells #[.int .i64 y0, .int .i64 y1, .int .i64 y2, .slice Ab y3.length cb] 67)))); have HCB := Aside0.mk hc; have hbx := (HSB.out.c.kp wa.heap.size _ (.inl (.inr ⟨rfl, rfl⟩))).1; have q0_ := (blk_cell hbx 0).trans rfl; have q1_ := (blk_cell hbx 1).trans rfl; have q2_ := (blk_cell hbx 2).trans rfl; have q3_ := (blk_cell hbx 3).trans rfl; clear hc hF hI hm hbx HSA HFA) | (have h_ := HSB; clear h_; go_at_call 51; refine (gantletref02_Same.calls 2000000 y0 y1 y2 Aa ca y3 y0 y1 y2 Ab cb y3 true _ HFA2.out HCA.out HFB.out HCB.out (same02_self y0 y1 y2 y3 HYL.out.2.1 HYL.out.2.2)).mono ?_; rintro e_ wz ⟨rfl, hb⟩; obtain ⟨l', e', HBz, HNz⟩ : ∃ l' e', Aside0 (Both w wz g1 g2 room l' e') ∧ Aside0 (l'.length ≤ (i + 1).toNat ∧ sumF l' ≤ 300 * (i + 1).toNat) := ⟨l, ended, ⟨⟨_, _, _, _, (HSB.out.below hb).forget⟩⟩, HNz'⟩; clear hb HSB HFA2 HCA HFB HCB HNz' q0_ q1_ q2_ q3_))
                have HLN : Aside0 (l'.length ≤ 100000 ∧ sumF l' ≤ 1000000000) := ⟨by have h1 := HNz.out; have h2 := HL.out; have h3 := c5; omega⟩
                obtain ⟨v1z, ok1z, v2z, ok2z, hst⟩ := HBz.out
                obtain ⟨A2z, c2z, rfl⟩ := hst.d.form
                have HSZ := Aside0.mk hst
                clear hst HBz
                refine start_ (n := 24) (S := fun w' => Below wz.heap.size wz w') (ds := []) #[false, false, false, false, false, false, false, false, false, false, false, false, false, false, false, false, false, false, false, false, false, false, false, false] (by kernel_rfl) rfl rfl (below_drew1 (Below.refl _ _)) (fun hHeld => ?_)
                refine pure_ (i := 0) (N := some 118) (v := ?_) (a' := ?_) #[true, false, false, false, false, false, false, false, false, false, false, false, false, false, false, false, false, false, false, false, false, false, false, false] rfl rfl (by kernel_rfl) (fun _ _ _ h => h) (Or.inl ⟨by rfl, ?_⟩) ?_ ?_
                rotate_left
                · intro w'
                  go_simp
                  with_reducible rfl
                rotate_left
                · simp only [Act.put, List.setIfInBounds_toArray, List.set_cons_zero, List.set_cons_succ]
                  rfl
                refine pure_ (i := 2) (N := some 120) (v := ?_) (a' := ?_) #[true, false, true, false, false, false, false, false, false, false, false, false, false, false, false, false, false, false, false, false, false, false, false, false] rfl rfl (by kernel_rfl) (fun _ _ _ h => h) (Or.inl ⟨by rfl, ?_⟩) ?_ ?_
                rotate_left
                · intro w'
                  go_simp
                  with_reducible rfl
                rotate_left
                · simp only [Act.put, List.setIfInBounds_toArray, List.set_cons_zero, List.set_cons_succ]
                  rfl
                refine pure_ (i := 3) (N := some 121) (v := ?_) (a' := ?_) #[true, false, true, true, false, false, false, false, false, false, false, false, false, false, false, false, false, false, false, false, false, false, false, false] rfl rfl (by kernel_rfl) (fun _ _ _ h => h) (Or.inl ⟨by rfl, ?_⟩) ?_ ?_
                rotate_left
                · intro w'
                  go_simp
                  with_reducible rfl
                rotate_left
                · simp only [Act.put, List.setIfInBounds_toArray, List.set_cons_zero, List.set_cons_succ]
                  rfl
                refine pure_ (i := 4) (N := some 122) (v := ?_) (a' := ?_) #[true, false, true, true, true, false, false, false, false, false, false, false, false, false, false, false, false, false, false, false, false, false, false, false] rfl rfl (by kernel_rfl) (fun _ _ _ h => h) (Or.inl ⟨by rfl, ?_⟩) ?_ ?_
                rotate_left
                · intro w'
                  go_simp
                  with_reducible rfl
                rotate_left
                · simp only [Act.put, List.setIfInBounds_toArray, List.set_cons_zero, List.set_cons_succ]
                  rfl
                refine take_ (i := 5) (N := some 123) (v := ?_) (a' := ?_) #[true, false, true, true, true, true, false, false, false, false, false, false, false, false, false, false, false, false, false, false, false, false, false, false] rfl rfl (by kernel_rfl) (fun _ _ _ h => h) (Or.inl ⟨by rfl, ?_⟩) hHeld ?_ ?_
                rotate_left
                · intro w' hS_
                  have b1_ : w'.cell? ⟨g2, 1, none⟩ = some (.slice A2z l'.length c2z) := (blk_cell (HSZ.out.below hS_).d.blk 1).trans rfl
                  go_simp
                  with_reducible rfl
                rotate_left
                · simp only [Act.put, List.setIfInBounds_toArray, List.set_cons_zero, List.set_cons_succ]
                  rfl
                refine pure_ (i := 6) (N := some 124) (v := ?_) (a' := ?_) #[true, false, true, true, true, true, true, false, false, false, false, false, false, false, false, false, false, false, false, false, false, false, false, false] rfl rfl (by kernel_rfl) (fun _ _ _ h => h) (Or.inl ⟨by rfl, ?_⟩) ?_ ?_
                rotate_left
                · intro w'
                  go_simp
                  with_reducible rfl
                rotate_left
                · simp only [Act.put, List.setIfInBounds_toArray, List.set_cons_zero, List.set_cons_succ]
                  rfl
                refine one_ (i := 1) (N := some 119) #[true, true, true, true, true, true, true, false, false, false, false, false, false, false, false, false, false, false, false, false, false, false, false, false] rfl rfl (by kernel_rfl) (by decide) (fun K_ hK_ => ?_)
                have HH_ := Aside0.mk hHeld
                clear hHeld
                refine goes_ Try.func56 (by kernel_rfl) rfl #[.pointer (some ⟨g1, 0, none⟩)] (by rfl) rfl rfl (by (try simp only [List.map_toArray, List.map_cons, List.map_nil]); first | done | rfl | (simp only [List.length_drop, List.length_take]; rfl)) ?_
                refine (control_Len.is (HSZ.out.below (below_drew (Below.refl _ _))).c.io).mono ?_
                rintro e_ w56 ⟨rfl, hw_⟩
                rw [hw_]
                clear hw_ w56
                refine ⟨_, rfl, ?_⟩
                have hbe_ := HH_.out
                clear HH_
                refine hK_.out _ _ (hbe_) (fun hHeld => ?_)
                clear hK_
                refine norm_ (a' := ?_) ?_ ?_
                rotate_left
                · simp only [Act.put, List.setIfInBounds_toArray, List.set_cons_zero, List.set_cons_succ]
                  rfl
                refine pure_ (i := 7) (N := some 125) (v := ?_) (a' := ?_) #[true, true, true, true, true, true, true, true, false, false, false, false, false, false, false, false, false, false, false, false, false, false, false, false] rfl rfl (by kernel_rfl) (fun _ _ _ h => h) (Or.inl ⟨by rfl, ?_⟩) ?_ ?_
                rotate_left
                · intro w'
                  go_simp
                  with_reducible rfl
                rotate_left
                · simp only [Act.put, List.setIfInBounds_toArray, List.set_cons_zero, List.set_cons_succ]
                  rfl
                refine pure_ (i := 8) (N := some 126) (v := ?_) (a' := ?_) #[true, true, true, true, true, true, true, true, true, false, false, false, false, false, false, false, false, false, false, false, false, false, false, false] rfl rfl (by kernel_rfl) (fun _ _ _ h => h) (Or.inl ⟨by rfl, ?_⟩) ?_ ?_
                rotate_left
                · intro w'
                  go_simp
                  with_reducible rfl
                rotate_left
                · simp only [Act.put, List.setIfInBounds_toArray, List.set_cons_zero, List.set_cons_succ]
                  rfl
                refine pure_ (i := 9) (N := some 127) (v := ?_) (a' := ?_) #[true, true, true, true, true, true, true, true, true, true, false, false, false, false, false, false, false, false, false, false, false, false, false, false] rfl rfl (by kernel_rfl) (fun _ _ _ h => h) (Or.inl ⟨by rfl, ?_⟩) ?_ ?_
                rotate_left
                · intro w'
                  go_simp
                  with_reducible rfl
                rotate_left
                · simp only [Act.put, List.setIfInBounds_toArray, List.set_cons_zero, List.set_cons_succ]
                  rfl
                refine pure_ (i := 11) (N := some 129) (v := ?_) (a' := ?_) #[true, true, true, true, true, true, true, true, true, true, false, true, false, false, false, false, false, false, false, false, false, false, false, false] rfl rfl (by kernel_rfl) (fun _ _ _ h => h) (Or.inl ⟨by rfl, ?_⟩) ?_ ?_
                rotate_left
                · intro w'
                  go_simp
                  with_reducible rfl
                rotate_left
                · simp only [Act.put, List.setIfInBounds_toArray, List.set_cons_zero, List.set_cons_succ]
                  rfl
                refine one_ (i := 10) (N := some 128) #[true, true, true, true, true, true, true, true, true, true, true, true, false, false, false, false, false, false, false, false, false, false, false, false] rfl rfl (by kernel_rfl) (by decide) (fun K_ hK_ => ?_)
                have HH_ := Aside0.mk hHeld
                clear hHeld
                refine goes_ Try.func57 (by kernel_rfl) rfl #[.pointer (some ⟨g1, 0, none⟩)] (by rfl) rfl rfl (by (try simp only [List.map_toArray, List.map_cons, List.map_nil]); first | done | rfl | (simp only [List.length_drop, List.length_take]; rfl)) ?_
                refine (control_Bytes.is _ g1 room _ l' e' _ (HSZ.out.below (below_drew (Below.refl _ _))).c.io HLN.out.1 HLN.out.2).mono ?_
                rintro e_ wy ⟨rfl, hb_⟩
                refine ⟨_, rfl, ?_⟩
                have HSY := Aside0.mk ((HSZ.out.below (below_drew (Below.refl _ _))).below hb_)
                have hbe_ := below_step HH_.out hb_
                clear hb_ HH_
                refine hK_.out _ _ (hbe_) (fun hHeld => ?_)
                clear hK_
                refine norm_ (a' := ?_) ?_ ?_
                rotate_left
                · simp only [Act.put, List.setIfInBounds_toArray, List.set_cons_zero, List.set_cons_succ]
                  rfl
                refine one_ (i := 12) (N := some 130) #[true, true, true, true, true, true, true, true, true, true, true, true, true, false, false, false, false, false, false, false, false, false, false, false] rfl rfl (by kernel_rfl) (by decide) (fun K_ hK_ => ?_)
                have HH_ := Aside0.mk hHeld
                clear hHeld
                refine goes_ Try.func58 (by kernel_rfl) rfl #[.pointer (some ⟨g2, 0, none⟩)] (by rfl) rfl rfl (by (try simp only [List.map_toArray, List.map_cons, List.map_nil]); first | done | rfl | (simp only [List.length_drop, List.length_take]; rfl)) ?_
                refine (r19_Bytes.is _ g2 room _ l' e' _ HSY.out.d HLN.out.1 HLN.out.2).mono ?_
                rintro e_ w58 ⟨rfl, hw_⟩
                rw [hw_]
                clear hw_ w58
                refine ⟨_, rfl, ?_⟩
                have hbe_ := HH_.out
                clear HH_
                refine hK_.out _ _ (hbe_) (fun hHeld => ?_)
                clear hK_
                refine norm_ (a' := ?_) ?_ ?_
                rotate_left
                · simp only [Act.put, List.setIfInBounds_toArray, List.set_cons_zero, List.set_cons_succ]
                  rfl
                refine pure_ (i := 13) (N := some 131) (v := ?_) (a' := ?_) #[true, true, true, true, true, true, true, true, true, true, true, true, true, true, false, false, false, false, false, false, false, false, false, false] rfl rfl (by kernel_rfl) (fun _ _ _ h => h) (Or.inl ⟨by rfl, ?_⟩) ?_ ?_
                rotate_left
                · intro w'
                  go_simp
                  with_reducible rfl
                rotate_left
                · simp only [Act.put, List.setIfInBounds_toArray, List.set_cons_zero, List.set_cons_succ]
                  rfl
                refine pure_ (i := 14) (N := some 132) (v := ?_) (a' := ?_) #[true, true, true, true, true, true, true, true, true, true, true, true, true, true, true, false, false, false, false, false, false, false, false, false] rfl rfl (by kernel_rfl) (fun _ _ _ h => h) (Or.inl ⟨by rfl, ?_⟩) ?_ ?_
                rotate_left
                · intro w'
                  go_simp
                  with_reducible rfl
                rotate_left
                · simp only [Act.put, List.setIfInBounds_toArray, List.set_cons_zero, List.set_cons_succ]
                  rfl
                refine pure_ (i := 15) (N := some 133) (v := ?_) (a' := ?_) #[true, true, true, true, true, true, true, true, true, true, true, true, true, true, true, true, false, false, false, false, false, false, false, false] rfl rfl (by kernel_rfl) (fun _ _ _ h => h) (Or.inl ⟨by rfl, ?_⟩) ?_ ?_
                rotate_left
                · intro w'
                  go_simp
                  with_reducible rfl
                rotate_left
                · simp only [Act.put, List.setIfInBounds_toArray, List.set_cons_zero, List.set_cons_succ]
                  rfl
                refine pure_ (i := 16) (N := some 134) (v := ?_) (a' := ?_) #[true, true, true, true, true, true, true, true, true, true, true, true, true, true, true, true, true, false, false, false, false, false, false, false] rfl rfl (by kernel_rfl) (fun _ _ _ h => h) (Or.inl ⟨by rfl, ?_⟩) ?_ ?_
                rotate_left
                · intro w'
                  go_simp
                  with_reducible rfl
                rotate_left
                · simp only [Act.put, List.setIfInBounds_toArray, List.set_cons_zero, List.set_cons_succ]
                  rfl
                refine pure_ (i := 18) (N := some 136) (v := ?_) (a' := ?_) #[true, true, true, true, true, true, true, true, true, true, true, true, true, true, true, true, true, false, true, false, false, false, false, false] rfl rfl (by kernel_rfl) (fun _ _ _ h => h) (Or.inl ⟨by rfl, ?_⟩) ?_ ?_
                rotate_left
                · intro w'
                  go_simp
                  with_reducible rfl
                rotate_left
                · simp only [Act.put, List.setIfInBounds_toArray, List.set_cons_zero, List.set_cons_succ]
                  rfl
                refine pure_ (i := 19) (N := some 137) (v := ?_) (a' := ?_) #[true, true, true, true, true, true, true, true, true, true, true, true, true, true, true, true, true, false, true, true, false, false, false, false] rfl rfl (by kernel_rfl) (fun _ _ _ h => h) (Or.inl ⟨by rfl, ?_⟩) ?_ ?_
                rotate_left
                · intro w'
                  go_simp
                  with_reducible rfl
                rotate_left
                · simp only [Act.put, List.setIfInBounds_toArray, List.set_cons_zero, List.set_cons_succ]
                  rfl
                refine pure_ (i := 20) (N := some 138) (v := ?_) (a' := ?_) #[true, true, true, true, true, true, true, true, true, true, true, true, true, true, true, true, true, false, true, true, true, false, false, false] rfl rfl (by kernel_rfl) (fun _ _ _ h => h) (Or.inl ⟨by rfl, ?_⟩) ?_ ?_
                rotate_left
                · intro w'
                  go_simp
                  with_reducible rfl
                rotate_left
                · simp only [Act.put, List.setIfInBounds_toArray, List.set_cons_zero, List.set_cons_succ]
                  rfl
                refine take_ (i := 21) (N := some 139) (v := ?_) (a' := ?_) #[true, true, true, true, true, true, true, true, true, true, true, true, true, true, true, true, true, false, true, true, true, true, false, false] rfl rfl (by kernel_rfl) (fun _ _ _ h => h) (Or.inl ⟨by rfl, ?_⟩) hHeld ?_ ?_
                rotate_left
                · intro w' hS_
                  have b1_ : w'.cell? ⟨g2, 2, none⟩ = some (.bool e') := (blk_cell (HSZ.out.below hS_).d.blk 2).trans rfl
                  go_simp
                  with_reducible rfl
                rotate_left
                · simp only [Act.put, List.setIfInBounds_toArray, List.set_cons_zero, List.set_cons_succ]
                  rfl
                refine one_ (i := 17) (N := some 135) #[true, true, true, true, true, true, true, true, true, true, true, true, true, true, true, true, true, true, true, true, true, true, false, false] rfl rfl (by kernel_rfl) (by decide) (fun K_ hK_ => ?_)
                have HH_ := Aside0.mk hHeld
                clear hHeld
                refine goes_ Try.func59 (by kernel_rfl) rfl #[.pointer (some ⟨g1, 0, none⟩)] (by rfl) rfl rfl (by (try simp only [List.map_toArray, List.map_cons, List.map_nil]); first | done | rfl | (simp only [List.length_drop, List.length_take]; rfl)) ?_
                refine (control_Ended.is HSY.out.c.io).mono ?_
                rintro e_ w59 ⟨rfl, hw_⟩
                rw [hw_]
                clear hw_ w59
                refine ⟨_, rfl, ?_⟩
                have hbe_ := HH_.out
                clear HH_
                refine hK_.out _ _ (hbe_) (fun hHeld => ?_)
                clear hK_
                refine norm_ (a' := ?_) ?_ ?_
                rotate_left
                · simp only [Act.put, List.setIfInBounds_toArray, List.set_cons_zero, List.set_cons_succ]
                  rfl
                refine pure_ (i := 22) (N := some 140) (v := ?_) (a' := ?_) #[true, true, true, true, true, true, true, true, true, true, true, true, true, true, true, true, true, true, true, true, true, true, true, false] rfl rfl (by kernel_rfl) (fun _ _ _ h => h) (Or.inl ⟨by rfl, ?_⟩) ?_ ?_
                rotate_left
                · intro w'
                  go_simp
                  with_reducible rfl
                rotate_left
                · simp only [Act.put, List.setIfInBounds_toArray, List.set_cons_zero, List.set_cons_succ]
                  rfl
                refine pure_ (i := 23) (N := some 141) (v := ?_) (a' := ?_) #[true, true, true, true, true, true, true, true, true, true, true, true, true, true, true, true, true, true, true, true, true, true, true, true] rfl rfl (by kernel_rfl) (fun _ _ _ h => h) (Or.inl ⟨by rfl, ?_⟩) ?_ ?_
                rotate_left
                · intro w'
                  go_simp
                  with_reducible rfl
                rotate_left
                · simp only [Act.put, List.setIfInBounds_toArray, List.set_cons_zero, List.set_cons_succ]
                  rfl
                refine done_ (by kernel_rfl) ?_
                have HBy : Aside0 (Both w wy g1 g2 room l' e') := ⟨⟨_, _, _, _, HSY.out⟩⟩
                clear hHeld HSZ HSY
                go_wp2
                go_roundg k1
                case measure => omega
                case rel => exact ⟨i + 1, l', e', (by rw [HW.out]), ⟨by have := HK.out; omega⟩, HBy, HNz⟩
          · cases l with
            | nil =>
              go_wp2_with (first | (have h_ := HS0; clear h_; go_at_call 49; refine (control_Pop.empty _ g1 room _ _ _ HS0.out.c.io).mono ?_; rintro e_ wa ⟨rfl, hb⟩; have HSA := Aside0.mk (HS0.out.below hb); clear hb HS0 hx0) | (have h_ := HSA; clear h_; go_at_call 50; refine (r19_Pop.empty _ g2 room _ _ _ (HSA.out.alloc _).d).mono ?_; rintro e_ wb ⟨rfl, hb⟩; have HSB := Aside0.mk (((HSA.out.alloc (.cells #[.int .i64 0, .int .i64 0, .int .i64 0, .slice none 0 0] 67)).below hb).alloc (.cells #[.int .i64 0, .int .i64 0, .int .i64 0, .slice none 0 0] 67)); have hbx := (HSB.out.c.kp wa.heap.size _ (.inl (.inr ⟨rfl, rfl⟩))).1; have q0_ := (blk_cell hbx 0).trans rfl; have q1_ := (blk_cell hbx 1).trans rfl; have q2_ := (blk_cell hbx 2).trans rfl; have q3_ := (blk_cell hbx 3).trans rfl; clear hb hbx HSA) | (have h_ := HSB; clear h_; go_at_call 51; refine (gantletref02_Same.calls 2000 0 0 0 none 0 [] 0 0 0 none 0 [] true _ (C_nil8 _ _) (Nat.le_refl 0) (C_nil8 _ _) (Nat.le_refl 0) (same02_self 0 0 0 [] (by decide) (by decide))).mono ?_; rintro e_ wz ⟨rfl, hb⟩; obtain ⟨l', e', HBz, HNz⟩ : ∃ l' e', Aside0 (Both w wz g1 g2 room l' e') ∧ Aside0 (l'.length ≤ (i + 1).toNat ∧ sumF l' ≤ 300 * (i + 1).toNat) := ⟨[], ended, ⟨⟨_, _, _, _, (HSB.out.below hb).forget⟩⟩, ⟨by simp [sumF]⟩⟩; clear hb HSB q0_ q1_ q2_ q3_))
              have HLN : Aside0 (l'.length ≤ 100000 ∧ sumF l' ≤ 1000000000) := ⟨by have h1 := HNz.out; have h2 := HL.out; have h3 := c5; omega⟩
              obtain ⟨v1z, ok1z, v2z, ok2z, hst⟩ := HBz.out
              obtain ⟨A2z, c2z, rfl⟩ := hst.d.form
              have HSZ := Aside0.mk hst
              clear hst HBz
              refine start_ (n := 24) (S := fun w' => Below wz.heap.size wz w') (ds := []) #[false, false, false, false, false, false, false, false, false, false, false, false, false, false, false, false, false, false, false, false, false, false, false, false] (by kernel_rfl) rfl rfl (below_drew1 (Below.refl _ _)) (fun hHeld => ?_)
              refine pure_ (i := 0) (N := some 118) (v := ?_) (a' := ?_) #[true, false, false, false, false, false, false, false, false, false, false, false, false, false, false, false, false, false, false, false, false, false, false, false] rfl rfl (by kernel_rfl) (fun _ _ _ h => h) (Or.inl ⟨by rfl, ?_⟩) ?_ ?_
              rotate_left
              · intro w'
                go_simp
                with_reducible rfl
              rotate_left
              · simp only [Act.put, List.setIfInBounds_toArray, List.set_cons_zero, List.set_cons_succ]
                rfl
              refine pure_ (i := 2) (N := some 120) (v := ?_) (a' := ?_) #[true, false, true, false, false, false, false, false, false, false, false, false, false, false, false, false, false, false, false, false, false, false, false, false] rfl rfl (by kernel_rfl) (fun _ _ _ h => h) (Or.inl ⟨by rfl, ?_⟩) ?_ ?_
              rotate_left
              · intro w'
                go_simp
                with_reducible rfl
              rotate_left
              · simp only [Act.put, List.setIfInBounds_toArray, List.set_cons_zero, List.set_cons_succ]
                rfl
              refine pure_ (i := 3) (N := some 121) (v := ?_) (a' := ?_) #[true, false, true, true, false, false, false, false, false, false, false, false, false, false, false, false, false, false, false, false, false, false, false, false] rfl rfl (by kernel_rfl) (fun _ _ _ h => h) (Or.inl ⟨by rfl, ?_⟩) ?_ ?_
              rotate_left
              · intro w'
                go_simp
                with_reducible rfl
              rotate_left
              · simp only [Act.put, List.setIfInBounds_toArray, List.set_cons_zero, List.set_cons_succ]
                rfl
              refine pure_ (i := 4) (N := some 122) (v := ?_) (a' := ?_) #[true, false, true, true, true, false, false, false, false, false, false, false, false, false, false, false, false, false, false, false, false, false, false, false] rfl rfl (by kernel_rfl) (fun _ _ _ h => h) (Or.inl ⟨by rfl, ?_⟩) ?_ ?_
              rotate_left
              · intro w'
                go_simp
                with_reducible rfl
              rotate_left
              · simp only [Act.put, List.setIfInBounds_toArray, List.set_cons_zero, List.set_cons_succ]
                rfl
              refine take_ (i := 5) (N := some 123) (v := ?_) (a' := ?_) #[true, false, true, true, true, true, false, false, false, false, false, false, false, false, false, false, false, false, false, false, false, false, false, false] rfl rfl (by kernel_rfl) (fun _ _ _ h => h) (Or.inl ⟨by rfl, ?_⟩) hHeld ?_ ?_
              rotate_left
              · intro w' hS_
                have b1_ : w'.cell? ⟨g2, 1, none⟩ = some (.slice A2z l'.length c2z) := (blk_cell (HSZ.out.below hS_).d.blk 1).trans rfl
                go_simp
                with_reducible rfl
              rotate_left
              · simp only [Act.put, List.setIfInBounds_toArray, List.set_cons_zero, List.set_cons_succ]
                rfl
              refine pure_ (i := 6) (N := some 124) (v := ?_) (a' := ?_) #[true, false, true, true, true, true, true, false, false, false, false, false, false, false, false, false, false, false, false, false, false, false, false, false] rfl rfl (by kernel_rfl) (fun _ _ _ h => h) (Or.inl ⟨by rfl, ?_⟩) ?_ ?_
              rotate_left
              · intro w'
                go_simp
                with_reducible rfl
              rotate_left
              · simp only [Act.put, List.setIfInBounds_toArray, List.set_cons_zero, List.set_cons_succ]
                rfl
              refine one_ (i := 1) (N := some 119) #[true, true, true, true, true, true, true, false, false, false, false, false, false, false, false, false, false, false, false, false, false, false, false, false] rfl rfl (by kernel_rfl) (by decide) (fun K_ hK_ => ?_)
              have HH_ := Aside0.mk hHeld
              clear hHeld
              refine goes_ Try.func56 (by kernel_rfl) rfl #[.pointer (some ⟨g1, 0, none⟩)] (by rfl) rfl rfl (by (try simp only [List.map_toArray, List.map_cons, List.map_nil]); first | done | rfl | (simp only [List.length_drop, List.length_take]; rfl)) ?_
              refine (control_Len.is (HSZ.out.below (below_drew (Below.refl _ _))).c.io).mono ?_
              rintro e_ w56 ⟨rfl, hw_⟩
              rw [hw_]
              clear hw_ w56
              refine ⟨_, rfl, ?_⟩
              have hbe_ := HH_.out
              clear HH_
              refine hK_.out _ _ (hbe_) (fun hHeld => ?_)
              clear hK_
              refine norm_ (a' := ?_) ?_ ?_
              rotate_left
              · simp only [Act.put, List.setIfInBounds_toArray, List.set_cons_zero, List.set_cons_succ]
                rfl
              refine pure_ (i := 7) (N := some 125) (v := ?_) (a' := ?_) #[true, true, true, true, true, true, true, true, false, false, false, false, false, false, false, false, false, false, false, false, false, false, false, false] rfl rfl (by kernel_rfl) (fun _ _ _ h => h) (Or.inl ⟨by rfl, ?_⟩) ?_ ?_
              rotate_left
              · intro w'
                go_simp
                with_reducible rfl
              rotate_left
              · simp only [Act.put, List.setIfInBounds_toArray, List.set_cons_zero, List.set_cons_succ]
                rfl
              refine pure_ (i := 8) (N := some 126) (v := ?_) (a' := ?_) #[true, true, true, true, true, true, true, true, true, false, false, false, false, false, false, false, false, false, false, false, false, false, false, false] rfl rfl (by kernel_rfl) (fun _ _ _ h => h) (Or.inl ⟨by rfl, ?_⟩) ?_ ?_
              rotate_left
              · intro w'
                go_simp
                with_reducible rfl
              rotate_left
              · simp only [Act.put, List.setIfInBounds_toArray, List.set_cons_zero, List.set_cons_succ]
                rfl
              refine pure_ (i := 9) (N := some 127) (v := ?_) (a' := ?_) #[true, true, true, true, true, true, true, true, true, true, false, false, false, false, false, false, false, false, false, false, false, false, false, false] rfl rfl (by kernel_rfl) (fun _ _ _ h => h) (Or.inl ⟨by rfl, ?_⟩) ?_ ?_
              rotate_left
              · intro w'
                go_simp
                with_reducible rfl
              rotate_left
              · simp only [Act.put, List.setIfInBounds_toArray, List.set_cons_zero, List.set_cons_succ]
                rfl
              refine pure_ (i := 11) (N := some 129) (v := ?_) (a' := ?_) #[true, true, true, true, true, true, true, true, true, true, false, true, false, false, false, false, false, false, false, false, false, false, false, false] rfl rfl (by kernel_rfl) (fun _ _ _ h => h) (Or.inl ⟨by rfl, ?_⟩) ?_ ?_
              rotate_left
              · intro w'
                go_simp
                with_reducible rfl
              rotate_left
              · simp only [Act.put, List.setIfInBounds_toArray, List.set_cons_zero, List.set_cons_succ]
                rfl
              refine one_ (i := 10) (N := some 128) #[true, true, true, true, true, true, true, true, true, true, true, true, false, false, false, false, false, false, false, false, false, false, false, false] rfl rfl (by kernel_rfl) (by decide) (fun K_ hK_ => ?_)
              have HH_ := Aside0.mk hHeld
              clear hHeld
              refine goes_ Try.func57 (by kernel_rfl) rfl #[.pointer (some ⟨g1, 0, none⟩)] (by rfl) rfl rfl (by (try simp only [List.map_toArray, List.map_cons, List.map_nil]); first | done | rfl | (simp only [List.length_drop, List.length_take]; rfl)) ?_
              refine (control_Bytes.is _ g1 room _ l' e' _ (HSZ.out.below (below_drew (Below.refl _ _))).c.io HLN.out.1 HLN.out.2).mono ?_
              rintro e_ wy ⟨rfl, hb_⟩
              refine ⟨_, rfl, ?_⟩
              have HSY := Aside0.mk ((HSZ.out.below (below_drew (Below.refl _ _))).below hb_)
              have hbe_ := below_step HH_.out hb_
              clear hb_ HH_
              refine hK_.out _ _ (hbe_) (fun hHeld => ?_)
              clear hK_
              refine norm_ (a' := ?_) ?_ ?_
              rotate_left
              · simp only [Act.put, List.setIfInBounds_toArray, List.set_cons_zero, List.set_cons_succ]
                rfl
              refine one_ (i := 12) (N := some 130) #[true, true, true, true, true, true, true, true, true, true, true, true, true, false, false, false, false, false, false, false, false, false, false, false] rfl rfl (by kernel_rfl) (by decide) (fun K_ hK_ => ?_)
              have HH_ := Aside0.mk hHeld
              clear hHeld
              refine goes_ Try.func58 (by kernel_rfl) rfl #[.pointer (some ⟨g2, 0, none⟩)] (by rfl) rfl rfl (by (try simp only [List.map_toArray, List.map_cons, List.map_nil]); first | done | rfl | (simp only [List.length_drop, List.length_take]; rfl)) ?_
              refine (r19_Bytes.is _ g2 room _ l' e' _ HSY.out.d HLN.out.1 HLN.out.2).mono ?_
              rintro e_ w58 ⟨rfl, hw_⟩
              rw [hw_]
              clear hw_ w58
              refine ⟨_, rfl, ?_⟩
              have hbe_ := HH_.out
              clear HH_
              refine hK_.out _ _ (hbe_) (fun hHeld => ?_)
              clear hK_
              refine norm_ (a' := ?_) ?_ ?_
              rotate_left
              · simp only [Act.put, List.setIfInBounds_toArray, List.set_cons_zero, List.set_cons_succ]
                rfl
              refine pure_ (i := 13) (N := some 131) (v := ?_) (a' := ?_) #[true, true, true, true, true, true, true, true, true, true, true, true, true, true, false, false, false, false, false, false, false, false, false, false] rfl rfl (by kernel_rfl) (fun _ _ _ h => h) (Or.inl ⟨by rfl, ?_⟩) ?_ ?_
              rotate_left
              · intro w'
                go_simp
                with_reducible rfl
              rotate_left
              · simp only [Act.put, List.setIfInBounds_toArray, List.set_cons_zero, List.set_cons_succ]
                rfl
              refine pure_ (i := 14) (N := some 132) (v := ?_) (a' := ?_) #[true, true, true, true, true, true, true, true, true, true, true, true, true, true, true, false, false, false, false, false, false, false, false, false] rfl rfl (by kernel_rfl) (fun _ _ _ h => h) (Or.inl ⟨by rfl, ?_⟩) ?_ ?_
              rotate_left
              · intro w'
                go_simp
                with_reducible rfl
              rotate_left
              · simp only [Act.put, List.setIfInBounds_toArray, List.set_cons_zero, List.set_cons_succ]
                rfl
              refine pure_ (i := 15) (N := some 133) (v := ?_) (a' := ?_) #[true, true, true, true, true, true, true, true, true, true, true, true, true, true, true, true, false, false, false, false, false, false, false, false] rfl rfl (by kernel_rfl) (fun _ _ _ h => h) (Or.inl ⟨by rfl, ?_⟩) ?_ ?_
              rotate_left
              · intro w'
                go_simp
                with_reducible rfl
              rotate_left
              · simp only [Act.put, List.setIfInBounds_toArray, List.set_cons_zero, List.set_cons_succ]
                rfl
              refine pure_ (i := 16) (N := some 134) (v := ?_) (a' := ?_) #[true, true, true, true, true, true, true, true, true, true, true, true, true, true, true, true, true, false, false, false, false, false, false, false] rfl rfl (by kernel_rfl) (fun _ _ _ h => h) (Or.inl ⟨by rfl, ?_⟩) ?_ ?_
              rotate_left
              · intro w'
                go_simp
                with_reducible rfl
              rotate_left
              · simp only [Act.put, List.setIfInBounds_toArray, List.set_cons_zero, List.set_cons_succ]
                rfl
              refine pure_ (i := 18) (N := some 136) (v := ?_) (a' := ?_) #[true, true, true, true, true, true, true, true, true, true, true, true, true, true, true, true, true, false, true, false, false, false, false, false] rfl rfl (by kernel_rfl) (fun _ _ _ h => h) (Or.inl ⟨by rfl, ?_⟩) ?_ ?_
              rotate_left
              · intro w'
                go_simp
                with_reducible rfl
              rotate_left
              · simp only [Act.put, List.setIfInBounds_toArray, List.set_cons_zero, List.set_cons_succ]
                rfl
              refine pure_ (i := 19) (N := some 137) (v := ?_) (a' := ?_) #[true, true, true, true, true, true, true, true, true, true, true, true, true, true, true, true, true, false, true, true, false, false, false, false] rfl rfl (by kernel_rfl) (fun _ _ _ h => h) (Or.inl ⟨by rfl, ?_⟩) ?_ ?_
              rotate_left
              · intro w'
                go_simp
                with_reducible rfl
              rotate_left
              · simp only [Act.put, List.setIfInBounds_toArray, List.set_cons_zero, List.set_cons_succ]
                rfl
              refine pure_ (i := 20) (N := some 138) (v := ?_) (a' := ?_) #[true, true, true, true, true, true, true, true, true, true, true, true, true, true, true, true, true, false, true, true, true, false, false, false] rfl rfl (by kernel_rfl) (fun _ _ _ h => h) (Or.inl ⟨by rfl, ?_⟩) ?_ ?_
              rotate_left
              · intro w'
                go_simp
                with_reducible rfl
              rotate_left
              · simp only [Act.put, List.setIfInBounds_toArray, List.set_cons_zero, List.set_cons_succ]
                rfl
              refine take_ (i := 21) (N := some 139) (v := ?_) (a' := ?_) #[true, true, true, true, true, true, true, true, true, true, true, true, true, true, true, true, true, false, true, true, true, true, false, false] rfl rfl (by kernel_rfl) (fun _ _ _ h => h) (Or.inl ⟨by rfl, ?_⟩) hHeld ?_ ?_
              rotate_left
              · intro w' hS_
                have b1_ : w'.cell? ⟨g2, 2, none⟩ = some (.bool e') := (blk_cell (HSZ.out.below hS_).d.blk 2).trans rfl
                go_simp
                with_reducible rfl
              rotate_left
              · simp only [Act.put, List.setIfInBounds_toArray, List.set_cons_zero, List.set_cons_succ]
                rfl
              refine one_ (i := 17) (N := some 135) #[true, true, true, true, true, true, true, true, true, true, true, true, true, true, true, true, true, true, true, true, true, true, false, false] rfl rfl (by kernel_rfl) (by decide) (fun K_ hK_ => ?_)
              have HH_ := Aside0.mk hHeld
              clear hHeld
              refine goes_ Try.func59 (by kernel_rfl) rfl #[.pointer (some ⟨g1, 0, none⟩)] (by rfl) rfl rfl (by (try simp only [List.map_toArray, List.map_cons, List.map_nil]); first | done | rfl | (simp only [List.length_drop, List.length_take]; rfl)) ?_
              refine (control_Ended.is HSY.out.c.io).mono ?_
              rintro e_ w59 ⟨rfl, hw_⟩
              rw [hw_]
              clear hw_ w59
              refine ⟨_, rfl, ?_⟩
              have hbe_ := HH_.out
              clear HH_
              refine hK_.out _ _ (hbe_) (fun hHeld => ?_)
              clear hK_
              refine norm_ (a' := ?_) ?_ ?_
              rotate_left
              · simp only [Act.put, List.setIfInBounds_toArray, List.set_cons_zero, List.set_cons_succ]
                rfl
              refine pure_ (i := 22) (N := some 140) (v := ?_) (a' := ?_) #[true, true, true, true, true, true, true, true, true, true, true, true, true, true, true, true, true, true, true, true, true, true, true, false] rfl rfl (by kernel_rfl) (fun _ _ _ h => h) (Or.inl ⟨by rfl, ?_⟩) ?_ ?_
              rotate_left
              · intro w'
                go_simp
                with_reducible rfl
              rotate_left
              · simp only [Act.put, List.setIfInBounds_toArray, List.set_cons_zero, List.set_cons_succ]
                rfl
              refine pure_ (i := 23) (N := some 141) (v := ?_) (a' := ?_) #[true, true, true, true, true, true, true, true, true, true, true, true, true, true, true, true, true, true, true, true, true, true, true, true] rfl rfl (by kernel_rfl) (fun _ _ _ h => h) (Or.inl ⟨by rfl, ?_⟩) ?_ ?_
              rotate_left
              · intro w'
                go_simp
                with_reducible rfl
              rotate_left
              · simp only [Act.put, List.setIfInBounds_toArray, List.set_cons_zero, List.set_cons_succ]
                rfl
              refine done_ (by kernel_rfl) ?_
              have HBy : Aside0 (Both w wy g1 g2 room l' e') := ⟨⟨_, _, _, _, HSY.out⟩⟩
              clear hHeld HSZ HSY
              go_wp2
              go_roundg k1
              case measure => omega
              case rel => exact ⟨i + 1, l', e', (by rw [HW.out]), ⟨by have := HK.out; omega⟩, HBy, HNz⟩
            | cons y l =>
              obtain ⟨y0, y1, y2, y3⟩ := y
              have hyl : y3.length + sumF l ≤ 300 * i.toNat := HN.out.2
              have HYL : Aside0 (l.length ≤ 10000 ∧ y3.length ≤ 1000000 ∧ y3.length < 2000000) := ⟨by have h1 := HN.out.1; have h2 := HL.out; have h3 := c5; simp only [List.length_cons] at h1; omega⟩
              have HD3 := Aside0.mk HS0.out.d3
              have HNz' : Aside0 (l.length ≤ (i + 1).toNat ∧ sumF l ≤ 300 * (i + 1).toNat) := ⟨by have h1 := HN.out.1; simp only [List.length_cons] at h1; omega⟩
              clear hyl
              go_wp2_with (first | (have h_ := HS0; clear h_; go_at_call 49; refine (control_Pop.is _ l _ g1 room _ _ _ HS0.out.c.io HYL.out.1).mono ?_; rintro e_ wa ⟨Aa, ca, va, oka, rfl, hc, hF, hI, hm, hown⟩; have HSA := Aside0.mk (HS0.out.moveC hI hm); have HFA := Aside0.mk hF; have HCA := Aside0.mk hc; clear hc hF hI hm hown HS0 hx0) | (have h_ := HSA; clear h_; go_at_call 50; refine (r19_Pop.is _ l _ g2 room _ _ _ (HSA.out.alloc _).d HYL.out.1).mono ?_; rintro e_ wb ⟨Ab, cb, vb, okb, rfl, hc, hF, hI, hm⟩; have HSB := Aside0.mk (((HSA.out.alloc (.cells #[.int .i64 y0, .int .i64 y1, .int .i64 y2, .slice Aa y3.length ca] 67)).moveD hI hm (fun _ h => h.elim)).alloc (.cells #[.int .i64 y0, .int .i64 y1, .int .i64 y2, .slice Ab y3.length cb] 67)); have HFB := Aside0.mk (Kd.F_now (Kd.F_below hF (below_alloc (Below.refl _ _) (.cells #[.int .i64 y0, .int .i64 y1, .int .i64 y2, .slice Ab y3.length cb] 67)))); have HFA2 := Aside0.mk (Kd.F_now (Kd.F_below (Kd.F_step (Kd.F_bound (Kd.F_below HFA.out (below_alloc (Below.refl _ _) (.cells #[.int .i64 y0, .int .i64 y1, .int .i64 y2, .slice Aa y3.length ca] 67)))) (fun k ho hlt => hm.1.block k hlt (fun e => by rcases e with rfl; exact HD3.out ho.1))) (below_alloc (Below.refl _ _) (.cells #[.int .i64 y0, .int .i64 y1, .int .i64 y2, .slice Ab y3.length cb] 67)))); have HCB := Aside0.mk hc; have hbx := (HSB.out.c.kp wa.heap.size _ (.inl (.inr ⟨rfl, rfl⟩))).1; have q0_ := (blk_cell hbx 0).trans rfl; have q1_ := (blk_cell hbx 1).trans rfl; have q2_ := (blk_cell hbx 2).trans rfl; have q3_ := (blk_cell hbx 3).trans rfl; clear hc hF hI hm hbx HSA HFA) | (have h_ := HSB; clear h_; go_at_call 51; refine (gantletref02_Same.calls 2000000 y0 y1 y2 Aa ca y3 y0 y1 y2 Ab cb y3 true _ HFA2.out HCA.out HFB.out HCB.out (same02_self y0 y1 y2 y3 HYL.out.2.1 HYL.out.2.2)).mono ?_; rintro e_ wz ⟨rfl, hb⟩; obtain ⟨l', e', HBz, HNz⟩ : ∃ l' e', Aside0 (Both w wz g1 g2 room l' e') ∧ Aside0 (l'.length ≤ (i + 1).toNat ∧ sumF l' ≤ 300 * (i + 1).toNat) := ⟨l, ended, ⟨⟨_, _, _, _, (HSB.out.below hb).forget⟩⟩, HNz'⟩; clear hb HSB HFA2 HCA HFB HCB HNz' q0_ q1_ q2_ q3_))
              have HLN : Aside0 (l'.length ≤ 100000 ∧ sumF l' ≤ 1000000000) := ⟨by have h1 := HNz.out; have h2 := HL.out; have h3 := c5; omega⟩
              obtain ⟨v1z, ok1z, v2z, ok2z, hst⟩ := HBz.out
              obtain ⟨A2z, c2z, rfl⟩ := hst.d.form
              have HSZ := Aside0.mk hst
              clear hst HBz
              refine start_ (n := 24) (S := fun w' => Below wz.heap.size wz w') (ds := []) #[false, false, false, false, false, false, false, false, false, false, false, false, false, false, false, false, false, false, false, false, false, false, false, false] (by kernel_rfl) rfl rfl (below_drew1 (Below.refl _ _)) (fun hHeld => ?_)
              refine pure_ (i := 0) (N := some 118) (v := ?_) (a' := ?_) #[true, false, false, false, false, false, false, false, false, false, false, false, false, false, false, false, false, false, false, false, false, false, false, false] rfl rfl (by kernel_rfl) (fun _ _ _ h => h) (Or.inl ⟨by rfl, ?_⟩) ?_ ?_
              rotate_left
              · intro w'
                go_simp
                with_reducible rfl
              rotate_left
              · simp only [Act.put, List.setIfInBounds_toArray, List.set_cons_zero, List.set_cons_succ]
                rfl
              refine pure_ (i := 2) (N := some 120) (v := ?_) (a' := ?_) #[true, false, true, false, false, false, false, false, false, false, false, false, false, false, false, false, false, false, false, false, false, false, false, false] rfl rfl (by kernel_rfl) (fun _ _ _ h => h) (Or.inl ⟨by rfl, ?_⟩) ?_ ?_
              rotate_left
              · intro w'
                go_simp
                with_reducible rfl
              rotate_left
              · simp only [Act.put, List.setIfInBounds_toArray, List.set_cons_zero, List.set_cons_succ]
                rfl
              refine pure_ (i := 3) (N := some 121) (v := ?_) (a' := ?_) #[true, false, true, true, false, false, false, false, false, false, false, false, false, false, false, false, false, false, false, false, false, false, false, false] rfl rfl (by kernel_rfl) (fun _ _ _ h => h) (Or.inl ⟨by rfl, ?_⟩) ?_ ?_
              rotate_left
              · intro w'
                go_simp
                with_reducible rfl
              rotate_left
              · simp only [Act.put, List.setIfInBounds_toArray, List.set_cons_zero, List.set_cons_succ]
                rfl
              refine pure_ (i := 4) (N := some 122) (v := ?_) (a' := ?_) #[true, false, true, true, true, false, false, false, false, false, false, false, false, false, false, false, false, false, false, false, false, false, false, false] rfl rfl (by kernel_rfl) (fun _ _ _ h => h) (Or.inl ⟨by rfl, ?_⟩) ?_ ?_
              rotate_left
              · intro w'
                go_simp
                with_reducible rfl
              rotate_left
              · simp only [Act.put, List.setIfInBounds_toArray, List.set_cons_zero, List.set_cons_succ]
                rfl
              refine take_ (i := 5) (N := some 123) (v := ?_) (a' := ?_) #[true, false, true, true, true, true, false, false, false, false, false, false, false, false, false, false, false, false, false, false, false, false, false, false] rfl rfl (by kernel_rfl) (fun _ _ _ h => h) (Or.inl ⟨by rfl, ?_⟩) hHeld ?_ ?_
              rotate_left
              · intro w' hS_
                have b1_ : w'.cell? ⟨g2, 1, none⟩ = some (.slice A2z l'.length c2z) := (blk_cell (HSZ.out.below hS_).d.blk 1).trans rfl
                go_simp
                with_reducible rfl
              rotate_left
              · simp only [Act.put, List.setIfInBounds_toArray, List.set_cons_zero, List.set_cons_succ]
                rfl
              refine pure_ (i := 6) (N := some 124) (v := ?_) (a' := ?_) #[true, false, true, true, true, true, true, false, false, false, false, false, false, false, false, false, false, false, false, false, false, false, false, false] rfl rfl (by kernel_rfl) (fun _ _ _ h => h) (Or.inl ⟨by rfl, ?_⟩) ?_ ?_
              rotate_left
              · intro w'
                go_simp
                with_reducible rfl
              rotate_left
              · simp only [Act.put, List.setIfInBounds_toArray, List.set_cons_zero, List.set_cons_succ]
                rfl
              refine one_ (i := 1) (N := some 119) #[true, true, true, true, true, true, true, false, false, false, false, false, false, false, false, false, false, false, false, false, false, false, false, false] rfl rfl (by kernel_rfl) (by decide) (fun K_ hK_ => ?_)
              have HH_ := Aside0.mk hHeld
              clear hHeld
              refine goes_ Try.func56 (by kernel_rfl) rfl #[.pointer (some ⟨g1, 0, none⟩)] (by rfl) rfl rfl (by (try simp only [List.map_toArray, List.map_cons, List.map_nil]); first | done | rfl | (simp only [List.length_drop, List.length_take]; rfl)) ?_
              refine (control_Len.is (HSZ.out.below (below_drew (Below.refl _ _))).c.io).mono ?_
              rintro e_ w56 ⟨rfl, hw_⟩
              rw [hw_]
              clear hw_ w56
              refine ⟨_, rfl, ?_⟩
              have hbe_ := HH_.out
              clear HH_
              refine hK_.out _ _ (hbe_) (fun hHeld => ?_)
              clear hK_
              refine norm_ (a' := ?_) ?_ ?_
              rotate_left
              · simp only [Act.put, List.setIfInBounds_toArray, List.set_cons_zero, List.set_cons_succ]
                rfl
              refine pure_ (i := 7) (N := some 125) (v := ?_) (a' := ?_) #[true, true, true, true, true, true, true, true, false, false, false, false, false, false, false, false, false, false, false, false, false, false, false, false] rfl rfl (by kernel_rfl) (fun _ _ _ h => h) (Or.inl ⟨by rfl, ?_⟩) ?_ ?_
              rotate_left
              · intro w'
                go_simp
                with_reducible rfl
              rotate_left
              · simp only [Act.put, List.setIfInBounds_toArray, List.set_cons_zero, List.set_cons_succ]
                rfl
              refine pure_ (i := 8) (N := some 126) (v := ?_) (a' := ?_) #[true, true, true, true, true, true, true, true, true, false, false, false, false, false, false, false, false, false, false, false, false, false, false, false] rfl rfl (by kernel_rfl) (fun _ _ _ h => h) (Or.inl ⟨by rfl, ?_⟩) ?_ ?_
              rotate_left
              · intro w'
                go_simp
                with_reducible rfl
              rotate_left
              · simp only [Act.put, List.setIfInBounds_toArray, List.set_cons_zero, List.set_cons_succ]
                rfl
              refine pure_ (i := 9) (N := some 127) (v := ?_) (a' := ?_) #[true, true, true, true, true, true, true, true, true, true, false, false, false, false, false, false, false, false, false, false, false, false, false, false] rfl rfl (by kernel_rfl) (fun _ _ _ h => h) (Or.inl ⟨by rfl, ?_⟩) ?_ ?_
              rotate_left
              · intro w'
                go_simp
                with_reducible rfl
              rotate_left
              · simp only [Act.put, List.setIfInBounds_toArray, List.set_cons_zero, List.set_cons_succ]
                rfl
              refine pure_ (i := 11) (N := some 129) (v := ?_) (a' := ?_) #[true, true, true, true, true, true, true, true, true, true, false, true, false, false, false, false, false, false, false, false, false, false, false, false] rfl rfl (by kernel_rfl) (fun _ _ _ h => h) (Or.inl ⟨by rfl, ?_⟩) ?_ ?_
              rotate_left
              · intro w'
                go_simp
                with_reducible rfl
              rotate_left
              · simp only [Act.put, List.setIfInBounds_toArray, List.set_cons_zero, List.set_cons_succ]
                rfl
              refine one_ (i := 10) (N := some 128) #[true, true, true, true, true, true, true, true, true, true, true, true, false, false, false, false, false, false, false, false, false, false, false, false] rfl rfl (by kernel_rfl) (by decide) (fun K_ hK_ => ?_)
              have HH_ := Aside0.mk hHeld
              clear hHeld
              refine goes_ Try.func57 (by kernel_rfl) rfl #[.pointer (some ⟨g1, 0, none⟩)] (by rfl) rfl rfl (by (try simp only [List.map_toArray, List.map_cons, List.map_nil]); first | done | rfl | (simp only [List.length_drop, List.length_take]; rfl)) ?_
              refine (control_Bytes.is _ g1 room _ l' e' _ (HSZ.out.below (below_drew (Below.refl _ _))).c.io HLN.out.1 HLN.out.2).mono ?_
              rintro e_ wy ⟨rfl, hb_⟩
              refine ⟨_, rfl, ?_⟩
              have HSY := Aside0.mk ((HSZ.out.below (below_drew (Below.refl _ _))).below hb_)
              have hbe_ := below_step HH_.out hb_
              clear hb_ HH_
              refine hK_.out _ _ (hbe_) (fun hHeld => ?_)
              clear hK_
              refine norm_ (a' := ?_) ?_ ?_
              rotate_left
              · simp only [Act.put, List.setIfInBounds_toArray, List.set_cons_zero, List.set_cons_succ]
                rfl
              refine one_ (i := 12) (N := some 130) #[true, true, true, true, true, true, true, true, true, true, true, true, true, false, false, false, false, false, false, false, false, false, false, false] rfl rfl (by kernel_rfl) (by decide) (fun K_ hK_ => ?_)
              have HH_ := Aside0.mk hHeld
              clear hHeld
              refine goes_ Try.func58 (by kernel_rfl) rfl #[.pointer (some ⟨g2, 0, none⟩)] (by rfl) rfl rfl (by (try simp only [List.map_toArray, List.map_cons, List.map_nil]); first | done | rfl | (simp only [List.length_drop, List.length_take]; rfl)) ?_
              refine (r19_Bytes.is _ g2 room _ l' e' _ HSY.out.d HLN.out.1 HLN.out.2).mono ?_
              rintro e_ w58 ⟨rfl, hw_⟩
              rw [hw_]
              clear hw_ w58
              refine ⟨_, rfl, ?_⟩
              have hbe_ := HH_.out
              clear HH_
              refine hK_.out _ _ (hbe_) (fun hHeld => ?_)
              clear hK_
              refine norm_ (a' := ?_) ?_ ?_
              rotate_left
              · simp only [Act.put, List.setIfInBounds_toArray, List.set_cons_zero, List.set_cons_succ]
                rfl
              refine pure_ (i := 13) (N := some 131) (v := ?_) (a' := ?_) #[true, true, true, true, true, true, true, true, true, true, true, true, true, true, false, false, false, false, false, false, false, false, false, false] rfl rfl (by kernel_rfl) (fun _ _ _ h => h) (Or.inl ⟨by rfl, ?_⟩) ?_ ?_
              rotate_left
              · intro w'
                go_simp
                with_reducible rfl
              rotate_left
              · simp only [Act.put, List.setIfInBounds_toArray, List.set_cons_zero, List.set_cons_succ]
                rfl
              refine pure_ (i := 14) (N := some 132) (v := ?_) (a' := ?_) #[true, true, true, true, true, true, true, true, true, true, true, true, true, true, true, false, false, false, false, false, false, false, false, false] rfl rfl (by kernel_rfl) (fun _ _ _ h => h) (Or.inl ⟨by rfl, ?_⟩) ?_ ?_
              rotate_left
              · intro w'
                go_simp
                with_reducible rfl
              rotate_left
              · simp only [Act.put, List.setIfInBounds_toArray, List.set_cons_zero, List.set_cons_succ]
                rfl
              refine pure_ (i := 15) (N := some 133) (v := ?_) (a' := ?_) #[true, true, true, true, true, true, true, true, true, true, true, true, true, true, true, true, false, false, false, false, false, false, false, false] rfl rfl (by kernel_rfl) (fun _ _ _ h => h) (Or.inl ⟨by rfl, ?_⟩) ?_ ?_
              rotate_left
              · intro w'
                go_simp
                with_reducible rfl
              rotate_left
              · simp only [Act.put, List.setIfInBounds_toArray, List.set_cons_zero, List.set_cons_succ]
                rfl
              refine pure_ (i := 16) (N := some 134) (v := ?_) (a' := ?_) #[true, true, true, true, true, true, true, true, true, true, true, true, true, true, true, true, true, false, false, false, false, false, false, false] rfl rfl (by kernel_rfl) (fun _ _ _ h => h) (Or.inl ⟨by rfl, ?_⟩) ?_ ?_
              rotate_left
              · intro w'
                go_simp
                with_reducible rfl
              rotate_left
              · simp only [Act.put, List.setIfInBounds_toArray, List.set_cons_zero, List.set_cons_succ]
                rfl
              refine pure_ (i := 18) (N := some 136) (v := ?_) (a' := ?_) #[true, true, true, true, true, true, true, true, true, true, true, true, true, true, true, true, true, false, true, false, false, false, false, false] rfl rfl (by kernel_rfl) (fun _ _ _ h => h) (Or.inl ⟨by rfl, ?_⟩) ?_ ?_
              rotate_left
              · intro w'
                go_simp
                with_reducible rfl
              rotate_left
              · simp only [Act.put, List.setIfInBounds_toArray, List.set_cons_zero, List.set_cons_succ]
                rfl
              refine pure_ (i := 19) (N := some 137) (v := ?_) (a' := ?_) #[true, true, true, true, true, true, true, true, true, true, true, true, true, true, true, true, true, false, true, true, false, false, false, false] rfl rfl (by kernel_rfl) (fun _ _ _ h => h) (Or.inl ⟨by rfl, ?_⟩) ?_ ?_
              rotate_left
              · intro w'
                go_simp
                with_reducible rfl
              rotate_left
              · simp only [Act.put, List.setIfInBounds_toArray, List.set_cons_zero, List.set_cons_succ]
                rfl
              refine pure_ (i := 20) (N := some 138) (v := ?_) (a' := ?_) #[true, true, true, true, true, true, true, true, true, true, true, true, true, true, true, true, true, false, true, true, true, false, false, false] rfl rfl (by kernel_rfl) (fun _ _ _ h => h) (Or.inl ⟨by rfl, ?_⟩) ?_ ?_
              rotate_left
              · intro w'
                go_simp
                with_reducible rfl
              rotate_left
              · simp only [Act.put, List.setIfInBounds_toArray, List.set_cons_zero, List.set_cons_succ]
                rfl
              refine take_ (i := 21) (N := some 139) (v := ?_) (a' := ?_) #[true, true, true, true, true, true, true, true, true, true, true, true, true, true, true, true, true, false, true, true, true, true, false, false] rfl rfl (by kernel_rfl) (fun _ _ _ h => h) (Or.inl ⟨by rfl, ?_⟩) hHeld ?_ ?_
              rotate_left
              · intro w' hS_
                have b1_ : w'.cell? ⟨g2, 2, none⟩ = some (.bool e') := (blk_cell (HSZ.out.below hS_).d.blk 2).trans rfl
                go_simp
                with_reducible rfl
              rotate_left
              · simp only [Act.put, List.setIfInBounds_toArray, List.set_cons_zero, List.set_cons_succ]
                rfl
              refine one_ (i := 17) (N := some 135) #[true, true, true, true, true, true, true, true, true, true, true, true, true, true, true, true, true, true, true, true, true, true, false, false] rfl rfl (by kernel_rfl) (by decide) (fun K_ hK_ => ?_)
              have HH_ := Aside0.mk hHeld
              clear hHeld
              refine goes_ Try.func59 (by kernel_rfl) rfl #[.pointer (some ⟨g1, 0, none⟩)] (by rfl) rfl rfl (by (try simp only [List.map_toArray, List.map_cons, List.map_nil]); first | done | rfl | (simp only [List.length_drop, List.length_take]; rfl)) ?_
              refine (control_Ended.is HSY.out.c.io).mono ?_
              rintro e_ w59 ⟨rfl, hw_⟩
              rw [hw_]
              clear hw_ w59
              refine ⟨_, rfl, ?_⟩
              have hbe_ := HH_.out
              clear HH_
              refine hK_.out _ _ (hbe_) (fun hHeld => ?_)
              clear hK_
              refine norm_ (a' := ?_) ?_ ?_
              rotate_left
              · simp only [Act.put, List.setIfInBounds_toArray, List.set_cons_zero, List.set_cons_succ]
                rfl
              refine pure_ (i := 22) (N := some 140) (v := ?_) (a' := ?_) #[true, true, true, true, true, true, true, true, true, true, true, true, true, true, true, true, true, true, true, true, true, true, true, false] rfl rfl (by kernel_rfl) (fun _ _ _ h => h) (Or.inl ⟨by rfl, ?_⟩) ?_ ?_
              rotate_left
              · intro w'
                go_simp
                with_reducible rfl
              rotate_left
              · simp only [Act.put, List.setIfInBounds_toArray, List.set_cons_zero, List.set_cons_succ]
                rfl
              refine pure_ (i := 23) (N := some 141) (v := ?_) (a' := ?_) #[true, true, true, true, true, true, true, true, true, true, true, true, true, true, true, true, true, true, true, true, true, true, true, true] rfl rfl (by kernel_rfl) (fun _ _ _ h => h) (Or.inl ⟨by rfl, ?_⟩) ?_ ?_
              rotate_left
              · intro w'
                go_simp
                with_reducible rfl
              rotate_left
              · simp only [Act.put, List.setIfInBounds_toArray, List.set_cons_zero, List.set_cons_succ]
                rfl
              refine done_ (by kernel_rfl) ?_
              have HBy : Aside0 (Both w wy g1 g2 room l' e') := ⟨⟨_, _, _, _, HSY.out⟩⟩
              clear hHeld HSZ HSY
              go_wp2
              go_roundg k1
              case measure => omega
              case rel => exact ⟨i + 1, l', e', (by rw [HW.out]), ⟨by have := HK.out; omega⟩, HBy, HNz⟩
        · have c5b : decide (i < (l0.length : Int)) = false := decide_eq_false c5
          obtain ⟨v1, ok1, v2, ok2, hst⟩ := HS.out
          have HB := Aside0.mk hst.c.be
          clear hst HS c5
          go_wp2_with (first | (have h_ := HB; clear h_; go_at_call 49; refine (control_Pop.none_ _).mono ?_; rintro e_ wa ⟨rfl, hb⟩; have HBa := Aside0.mk (below_alloc (below_step HB.out hb) (.cells #[.int .i64 0, .int .i64 0, .int .i64 0, .slice none 0 0] 67)); clear hb HB) | (have h_ := HBa; clear h_; go_at_call 46; refine (gantletlaw19_alive.calls _).mono ?_; rintro e_ wb ⟨rfl, hb⟩; have HBb := Aside0.mk (below_step HBa.out hb); clear hb HBa) | (have h_ := HBb; clear h_; go_at_call 54; refine (control_Push.none_ 0 0 0 none 0 [] _).mono ?_; rintro e_ wc ⟨rfl, hb⟩; have HBc := Aside0.mk (below_step HBb.out hb); clear hb HBb) | (have h_ := HBc; clear h_; go_at_call 52; refine (control_Last.none_ 0 0 0 none 0 [] _).mono ?_; rintro e_ wd ⟨rfl, hb⟩; have HBd := Aside0.mk (below_step HBc.out hb); clear hb HBc) | (have h_ := HBd; clear h_; go_at_call 56; refine (control_Len.none_ _).mono ?_; rintro e_ wd2 ⟨rfl, rfl⟩) | (have h_ := HBd; clear h_; go_at_call 57; refine (control_Bytes.none_ _).mono ?_; rintro e_ we ⟨rfl, hb⟩; have HBe := Aside0.mk (below_step HBd.out hb); clear hb HBd) | (have h_ := HBe; clear h_; go_at_call 59; refine (control_Ended.none_ _).mono ?_; rintro e_ we2 ⟨rfl, rfl⟩))
          go_ret
          exact ⟨rfl, HBe.out⟩
end Go.Proofs.Ytbmnplojpeabmaa.QK
