/-
  An outlet's live question; what acts fit.
  Conditions: none of its own; lemmas that the claim's row rests on.
-/
import Derived.Test.YtbmnplojpeabmaaOutB
import Derived.WalkKit
namespace Go.Proofs.Ytbmnplojpeabmaa.QO
open Go.RowKit Go.Proofs.YtbmnplojpeabmaaW.PrintWords Go.Proofs.YtbmnplojpeabmaaW.PrintLast Go.Proofs.YtbmnplojpeabmaaW.PrintMore
attribute [local go_sem] max2_int min2_int max_two min_two max_three min_three max_four min_four
set_option linter.unusedVariables false
set_option linter.unusedSimpArgs false
open Go.Proofs.Ytbmnplojpeabmaa.Ob Go.Proofs.Ytbmnplojpeabmaa.FramePure
open Go.Proofs.Ytbmnplojpeabmaa.FramePure
theorem C_blk {α : Type} {d : Kd α} {w : World} {g t : Nat} {cs : Array Value} {xs : List α} (hb : w.heap[g]? = some (.cells cs t (0, 0))) (hR : Reps (d.K w) d.sz xs cs.toList) (hx : xs.length ≤ 9223372036854775807) : d.C w (some ⟨g, 0, none⟩) xs.length xs := by
  refine ⟨rfl, hx, fun _ => ⟨_, rfl, fun j p hj => ?_⟩⟩
  have hp := hR.2 j p hj
  refine ⟨_, d.K_len hp, hp, fun i u hu => ?_⟩
  have hi : i < d.sz := by
    rcases Nat.lt_or_ge i ((cs.toList.drop (j * d.sz)).take d.sz).length with h | h
    · rwa [d.K_len hp] at h
    · rw [List.getElem?_eq_none h] at hu; cases hu
  rw [List.getElem?_take_of_lt hi, List.getElem?_drop] at hu
  rw [Addr.add_lit, Nat.zero_add, blk_cell hb, ← Array.getElem?_toList]
  exact hu
theorem C_one {w : World} {g : Nat} {x : Int} (hb : w.heap[g]? = some (.cells #[.int .u8 x] 5 (0, 0))) : Kd.C (Kd.int .u8) w (some ⟨g, 0, none⟩) 1 [x] :=
  C_blk (d := Kd.int .u8) (xs := [x]) hb (Reps.snoc (c := [.int .u8 x]) (Reps.none _ _) rfl rfl) (by simp)
theorem zero67 (w : World) : k67.K w ⟨0, 0, 0, []⟩ [.int .i64 0, .int .i64 0, .int .i64 0, .slice none 0 0] := k67_mk w ⟨0, 0, 0, []⟩ (Nat.le_refl 0) (C_nil w none)
theorem C_z1 {w : World} {g : Nat} (hb : w.heap[g]? = some (.cells #[.int .i64 0, .int .i64 0, .int .i64 0, .slice none 0 0] 67 (0, 0))) : Kd.C k67 w (some ⟨g, 0, none⟩) 1 ([⟨0, 0, 0, []⟩] : List S67) :=
  C_blk (d := k67) (xs := [⟨0, 0, 0, []⟩]) hb (Reps.snoc (c := [.int .i64 0, .int .i64 0, .int .i64 0, .slice none 0 0]) (Reps.none _ _) (zero67 w) rfl) (by decide)
theorem C_z3 {w : World} {g : Nat} (hb : w.heap[g]? = some (.cells #[.int .i64 0, .int .i64 0, .int .i64 0, .slice none 0 0, .int .i64 0, .int .i64 0, .int .i64 0, .slice none 0 0, .int .i64 0, .int .i64 0, .int .i64 0, .slice none 0 0] 67 (0, 0))) : Kd.C k67 w (some ⟨g, 0, none⟩) 3 ([⟨0, 0, 0, []⟩, ⟨0, 0, 0, []⟩, ⟨0, 0, 0, []⟩] : List S67) :=
  C_blk (d := k67) (xs := [⟨0, 0, 0, []⟩, ⟨0, 0, 0, []⟩, ⟨0, 0, 0, []⟩]) hb (Reps.snoc (c := [.int .i64 0, .int .i64 0, .int .i64 0, .slice none 0 0]) (Reps.snoc (c := [.int .i64 0, .int .i64 0, .int .i64 0, .slice none 0 0]) (Reps.snoc (c := [.int .i64 0, .int .i64 0, .int .i64 0, .slice none 0 0]) (Reps.none _ _) (zero67 w) rfl) (zero67 w) rfl) (zero67 w) rfl) (by decide)
theorem C_ints {w : World} {g t : Nat} {cs : Array Value} (l : List Int) (hb : w.heap[g]? = some (.cells cs t (0, 0))) (hc : cs = (l.map (Value.int .u8)).toArray) (hx : l.length ≤ 9223372036854775807) : Kd.C (Kd.int .u8) w (some ⟨g, 0, none⟩) l.length l := by
  subst hc
  refine Kd.C_of_reads (enc := Value.int .u8) (d := (0 : Int)) ⟨rfl, hx, fun _ => ⟨_, rfl, fun j hj => ?_⟩⟩
  rw [Addr.add_lit, Nat.zero_add, blk_cell hb]
  simp [hj]
/-- A frame's bytes, and the error. -/
def Ef (x : S67) : List Int × Int := if right x.f0 x.f1 x.f2 x.f3 then (enc x.f0 x.f1 x.f2 x.f3, 0) else ([], 1)
theorem Ef_prog (x : S67) : frame_Encode.f 20 x.f0 x.f1 x.f2 x.f3 = some (Ef x) := by
  unfold Ef
  split
  · rename_i h; exact encE (by decide) h
  · rename_i h; exact encN h
theorem Ef_ref (x : S67) : gantletref02_Encode.f 20 x.f0 x.f1 x.f2 x.f3 = some (Ef x) := by
  unfold Ef
  split
  · rename_i h; exact rencE (by decide) h
  · rename_i h; exact rencN h
theorem Ef_len (x : S67) (h : x.f3.length ≤ 500) : (Ef x).1.length ≤ 1000 := by
  unfold Ef
  split
  · show (enc x.f0 x.f1 x.f2 x.f3).length ≤ 1000
    rw [enc_length]; omega
  · decide
theorem Ef_six : Ef ⟨6, 0, 0, [5]⟩ = ([0, 0, 1, 6, 0, 0, 0, 0, 0, 5], 0) := by decide
theorem Ef_big : Ef ⟨256, 0, 0, []⟩ = ([], 1) := by decide
theorem Ef_zero : Ef ⟨0, 0, 0, []⟩ = ([0, 0, 0, 0, 0, 0, 0, 0, 0], 0) := by decide
theorem fill_alive : fillL Ef 12 [⟨0, 0, 0, []⟩, ⟨0, 0, 0, []⟩, ⟨0, 0, 0, []⟩] [5] 0 = ([5, 0, 0, 0, 0, 0, 0, 0, 0, 0, 0, 0, 0, 0, 0, 0, 0, 0, 0], 2) := by decide
theorem Mv.blk {w w' : World} {g r : Nat} {v v' : Value} {o : Obj} (h : Mv w g v w' v') (hb : w.heap[r]? = some o) (h1 : r ≠ g) (h2 : ∀ k, v.ownBlock = some k → k ≠ r) : w'.heap[r]? = some o :=
  blk_keeps hb h.1 (fun hk => by rcases hk with e | e; exact h1 e; exact h2 _ e rfl)
theorem Mv.rd {w w' : World} {g : Nat} {v v' u : Value} {l : List Int} (h : Mv w g v w' v') (hr : Rd w u l) (hu : ∀ k, u.ownBlock = some k → k ≠ g ∧ v.ownBlock ≠ some k) : Rd w' u l :=
  hr.keeps h.1 (fun k hk hf => by rcases hf with e | e; exact (hu k hk).1 e; exact (hu k hk).2 e)
theorem Rd.of_R {w : World} {v : Value} {l : List Int} {base : Nat} {ok : Nat → Prop} (h : Kd.R (Kd.int .u8) 5 w base ok v l) : Rd w v l := by
  obtain ⟨A, c, e, h1, h2⟩ := Kd.R_reads h
  exact ⟨A, c, e, h1, h2, fun k hk => Kd.R_lt h k hk⟩
/-- What was drained is no part of the outlet. -/
theorem drained {w w' : World} {g : Nat} {v v' u : Value} {l m : List Int} {ok : Nat → Prop} (h : IsO w g v l) (ho : v'.ownBlock = v.ownBlock) (hu : Kd.R (Kd.int .u8) 5 w' w.heap.size ok u m) : ∀ k, u.ownBlock = some k → k ≠ g ∧ v'.ownBlock ≠ some k := by
  intro k hk
  have h1 := Kd.R_base hu k hk
  have h2 := blk_lt h.1
  refine ⟨by omega, fun e => ?_⟩
  have h3 := h.2.1.lt k (by rw [← ho]; exact e)
  omega
set_option maxHeartbeats 16000000 in
set_option maxRecDepth 100000 in
theorem gantletlaw14_alive.calls (w : World) : Calls Try.prog 34 #[] w fun e w' => e = .returned (.bool true) ∧ Below w.heap.size w w' := by
  have hu67 := Try.underlying67
  go_enter Try.func34, Try.ntmps34
  go_wp2_with (first | (go_at_call 35; refine (outlet_New.is _).mono ?_; rintro e_ w1 ⟨g, rfl, hI, hg, hb⟩; have HI0 := Aside0.mk hI; have HB0 := Aside0.mk hb; have HG := Aside0.mk hg; clear hI hb hg) | (have h_ := HI0; clear h_; go_at_call 40; refine (outlet_Push.ok 20 _ g _ _ 6 0 0 (some ⟨w1.heap.size, 0, none⟩) 1 [5] [0, 0, 1, 6, 0, 0, 0, 0, 0, 5] (HI0.out.below (below_alloc (Below.refl _ _) _)) (C_one (blk_new w1 _)) (by decide) ((Ef_prog ⟨6, 0, 0, [5]⟩).trans (congrArg some Ef_six)) (by decide)).mono ?_; rintro e_ w2 ⟨rfl, v2, hI, hk, ho⟩; have HI1 := Aside0.mk hI; have HM1 := Aside0.mk (((Mv.refl _ g _).below (below_alloc (Below.refl w1.heap.size w1) (.cells #[.int .u8 5] 5))).trans ⟨hk, ho⟩); clear hI hk ho HI0) | (have h_ := HI1; clear h_; go_at_call 40; refine (outlet_Push.bad 20 _ (some ⟨g, 0, none⟩) 256 0 0 none 0 [] [] 1 (C_nil _ _) (by decide) ((Ef_prog ⟨256, 0, 0, []⟩).trans (congrArg some Ef_big)) (.inr (by decide))).mono ?_; rintro e_ w3 ⟨rfl, hb⟩; have HI2 := Aside0.mk (HI1.out.below hb); have HM2 := Aside0.mk (HM1.out.below hb); clear hb HI1 HM1) | (have h_ := HI2; clear h_; go_at_call 36; refine (outlet_Drain.is _ g v2 _ 9 HI2.out (by decide)).mono ?_; rintro e_ w4 ⟨v0, v3, rfl, hO, hI, hk, ho⟩; have HI3 := Aside0.mk hI; have HA := Aside0.mk (Rd.of_R hO); have HU3 := Aside0.mk (drained HI2.out ho hO); have HM3 := Aside0.mk (HM2.out.trans ⟨hk, .inl ho⟩); clear hI hk ho hO HI2 HM2) | (have h_ := HI3; clear h_; go_at_call 38; refine (outlet_Fill.calls Ef 20 12 (some ⟨w4.heap.size, 0, none⟩) 3 [⟨0, 0, 0, []⟩, ⟨0, 0, 0, []⟩, ⟨0, 0, 0, []⟩] _ g v3 [5] (HI3.out.below (below_alloc (Below.refl _ _) _)) (fun w_ v_ hm => C_z3 (hm.blk (blk_new w4 _) (by have := blk_lt HI3.out.1; omega) (fun k hk => by have := HI3.out.2.1.lt k hk; omega))) (fun x _ => Ef_prog x) (fun x hx => Ef_len x (by simp at hx; subst hx; decide)) (by decide)).mono ?_; rintro e_ w5 ⟨rfl, v4, hI, hm⟩; rw [fill_alive] at hI; simp only [fill_alive]; have HI4 := Aside0.mk hI; have HA4 := Aside0.mk (hm.rd (HA.out.below (below_alloc (Below.refl _ _) _)) HU3.out); have HM4 := Aside0.mk ((HM3.out.below (below_alloc (Below.refl _ _) _)).trans hm); have HU4 : Aside0 (∀ k, v0.ownBlock = some k → k < w5.heap.size) := ⟨by obtain ⟨A_, c_, rfl, _, h_, _⟩ := HA4.out; intro k hk; rcases A_ with _ | a_; cases hk; (cases hk; exact C_lt h_ (by decide) _ rfl)⟩; have HN4 : Aside0 (∀ k, v0.ownBlock = some k → k ≠ g ∧ v4.ownBlock ≠ some k) := ⟨fun k hk => ⟨(HU3.out k hk).1, fun e => by rcases hm.2 with e2 | ⟨b_, e2, hb⟩; exact (HU3.out k hk).2 (by rw [← e2]; exact e); (rw [e] at e2; cases e2; obtain ⟨A_, c_, rfl, _, h_, _⟩ := HA.out; rcases A_ with _ | a_; cases hk; (cases hk; have := C_lt h_ (by decide) _ rfl; simp at hb; omega))⟩⟩; clear hI hm HI3 HM3 HA HU3 HU4) | (have h_ := HI4; clear h_; go_at_call 36; refine (outlet_Drain.is _ g v4 _ 99 HI4.out (by decide)).mono ?_; rintro e_ w6 ⟨v5, v6, rfl, hO, hI, hk, ho⟩; have HI5 := Aside0.mk hI; have HA5 := Aside0.mk (Mv.rd (v' := v6) ⟨hk, .inl ho⟩ HA4.out HN4.out); have HD5 := Aside0.mk (Rd.of_R hO); have HM5 := Aside0.mk (HM4.out.trans ⟨hk, .inl ho⟩); clear hI hk ho hO HI4 HM4 HA4; obtain ⟨A5, c5, rfl, hc5, hC5, _⟩ := HA5.out; obtain ⟨D5, d5, rfl, hd5, hD5, _⟩ := HD5.out; obtain ⟨ad5, ed5, hx5⟩ := Kd.at_int hD5 0 (by decide) (by decide); subst ed5) | (have h_ := HI5; clear h_; go_at_call 18; refine (gantletref01_Same.calls 10 A5 c5 [0, 0, 1, 6, 0, 0, 0, 0, 0] (some ⟨w6.heap.size, 0, none⟩) 9 [0, 0, 1, 6, 0, 0, 0, 0, 0] true _ (Kd.C_below hC5 (below_alloc (Below.refl _ _) _)) hc5 (C_ints [0, 0, 1, 6, 0, 0, 0, 0, 0] (blk_new w6 _) rfl (by decide)) (by decide) (by kernel_rfl)).mono ?_; rintro e_ w7 ⟨rfl, hdr⟩; have hB7 := below_step (below_alloc (Below.refl w6.heap.size w6) (.cells (List.map (Value.int .u8) [0, 0, 1, 6, 0, 0, 0, 0, 0]).toArray 5)) hdr.below; have hx6 : w6.cell? ad5 = some (.int .u8 5) := (by have h7 := hx5; simpa [Addr.add, rd] using h7); have hx7 : w7.cell? ad5 = some (.int .u8 5) := (hB7.cell (World.block_lt_of_cell? w6 _ hx6)).trans hx6; have HI7 := Aside0.mk (HI5.out.below hB7); have HM7 := Aside0.mk (HM5.out.below hB7); clear HI5 HM5 hdr hx5 hx6) | (have h_ := HI7; clear h_; go_at_call 42; refine (outlet_Len.is _ g v6 _ HI7.out).mono ?_; rintro e_ w8 ⟨rfl, nd, hw⟩; subst hw))
  go_ret
  exact ⟨rfl, pw_below_drewN (HM7.out.under HB0.out HG.out (by intro k hk; cases hk)) nd⟩
set_option maxHeartbeats 4000000 in
set_option maxRecDepth 100000 in
theorem outlet_Fill.none_ (w : World) (r : Nat) (hb : w.heap[r]? = some (.cells #[.int .i64 0, .int .i64 0, .int .i64 0, .slice none 0 0] 67 (0, 0))) :
    Calls Try.prog 38 #[.pointer none, .int .i64 9, .slice (some ⟨r, 0, none⟩) 1 1] w fun e w' => e = .returned (.int .i64 0) ∧ Below w.heap.size w w' := by
  have hu67 := Try.underlying67
  have HB := Aside0.mk hb
  clear hb
  go_enter Try.func38, Try.ntmps38
  go_wp2_with (first | go_step3)
  go_loopg [7, 15] 1 (fun kq v7 v15 w' => v7 = .int .i64 0 ∧ v15 = .int .i64 0 ∧ w' = w)
  case atStart => exact ⟨rfl, rfl, rfl⟩
  case round =>
    obtain ⟨rfl, rfl, rfl⟩ := hrel
    have h0 : wr.cell? ⟨r, 0, none⟩ = some (.int .i64 0) := (blk_cell HB.out 0).trans rfl
    have h1 : wr.cell? ⟨r, 1, none⟩ = some (.int .i64 0) := (blk_cell HB.out 1).trans rfl
    have h2 : wr.cell? ⟨r, 2, none⟩ = some (.int .i64 0) := (blk_cell HB.out 2).trans rfl
    have h3 : wr.cell? ⟨r, 3, none⟩ = some (.slice none 0 0) := (blk_cell HB.out 3).trans rfl
    go_wp2_with (first | go_step3 | (go_at_call 42; refine (outlet_Len.none_ _).mono ?_; rintro e_ w1 ⟨rfl, nd, hw⟩; subst hw) | (go_at_call 40; refine (outlet_Push.bad 20 _ none 0 0 0 none 0 [] [0, 0, 0, 0, 0, 0, 0, 0, 0] 0 (C_nil _ _) (Nat.le_refl 0) ((Ef_prog ⟨0, 0, 0, []⟩).trans (congrArg some Ef_zero)) (.inl rfl)).mono ?_; rintro e_ w2 ⟨rfl, hb2⟩; have HB2 := Aside0.mk (below_step (pw_below_drewN (below_alloc (Below.refl wr.heap.size wr) _) nd) hb2)))
    unfold Exit.noGoto
    go_ret
    exact ⟨rfl, HB2.out⟩
/-- What fits. -/
def fitsAct (a : S58) : Prop := a.f2.length ≤ 30 ∧ ∀ n : Int, 0 ≤ n → n < a.f2.length → (rd_T67 a.f2 n).f3.length ≤ 500
theorem fits_l1 (x : List S58) (hx : x.length ≤ 30) (i : Int) (h0 : 0 ≤ i) (hi : i < x.length) (hL : (rd_T58 x i).f2.length ≤ 30) : ∀ (d k : Nat) (m : Int), 0 ≤ m → m ≤ (rd_T58 x i).f2.length → (((rd_T58 x i).f2.length : Nat) : Int) - m = d → d < k →
    gantletlaw14_fits.l1 k x i m = some false ∨ (gantletlaw14_fits.l1 k x i m = gantletlaw14_fits.l0 (k - d - 1) x (i + 1) ∧ ∀ n : Int, m ≤ n → n < (rd_T58 x i).f2.length → (rd_T67 (rd_T58 x i).f2 n).f3.length ≤ 500) := by
  intro d
  induction d with
  | zero =>
    intro k m m0 m1 hd hk
    obtain ⟨k, rfl⟩ : ∃ j, k = j + 1 := ⟨k - 1, by omega⟩
    right
    simp only [gantletlaw14_fits.l1]
    rw [if_pos h0, if_pos hi, if_neg (by omega), show wrap64 (i + 1) = i + 1 by unfold wrap64; omega]
    exact ⟨by simp, fun n h1 h2 => by omega⟩
  | succ d ih =>
    intro k m m0 m1 hd hk
    obtain ⟨k, rfl⟩ : ∃ j, k = j + 1 := ⟨k - 1, by omega⟩
    simp only [gantletlaw14_fits.l1]
    rw [if_pos h0, if_pos hi, if_pos (by omega), if_pos m0]
    by_cases hp : (((rd_T67 ((rd_T58 x i).f2) m).f3).length : Int) > 500
    · rw [if_pos hp]; exact .inl rfl
    · rw [if_neg hp, show wrap64 (m + 1) = m + 1 by unfold wrap64; omega]
      rcases ih k (m + 1) (by omega) (by omega) (by omega) (by omega) with h | ⟨h, hn⟩
      · exact .inl h
      · refine .inr ⟨by rw [h, show k + 1 - (d + 1) - 1 = k - d - 1 by omega], fun n h1 h2 => ?_⟩
        rcases Int.lt_or_eq_of_le h1 with h3 | h3
        · exact hn n (by omega) h2
        · subst h3; omega
theorem fits_l0 (x : List S58) (hx : x.length ≤ 30) : ∀ (e k : Nat) (i : Int), 0 ≤ i → i ≤ x.length → (x.length : Int) - i = e → 40 * e < k →
    gantletlaw14_fits.l0 k x i = some false ∨ (gantletlaw14_fits.l0 k x i = some true ∧ ∀ j : Int, i ≤ j → j < x.length → fitsAct (rd_T58 x j)) := by
  intro e
  induction e with
  | zero =>
    intro k i h0 h1 he hk
    obtain ⟨k, rfl⟩ : ∃ j, k = j + 1 := ⟨k - 1, by omega⟩
    right
    simp only [gantletlaw14_fits.l0]
    rw [if_neg (by omega)]
    exact ⟨rfl, fun n h1 h2 => by omega⟩
  | succ e ih =>
    intro k i h0 h1 he hk
    obtain ⟨k, rfl⟩ : ∃ j, k = j + 1 := ⟨k - 1, by omega⟩
    simp only [gantletlaw14_fits.l0]
    rw [if_pos (by omega), if_pos h0]
    by_cases hp : (((rd_T58 x i).f2).length : Int) > 30
    · rw [if_pos hp]; exact .inl rfl
    · rw [if_neg hp]
      rcases fits_l1 x hx i h0 (by omega) (by omega) (rd_T58 x i).f2.length k 0 (by omega) (by omega) (by omega) (by omega) with h | ⟨h, hn⟩
      · exact .inl h
      · rw [h]
        rcases ih (k - (rd_T58 x i).f2.length - 1) (i + 1) (by omega) (by omega) (by omega) (by omega) with h4 | ⟨h4, h5⟩
        · exact .inl h4
        · refine .inr ⟨h4, fun j h6 h7 => ?_⟩
          rcases Int.lt_or_eq_of_le h6 with h8 | h8
          · exact h5 j (by omega) h7
          · subst h8; exact ⟨by omega, fun n h9 h10 => hn n h9 h10⟩
theorem fits_eq (x : List S58) : gantletlaw14_fits.f 2000 x = some false ∨ (gantletlaw14_fits.f 2000 x = some true ∧ x.length ≤ 30 ∧ ∀ j : Int, 0 ≤ j → j < x.length → fitsAct (rd_T58 x j)) := by
  unfold gantletlaw14_fits.f
  by_cases hx : (x.length : Int) > 30
  · rw [if_pos hx]; exact .inl rfl
  · rw [if_neg hx]
    rcases fits_l0 x (by omega) x.length 2000 0 (by omega) (by omega) (by omega) (by omega) with h | ⟨h, hn⟩
    · exact .inl h
    · exact .inr ⟨h, by omega, hn⟩
theorem fillL_len (E : S67 → List Int × Int) (n : Int) : ∀ (fl : List S67) (b : List Int) (d : Nat), (∀ x ∈ fl, (E x).1.length ≤ 1000) → (fillL E n fl b d).1.length ≤ b.length + 1000 * fl.length := by
  intro fl
  induction fl with
  | nil => intro b d h; exact Nat.le_refl _
  | cons x r ih =>
    intro b d h
    simp only [fillL]
    split
    · simp
    · split
      · simp
      · have h1 := ih (b ++ (E x).1) (d + 1) (fun y hy => h y (List.mem_cons_of_mem _ hy))
        have h2 := h x List.mem_cons_self
        simp only [List.length_append, List.length_cons] at h1 ⊢
        omega
theorem r14_Drain.is (w : World) (m : Value) (b : List Int) (n : Int) (hm : Rd w m b) : Calls Try.prog 37 #[m, .int .i64 n] w fun e w' => ∃ u m', e = .returned (.tuple #[u, m']) ∧ Rd w' u (b.take n.toNat) ∧ Rd w' m' (b.drop n.toNat) ∧ m'.ownBlock = m.ownBlock ∧ ∃ nd, w' = w.drewN nd := by
  obtain ⟨A, c, rfl, hc, hC, hlt⟩ := hm
  refine (r14_Drain.at_ w A _ c b n (min n.toNat b.length) hc hC (by omega) rfl (by omega)).mono ?_
  rintro e w' ⟨rfl, nd, rfl⟩
  have hk : min n.toNat b.length ≤ b.length := by omega
  generalize hkk : min n.toNat b.length = kk at hk ⊢
  have ht : b.take n.toNat = b.take kk := by rw [← hkk, List.take_eq_take_min]
  have hd : b.drop n.toNat = b.drop kk := by
    rcases Nat.le_total n.toNat b.length with h | h
    · rw [Nat.min_eq_left h] at hkk; rw [hkk]
    · rw [Nat.min_eq_right h] at hkk; rw [← hkk, List.drop_eq_nil_of_le h, List.drop_length]
  rw [ht, hd]
  have hb := pw_below_drewN (Below.refl w.heap.size w) nd
  have h1 := Kd.C_take hC hk
  have h2 := Kd.C_drop hC hk hc
  simp only [show (Kd.int .u8).sz = 1 from rfl, Nat.mul_one] at h2
  have ho : (Value.slice (if c = kk then A else Option.map (fun x => x.add kk) A) (b.length - kk) (c - kk)).ownBlock = (Value.slice A b.length c).ownBlock := by
    cases A with
    | none => split <;> simp [Value.ownBlock]
    | some a => split <;> simp [Value.ownBlock, add_blk]
  have ho2 : (Value.slice A kk c).ownBlock = (Value.slice A b.length c).ownBlock := by cases A <;> simp [Value.ownBlock]
  refine ⟨_, _, rfl, ⟨A, c, ?_, by rw [List.length_take]; omega, Kd.C_below h1 hb, fun k hk => Nat.lt_of_lt_of_le (hlt k (by rw [← ho2]; exact hk)) hb.size⟩, ⟨_, c - kk, ?_, by rw [List.length_drop]; omega, Kd.C_below h2 hb, fun k hk => Nat.lt_of_lt_of_le (hlt k (by rw [← ho]; exact hk)) hb.size⟩, ho, nd, rfl⟩
  · rw [List.length_take, Nat.min_eq_left hk]
  · rw [List.length_drop]
end Go.Proofs.Ytbmnplojpeabmaa.QO
