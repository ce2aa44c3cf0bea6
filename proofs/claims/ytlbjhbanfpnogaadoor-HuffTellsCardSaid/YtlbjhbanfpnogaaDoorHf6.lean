/-
  HUFF: Decode.
  Conditions: none of its own; lemmas that the claim's row rests on.
-/
import Derived.Test.YtlbjhbanfpnogaaDoorHf5
import Derived.TacticsInMore
import Derived.LoopNIn
import Derived.LoopIn
import Derived.OwnWalkIn
import Derived.Shelf.RegionOpen
import Derived.WalkKit
import Derived.Sort.CutIn
import Derived.Maps.AppendAt
import Derived.RangeFuncBox
namespace Go.Proofs.YtlbjhbanfpnogaaDoor.QH
open Go.RowKit Go.Proofs.YtlbjhbanfpnogaaDoorW.PrintWords Go.Proofs.YtlbjhbanfpnogaaDoorW.PrintLast Go.Proofs.YtlbjhbanfpnogaaDoorW.PrintMore
attribute [local go_sem] max2_int min2_int max_two min_two max_three min_three max_four min_four
set_option linter.unusedVariables false
set_option linter.unusedSimpArgs false
open Go.Maps Go.Proofs.YtlbjhbanfpnogaaDoorR Go.Proofs.YtlbjhbanfpnogaaDoor.Ob
section
attribute [local go_sem] Oper.semAt_some
theorem blk_turn {W W' : World} {g t : Nat} {cs : Array Value} {row : Option Nat} (h : W.heap[g]? = some (.cells cs t (0, 0))) (hg : W.grownBy W' row) (hr : ∀ r, row = some r → ∃ o : Obj, W.heap[r]? = some o ∧ o.isCells = false) : W'.heap[g]? = some (.cells cs t (0, 0)) :=
  (hg.block g (blk_lt h) (fun e => by
    obtain ⟨o, ho, hc⟩ := hr g e.symm
    rw [h] at ho
    cases ho
    cases hc)).trans h
theorem R_turn {W W' : World} {base : Nat} {ok : Nat → Prop} {v : Value} {xs : List Int} {row : Option Nat} (h : Kd.R (Kd.int .u8) 5 W base ok v xs) (hg : W.grownBy W' row) (hr : ∀ r, row = some r → ∃ o : Obj, W.heap[r]? = some o ∧ o.isCells = false) : Kd.R (Kd.int .u8) 5 W' base ok v xs :=
  Kd.R_mono (Kd.R_step (Kd.R_bound h) (fun k hk hlt => hg.block k hlt (fun e => by
    obtain ⟨o, ho, hc⟩ := hr k e.symm
    obtain ⟨_, _, _, q, _, cells, hcells⟩ := hk
    rw [hcells] at ho
    cases ho
    cases hc))) (fun k hk => hk.1)
variable {w : World} {most : Int} {r : List Int × Int} {l : List Int} {A : Option Addr} {c Bq mb b3 b4 b5 b6 b7 b8 : Nat}
theorem DecI.own {B : Nat} (hB : w.heap.size ≤ B) (hmb : mb < B) : OwnFrom B (DecI w most r l A c Bq mb b3 b4 b5 b6 b7 b8) := fun s X Y row h hg hr => by
  have hr' : ∀ k, row = some k → ∃ o : Obj, X.heap[k]? = some o ∧ o.isCells = false := fun k e => (hr k e).2
  obtain ⟨h1, a, n, out, v, h2, h3, h4, h5, h6, h7⟩ := h.st
  exact ⟨h.be.grown hg h.be.size (fun k e => Nat.le_trans hB (hr k e).1), blk_turn h.h3 hg hr', blk_turn h.h4 hg hr', blk_turn h.h5 hg hr', blk_turn h.h6 hg hr', h.hm.kept hg (fun e => by have := (hr _ e.symm).1; omega), blk_turn h.hq hg hr', h1, a, n, out, v, h2, h3, h4, blk_turn h5 hg hr', blk_turn h6 hg hr', R_turn h7 hg hr'⟩
theorem DecX.own {B : Nat} (hB : w.heap.size ≤ B) (cc : Code) : OwnFrom B (fun (_ : Nat) W => DecX w r b4 b5 cc W) := fun s X Y row h hg hr => by
  have hr' : ∀ k, row = some k → ∃ o : Obj, X.heap[k]? = some o ∧ o.isCells = false := fun k e => (hr k e).2
  exact ⟨h.is, h.be.grown hg h.be.size (fun k e => Nat.le_trans hB (hr k e).1), h.r1, blk_turn h.h4 hg hr', blk_turn h.h5 hg hr'⟩
theorem zero3 (W : World) : (zeroValue 3).run Tryd.prog W = .ok (.int .i64 0) W := by kernel_rfl
theorem ones_core (X : Nat) (h0 : 0 < X) (h1 : X ≤ 536870912) : wrap64 (wrap64 (X : Int) - 1) = ((X - 1 : Nat) : Int) := by
  have h8 : wrap64 (X : Int) = (X : Int) := by unfold wrap64; omega
  rw [h8]; unfold wrap64; omega
theorem ones_step {n m : Nat} (hn : n ≤ 29) (hm : 2 ^ n - 1 = m) : wrap64 (wrap64 (2 ^ n) - 1) = (m : Int) := by
  have h2 : 2 ^ n ≤ 2 ^ 29 := Nat.pow_le_pow_right (by decide) hn
  have h3 : (2 : Nat) ^ 29 = 536870912 := by decide +kernel
  rw [h3] at h2
  have h7 : ((2 : Int) ^ n) = ((2 ^ n : Nat) : Int) := by simp
  rw [h7, ← hm]
  exact ones_core _ (Nat.two_pow_pos n) h2
theorem cell_put {W : World} {D b t : Nat} {v : Value} {o o' : Obj} (h : W.heap[b]? = some (.cells #[v] t (0, 0))) (hK : W.heap[D]? = some o) (ho : o.isCells = false) : (W.putObj D o').cell? ⟨b, 0, none⟩ = some v :=
  (blk_cell ((World.putObj_heap_other (fun e => by rw [e, hK] at h; cases h; cases ho)).trans h) 0).trans rfl
theorem R_put {W : World} {base : Nat} {ok : Nat → Prop} {v : Value} {xs : List Int} {D : Nat} {o o' : Obj} (h : Kd.R (Kd.int .u8) 5 W base ok v xs) (hK : W.heap[D]? = some o) (ho : o.isCells = false) : Kd.R (Kd.int .u8) 5 (W.putObj D o') base ok v xs :=
  R_turn h (grownBy_putObj' W D o') (fun k e => by cases e; exact ⟨o, hK, ho⟩)
theorem dec_results {tmps : Array Value} {b4 b5 : Nat} {Z : World} {v : Value} {e : Int} (h4 : tmps[4]? = some (.pointer (some ⟨b4, 0, none⟩))) (h5 : tmps[5]? = some (.pointer (some ⟨b5, 0, none⟩))) (c4 : Z.cell? ⟨b4, 0, none⟩ = some v) (c5 : Z.cell? ⟨b5, 0, none⟩ = some (.int .i64 e)) : (results Tryd.f18 tmps).run Tryd.prog Z = .ok (.tuple #[v, .int .i64 e]) Z := by
  simp [results, Tryd.results18, asAddr, go_sem, h4, h5, c4, c5]
/-- What a round may write. -/
def Dw (b7 b8 : Nat) (v : Value) : Nat → Prop := fun k => k = b7 ∨ k = b8 ∨ v.ownBlock = some k
theorem Dw_ne {W : World} {base : Nat} {ok : Nat → Prop} {v : Value} {out : List Int} (hR : Kd.R (Kd.int .u8) 5 W base ok v out) {g t : Nat} {cs : Array Value} (hg : W.heap[g]? = some (.cells cs t (0, 0))) (ht : 5 ≠ t) (h1 : g ≠ b7) (h2 : g ≠ b8) : ¬ Dw b7 b8 v g := fun hF => by
  rcases hF with rfl | rfl | hF
  · exact h1 rfl
  · exact h2 rfl
  · exact Kd.R_ne hR hg ht hF.symm
theorem DecI.next {s : Nat} {out : List Int} {v v1 : Value} {W W1 : World} {a1 n1 : Nat} {out1 : List Int} (h : DecI w most r l A c Bq mb b3 b4 b5 b6 b7 b8 s W) (hs : s + 1 ≤ 8 * l.length) (hd : decL most ((bitsL l).drop (s + 1)) a1 n1 out1 = r) (ho : open_ a1 n1) (hl : out1.length ≤ s + 1)
    (hR : ∃ ok, Kd.R (Kd.int .u8) 5 W w.heap.size ok v out) (hk : Keeps W W1 (Dw b7 b8 v)) (hd7 : b3 ≠ b7 ∧ b4 ≠ b7 ∧ b5 ≠ b7 ∧ b6 ≠ b7 ∧ Bq ≠ b7) (hd8 : b3 ≠ b8 ∧ b4 ≠ b8 ∧ b5 ≠ b8 ∧ b6 ≠ b8 ∧ Bq ≠ b8) (hb7 : w.heap.size ≤ b7) (hb8 : w.heap.size ≤ b8)
    (hm : W1.ownsMap Tryd.prog 65 (plainElem (H := Unit) Tryd.prog 3) mb 257 (mapD 257)) (h7 : W1.heap[b7]? = some (.cells #[v1] 22 (0, 0))) (h8 : W1.heap[b8]? = some (.cells #[.int .i64 (a1 : Int), .int .i64 (n1 : Int)] 65 (0, 0))) (hR1 : Kd.R (Kd.int .u8) 5 W1 w.heap.size (fun _ => True) v1 out1) :
    DecI w most r l A c Bq mb b3 b4 b5 b6 b7 b8 (s + 1) W1 := by
  obtain ⟨ok, hR⟩ := hR
  have ne : ∀ {g t : Nat} {cs : Array Value}, W.heap[g]? = some (.cells cs t (0, 0)) → 5 ≠ t → g ≠ b7 → g ≠ b8 → ¬ Dw b7 b8 v g := fun hg ht h1 h2 hF => by
    rcases hF with rfl | rfl | hF
    · exact h1 rfl
    · exact h2 rfl
    · exact Kd.R_ne hR hg ht hF.symm
  refine ⟨hk.under h.be (fun k hF => ?_), blk_keeps h.h3 hk (ne h.h3 (by decide) hd7.1 hd8.1), blk_keeps h.h4 hk (ne h.h4 (by decide) hd7.2.1 hd8.2.1), blk_keeps h.h5 hk (ne h.h5 (by decide) hd7.2.2.1 hd8.2.2.1), blk_keeps h.h6 hk (ne h.h6 (by decide) hd7.2.2.2.1 hd8.2.2.2.1), hm, blk_keeps h.hq hk (ne h.hq (by decide) hd7.2.2.2.2 hd8.2.2.2.2), hs, a1, n1, out1, v1, hd, ho, hl, h7, h8, hR1⟩
  rcases hF with rfl | rfl | hF
  · exact hb7
  · exact hb8
  · exact Kd.R_base hR k hF
theorem cells_own {W : World} {base : Nat} {ok : Nat → Prop} {v : Value} {xs : List Int} (hR : Kd.R (Kd.int .u8) 5 W base ok v xs) {W1 : World} (hg : W.grownBy W1 v.ownBlock) : KeepsOthers W W1 :=
  KeepsOthers.of_grownBy hg (fun j o hj ho => by
    obtain ⟨inner, hown⟩ := Kd.R_own hR
    obtain ⟨cells, hc⟩ := own_typed hown j hj
    rw [hc] at ho; cases ho; rfl)
set_option maxHeartbeats 8000000 in
set_option maxRecDepth 100000 in
theorem huff_Decode.calls (A0 : Option Addr) (c0 : Nat) (l0 : List Int) (a1 : Int) (r1 : List Int) (r2 : Int) (w : World) (hG : GB w) (hr0 : Kd.C (Kd.int .u8) w A0 l0.length l0) (hc0 : l0.length ≤ c0) (h : huff_Decode.f l0 a1 = some (r1, r2)) :
    Calls Tryd.prog 18 #[.slice A0 l0.length c0, .int .i64 a1] w fun e w' => ∃ v0_ : Value, e = .returned (.tuple #[v0_, .int .i64 r2]) ∧ Kd.R (Kd.int .u8) 5 w' w.heap.size (fun _ => True) v0_ r1 ∧ Below w.heap.size w w' := by
  unfold huff_Decode.f at h
  by_cases hb : bytesB l0 = true
  · rw [if_pos hb] at h
    have HE := Aside0.mk (Option.some.inj h)
    have HYB := Aside0.mk hb
    have HL : Aside0 (l0.length ≤ 1000000) := ⟨by unfold bytesB at hb; rw [Bool.and_eq_true] at hb; exact of_decide_eq_true hb.1⟩
    have HG := Aside0.mk hG
    have HR := Aside0.mk hr0
    obtain ⟨i0_, hi0_⟩ := info_parts hinfo5
    have HI0 := Aside0.mk hi0_
    clear h hb hr0 hG hi0_
    refine (callsIn_wide (n := 3)).1 (callsIn_of_wp_marks Tryd.func18 rfl trivial (wpIn_wide.2 ?_))
    simp only [Tryd.ntmps18, List.size_toArray, List.length_cons, List.length_nil, Nat.reduceAdd, Nat.reduceSub, Array.replicate_succ, Array.replicate_zero, List.push_toArray, List.append_toArray, List.nil_append, List.cons_append]
    have hB0 := below_alloc (below_alloc (below_alloc (Below.refl w.heap.size w) (.cells #[.int .i64 a1] 3)) (.cells #[.slice none 0 0] 22)) (.cells #[.int .i64 0] 27)
    have HB0 := Aside0.mk hB0
    clear hB0
    go_wp2_with (first | go_step3 | (go_at_call 41; refine (huff_texts.is _ (HG.out.below HB0.out)).mono ?_; rintro e_ w1 ⟨mb, rfl, hm1, hmb, hb1⟩; have HM1 := Aside0.mk hm1; have HB1 := Aside0.mk hb1; have HMB := Aside0.mk hmb; clear hm1 hb1 hmb) | (go_at_call 42; refine (huff_bits.is A0 c0 l0 _).mono ?_; rintro e_ w2 ⟨Bq, rfl, hq2, hBq, hb2⟩; have HQ2 := Aside0.mk hq2; have HB2 := Aside0.mk hb2; have HBQ := Aside0.mk hBq; clear hq2 hb2 hBq))
    have hz0 : w.heap.size + 3 ≤ w1.heap.size := by have := HB1.out.size; simp only [World.size_alloc] at this; omega
    have hmb0 : w.heap.size + 3 ≤ mb := by have := HMB.out; simp only [World.size_alloc] at this; omega
    have hmb1 : mb < w1.heap.size := HM1.out.lt
    have hbq0 : w1.heap.size + 3 ≤ Bq := by have := HBQ.out; simp only [World.size_alloc] at this; omega
    have hbq1 : Bq < w2.heap.size := blk_lt HQ2.out
    have hB1w := below_step HB0.out HB1.out
    have hBa := below_alloc (below_alloc (below_alloc (Below.refl w1.heap.size w1) (.cells #[.map (some mb)] 62)) (.cells #[.slice none 0 0] 22)) (.cells #[.int .i64 0, .int .i64 0] 65)
    have hB12 := below_step hBa HB2.out
    have HBW := Aside0.mk (below_step hB1w hB12)
    have g3 : w2.heap[w.heap.size]? = some (.cells #[.int .i64 a1] 3 (0, 0)) := blk_below (blk_below (blk_below (blk_below (blk_new w _) (below_alloc (Below.refl _ _) _)) (below_alloc (Below.refl _ _) _)) HB1.out) hB12
    have g4 : w2.heap[w.heap.size + 1]? = some (.cells #[.slice none 0 0] 22 (0, 0)) := blk_below (blk_below (blk_below (by have := blk_new (w.alloc (.cells #[.int .i64 a1] 3)) (.cells #[.slice none 0 0] 22); rwa [World.size_alloc] at this) (below_alloc (Below.refl _ _) _)) HB1.out) hB12
    have g5 : w2.heap[w.heap.size + 1 + 1]? = some (.cells #[.int .i64 0] 27 (0, 0)) := blk_below (blk_below (by have := blk_new ((w.alloc (.cells #[.int .i64 a1] 3)).alloc (.cells #[.slice none 0 0] 22)) (.cells #[.int .i64 0] 27); rwa [World.size_alloc, World.size_alloc] at this) HB1.out) hB12
    have g6 : w2.heap[w1.heap.size]? = some (.cells #[.map (some mb)] 62 (0, 0)) := blk_below (blk_below (blk_below (blk_new w1 _) (below_alloc (Below.refl _ _) _)) (below_alloc (Below.refl _ _) _)) HB2.out
    have g7 : w2.heap[w1.heap.size + 1]? = some (.cells #[.slice none 0 0] 22 (0, 0)) := blk_below (blk_below (by have := blk_new (w1.alloc (.cells #[.map (some mb)] 62)) (.cells #[.slice none 0 0] 22); rwa [World.size_alloc] at this) (below_alloc (Below.refl _ _) _)) HB2.out
    have g8 : w2.heap[w1.heap.size + 1 + 1]? = some (.cells #[.int .i64 0, .int .i64 0] 65 (0, 0)) := blk_below (by have := blk_new ((w1.alloc (.cells #[.map (some mb)] 62)).alloc (.cells #[.slice none 0 0] 22)) (.cells #[.int .i64 0, .int .i64 0] 65); rwa [World.size_alloc, World.size_alloc] at this) HB2.out
    have hI0 : DecI w a1 (r1, r2) l0 A0 c0 Bq mb w.heap.size (w.heap.size + 1) (w.heap.size + 1 + 1) w1.heap.size (w1.heap.size + 1) (w1.heap.size + 1 + 1) 0 w2 :=
      ⟨HBW.out, g3, g4, g5, g6, HM1.out.kept (grown_of_below hB12 none) (by simp), HQ2.out, Nat.zero_le _, 0, 0, [], _, HE.out, open_start, Nat.le_refl _, g7, g8, Kd.R_nil _ _ _ _ _⟩
    have hsz := HBW.out.size
    have HZ : Aside0 (w.heap.size + 3 ≤ w1.heap.size ∧ w.heap.size + 3 ≤ mb ∧ mb < w1.heap.size ∧ w1.heap.size + 3 ≤ Bq ∧ Bq < w2.heap.size) := ⟨hz0, hmb0, hmb1, hbq0, hbq1⟩
    clear g3 g4 g5 g6 g7 g8 hB12 hBa hB1w HE hz0 hmb0 hmb1 hbq0
    refine (wpIn_wide (n := 3)).1 ?_
    refine rangeFunc_ok (s0 := (0 : Nat)) rfl (by omega) (gf := 56) (lb := #[.pointer (some ⟨Bq, 0, none⟩)]) rfl trivial (enters_of Tryd.func56 (by kernel_rfl) rfl)
      (bits1.stops A0 c0 l0 w w2 Bq HR.out HYB.out HBW.out HQ2.out)
      (fun x A' C l' o o' hl' ho hc hw hk => ⟨hk.1.grown (grownBy_putObj' C l' o') (Nat.le_trans hsz (Nat.le_trans hl' (Nat.le_of_lt (Array.getElem?_eq_some_iff.1 ho).1))) (fun k e => by cases e; exact Nat.le_trans hsz hl'), (World.putObj_heap_other (by omega)).trans hk.2⟩) (Below.refl _ _) (fun _ => rfl)
      (DecI w a1 (r1, r2) l0 A0 c0 Bq mb w.heap.size (w.heap.size + 1) (w.heap.size + 1 + 1) w1.heap.size (w1.heap.size + 1) (w1.heap.size + 1 + 1)) (fun cc _ W => DecX w (r1, r2) (w.heap.size + 1) (w.heap.size + 1 + 1) cc W) (DecI.own hsz (by have := HZ.out; omega)) (fun cc => DecX.own hsz cc) hI0
      (fun x a' W => a' = { tmps := #[Value.slice A0 l0.length c0, .int .i64 a1, undef, .pointer (some ⟨w.heap.size, 0, none⟩), .pointer (some ⟨w.heap.size + 1, 0, none⟩), .pointer (some ⟨w.heap.size + 1 + 1, 0, none⟩), .pointer (some ⟨w1.heap.size, 0, none⟩), .pointer (some ⟨w1.heap.size + 1, 0, none⟩), .pointer (some ⟨w1.heap.size + 1 + 1, 0, none⟩), .int .i64 x, undef, undef, .map (some mb), .agg #[.int .i64 0, .int .i64 0], .slice A0 l0.length c0, .func (.func 56) #[] #[.pointer (some ⟨Bq, 0, none⟩)], .int .i64 x, undef, undef, undef, undef, undef, undef, undef, undef, undef, undef, undef, undef, undef, undef, undef, undef, undef, undef, undef, undef, undef, undef, undef, undef, undef, undef, undef, undef, undef, undef, undef, undef, undef, undef, undef, undef, undef, undef, undef, undef, undef, undef], defers := [] }) (fun x a' _ A' C row hs hg hr => hs) ?assign ?body ?done ?stop
    case assign =>
      rintro L s x W K hle hI hok hK
      have e0 : ((#[16] : Array Tmp).zip (Bt.encs x)).foldl (fun t (p, v) => t.setIfInBounds p v) (#[Value.slice A0 l0.length c0, .int .i64 a1, undef, .pointer (some ⟨w.heap.size, 0, none⟩), .pointer (some ⟨w.heap.size + 1, 0, none⟩), .pointer (some ⟨w.heap.size + 1 + 1, 0, none⟩), .pointer (some ⟨w1.heap.size, 0, none⟩), .pointer (some ⟨w1.heap.size + 1, 0, none⟩), .pointer (some ⟨w1.heap.size + 1 + 1, 0, none⟩), undef, undef, undef, .map (some mb), .agg #[.int .i64 0, .int .i64 0], .slice A0 l0.length c0, .func (.func 56) #[] #[.pointer (some ⟨Bq, 0, none⟩)], undef, undef, undef, undef, undef, undef, undef, undef, undef, undef, undef, undef, undef, undef, undef, undef, undef, undef, undef, undef, undef, undef, undef, undef, undef, undef, undef, undef, undef, undef, undef, undef, undef, undef, undef, undef, undef, undef, undef, undef, undef, undef, undef] : Array Value) = #[Value.slice A0 l0.length c0, .int .i64 a1, undef, .pointer (some ⟨w.heap.size, 0, none⟩), .pointer (some ⟨w.heap.size + 1, 0, none⟩), .pointer (some ⟨w.heap.size + 1 + 1, 0, none⟩), .pointer (some ⟨w1.heap.size, 0, none⟩), .pointer (some ⟨w1.heap.size + 1, 0, none⟩), .pointer (some ⟨w1.heap.size + 1 + 1, 0, none⟩), undef, undef, undef, .map (some mb), .agg #[.int .i64 0, .int .i64 0], .slice A0 l0.length c0, .func (.func 56) #[] #[.pointer (some ⟨Bq, 0, none⟩)], .int .i64 x, undef, undef, undef, undef, undef, undef, undef, undef, undef, undef, undef, undef, undef, undef, undef, undef, undef, undef, undef, undef, undef, undef, undef, undef, undef, undef, undef, undef, undef, undef, undef, undef, undef, undef, undef, undef, undef, undef, undef, undef, undef, undef] := by simp [Bt.encs]
      rw [e0]
      clear e0
      gi_wp2
      exact hK _ _ (Below.refl _ _) hI rfl
    case body =>
      rintro L s x a' W0 W hle hst hbw hI hok rfl
      obtain ⟨hs, a, n, out, v, hd, ho, hol, h7, h8, hRv⟩ := hI.st
      obtain ⟨hs8, hx⟩ := hok
      have hbr := bitAt_range HYB.out s hs8
      rw [bitsL_drop l0 s hs8] at hd
      obtain ⟨b, hb⟩ : ∃ b : Nat, bitAt l0 s = (b : Int) := ⟨(bitAt l0 s).toNat, by omega⟩
      rw [hb] at hx hd hbr
      subst hx
      rw [Int.toNat_natCast] at hd
      have hb2 : b < 2 := by omega
      have ha29 : a < 2 ^ 29 := Nat.lt_of_lt_of_le ho.2.1 (Nat.pow_le_pow_right (by decide) ho.2.2)
      have E1 := shl_or ha29 hb2
      have hw : wrap64 ((a : Int) * 2) = (a : Int) * 2 := by unfold wrap64; omega
      have E1b := E1
      rw [hw] at E1b
      have q80 := (blk_cell h8 0).trans rfl
      have q81 := (blk_cell h8 1).trans rfl
      have f80 := blk_frozen h8 0
      have f81 := blk_frozen h8 1
      have q6 := (blk_cell hI.h6 0).trans rfl
      have q7 := (blk_cell h7 0).trans rfl
      have f7 := blk_frozen h7 0
      have q3 := (blk_cell hI.h3 0).trans rfl
      have q4 := (blk_cell hI.h4 0).trans rfl
      have f4 := blk_frozen hI.h4 0
      have q5 := (blk_cell hI.h5 0).trans rfl
      have f5 := blk_frozen hI.h5 0
      have hn29 := ho.2.2
      obtain ⟨a2, ha2⟩ : ∃ a2, 2 * a + b = a2 := ⟨_, rfl⟩
      obtain ⟨n2, hn2⟩ : ∃ n2, n + 1 = n2 := ⟨_, rfl⟩
      simp only [decL] at hd
      rw [ha2, hn2] at hd
      rw [ha2] at E1 E1b
      have HE1 := Aside0.mk (And.intro E1 E1b)
      clear E1 E1b
      have hn2i : (n : Int) + 1 = (n2 : Int) := by omega
      have hne82 : mb ≠ w1.heap.size + 1 + 1 := by have := HZ.out; omega
      have hne81 : mb ≠ w1.heap.size + 1 := by have := HZ.out; omega
      obtain ⟨W2, hW2⟩ : ∃ W2, (W.setCell ⟨w1.heap.size + 1 + 1, 0, none⟩ (.int .i64 (a2 : Int))).setCell ⟨w1.heap.size + 1 + 1, 1, none⟩ (.int .i64 (n2 : Int)) = W2 := ⟨_, rfl⟩
      have hm2 := (hI.hm.setCell (a := ⟨w1.heap.size + 1 + 1, 0, none⟩) hne82 (.int .i64 (a2 : Int))).setCell (a := ⟨w1.heap.size + 1 + 1, 1, none⟩) hne82 (.int .i64 (n2 : Int))
      rw [hW2] at hm2
      have HM2 := Aside0.mk hm2
      clear hm2
      have hab : a2 < 1073741824 := by have h29 : (2 : Nat) ^ 29 = 536870912 := by decide +kernel
                                       rw [h29] at ha29; omega
      have hwa : (Lit.int .i64 (a2 : Int)).wf = true := wf_small (by omega) (by omega)
      have hwn : (Lit.int .i64 (n2 : Int)).wf = true := wf_small (by omega) (by omega)
      have HKK := Aside0.mk (kl_key hwa hwn)
      obtain ⟨hfa, hfb⟩ := mapD_find a2 n2 hwa hwn 257 (Nat.le_refl _)
      have hk2 : Keeps W W2 (Dw (w1.heap.size + 1) (w1.heap.size + 1 + 1) (.slice none 0 0)) := by rw [← hW2]; exact ((Keeps.refl W _).set (.inl (.inr (.inl rfl))) 0 _).set (.inl (.inr (.inl rfl))) 1 _
      have hko2 : KeepsOthers W W2 := by rw [← hW2]; exact (KeepsOthers.setCell _ _ _).trans (KeepsOthers.setCell _ _ _)
      have hd7 : w.heap.size ≠ w1.heap.size + 1 ∧ w.heap.size + 1 ≠ w1.heap.size + 1 ∧ w.heap.size + 1 + 1 ≠ w1.heap.size + 1 ∧ w1.heap.size ≠ w1.heap.size + 1 ∧ Bq ≠ w1.heap.size + 1 := by have := HZ.out; omega
      have hd8 : w.heap.size ≠ w1.heap.size + 1 + 1 ∧ w.heap.size + 1 ≠ w1.heap.size + 1 + 1 ∧ w.heap.size + 1 + 1 ≠ w1.heap.size + 1 + 1 ∧ w1.heap.size ≠ w1.heap.size + 1 + 1 ∧ Bq ≠ w1.heap.size + 1 + 1 := by have := HZ.out; omega
      have R0 := Kd.R_nil (Kd.int .u8) 5 W w.heap.size (fun _ => True)
      have g3 := blk_keeps hI.h3 hk2 (Dw_ne R0 hI.h3 (by decide) hd7.1 hd8.1)
      have g4 := blk_keeps hI.h4 hk2 (Dw_ne R0 hI.h4 (by decide) hd7.2.1 hd8.2.1)
      have g5 := blk_keeps hI.h5 hk2 (Dw_ne R0 hI.h5 (by decide) hd7.2.2.1 hd8.2.2.1)
      have g6 := blk_keeps hI.h6 hk2 (Dw_ne R0 hI.h6 (by decide) hd7.2.2.2.1 hd8.2.2.2.1)
      have gq := blk_keeps hI.hq hk2 (Dw_ne R0 hI.hq (by decide) hd7.2.2.2.2 hd8.2.2.2.2)
      have g7 : W2.heap[w1.heap.size + 1]? = some (.cells #[v] 22 (0, 0)) := by rw [← hW2]; exact blk_far (blk_far h7 (p := ⟨w1.heap.size + 1 + 1, 0, none⟩) (by simp) _) (p := ⟨w1.heap.size + 1 + 1, 1, none⟩) (by simp) _
      have g8 : W2.heap[w1.heap.size + 1 + 1]? = some (.cells #[.int .i64 (a2 : Int), .int .i64 (n2 : Int)] 65 (0, 0)) := by rw [← hW2]; exact (blk_put (blk_put h8 0 (.int .i64 (a2 : Int)) rfl) 1 (.int .i64 (n2 : Int)) rfl).trans rfl
      have hbe2 : Below w.heap.size w W2 := hk2.under hI.be (fun k hF => by have h1 := HZ.out; rcases hF with rfl | rfl | hF <;> first | omega | cases hF)
      have hR2 : Kd.R (Kd.int .u8) 5 W2 w.heap.size (fun _ => True) v out := by rw [← hW2]; exact Kd.R_set (Kd.R_set hRv h8 (by decide) 0 _) (blk_put h8 0 (.int .i64 (a2 : Int)) rfl) (by decide) 1 _
      have hbq2 : W2.heap[Bq]? = W0.heap[Bq]? := (hk2.block Bq (blk_lt hI.hq) (Dw_ne R0 hI.hq (by decide) hd7.2.2.2.2 hd8.2.2.2.2)).trans (hbw.block Bq hbq1)
      have hbw2 : Below w.heap.size W0 W2 := (hbw.mono hsz).trans (hk2.to_below (by have := hI.be.size; omega) (fun k hF => by have h1 := HZ.out; rcases hF with rfl | rfl | hF <;> first | omega | cases hF))
      have hI2 : DecI w a1 (r1, r2) l0 A0 c0 Bq mb w.heap.size (w.heap.size + 1) (w.heap.size + 1 + 1) w1.heap.size (w1.heap.size + 1) (w1.heap.size + 1 + 1) s W := hI
      obtain ⟨Av, cv, hve, hcv, _⟩ := Kd.R_reads hR2
      subst hve
      have p3 := (blk_cell g3 0).trans rfl
      have p4 := (blk_cell g4 0).trans rfl
      have k4 := blk_frozen g4 0
      have p5 := (blk_cell g5 0).trans rfl
      have k5 := blk_frozen g5 0
      have p6 := (blk_cell g6 0).trans rfl
      have p7 := (blk_cell g7 0).trans rfl
      have p80 := (blk_cell g8 0).trans rfl
      have p81 := (blk_cell g8 1).trans rfl
      have HI := Aside0.mk hI
      have HRv := Aside0.mk hRv
      have HR2 := Aside0.mk hR2
      have HG2 := Aside0.mk (And.intro g4 (And.intro g5 (And.intro g7 (And.intro g8 gq))))
      have HO := Aside0.mk ho
      have HOL := Aside0.mk hol
      have HKP := Aside0.mk (And.intro hbw2 hbq2)
      have HBW2 := Aside0.mk (hbw.mono hsz)
      have HBQ2 := Aside0.mk (hbw.block Bq hbq1)
      have HBE2 := Aside0.mk hbe2
      have HKO := Aside0.mk hko2
      have HK2 := Aside0.mk hk2
      have HHS : Aside0 (s + 1 ≤ 8 * l0.length) := ⟨hs8⟩
      have HAB : Aside0 (2 * a + b = a2 ∧ n + 1 = n2 ∧ b < 2) := ⟨ha2, hn2, hb2⟩
      obtain ⟨mm, hmm⟩ : ∃ mm, mapD 257 = mm := ⟨_, rfl⟩
      have HMM := Aside0.mk hmm
      rw [hmm] at HM2 hfa hfb
      have HD7 := Aside0.mk hd7
      have HD8 := Aside0.mk hd8
      have hne45 : w.heap.size + 1 ≠ w1.heap.size + 1 + 1 := hd8.2.1
      clear hI hI2 hRv h7 h8 ho hol hbw hs8 ha2 hn2 hb2 hwa hwn hw ha29 hb hst hd7 hd8 hbr hs g3 g4 g5 g6 gq g7 g8 hbe2 hR2 hbq2 hbw2 hk2 hko2 R0 hmm hcv
      cases hfc : findC 257 a2 n2 with
      | none =>
        rw [hfc] at hd hfa hfb
        have HD := Aside0.mk hd
        have HFC := Aside0.mk hfc
        have HAS : Aside0 (Maps.has mm (kl (a2 : Int) (n2 : Int)) = false) := ⟨hfa⟩
        have HAT : Aside0 (mm.atKey (kl (a2 : Int) (n2 : Int)) (.lit (.int .i64 0)) = .lit (.int .i64 0)) := ⟨hfb⟩
        clear hd hfc hfa hfb
        obtain ⟨E1, E1b⟩ := HE1.out
        gi_wp2_with (gi_at_lookup; refine wpListIn_lookup_own_ok_int _ rfl _ _ 62 rfl 65 3 .i64 law65 Tryd.underlying62 Tryd.underlying3 (zero3 _) mb 257 mm rfl HM2.out _ _ rfl HKK.out ?_; intro cv hat hwc; rw [HAS.out]; rw [HAT.out] at hat; obtain rfl : cv = 0 := (by injection hat with h1; injection h1 with _ h2; exact h2.symm); clear hat hwc)
        have hopn : open_ a2 n2 := by obtain ⟨h1, h2, h3⟩ := HAB.out; rw [← h1, ← h2]; exact open_next HO.out h3 (by rw [h1, h2]; exact HFC.out)
        refine ⟨HKO.out, HKP.out, ?_⟩
        exact HI.out.next HHS.out HD.out hopn (by have := HOL.out; omega) ⟨_, HRv.out⟩ (HK2.out.mono (fun k hF => by rcases hF with h1 | h1 | h1 <;> first | exact .inl h1 | exact .inr (.inl h1) | cases h1)) HD7.out HD8.out (by have := HZ.out; omega) (by have := HZ.out; omega) (by rw [HMM.out]; exact HM2.out) HG2.out.2.2.1 HG2.out.2.2.2.1 HR2.out
      | some c =>
        obtain ⟨hc257, hc1, hc2⟩ := findC_sound 257 a2 n2 c hfc
        rw [hfc] at hd hfa hfb
        have HAS : Aside0 (Maps.has mm (kl (a2 : Int) (n2 : Int)) = true) := ⟨hfa⟩
        have HAT : Aside0 (mm.atKey (kl (a2 : Int) (n2 : Int)) (.lit (.int .i64 0)) = .lit (.int .i64 (c : Int))) := ⟨hfb⟩
        simp only [] at hd
        clear hfc hfa hfb hc1 hc2
        by_cases c6 : c = 256
        · rw [if_pos c6] at hd
          subst c6
          have HD := Aside0.mk hd
          clear hd
          obtain ⟨E1, E1b⟩ := HE1.out
          gi_wp2_with (gi_at_lookup; refine wpListIn_lookup_own_ok_int _ rfl _ _ 62 rfl 65 3 .i64 law65 Tryd.underlying62 Tryd.underlying3 (zero3 _) mb 257 mm rfl HM2.out _ _ rfl HKK.out ?_; intro cv hat hwc; rw [HAS.out]; rw [HAT.out] at hat; obtain rfl : cv = 256 := (by injection hat with h1; injection h1 with _ h2; exact h2.symm); clear hat hwc)
          refine ⟨HKO.out.trans ((KeepsOthers.setCell _ _ _).trans (KeepsOthers.setCell _ _ _)), ?_⟩
          refine ⟨rfl, (HBE2.out.setCell (p := ⟨w.heap.size + 1, 0, none⟩) (by simp only []; omega) _).setCell (p := ⟨w.heap.size + 1 + 1, 0, none⟩) (by simp only []; omega) _, (congrArg Prod.fst HD.out).symm, blk_far ((blk_put HG2.out.1 0 _ rfl).trans rfl) (p := ⟨w.heap.size + 1 + 1, 0, none⟩) (by simp) _, ?_⟩
          rw [← congrArg Prod.snd HD.out]
          exact (blk_put (blk_far HG2.out.2.1 (p := ⟨w.heap.size + 1, 0, none⟩) (by simp) _) 0 _ rfl).trans rfl
        · rw [if_neg c6] at hd
          have c6b : ((c : Int) == 256) = false := beq_eq_false_iff_ne.mpr (by omega)
          by_cases cm : a1 ≤ (out.length : Int)
          · rw [if_pos cm] at hd
            have HD := Aside0.mk hd
            have cmb : decide (a1 ≤ (out.length : Int)) = true := decide_eq_true cm
            clear hd cm
            obtain ⟨E1, E1b⟩ := HE1.out
            gi_wp2_with (gi_at_lookup; refine wpListIn_lookup_own_ok_int _ rfl _ _ 62 rfl 65 3 .i64 law65 Tryd.underlying62 Tryd.underlying3 (zero3 _) mb 257 mm rfl HM2.out _ _ rfl HKK.out ?_; intro cv hat hwc; rw [HAS.out]; rw [HAT.out] at hat; obtain rfl : cv = (c : Int) := (by injection hat with h1; injection h1 with _ h2; exact h2.symm); clear hat hwc)
            refine ⟨HKO.out.trans ((KeepsOthers.setCell _ _ _).trans (KeepsOthers.setCell _ _ _)), ?_⟩
            refine ⟨rfl, (HBE2.out.setCell (p := ⟨w.heap.size + 1, 0, none⟩) (by simp only []; omega) _).setCell (p := ⟨w.heap.size + 1 + 1, 0, none⟩) (by simp only []; omega) _, (congrArg Prod.fst HD.out).symm, blk_far ((blk_put HG2.out.1 0 _ rfl).trans rfl) (p := ⟨w.heap.size + 1 + 1, 0, none⟩) (by simp) _, ?_⟩
            rw [← congrArg Prod.snd HD.out]
            exact (blk_put (blk_far HG2.out.2.1 (p := ⟨w.heap.size + 1, 0, none⟩) (by simp) _) 0 _ rfl).trans rfl
          · rw [if_neg cm] at hd
            have HD := Aside0.mk hd
            have cmb : decide (a1 ≤ (out.length : Int)) = false := decide_eq_false cm
            have hc256 : c < 256 := by omega
            have hcm : (c : Int) % 256 = (c : Int) := by omega
            clear hd cm
            obtain ⟨E1, E1b⟩ := HE1.out
            have HLO : Aside0 (out.length ≤ 8000000) := ⟨by have h1 := HOL.out; have h2 := HHS.out; have h3 := HL.out; omega⟩
            obtain ⟨on, hon⟩ : ∃ on, out ++ [(c : Int)] = on := ⟨_, rfl⟩
            have HON := Aside0.mk hon
            rw [hon] at HD
            have HBS := Aside0.mk (show w.heap.size ≤ W2.heap.size from HBE2.out.size)
            clear hon
            gi_wp2_with (first | (gi_at_lookup; refine wpListIn_lookup_own_ok_int _ rfl _ _ 62 rfl 65 3 .i64 law65 Tryd.underlying62 Tryd.underlying3 (zero3 _) mb 257 mm rfl HM2.out _ _ rfl HKK.out ?_; intro cv hat hwc; rw [HAS.out]; rw [HAT.out] at hat; obtain rfl : cv = (c : Int) := (by injection hat with h1; injection h1 with _ h2; exact h2.symm); clear hat hwc) | (gi_at_builtin; refine wpListIn_append_own _ rfl _ _ 22 rfl w.heap.size 5 i0_ (.int .u8 0) 1 1 Tryd.underlying22 HI0.out.1 HI0.out.2.1 HI0.out.2.2.1 HI0.out.2.2.2 rfl (by decide) _ _ _ rfl ((Kd.own_of_R HR2.out).alloc _) ⟨W2.heap.size, 0, none⟩ 1 1 [.int .u8 (c : Int)] rfl rfl (cell_one_new _ _ _) (by simp [Value.oneCell']) (by have := HLO.out; unfold maxLen; omega) (by have := HLO.out; omega) (by have := HBS.out; rw [World.size_alloc]; omega) ?_; intro v' w4 hown' hgr _; have HR4 : Aside0 (Kd.R (Kd.int .u8) 5 w4 w.heap.size (fun _ => True) v' on) := ⟨by rw [← HON.out]; refine Kd.R_of_own ?_ (fun _ _ => trivial); rw [show encs (Value.int .u8) (out ++ [(c : Int)]) = encs (Value.int .u8) out ++ [.int .u8 (c : Int)] by simp [encs], List.length_append]; exact hown'⟩; obtain ⟨g', cap', rfl⟩ := ownsRow_succ hown'; have HK4 : Aside0 (Keeps W w4 (Dw (w1.heap.size + 1) (w1.heap.size + 1 + 1) (.slice Av out.length cv))) := ⟨((HK2.out.mono (fun k hF => by rcases hF with h1 | h1 | h1 <;> first | exact .inl h1 | exact .inr (.inl h1) | cases h1)).alloc _).grown hgr (fun k e => .inl (.inr (.inr e)))⟩; have HKO4 := Aside0.mk ((HKO.out.trans (KeepsOthers.alloc _ _)).trans (cells_own (Kd.R_alloc HR2.out _) hgr)); have hb74 := blk_grown (blk_below HG2.out.2.2.1 (below_alloc (Below.refl _ _) (.cells #[.int .u8 (c : Int)] 5))) hgr (Kd.R_ne HR2.out HG2.out.2.2.1 (by decide)); have hb84 := blk_grown (blk_below HG2.out.2.2.2.1 (below_alloc (Below.refl _ _) (.cells #[.int .u8 (c : Int)] 5))) hgr (Kd.R_ne HR2.out HG2.out.2.2.2.1 (by decide)); have HM4 := Aside0.mk ((HM2.out.alloc (.cells #[.int .u8 (c : Int)] 5)).kept hgr (fun e => by obtain ⟨es, ck, hes, _⟩ := HM2.out; obtain ⟨cells_, hc_⟩ := own_typed (Kd.own_of_R HR2.out) mb e.symm; rw [hes] at hc_; cases hc_)); have r7 := (blk_cell hb74 0).trans rfl; have s7 := blk_frozen hb74 0; have r80 := (blk_cell hb84 0).trans rfl; have s80 := blk_frozen hb84 0; have r81 := (blk_cell hb84 1).trans rfl; have s81 := blk_frozen hb84 1; have HB4 := Aside0.mk (And.intro hb74 hb84); clear hown' hgr hb74 hb84 p3 p4 k4 p5 k5 p6 p7 p80 p81 q80 q81 f80 f81 q6 q7 f7 q3 q4 f4 q5 f5))
            have hk5 := ((HK4.out.set (g := w1.heap.size + 1) (.inl (.inl rfl)) 0 (.slice (some ⟨g', 0, none⟩) (out.length + 1) cap')).set (g := w1.heap.size + 1 + 1) (.inl (.inr (.inl rfl))) 0 (.int .i64 0)).set (g := w1.heap.size + 1 + 1) (.inl (.inr (.inl rfl))) 1 (.int .i64 0)
            have hbne : w1.heap.size + 1 ≠ w1.heap.size + 1 + 1 := by omega
            have h7z := blk_far (blk_far ((blk_put HB4.out.1 0 (.slice (some ⟨g', 0, none⟩) (out.length + 1) cap') rfl).trans rfl) (p := ⟨w1.heap.size + 1 + 1, 0, none⟩) hbne (.int .i64 0)) (p := ⟨w1.heap.size + 1 + 1, 1, none⟩) hbne (.int .i64 0)
            have h8a := blk_far HB4.out.2 (p := ⟨w1.heap.size + 1, 0, none⟩) (fun e => hbne e.symm) (.slice (some ⟨g', 0, none⟩) (out.length + 1) cap')
            have h8z := (blk_put (blk_put h8a 0 (.int .i64 0) rfl) 1 (.int .i64 0) rfl).trans rfl
            have hR5 := Kd.R_set (Kd.R_set (Kd.R_set HR4.out HB4.out.1 (by decide) 0 (.slice (some ⟨g', 0, none⟩) (out.length + 1) cap')) h8a (by decide) 0 (.int .i64 0)) (blk_put h8a 0 (.int .i64 0) rfl) (by decide) 1 (.int .i64 0)
            have hm5 := ((HM4.out.setCell (a := ⟨w1.heap.size + 1, 0, none⟩) hne81 (.slice (some ⟨g', 0, none⟩) (out.length + 1) cap')).setCell (a := ⟨w1.heap.size + 1 + 1, 0, none⟩) hne82 (.int .i64 0)).setCell (a := ⟨w1.heap.size + 1 + 1, 1, none⟩) hne82 (.int .i64 0)
            rw [← HMM.out] at hm5
            refine ⟨HKO4.out.trans (((KeepsOthers.setCell _ _ _).trans (KeepsOthers.setCell _ _ _)).trans (KeepsOthers.setCell _ _ _)), ⟨HBW2.out.trans (hk5.to_below (by have := HI.out.be.size; omega) (fun k hF => by have h1 := HZ.out; rcases hF with rfl | rfl | hF <;> first | omega | exact Kd.R_base HRv.out k hF)), (hk5.block Bq (blk_lt HI.out.hq) (Dw_ne HRv.out HI.out.hq (by decide) HD7.out.2.2.2.2 HD8.out.2.2.2.2)).trans HBQ2.out⟩, ?_⟩
            exact HI.out.next HHS.out HD.out open_start (by rw [← HON.out, List.length_append]; have := HOL.out; simp only [List.length_cons, List.length_nil]; omega) ⟨_, HRv.out⟩ hk5 HD7.out HD8.out (by have := HZ.out; omega) (by have := HZ.out; omega) hm5 h7z h8z hR5
    case done =>
      rintro D s W hD hS hI hK
      obtain ⟨hs, a, n, out, v, hd, ho, hol, h7, h8, hRv⟩ := hI.st
      obtain ⟨Av, cv, hve, _⟩ := Kd.R_reads hRv
      subst hve
      subst hS
      rw [List.drop_of_length_le (by rw [bitsL_len]; omega)] at hd
      simp only [decL] at hd
      have hDb := Nat.le_trans hsz hD
      have q80 := (blk_cell h8 0).trans rfl
      have q81 := (blk_cell h8 1).trans rfl
      have q7 := (blk_cell h7 0).trans rfl
      have q4 := (blk_cell hI.h4 0).trans rfl
      have f4 := blk_frozen hI.h4 0
      have q5 := (blk_cell hI.h5 0).trans rfl
      have f5 := blk_frozen hI.h5 0
      have HI := Aside0.mk hI
      have HRv := Aside0.mk hRv
      have HO := Aside0.mk ho
      have HK := Aside0.mk hK
      have HDb := Aside0.mk hDb
      have hn29 : n ≤ 29 := ho.2.2
      have hne45 : w.heap.size + 1 ≠ w1.heap.size + 1 + 1 := by have := HZ.out; omega
      clear hI hRv ho hK hs hol h7 h8 hDb
      by_cases c8 : 8 ≤ n
      · rw [if_pos c8] at hd
        have HD := Aside0.mk hd
        have c8b : decide ((8 : Int) ≤ (n : Int)) = true := decide_eq_true (by omega)
        clear hd
        go_wp2
        go_quiet (fail)
        go_wp2
        have hq4 := blk_far (blk_put (HI.out.h4 : (W.drewN nq).heap[w.heap.size + 1]? = _) 0 (.slice none 0 0) rfl) (p := ⟨w.heap.size + 1 + 1, 0, none⟩) (by simp) (.int .i64 3)
        have hq5 := (blk_put (blk_far (HI.out.h5 : (W.drewN nq).heap[w.heap.size + 1 + 1]? = _) (p := ⟨w.heap.size + 1, 0, none⟩) (by simp) (.slice none 0 0)) 0 (.int .i64 3) rfl).trans rfl
        have hKz := ((KeepsOthers.setCell (W.drewN nq) ⟨w.heap.size + 1, 0, none⟩ (.slice none 0 0)).trans (KeepsOthers.setCell _ ⟨w.heap.size + 1 + 1, 0, none⟩ (.int .i64 3))).same D _ HK.out rfl
        have c4 := cell_put (o' := .deferred none) hq4 hKz rfl
        have c5 := cell_put (o' := .deferred none) hq5 hKz rfl
        have hbz := (((pw_below_drewN HI.out.be nq).setCell (p := ⟨w.heap.size + 1, 0, none⟩) (by simp only []; omega) (.slice none 0 0)).setCell (p := ⟨w.heap.size + 1 + 1, 0, none⟩) (by simp only []; omega) (.int .i64 3))
        have hbz2 := hbz.grown (grownBy_putObj' _ D (.deferred none)) hbz.size (fun k_ e => by cases e; exact HDb.out)
        refine ⟨by simp, .inl ⟨_, _, rfl, run_takeDeferred hKz, ?_⟩⟩
        exact ⟨.tuple #[(.slice none 0 0), .int .i64 3], dec_results rfl rfl c4 c5, (.slice none 0 0), by rw [← (Prod.mk.inj HD.out).2], (by rw [← (Prod.mk.inj HD.out).1]; exact Kd.R_nil _ _ _ _ _), hbz2⟩
      · rw [if_neg c8] at hd
        have c8b : decide ((8 : Int) ≤ (n : Int)) = false := decide_eq_false (by omega)
        obtain ⟨m, hm⟩ : ∃ m, 2 ^ n - 1 = m := ⟨_, rfl⟩
        rw [hm] at hd
        have hw1 := ones_step hn29 hm
        have hw2 : IntKind.i64.wrap (IntKind.i64.wrap (2 ^ n) - 1) = (m : Int) := by rw [i64_w, i64_w]; exact hw1
        by_cases ca : a = m
        · rw [if_pos ca] at hd
          have HD := Aside0.mk hd
          have cab : ((a : Int) != (m : Int)) = false := by rw [ca]; simp
          clear hd hm ca
          go_wp2
          go_quiet (fail)
          go_wp2
          have hq4 := blk_far (blk_put (HI.out.h4 : (W.drewN nq).heap[w.heap.size + 1]? = _) 0 (.slice Av out.length cv) rfl) (p := ⟨w.heap.size + 1 + 1, 0, none⟩) (by simp) (.int .i64 0)
          have hq5 := (blk_put (blk_far (HI.out.h5 : (W.drewN nq).heap[w.heap.size + 1 + 1]? = _) (p := ⟨w.heap.size + 1, 0, none⟩) (by simp) (.slice Av out.length cv)) 0 (.int .i64 0) rfl).trans rfl
          have hKz := ((KeepsOthers.setCell (W.drewN nq) ⟨w.heap.size + 1, 0, none⟩ (.slice Av out.length cv)).trans (KeepsOthers.setCell _ ⟨w.heap.size + 1 + 1, 0, none⟩ (.int .i64 0))).same D _ HK.out rfl
          have c4 := cell_put (o' := .deferred none) hq4 hKz rfl
          have c5 := cell_put (o' := .deferred none) hq5 hKz rfl
          have hbz := (((pw_below_drewN HI.out.be nq).setCell (p := ⟨w.heap.size + 1, 0, none⟩) (by simp only []; omega) (.slice Av out.length cv)).setCell (p := ⟨w.heap.size + 1 + 1, 0, none⟩) (by simp only []; omega) (.int .i64 0))
          have hbz2 := hbz.grown (grownBy_putObj' _ D (.deferred none)) hbz.size (fun k_ e => by cases e; exact HDb.out)
          refine ⟨by simp, .inl ⟨_, _, rfl, run_takeDeferred hKz, ?_⟩⟩
          exact ⟨.tuple #[(.slice Av out.length cv), .int .i64 0], dec_results rfl rfl c4 c5, (.slice Av out.length cv), by rw [← (Prod.mk.inj HD.out).2], (by rw [← (Prod.mk.inj HD.out).1]; exact R_put (Kd.R_set (Kd.R_set (Kd.R_drewN HRv.out nq) (HI.out.h4 : (W.drewN nq).heap[w.heap.size + 1]? = _) (by decide) 0 _) (blk_far (HI.out.h5 : (W.drewN nq).heap[w.heap.size + 1 + 1]? = _) (p := ⟨w.heap.size + 1, 0, none⟩) (by simp) _) (by decide) 0 _) hKz rfl), hbz2⟩
        · rw [if_neg ca] at hd
          have HD := Aside0.mk hd
          have cab : ((a : Int) != (m : Int)) = true := bne_iff_ne.mpr (fun e => ca (Int.ofNat_inj.mp e))
          clear hd hm ca
          go_wp2
          go_quiet (fail)
          go_wp2
          have hq4 := blk_far (blk_put (HI.out.h4 : (W.drewN nq).heap[w.heap.size + 1]? = _) 0 (.slice none 0 0) rfl) (p := ⟨w.heap.size + 1 + 1, 0, none⟩) (by simp) (.int .i64 3)
          have hq5 := (blk_put (blk_far (HI.out.h5 : (W.drewN nq).heap[w.heap.size + 1 + 1]? = _) (p := ⟨w.heap.size + 1, 0, none⟩) (by simp) (.slice none 0 0)) 0 (.int .i64 3) rfl).trans rfl
          have hKz := ((KeepsOthers.setCell (W.drewN nq) ⟨w.heap.size + 1, 0, none⟩ (.slice none 0 0)).trans (KeepsOthers.setCell _ ⟨w.heap.size + 1 + 1, 0, none⟩ (.int .i64 3))).same D _ HK.out rfl
          have c4 := cell_put (o' := .deferred none) hq4 hKz rfl
          have c5 := cell_put (o' := .deferred none) hq5 hKz rfl
          have hbz := (((pw_below_drewN HI.out.be nq).setCell (p := ⟨w.heap.size + 1, 0, none⟩) (by simp only []; omega) (.slice none 0 0)).setCell (p := ⟨w.heap.size + 1 + 1, 0, none⟩) (by simp only []; omega) (.int .i64 3))
          have hbz2 := hbz.grown (grownBy_putObj' _ D (.deferred none)) hbz.size (fun k_ e => by cases e; exact HDb.out)
          refine ⟨by simp, .inl ⟨_, _, rfl, run_takeDeferred hKz, ?_⟩⟩
          exact ⟨.tuple #[(.slice none 0 0), .int .i64 3], dec_results rfl rfl c4 c5, (.slice none 0 0), by rw [← (Prod.mk.inj HD.out).2], (by rw [← (Prod.mk.inj HD.out).1]; exact Kd.R_nil _ _ _ _ _), hbz2⟩
    case stop =>
      rintro D cc s W hD hX hK
      obtain ⟨rfl, hbe, hr1, h4, h5⟩ := hX
      have q4 := (blk_cell h4 0).trans rfl
      have q5 := (blk_cell h5 0).trans rfl
      have c4 := cell_put (o' := .deferred none) h4 hK rfl
      have c5 := cell_put (o' := .deferred none) h5 hK rfl
      have hbz2 := hbe.grown (grownBy_putObj' W D (.deferred none)) hbe.size (fun k_ e => by cases e; exact Nat.le_trans hsz hD)
      gi_wp2
      refine ⟨by simp, .inl ⟨_, _, rfl, run_takeDeferred hK, ?_⟩⟩
      exact ⟨.tuple #[.slice none 0 0, .int .i64 r2], dec_results rfl rfl c4 c5, .slice none 0 0, rfl, (by have h1 : r1 = [] := hr1; subst h1; exact Kd.R_nil _ _ _ _ _), hbz2⟩
  · rw [if_neg hb] at h; cases h
end
end Go.Proofs.YtlbjhbanfpnogaaDoor.QH
