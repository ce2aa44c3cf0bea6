/-
  The live question of the meter's laws.
  Condition: none.
-/
import Derived.Test.YtjkadheknjkkbaaMeterA
import Derived.WalkKit
import Derived.Lib.SliceRun
import Derived.DeepKeys
namespace Go.Proofs.Ytjkadheknjkkbaa.QR
open Go Go.RowKit Go.Proofs.YtjkadheknjkkbaaW.PrintWords Go.Proofs.YtjkadheknjkkbaaW.PrintLast Go.Proofs.YtjkadheknjkkbaaW.PrintMore
attribute [local go_sem] max2_int min2_int max_two min_two max_three min_three max_four min_four
set_option linter.unusedVariables false
set_option linter.unusedSimpArgs false
open Go.Proofs.Ytjkadheknjkkbaa.Ob
theorem NewM.get {l : Six} {w w' : World} {e : Ending} (h : restB 0 l = true) (hn : NewM l w e w') : ∃ g, e = .returned (.tuple #[.pointer (some ⟨g, 0, none⟩), .int .i64 0]) ∧ IsM 113 w' g l (0, 0, 0, 0, 0, 0) ∧ w.heap.size ≤ g := by
  unfold NewM at hn
  rwa [if_pos h] at hn
theorem NewM.none_ {l : Six} {w w' : World} {e : Ending} (h : restB 0 l = false) (hn : NewM l w e w') : e = .returned (.tuple #[.pointer none, .int .i64 1]) := by
  unfold NewM at hn
  rwa [if_neg (by rw [h]; decide)] at hn
theorem count_is (l c c' : Six) (k : Int) (b : Bool) (g : Nat) (w : World) (hI : IsM 113 w g l c) (hm : Mays l c) (h0 : 0 ≤ k) (h1 : k < 6) (hb : decide (l.at_ k < more (l.at_ k) (c.at_ k)) = b) (hc : c.put k (more (l.at_ k) (c.at_ k)) = c') :
    Calls Try.prog 29 #[.pointer (some ⟨g, 0, none⟩), .int .i64 k] w fun e w' => e = .returned (.tuple #[.bool b, .int .i64 0]) ∧ IsM 113 w' g l c' ∧ Keeps w w' (One g) := by
  subst hb
  subst hc
  exact meter_Count.calls l c k g w hI hm h0 h1
theorem clear_is (l c c' : Six) (k : Int) (g : Nat) (w : World) (hI : IsM 113 w g l c) (h0 : 0 ≤ k) (h1 : k < 6) (hc : c.put k 0 = c') :
    Calls Try.prog 25 #[.pointer (some ⟨g, 0, none⟩), .int .i64 k] w fun e w' => e = .returned (.int .i64 0) ∧ IsM 113 w' g l c' ∧ Keeps w w' (One g) := by
  subst hc
  exact meter_Clear.calls l c k g w hI h0 h1
theorem one_ge {g B : Nat} (h : B ≤ g) : ∀ k, One g k → B ≤ k := fun k hk => by cases hk; exact h
theorem r18_alive_new (w : World) : Calls Try.prog 22 #[.agg #[.int .i64 1, .int .i64 0, .int .i64 0, .int .i64 0, .int .i64 0, .int .i64 1]] w fun e w' => ∃ g, e = .returned (.tuple #[.pointer (some ⟨g, 0, none⟩), .int .i64 0]) ∧ IsM 113 w' g (1, 0, 0, 0, 0, 1) (0, 0, 0, 0, 0, 0) ∧ w.heap.size ≤ g ∧ Below w.heap.size w w' := by
  refine (meter_New.calls (1, 0, 0, 0, 0, 1) w).mono ?_
  rintro e w' ⟨hb, hn⟩
  obtain ⟨g, he, hM, hg⟩ := hn.get (by decide)
  exact ⟨g, he, hM, hg, hb⟩
theorem r18_alive_none (w : World) : Calls Try.prog 22 #[.agg #[.int .i64 (-1), .int .i64 0, .int .i64 0, .int .i64 0, .int .i64 0, .int .i64 0]] w fun e w' => e = .returned (.tuple #[.pointer none, .int .i64 1]) ∧ Below w.heap.size w w' := by
  refine (meter_New.calls (-1, 0, 0, 0, 0, 0) w).mono ?_
  rintro e w' ⟨hb, hn⟩
  exact ⟨hn.none_ (by decide), hb⟩
theorem eq3 (a b : Int) (W : World) : (Op.equalIn 9999 3 (.int .i64 a) (.int .i64 b)).run Try.prog W = .ok (decide (a = b)) W := by kernel_rfl
theorem eq30_arr (xs ys : Array Value) (W : World) : (Op.equalIn 10000 30 (.agg xs) (.agg ys)).run Try.prog W = (Op.eqItems 9999 3 1 xs ys [0, 1, 2, 3, 4, 5]).run Try.prog W := by
  have hi : Try.prog.info? 3 = some ((Try.prog.info? 3).get (by kernel_rfl)) := by kernel_rfl
  have h := run_equalIn_array (P := Try.prog) W 9999 (t := 30) (e := 3) (n := 6) xs ys (by kernel_rfl) hi
  have hc : Try.prog.cellsOf 3 = 1 := by kernel_rfl
  rw [hc] at h
  exact h
theorem part30 (c : Six) (W : World) : (part 3 c.vals.toArray 0).run Try.prog W = .ok (.int .i64 c.1) W ∧ (part 3 c.vals.toArray 1).run Try.prog W = .ok (.int .i64 c.2.1) W ∧ (part 3 c.vals.toArray 2).run Try.prog W = .ok (.int .i64 c.2.2.1) W
    ∧ (part 3 c.vals.toArray 3).run Try.prog W = .ok (.int .i64 c.2.2.2.1) W ∧ (part 3 c.vals.toArray 4).run Try.prog W = .ok (.int .i64 c.2.2.2.2.1) W ∧ (part 3 c.vals.toArray 5).run Try.prog W = .ok (.int .i64 c.2.2.2.2.2) W := by
  refine ⟨?_, ?_, ?_, ?_, ?_, ?_⟩ <;> kernel_rfl
theorem eq30 (c : Six) (W : World) : (Op.equalIn 10000 30 (.agg c.vals.toArray) (.agg c.vals.toArray)).run Try.prog W = .ok true W := by
  obtain ⟨h0, h1, h2, h3, h4, h5⟩ := part30 c W
  rw [eq30_arr]
  simp [Op.eqItems, Sem.run_bind, h0, h1, h2, h3, h4, h5, eq3]
theorem eq30_alive (W : World) : (Op.equalIn 10000 30 (.agg (Six.vals (1, 0, 0, 0, 0, 0)).toArray) (.agg #[.int .i64 1, .int .i64 0, .int .i64 0, .int .i64 0, .int .i64 0, .int .i64 0])).run Try.prog W = .ok true W := eq30 (1, 0, 0, 0, 0, 0) W
attribute [local go_sem] eq30_alive eq30
set_option maxHeartbeats 8000000 in
set_option maxRecDepth 100000 in
theorem gantletlaw18_alive.calls (w : World) : Calls Try.prog 21 #[] w fun e w' => e = .returned (.bool true) ∧ Below w.heap.size w w' := by
  go_enter Try.func21, Try.ntmps21
  go_wp2_with (first | (go_at_call 29; refine (count_is (1, 0, 0, 0, 0, 1) (0, 0, 0, 0, 0, 0) (1, 0, 0, 0, 0, 0) 0 false g _ hM0 (by simp [Mays, may]) (by decide) (by decide) (by decide) (by decide)).mono ?_; rintro e_ w2 ⟨rfl, hM1, hk⟩; clear hM0; have HB1 := Aside0.mk (hk.under HB0.out (one_ge hg)); clear hk HB0) | (go_at_call 29; refine (count_is (1, 0, 0, 0, 0, 1) (1, 0, 0, 0, 0, 0) (2, 0, 0, 0, 0, 0) 0 true g _ hM1 (by simp [Mays, may]) (by decide) (by decide) (by decide) (by decide)).mono ?_; rintro e_ w3 ⟨rfl, hM2, hk⟩; clear hM1; have HB2 := Aside0.mk (hk.under HB1.out (one_ge hg)); clear hk HB1) | (go_at_call 29; refine (count_is (1, 0, 0, 0, 0, 1) (2, 0, 0, 0, 0, 0) (2, 0, 0, 0, 0, 0) 0 true g _ hM2 (by simp [Mays, may]) (by decide) (by decide) (by decide) (by decide)).mono ?_; rintro e_ w4 ⟨rfl, hM3, hk⟩; clear hM2; have HB3 := Aside0.mk (hk.under HB2.out (one_ge hg)); clear hk HB2) | (go_at_call 29; refine (count_is (1, 0, 0, 0, 0, 1) (2, 0, 0, 0, 0, 0) (2, 0, 0, 0, 0, 1) 5 false g _ hM3 (by simp [Mays, may]) (by decide) (by decide) (by decide) (by decide)).mono ?_; rintro e_ w5 ⟨rfl, hM4, hk⟩; clear hM3; have HB4 := Aside0.mk (hk.under HB3.out (one_ge hg)); clear hk HB3) | (go_at_call 27; refine (meter_Tick.calls (1, 0, 0, 0, 0, 1) (2, 0, 0, 0, 0, 1) g _ hM4).mono ?_; rintro e_ w6 ⟨⟨v_, rfl⟩, hM5, hk⟩; clear hM4; have HB5 := Aside0.mk (hk.under HB4.out (one_ge hg)); clear hk HB4) | (go_at_call 29; refine (count_is (1, 0, 0, 0, 0, 1) (0, 0, 0, 0, 0, 1) (1, 0, 0, 0, 0, 1) 0 false g _ hM5 (by simp [Mays, may]) (by decide) (by decide) (by decide) (by decide)).mono ?_; rintro e_ w7 ⟨rfl, hM6, hk⟩; clear hM5; have HB6 := Aside0.mk (hk.under HB5.out (one_ge hg)); clear hk HB5) | (go_at_call 29; refine (count_is (1, 0, 0, 0, 0, 1) (1, 0, 0, 0, 0, 1) (1, 0, 0, 0, 0, 2) 5 true g _ hM6 (by simp [Mays, may]) (by decide) (by decide) (by decide) (by decide)).mono ?_; rintro e_ w8 ⟨rfl, hM7, hk⟩; clear hM6; have HB7 := Aside0.mk (hk.under HB6.out (one_ge hg)); clear hk HB6) | (go_at_call 25; refine (clear_is (1, 0, 0, 0, 0, 1) (1, 0, 0, 0, 0, 2) (1, 0, 0, 0, 0, 0) 5 g _ hM7 (by decide) (by decide) (by decide)).mono ?_; rintro e_ w9 ⟨rfl, hM8, hk⟩; clear hM7; have HB8 := Aside0.mk (hk.under HB7.out (one_ge hg)); clear hk HB7) | (go_at_call 29; refine (meter_Count.bad (some ⟨g, 0, none⟩) 6 _ rfl).mono ?_; rintro e_ w10 ⟨rfl, nd, hw⟩; have hM9 : IsM 113 w10 g (1, 0, 0, 0, 0, 1) (1, 0, 0, 0, 0, 0) := blk_below hM8 (by subst hw; exact pw_below_drewN (Below.refl _ _) nd); have HB9 : Aside0 (Below w.heap.size w w10) := ⟨by subst hw; exact pw_below_drewN HB8.out nd⟩; clear hw hM8 HB8) | (have HT_ := hM9; clear HT_; go_at_call 22; refine (r18_alive_none _).mono ?_; rintro e_ w11 ⟨rfl, hb⟩; have hM10 : IsM 113 w11 g (1, 0, 0, 0, 0, 1) (1, 0, 0, 0, 0, 0) := blk_below hM9 hb; have HB10 := Aside0.mk (below_step HB9.out hb); clear hM9 HB9 hb) | (go_at_call 31; refine (meter_Counts.calls (1, 0, 0, 0, 0, 1) (1, 0, 0, 0, 0, 0) g _ hM10).mono ?_; rintro e_ w12 ⟨rfl, hb⟩; have HB11 := Aside0.mk (below_step HB10.out hb); clear HB10 hb) | (go_at_call 22; refine (r18_alive_new _).mono ?_; rintro e_ w1 ⟨g, rfl, hM0, hg, hb⟩; have HB0 := Aside0.mk hb; clear hb))
  all_goals go_wp2
  go_ret
  exact ⟨rfl, HB11.out⟩
end Go.Proofs.Ytjkadheknjkkbaa.QR
