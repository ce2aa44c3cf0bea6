/-
  HUFF: HuffCodes, its walk.
  Conditions: none of its own; lemmas that the claim's row rests on.
-/
import Derived.Test.YtlbjhbanfpnogaaDoorHg2
import Derived.Test.YtlbjhbanfpnogaaDoorQH1
import Derived.Test.YtlbjhbanfpnogaaDoorQH3
import Derived.WalkKit
namespace Go.Proofs.YtlbjhbanfpnogaaDoor.QH
open Go.RowKit Go.Proofs.YtlbjhbanfpnogaaDoorW.PrintWords Go.Proofs.YtlbjhbanfpnogaaDoorW.PrintLast Go.Proofs.YtlbjhbanfpnogaaDoorW.PrintMore
attribute [local go_sem] max2_int min2_int max_two min_two max_three min_three max_four min_four
set_option linter.unusedVariables false
set_option linter.unusedSimpArgs false
theorem lenE (c : Nat) (h : c < 257) : huff_Length.f (c : Int) = some (ln c : Int) := by
  unfold huff_Length.f
  rw [if_neg (by omega), if_neg (by omega), Int.toNat_natCast]
theorem codE (c : Nat) (h : c < 257) : huff_Code.f (c : Int) = some (cd c : Int) := by
  unfold huff_Code.f
  rw [if_neg (by omega), if_neg (by omega), Int.toNat_natCast]
def three (p q i : Nat) : Nat := if i = 0 then p else if i = 1 then q else 256
theorem three_lt {p q : Nat} (hp : p < 256) (hq : q < 256) (i : Nat) : three p q i < 257 := by unfold three; split <;> (try split) <;> omega
theorem three_cell {W : World} {B p q : Nat} (h : W.heap[B]? = some (.cells #[.int .i64 (p : Int), .int .i64 (q : Int), .int .i64 256] 33 (0, 0))) (i : Nat) (hi : i < 3) : W.cell? ⟨B, i, none⟩ = some (.int .i64 (three p q i : Int)) := by
  rw [blk_cell h i]
  rcases (by omega : i = 0 ∨ i = 1 ∨ i = 2) with rfl | rfl | rfl <;> rfl
theorem codeDiv (y d : Nat) : (y / 2 ^ d) / 2 = y / 2 ^ (d + 1) := by rw [Nat.div_div_eq_div_mul, Nat.pow_succ]
set_option maxHeartbeats 8000000 in
set_option maxRecDepth 100000 in
theorem gantletlaw04_HuffCodes.is (p q : Nat) (hp : p < 256) (hq : q < 256) (w : World) (hG : GB w) :
    Calls Tryd.prog 5 #[.int .u8 (p : Int), .int .u8 (q : Int)] w fun e w' => e = .returned (.bool true) ∧ Below w.heap.size w w' := by
  have HG := Aside0.mk hG
  have HPQ := Aside0.mk (And.intro hp hq)
  clear hG
  go_enter Tryd.func5, Tryd.ntmps5
  go_wp2_with fail
  have HB := Aside0.mk (below_alloc (Below.refl w.heap.size w) (.cells #[.int .i64 (p : Int), .int .i64 (q : Int), .int .i64 256] 33))
  have HQ := Aside0.mk (blk_new w (.cells #[.int .i64 (p : Int), .int .i64 (q : Int), .int .i64 256] 33))
  generalize (w.alloc (.cells #[.int .i64 (p : Int), .int .i64 (q : Int), .int .i64 256] 33)) = w1 at *
  go_loopg [6] 4 (fun kq v6 w' => ∃ i : Nat, v6 = .int .i64 (i : Int) ∧ Aside0 (i + kq = 4 ∧ i ≤ 3) ∧ Aside0 (w'.heap[w.heap.size]? = some (.cells #[.int .i64 (p : Int), .int .i64 (q : Int), .int .i64 256] 33 (0, 0))) ∧ Aside0 (Below w.heap.size w w'))
  case atStart => exact ⟨0, rfl, ⟨by omega⟩, HQ, HB⟩
  case round =>
    clear HQ HB
    obtain ⟨i, rfl, HI, HQ, HB⟩ := hrel
    by_cases ci : i < 3
    · have cib : decide ((i : Int) < 3) = true := decide_eq_true (by omega)
      obtain ⟨k1, hk1⟩ : ∃ j, gk = j + 1 := ⟨gk - 1, by have := HI.out; omega⟩
      subst hk1
      have HCI := Aside0.mk ci
      clear ci
      go_wp2_with fail
      obtain ⟨wo, rfl⟩ : ∃ wo : World, wo = wr := ⟨_, rfl⟩
      go_loopg [7] 4 (fun kq v7 w' => ∃ k : Nat, v7 = .int .i64 (k : Int) ∧ Aside0 (k + kq = 4 ∧ k ≤ 3) ∧ Aside0 (w'.heap[w.heap.size]? = some (.cells #[.int .i64 (p : Int), .int .i64 (q : Int), .int .i64 256] 33 (0, 0))) ∧ Aside0 (Below w.heap.size w w'))
      case atStart => exact ⟨0, rfl, ⟨by omega⟩, HQ, HB⟩
      case round =>
        clear HQ HB
        obtain ⟨k, rfl, HK, HQ, HB⟩ := hrel
        by_cases ck : k < 3
        · have ckb : decide ((k : Int) < 3) = true := decide_eq_true (by omega)
          obtain ⟨k2, hk2⟩ : ∃ j, gk = j + 1 := ⟨gk - 1, by have := HK.out; omega⟩
          subst hk2
          have HCK := Aside0.mk ck
          have ci3 : (i : Int) < 3 := by have := HCI.out; omega
          have ck3 : (k : Int) < 3 := by omega
          have ci0 : (0 : Int) ≤ (i : Int) := by omega
          have ck0 : (0 : Int) ≤ (k : Int) := by omega
          clear ck
          have x1 := three_cell HQ.out i HCI.out
          have x2 := three_cell HQ.out k HCK.out
          have HE := Aside0.mk (And.intro (three_lt HPQ.out.1 HPQ.out.2 i) (three_lt HPQ.out.1 HPQ.out.2 k))
          have HX : Aside0 (∀ W : World, W.heap[w.heap.size]? = some (.cells #[.int .i64 (p : Int), .int .i64 (q : Int), .int .i64 256] 33 (0, 0)) → W.cell? ⟨w.heap.size, i, none⟩ = some (.int .i64 (three p q i : Int)) ∧ W.cell? ⟨w.heap.size, k, none⟩ = some (.int .i64 (three p q k : Int))) := ⟨fun W h => ⟨three_cell h i HCI.out, three_cell h k HCK.out⟩⟩
          obtain ⟨a, ha⟩ : ∃ a, three p q i = a := ⟨_, rfl⟩
          obtain ⟨b, hb⟩ : ∃ b, three p q k = b := ⟨_, rfl⟩
          rw [ha] at x1 HE HX
          rw [hb] at x2 HE HX
          clear ha hb
          have HLA := Aside0.mk (ln_le a HE.out.1)
          have HLB := Aside0.mk (ln_le b HE.out.2)
          have HCA := Aside0.mk (cd_small a HE.out.1)
          have HCB := Aside0.mk (cd_small b HE.out.2)
          go_wp2_with fail
          refine (huff_Length.calls (a : Int) _ _ (HG.out.below HB.out) (lenE a HE.out.1)).mono ?_
          rintro e_ w2 ⟨rfl, hd⟩
          have HQ2 := Aside0.mk (blk_below HQ.out hd.below)
          have HB2 := Aside0.mk (below_step HB.out hd.below)
          clear hd x1 x2 HQ HB
          obtain ⟨x1, x2⟩ := HX.out _ HQ2.out
          go_wp2_with fail
          refine (huff_Length.calls (b : Int) _ _ (HG.out.below HB2.out) (lenE b HE.out.2)).mono ?_
          rintro e_ w3 ⟨rfl, hd⟩
          have HQ3 := Aside0.mk (blk_below HQ2.out hd.below)
          have HB3 := Aside0.mk (below_step HB2.out hd.below)
          clear hd x1 x2 HQ2 HB2
          obtain ⟨x1, x2⟩ := HX.out _ HQ3.out
          have ma5 : decide ((ln a : Int) < 5) = false := decide_eq_false (by have := HLA.out; omega)
          have ma30 : decide (30 < (ln a : Int)) = false := decide_eq_false (by have := HLA.out; omega)
          have mb5 : decide ((ln b : Int) < 5) = false := decide_eq_false (by have := HLB.out; omega)
          have mb30 : decide (30 < (ln b : Int)) = false := decide_eq_false (by have := HLB.out; omega)
          go_wp2_with fail
          refine (huff_Code.calls (a : Int) _ _ (HG.out.below HB3.out) (codE a HE.out.1)).mono ?_
          rintro e_ w4 ⟨rfl, hd⟩
          have HQ4 := Aside0.mk (blk_below HQ3.out hd)
          have HB4 := Aside0.mk (below_step HB3.out hd)
          clear hd x1 x2 HQ3 HB3
          obtain ⟨x1, x2⟩ := HX.out _ HQ4.out
          go_wp2_with fail
          refine (huff_Code.calls (b : Int) _ _ (HG.out.below HB4.out) (codE b HE.out.2)).mono ?_
          rintro e_ w5 ⟨rfl, hd⟩
          have HQ5 := Aside0.mk (blk_below HQ4.out hd)
          have HB5 := Aside0.mk (below_step HB4.out hd)
          clear hd x1 x2 HQ4 HB4 ma5 ma30 mb5 mb30
          obtain ⟨m, hm⟩ : ∃ m, ln a = m := ⟨_, rfl⟩
          obtain ⟨n, hn⟩ : ∃ n, ln b = n := ⟨_, rfl⟩
          obtain ⟨x, hx⟩ : ∃ x, cd a = x := ⟨_, rfl⟩
          obtain ⟨y, hy⟩ : ∃ y, cd b = y := ⟨_, rfl⟩
          rw [hm] at HLA
          rw [hn] at HLB
          rw [hx] at HCA
          rw [hy] at HCB
          have HM := Aside0.mk (And.intro hm (And.intro hn (And.intro hx hy)))
          rw [hm, hn, hx, hy]
          clear hm hn hx hy
          go_wp2_with fail
          obtain ⟨wq, rfl⟩ : ∃ wq : World, wq = w5 := ⟨_, rfl⟩
          go_loopg [11, 12] (n + 1) (fun kq v11 v12 w' => ∃ d : Nat, v11 = .int .i64 ((y / 2 ^ d : Nat) : Int) ∧ v12 = .int .i64 ((n : Int) - (d : Int)) ∧ Aside0 (d + kq = n + 1 ∧ (d = 0 ∨ m + d ≤ n)) ∧ w' = wq)
          case atStart => exact ⟨0, by simp, by simp, ⟨by simp⟩, rfl⟩
          case round =>
            obtain ⟨d, rfl, rfl, HD, rfl⟩ := hrel
            by_cases cd_ : m + d < n
            · obtain ⟨k3, hk3⟩ : ∃ j, gk = j + 1 := ⟨gk - 1, by have := HD.out; omega⟩
              subst hk3
              have cdb : decide ((m : Int) < (n : Int) - (d : Int)) = true := decide_eq_true (by omega)
              obtain ⟨z, hz⟩ : ∃ z, y / 2 ^ d = z := ⟨_, rfl⟩
              have hz2 : z ≤ 1073741824 := by have h1 := Nat.div_le_self y (2 ^ d); have := HCB.out; omega
              have HZ : Aside0 (((z : Nat) : Int) / 2 = ((y / 2 ^ (d + 1) : Nat) : Int)) := ⟨by rw [← codeDiv, hz]; omega⟩
              rw [hz]
              clear hz
              have hnb := HLB.out.2
              have hdn : d < n := by omega
              have hwj : wrap64 ((n : Int) - (d : Int) - 1) = (n : Int) - (d : Int) - 1 := by unfold wrap64; omega
              have HWJ := Aside0.mk hwj
              have HCD := Aside0.mk cd_
              clear cd_ hwj
              go_wp2_with fail
              go_roundg k3
              case measure => omega
              case rel => exact ⟨d + 1, (by first | (rw [HZ.out]) | (rw [← HZ.out])), (by first | (congr 1; omega) | (rw [HWJ.out]; congr 1; omega)), ⟨by have := HD.out; have := HCD.out; omega⟩, rfl⟩
            · have cdb : decide ((m : Int) < (n : Int) - (d : Int)) = false := decide_eq_false (by omega)
              obtain ⟨x1, x2⟩ := HX.out _ HQ5.out
              obtain ⟨z, hz⟩ : ∃ z, y / 2 ^ d = z := ⟨_, rfl⟩
              have HZ := Aside0.mk hz
              rw [hz]
              clear hz
              have HF : Aside0 ((m < n ∧ x < z ∧ a ≠ b) ∨ (m = n ∧ ((x = z ∧ a = b) ∨ (x ≠ z ∧ a ≠ b))) ∨ n < m) := ⟨by
                have hD := HD.out
                have hZ := HZ.out
                obtain ⟨h1, h2, h3, h4⟩ := HM.out
                rcases Nat.lt_trichotomy m n with h | h | h
                · have e : d = n - m := by omega
                  have h5 := code_less HE.out.1 HE.out.2 (show ln a < ln b by omega)
                  rw [h1, h2, h3, h4, ← e, hZ] at h5
                  exact .inl ⟨h, h5, fun e => by subst e; omega⟩
                · have e : d = 0 := by omega
                  subst e
                  simp only [Nat.pow_zero, Nat.div_one] at hZ
                  refine .inr (.inl ⟨h, ?_⟩)
                  by_cases hab : a = b
                  · subst hab; exact .inl ⟨by omega, rfl⟩
                  · exact .inr ⟨fun e => hab (code_same HE.out.1 HE.out.2 (by omega) (by omega)), hab⟩
                · exact .inr (.inr h)⟩
              have HWK : Aside0 (wrap64 ((k : Int) + 1) = (k : Int) + 1) := ⟨by unfold wrap64; omega⟩
              clear cd_
              rcases HF.out with ⟨h1, h2, h3⟩ | ⟨h1, ⟨h2, h3⟩ | ⟨h2, h3⟩⟩ | h1
              · have t1 : decide ((m : Int) ≤ (n : Int)) = true := decide_eq_true (by omega)
                have u1 : decide (m ≤ n) = true := decide_eq_true (by omega)
                have t2 : ((x : Int) == (z : Int)) = false := beq_eq_false_iff_ne.mpr (by omega)
                have u2 : (x == z) = false := beq_eq_false_iff_ne.mpr (by omega)
                have t3 : ((a : Int) == (b : Int)) = false := beq_eq_false_iff_ne.mpr (by omega)
                have u3 : (a == b) = false := beq_eq_false_iff_ne.mpr (by omega)
                have t4 : decide ((m : Int) < (n : Int)) = true := decide_eq_true (by omega)
                have u4 : decide (m < n) = true := decide_eq_true (by omega)
                have t5 : decide ((z : Int) ≤ (x : Int)) = false := decide_eq_false (by omega)
                have u5 : decide (z ≤ x) = false := decide_eq_false (by omega)
                clear h1 h2 h3
                go_wp2_with fail
                go_quiet (fail)
                go_wp2_with fail
                go_roundg k2
                case measure => omega
                case rel => exact ⟨k + 1, (by first | rfl | (rw [HWK.out]; rfl)), ⟨by have := HK.out; have := HCK.out; omega⟩, ⟨by first | exact HQ5.out | exact (HQ5.out : (wr.drewN nq).heap[w.heap.size]? = _)⟩, ⟨by first | exact HB5.out | exact pw_below_drewN HB5.out nq⟩⟩
              · have t1 : decide ((m : Int) ≤ (n : Int)) = true := decide_eq_true (by omega)
                have u1 : decide (m ≤ n) = true := decide_eq_true (by omega)
                have t2 : ((x : Int) == (z : Int)) = true := beq_iff_eq.mpr (by omega)
                have u2 : (x == z) = true := beq_iff_eq.mpr (by omega)
                have t3 : ((a : Int) == (b : Int)) = true := beq_iff_eq.mpr (by omega)
                have u3 : (a == b) = true := beq_iff_eq.mpr (by omega)
                have t4 : decide ((m : Int) < (n : Int)) = false := decide_eq_false (by omega)
                have u4 : decide (m < n) = false := decide_eq_false (by omega)
                clear h1 h2 h3
                go_wp2_with fail
                go_quiet (fail)
                go_wp2_with fail
                go_roundg k2
                case measure => omega
                case rel => exact ⟨k + 1, (by first | rfl | (rw [HWK.out]; rfl)), ⟨by have := HK.out; have := HCK.out; omega⟩, ⟨by first | exact HQ5.out | exact (HQ5.out : (wr.drewN nq).heap[w.heap.size]? = _)⟩, ⟨by first | exact HB5.out | exact pw_below_drewN HB5.out nq⟩⟩
              · have t1 : decide ((m : Int) ≤ (n : Int)) = true := decide_eq_true (by omega)
                have u1 : decide (m ≤ n) = true := decide_eq_true (by omega)
                have t2 : ((x : Int) == (z : Int)) = false := beq_eq_false_iff_ne.mpr (by omega)
                have u2 : (x == z) = false := beq_eq_false_iff_ne.mpr (by omega)
                have t3 : ((a : Int) == (b : Int)) = false := beq_eq_false_iff_ne.mpr (by omega)
                have u3 : (a == b) = false := beq_eq_false_iff_ne.mpr (by omega)
                have t4 : decide ((m : Int) < (n : Int)) = false := decide_eq_false (by omega)
                have u4 : decide (m < n) = false := decide_eq_false (by omega)
                clear h1 h2 h3
                go_wp2_with fail
                go_quiet (fail)
                go_wp2_with fail
                go_roundg k2
                case measure => omega
                case rel => exact ⟨k + 1, (by first | rfl | (rw [HWK.out]; rfl)), ⟨by have := HK.out; have := HCK.out; omega⟩, ⟨by first | exact HQ5.out | exact (HQ5.out : (wr.drewN nq).heap[w.heap.size]? = _)⟩, ⟨by first | exact HB5.out | exact pw_below_drewN HB5.out nq⟩⟩
              · have t1 : decide ((m : Int) ≤ (n : Int)) = false := decide_eq_false (by omega)
                have u1 : decide (m ≤ n) = false := decide_eq_false (by omega)
                have t2 : decide ((m : Int) < (n : Int)) = false := decide_eq_false (by omega)
                have u2 : decide (m < n) = false := decide_eq_false (by omega)
                clear h1
                go_wp2_with fail
                go_quiet (fail)
                go_wp2_with fail
                go_roundg k2
                case measure => omega
                case rel => exact ⟨k + 1, (by first | rfl | (rw [HWK.out]; rfl)), ⟨by have := HK.out; have := HCK.out; omega⟩, ⟨by first | exact HQ5.out | exact (HQ5.out : (wr.drewN nq).heap[w.heap.size]? = _)⟩, ⟨by first | exact HB5.out | exact pw_below_drewN HB5.out nq⟩⟩
        · have ckb : decide ((k : Int) < 3) = false := decide_eq_false (by omega)
          have hci := HCI.out
          have hwi : wrap64 ((i : Int) + 1) = (i : Int) + 1 := by unfold wrap64; omega
          have HWI := Aside0.mk hwi
          clear hwi ck
          go_wp2_with fail
          go_roundg k1
          case measure => omega
          case rel => exact ⟨i + 1, (by first | rfl | (rw [HWI.out]; rfl)), ⟨by have := HI.out; have := HCI.out; omega⟩, HQ, HB⟩
    · have cib : decide ((i : Int) < 3) = false := decide_eq_false (by omega)
      clear ci
      go_wp2_with fail
      refine (gantletlaw04_alive.calls true _ (HG.out.below HB.out) rfl).mono ?_
      rintro e_ w9 ⟨rfl, hd⟩
      have HB9 := Aside0.mk (below_step HB.out hd)
      clear hd
      go_wp2_with fail
      go_ret
      exact ⟨rfl, HB9.out⟩
def gantletlaw04_HuffCodes.f (a0 a1 : Int) : Option Bool := if (0 ≤ a0 ∧ a0 < 256) ∧ (0 ≤ a1 ∧ a1 < 256) then some true else none
theorem gantletlaw04_HuffCodes.calls (a0 a1 : Int) (r : Bool) (w : World) (hG : GB w) (h : gantletlaw04_HuffCodes.f a0 a1 = some r) :
    Calls Tryd.prog 5 #[.int .u8 a0, .int .u8 a1] w fun e w' => e = .returned (.bool r) ∧ Below w.heap.size w w' := by
  unfold gantletlaw04_HuffCodes.f at h
  by_cases hb : (0 ≤ a0 ∧ a0 < 256) ∧ (0 ≤ a1 ∧ a1 < 256)
  · rw [if_pos hb] at h
    obtain rfl := Option.some.inj h
    obtain ⟨p, rfl⟩ : ∃ p : Nat, a0 = (p : Int) := ⟨a0.toNat, by omega⟩
    obtain ⟨q, rfl⟩ : ∃ q : Nat, a1 = (q : Int) := ⟨a1.toNat, by omega⟩
    exact gantletlaw04_HuffCodes.is p q (by omega) (by omega) w hG
  · rw [if_neg hb] at h; cases h
end Go.Proofs.YtlbjhbanfpnogaaDoor.QH
