/-
  HUFF: bits.
  Conditions: none of its own; lemmas that the claim's row rests on.
-/
import Derived.Test.YtlbjhbanfpnogaaDoorHf3
import Derived.Test.YtlbjhbanfpnogaaDoorRangeOk
import Derived.Test.YtlbjhbanfpnogaaDoorRegionRound
import Derived.TacticsInMore
import Derived.LoopNIn
import Derived.LoopIn
import Derived.OwnWalkIn
import Derived.Shelf.RegionOpen
import Derived.WalkKit
import Derived.Sort.CutIn
import Derived.Maps.AppendAt
import Derived.RangeFuncBox
namespace Go.Proofs.YtlbjhbanfpnogaaDoor.QH
open Go.RowKit Go.Proofs.YtlbjhbanfpnogaaDoorW.PrintWords Go.Proofs.YtlbjhbanfpnogaaDoorW.PrintLast Go.Proofs.YtlbjhbanfpnogaaDoorW.PrintMore
attribute [local go_sem] max2_int min2_int max_two min_two max_three min_three max_four min_four
set_option linter.unusedVariables false
set_option linter.unusedSimpArgs false
open Go.Maps
open Go.Proofs.YtlbjhbanfpnogaaDoorR
/-- Bit s of bytes. -/
def bitAt (l : List Int) (s : Nat) : Int := rd l ((s / 8 : Nat) : Int) / 2 ^ (7 - s % 8) % 2
def Bt.encs (x : Int) : Array Value := #[.int .i64 x]
def Bt.Ok (l : List Int) (s : Nat) (x : Int) (_ : World) : Prop := s < 8 * l.length ∧ x = bitAt l s
def Bt.Kp (B Bq : Nat) (_ : Int) (W W' : World) : Prop := Below B W W' ∧ W'.heap[Bq]? = W.heap[Bq]?
theorem below_grown {w w' : World} (h : Below w.heap.size w w') : w.grownBy w' none := ⟨h.os, h.tape, h.output, h.size, fun k hk _ => h.block k hk⟩
theorem bit_is {c : Nat} (hc : c < 256) {i : Nat} (hi : i < 8) : bits .and .u8 ((c : Int) / 2 ^ i) 1 = (c : Int) / 2 ^ i % 2 := by
  have h1 : ((c : Int) / 2 ^ i) = ((c / 2 ^ i : Nat) : Int) := by simp
  have h2 : c / 2 ^ i ≤ c := Nat.div_le_self _ _
  rw [h1]
  generalize c / 2 ^ i = q at *
  have h := bits_mask .u8 8 (by decide) wraps_u8 1 (by decide) ((q : Nat) : Int) (by omega) (by omega)
  simpa using h
set_option maxHeartbeats 4000000 in
set_option maxRecDepth 100000 in
theorem bits1.stops (A : Option Addr) (c : Nat) (l : List Int) (w0 w : World) (Bq : Nat) (hr : Kd.C (Kd.int .u8) w0 A l.length l) (hy : bytesB l = true) (hbel : Below w0.heap.size w0 w) (hq : w.heap[Bq]? = some (.cells #[.slice A l.length c] 22 (0, 0))) :
    SeqOk Fence.wide 2 Tryd.prog 56 #[.pointer (some ⟨Bq, 0, none⟩)] Bt.encs (Bt.Ok l) (Bt.Kp w0.heap.size Bq) (0 : Nat) (fun s _ _ => s + 1) (fun s => s = 8 * l.length) w := by
  intro L J Jx W hW hJ hJx hY h0
  refine callsIn_wide.2 ?_
  have HR := Aside0.mk hr
  have HYB := Aside0.mk hy
  have HL : Aside0 (l.length ≤ 1000000) := ⟨by unfold bytesB at hy; rw [Bool.and_eq_true] at hy; exact of_decide_eq_true hy.1⟩
  have HBq := Aside0.mk (blk_below hq hW)
  have HY := Aside0.mk hY
  have HJ := Aside0.mk hJ
  have HJx := Aside0.mk hJx
  clear hr hq hY hJ hJx hy
  have HB := Aside0.mk (below_step hbel hW)
  clear hbel
  have H0 := Aside0.mk h0
  clear h0 hW
  have hcq : W.cell? ⟨Bq, 0, none⟩ = some (.slice A l.length c) := (blk_cell HBq.out 0).trans rfl
  simp only [List.append_toArray, List.cons_append, List.nil_append]
  go_enter Tryd.func56, Tryd.ntmps56
  go_wp2
  clear hcq
  go_loopg [8] (l.length + 1) (fun kq v8 w' => ∃ (j : Nat), v8 = .int .i64 (j : Int) ∧ Aside0 (J (8 * j) w') ∧ Aside0 (j + kq = l.length + 1 ∧ j ≤ l.length) ∧ Aside0 (Below w0.heap.size w0 w') ∧ Aside0 (w'.heap[Bq]? = some (.cells #[.slice A l.length c] 22 (0, 0))))
  case atStart => exact ⟨0, rfl, H0, ⟨by omega⟩, HB, HBq⟩
  case round =>
    clear HB H0 HBq
    obtain ⟨j, rfl, HJs, HK, HB, HBq⟩ := hrel
    by_cases cj : j < l.length
    · obtain ⟨k1, hk1⟩ : ∃ q, gk = q + 1 := ⟨gk - 1, by have := HK.out; omega⟩
      subst hk1
      have cjb : decide ((j : Int) < (l.length : Int)) = true := decide_eq_true (by omega)
      have cjn : decide (j < l.length) = true := decide_eq_true cj
      obtain ⟨ad, e0, hx0⟩ := Kd.at_int HR.out (j : Int) (by omega) (by omega)
      subst e0
      rw [Int.toNat_natCast] at hx0
      have hx1 := (HB.out.cell (World.block_lt_of_cell? w0 _ hx0)).trans hx0
      have hyb := bytes_at HYB.out j cj
      obtain ⟨x, hx⟩ : ∃ x : Nat, rd l (j : Int) = (x : Int) := ⟨(rd l (j : Int)).toNat, by omega⟩
      have HX := Aside0.mk hx
      rw [hx] at hx1 hyb
      have hw1 : wrap64 ((j : Int) + 1) = (j : Int) + 1 := by unfold wrap64; have := HL.out; omega
      have HW1 := Aside0.mk hw1
      have HXB : Aside0 (x < 256) := ⟨by omega⟩
      clear hx hx0 hyb hw1
      go_wp2
      obtain ⟨wo, rfl⟩ : ∃ wo : World, wo = wr := ⟨_, rfl⟩
      go_loopg [5] 9 (fun kq v5 w' => ∃ (i : Nat), v5 = .int .i64 ((i : Int) - 1) ∧ Aside0 (J (8 * j + (8 - i)) w') ∧ Aside0 (i + 1 = kq ∧ i ≤ 8) ∧ Aside0 (Below w0.heap.size w0 w') ∧ Aside0 (w'.heap[Bq]? = some (.cells #[.slice (some ad) l.length c] 22 (0, 0))))
      case atStart => exact ⟨8, rfl, HJs, ⟨by omega⟩, HB, HBq⟩
      case round =>
        clear HB HBq HJs
        obtain ⟨i, rfl, HJs, HI, HB, HBq⟩ := hrel
        cases i with
        | zero =>
          go_wp2
          rw [HW1.out]
          go_roundg k1
          case measure => omega
          case rel => exact ⟨j + 1, rfl, ⟨by have := HJs.out; rwa [show 8 * j + (8 - 0) = 8 * (j + 1) by omega] at this⟩, ⟨by have := HK.out; omega⟩, HB, HBq⟩
        | succ i =>
          obtain ⟨k2, hk2⟩ : ∃ q, gk = q + 1 := ⟨gk - 1, by have := HI.out; omega⟩
          subst hk2
          have hi7 : i ≤ 7 := by have := HI.out; omega
          have e1 : (((i + 1 : Nat) : Int) - 1) = (i : Int) := by omega
          rw [e1]
          obtain ⟨b, hb⟩ : ∃ b : Int, b = (x : Int) / 2 ^ i % 2 := ⟨_, rfl⟩
          have hbi : bits .and .u8 ((x : Int) / 2 ^ i) 1 = b := by rw [hb]; exact bit_is HXB.out (by omega)
          have hi0 : (0 : Int) ≤ (i : Int) := by omega
          have hb01 : 0 ≤ b ∧ b < 2 := by rw [hb]; omega
          have hOK : Bt.Ok l (8 * j + (8 - (i + 1))) b wr := ⟨by omega, by rw [hb]; unfold bitAt; rw [show (8 * j + (8 - (i + 1))) / 8 = j by omega, show 7 - (8 * j + (8 - (i + 1))) % 8 = i by omega, HX.out]⟩
          obtain ⟨fn_, tmps_, assign_, body_, hy, hR⟩ := HY.out _ b _ HJs.out hOK
          simp only [Bt.encs, Bt.Kp] at hy hR
          clear e1 hb hOK
          refine (wpIn_wide (n := 2)).1 ?_
          have hw2 : wrap64 ((i : Int) - 1) = (i : Int) - 1 := by unfold wrap64; omega
          have HW2 := Aside0.mk hw2
          gi_wp2
          refine hR.mono ?_
          clear hR hy hw2
          rintro e_ W3 (⟨rfl, hJ3, hk3, hk4⟩ | ⟨rfl, hJx3⟩)
          · gi_wp2
            go_wp2
            go_roundg k2
            case measure => omega
            case rel => exact ⟨i, (by first | rfl | (rw [HW2.out])), ⟨by rw [show 8 * j + (8 - i) = 8 * j + (8 - (i + 1)) + 1 by omega]; exact hJ3⟩, ⟨by have := HI.out; omega⟩, ⟨HB.out.trans hk3⟩, ⟨hk4.trans HBq.out⟩⟩
          · gi_wp2
            go_wp2
            refine bodyPost_ret (results_none rfl _ _ _) rfl ?_
            exact ⟨⟨_, rfl⟩, .inr ⟨_, hJx3⟩⟩
    · have cjb : decide ((j : Int) < (l.length : Int)) = false := decide_eq_false (by omega)
      obtain rfl : j = l.length := by have := HK.out; omega
      go_wp2
      go_end0
      exact ⟨⟨_, rfl⟩, .inl ⟨_, rfl, HJs.out⟩⟩
end Go.Proofs.YtlbjhbanfpnogaaDoor.QH
