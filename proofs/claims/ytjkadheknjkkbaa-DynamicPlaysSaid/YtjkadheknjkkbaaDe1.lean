/-
  DYNAMIC: the iterator.
  Conditions: none of its own; lemmas that the claim's row rests on.
-/
import Derived.Test.YtjkadheknjkkbaaDe0
import Derived.Test.YtjkadheknjkkbaaRangeOk
import Derived.Test.YtjkadheknjkkbaaRegionRound
import Derived.TacticsInMore
import Derived.LoopNIn
import Derived.LoopIn
import Derived.OwnWalkIn
import Derived.Shelf.RegionOpen
import Derived.WalkKit
import Derived.Sort.CutIn
import Derived.Stop.RegionWithIn
namespace Go.Proofs.Ytjkadheknjkkbaa.De
open Go.RowKit Go.Proofs.YtjkadheknjkkbaaW.PrintWords Go.Proofs.YtjkadheknjkkbaaW.PrintLast Go.Proofs.YtjkadheknjkkbaaW.PrintMore
attribute [local go_sem] max2_int min2_int max_two min_two max_three min_three max_four min_four
set_option linter.unusedVariables false
set_option linter.unusedSimpArgs false
open Go.Proofs.Ytjkadheknjkkbaa.Ob Go.Proofs.Ytjkadheknjkkbaa.QD
open Go.Proofs.YtjkadheknjkkbaaR
/-- The sizes of fields. -/
def sumY : List S78 → Nat
  | [] => 0
  | x :: l => szF x + sumY l
/-- How many of the oldest must go. -/
def evN (most room : Int) : Int → List S78 → Nat
  | _, [] => 0
  | sz, x :: l => if sz + room ≤ most then 0 else evN most room (sz - szF x) l + 1
/-- What is the size then. -/
def evZ (most room : Int) : Int → List S78 → Int
  | sz, [] => sz
  | sz, x :: l => if sz + room ≤ most then sz else evZ most room (sz - szF x) l
theorem evN_le (most room : Int) : ∀ (l : List S78) (sz : Int), evN most room sz l ≤ l.length
  | [], _ => Nat.le_refl 0
  | x :: l, sz => by
    unfold evN
    split
    · exact Nat.zero_le _
    · have := evN_le most room l (sz - szF x)
      simp; omega
theorem drop_rd78 {l : List S78} {j : Nat} (h : j < l.length) : l.drop j = rd_T78 l (j : Int) :: l.drop (j + 1) := by
  have e : rd_T78 l (j : Int) = l[j] := by simp [rd_T78, h]
  rw [e, List.drop_eq_getElem_cons h]
def Fy.encs (x : S78) : Array Value := #[.agg #[.string x.f0, .string x.f1]]
def Fy.Ok (l : List S78) (s : Nat) (x : S78) (_ : World) : Prop := s < l.length ∧ x = rd_T78 l (s : Int)
/-- The block, its size z. -/
def Yc (v : Value) (bound most z : Int) : Obj := .cells #[v, .int .i64 z, .int .i64 bound, .int .i64 most] 136 (0, 0)
/-- What a round keeps: all below B but the table's block, which has less by a field. -/
def Fy.Kp (B g b4 : Nat) (v : Value) (bound most : Int) (x : S78) (W W' : World) : Prop := Keeps W W' (fun k => (k = g ∨ k = b4) ∨ B ≤ k) ∧ ∀ z, W.heap[g]? = some (Yc v bound most z) → W'.heap[g]? = some (Yc v bound most (z - szF x))
theorem below_grown {w w' : World} (h : Below w.heap.size w w') : w.grownBy w' none := ⟨h.os, h.tape, h.output, h.size, fun k hk _ => h.block k hk⟩
set_option maxHeartbeats 4000000 in
set_option maxRecDepth 100000 in
theorem oldest1.stops (g : Nat) (bound most room : Int) (A : Option Addr) (c : Nat) (l : List S78) (sz0 : Int) (w : World) (bt br b4 : Nat) (h : IsY w g bound most (.slice A l.length c) l sz0)
    (hbt : w.heap[bt]? = some (.cells #[.pointer (some ⟨g, 0, none⟩)] 72 (0, 0))) (hbr : w.heap[br]? = some (.cells #[.int .i64 room] 3 (0, 0))) (hl : l.length ≤ 100000) (hs : ∀ x ∈ l, szF x ≤ 100000) (hz : -100000000000 ≤ sz0 - 100000 * l.length ∧ sz0 ≤ 100000000000) (hr : 0 ≤ room ∧ room ≤ 1000000) (h4 : bt ≠ b4 ∧ br ≠ b4 ∧ (Value.slice A l.length c).ownBlock ≠ some b4 ∧ b4 ≠ g) :
    SeqOk Fence.wide 2 Try.prog 123 #[.pointer (some ⟨bt, 0, none⟩), .pointer (some ⟨br, 0, none⟩)] Fy.encs (Fy.Ok l) (Fy.Kp w.heap.size g b4 (.slice A l.length c) bound most) (0 : Nat) (fun s _ _ => s + 1) (fun s => s = evN most room sz0 l) w := by
  intro L J Jx W hW hJ hJx hY h0
  refine callsIn_wide.2 ?_
  have hu78 := Try.underlying78
  have HI := Aside0.mk h
  have HBt := Aside0.mk hbt
  have HBr := Aside0.mk hbr
  have HY := Aside0.mk hY
  have HJ := Aside0.mk hJ
  have HJx := Aside0.mk hJx
  have H0 := Aside0.mk h0
  have HW := Aside0.mk hW
  have HS := Aside0.mk hs
  have HZ := Aside0.mk hz
  have hne : Aside0 (bt ≠ g ∧ br ≠ g) := ⟨⟨(fun e => by rw [e, h.1] at hbt; cases hbt), (fun e => by rw [e, h.1] at hbr; cases hbr)⟩⟩
  clear h hbt hbr hY hJ hJx h0 hW hs hz
  have hcq : W.cell? ⟨bt, 0, none⟩ = some (.pointer (some ⟨g, 0, none⟩)) := (blk_cell (blk_below HBt.out HW.out) 0).trans rfl
  have hcr : W.cell? ⟨g, 0, none⟩ = some (.slice A l.length c) := (blk_cell (HI.out.below HW.out).1 0).trans rfl
  simp only [List.append_toArray, List.cons_append, List.nil_append]
  go_enter Try.func123, Try.ntmps123
  go_wp2
  clear hcq hcr
  go_loopg [11] (l.length + 1) (fun kq v11 w' => ∃ (j : Nat) (z : Int), v11 = .int .i64 (j : Int) ∧ Aside0 (J j w') ∧ Aside0 (j + kq = l.length + 1 ∧ j ≤ l.length) ∧ Aside0 (Keeps w w' (fun k => (k = g ∨ k = b4) ∨ w.heap.size ≤ k)) ∧ Aside0 (w'.heap[g]? = some (Yc (.slice A l.length c) bound most z)) ∧ Aside0 (evN most room sz0 l = j + evN most room z (l.drop j)) ∧ Aside0 (sz0 - 100000 * j ≤ z ∧ z ≤ sz0))
  case atStart => exact ⟨0, sz0, rfl, H0, ⟨by omega⟩, ⟨Keeps.of_below HW.out _⟩, ⟨(HI.out.below HW.out).1⟩, ⟨by simp⟩, ⟨by omega⟩⟩
  case round =>
    clear H0 HW
    obtain ⟨j, z, rfl, HJs, HK, HB, HG, HE, HZZ⟩ := hrel
    by_cases c1 : j < l.length
    · obtain ⟨k1, hk1⟩ : ∃ q, gk = q + 1 := ⟨gk - 1, by have := HK.out; omega⟩
      subst hk1
      have hrow : RY wr (.slice A l.length c) l := HI.out.2.1.keeps HB.out (fun k hk hs => by
        rcases hs with (rfl | rfl) | hs
        · exact HI.out.2.2 hk
        · exact h4.2.2.1 hk
        · have := HI.out.2.1.lt k hk; omega)
      obtain ⟨_, _, e2_, _, hCl⟩ := hrow.reads
      obtain ⟨rfl, rfl⟩ : A = _ ∧ c = _ := by injection e2_ with h1 _ h3; exact ⟨h1, h3⟩
      clear e2_ hrow
      obtain ⟨ad, e1, hy0, hy1⟩ := at_T78 hCl (j : Int) (by omega) (by omega)
      subst e1
      rw [Int.toNat_natCast] at hy0 hy1
      have q1 : ((j : Int) < (l.length : Int)) = True := eq_true (by omega)
      have q0 : ((0 : Int) ≤ (j : Int)) = True := eq_true (by omega)
      have hsx := HS.out (rd_T78 l (j : Int)) (by have e : rd_T78 l (j : Int) = l[j] := by simp [rd_T78, c1]
                                                  rw [e]; exact List.getElem_mem c1)
      have hdr := drop_rd78 c1
      have HX : Aside0 (∃ X, rd_T78 l (j : Int) = X) := ⟨_, rfl⟩
      obtain ⟨X, hX⟩ := HX.out
      have HXE := Aside0.mk hX
      rw [hX] at hy0 hy1 hsx hdr
      have HDR := Aside0.mk hdr
      have HSX := Aside0.mk hsx
      clear hX HX hdr hsx hCl
      obtain ⟨x0, x1⟩ := X
      simp only [] at hy0 hy1
      have hBa := below_alloc (Below.refl wr.heap.size wr) (.cells #[.string x0, .string x1] 78)
      have HBa := Aside0.mk (HB.out.below hBa)
      have HGa := Aside0.mk (blk_below HG.out hBa)
      have HJa := Aside0.mk (HJ.out _ _ _ none HJs.out (below_grown hBa) (fun r e => by cases e))
      have hbt2 := HBa.out.block bt (blk_lt HBt.out) (fun h => h.elim (fun h2 => h2.elim hne.out.1 h4.1) (fun h2 => by have := blk_lt HBt.out; omega))
      have hbr2 := HBa.out.block br (blk_lt HBr.out) (fun h => h.elim (fun h2 => h2.elim hne.out.2 h4.2.1) (fun h2 => by have := blk_lt HBr.out; omega))
      have u0 : (wr.alloc (.cells #[.string x0, .string x1] 78)).cell? ⟨bt, 0, none⟩ = some (.pointer (some ⟨g, 0, none⟩)) := (blk_cell (hbt2.trans HBt.out) 0).trans rfl
      have u1 : (wr.alloc (.cells #[.string x0, .string x1] 78)).cell? ⟨br, 0, none⟩ = some (.int .i64 room) := (blk_cell (hbr2.trans HBr.out) 0).trans rfl
      have u2 : (wr.alloc (.cells #[.string x0, .string x1] 78)).cell? ⟨g, 1, none⟩ = some (.int .i64 z) := (blk_cell HGa.out 1).trans rfl
      have u3 : (wr.alloc (.cells #[.string x0, .string x1] 78)).cell? ⟨g, 3, none⟩ = some (.int .i64 most) := (blk_cell HGa.out 3).trans rfl
      have u4 : (wr.alloc (.cells #[.string x0, .string x1] 78)).cell? ⟨wr.heap.size, 0, none⟩ = some (.string x0) := (blk_cell (blk_new wr (.cells #[.string x0, .string x1] 78)) 0).trans rfl
      have u5 : (wr.alloc (.cells #[.string x0, .string x1] 78)).cell? ⟨wr.heap.size, 1, none⟩ = some (.string x1) := (blk_cell (blk_new wr (.cells #[.string x0, .string x1] 78)) 1).trans rfl
      have hwr : wrap64 (z + room) = z + room := by have := HZ.out; have := HZZ.out; have := HK.out; unfold wrap64; omega
      clear hBa hbt2 hbr2
      have hBd := below_drew (Below.refl (wr.alloc (.cells #[.string x0, .string x1] 78)).heap.size (wr.alloc (.cells #[.string x0, .string x1] 78)))
      have HJd := Aside0.mk (HJ.out _ _ _ none HJa.out (below_grown hBd) (fun r e => by cases e))
      by_cases hzr : z + room ≤ most
      · have bq : decide (wrap64 (z + room) ≤ most) = true := by rw [hwr]; exact decide_eq_true hzr
        have HZR := Aside0.mk hzr
        clear hBd hzr hwr
        go_upto_region 3 with fail
        go_region
        go_wp2
        refine bodyPost_ret (results_none rfl _ _ _) rfl ?_
        refine ⟨⟨_, rfl⟩, .inl ⟨j, ?_, HJd.out⟩⟩
        rw [HE.out, HDR.out, evN, if_pos HZR.out]
        rfl
      · have bq : decide (wrap64 (z + room) ≤ most) = false := by rw [hwr]; exact decide_eq_false hzr
        have HZR := Aside0.mk hzr
        have HBd := Aside0.mk (HBa.out.below hBd)
        have HGd := Aside0.mk (blk_below HGa.out hBd)
        have bq2 : decide (IntKind.i64.wrap (z + room) ≤ most) = false := by rw [i64_w, hwr]; exact decide_eq_false hzr
        clear hBd hzr hwr
        go_upto_region 3 with fail
        obtain ⟨fn_, tmps_, assign_, body_, hy, hR⟩ := HY.out j ⟨x0, x1⟩ _ HJd.out ⟨c1, HXE.out.symm⟩
        simp only [Fy.encs, Fy.Kp] at hy hR
        clear HY HJ HJx HJs HJa HJd HB HG HBa HGa hu78 hy0 hy1
        refine (wpIn_wide (n := 2)).1 ?_
        have hR2 := hR.mono (R' := fun e W' => ∃ b : Bool, e = .returned (.bool b) ∧ ((b = true ∧ J (j + 1) W' ∧ Fy.Kp w.heap.size g b4 (.slice (some ad) l.length c) bound most ⟨x0, x1⟩ (wr.alloc (.cells #[.string x0, .string x1] 78)).drew W') ∨ (b = false ∧ Jx (j + 1) W'))) (by
          rintro e W' (⟨rfl, h⟩ | ⟨rfl, h⟩)
          · exact ⟨true, rfl, .inl ⟨rfl, h.1, h.2⟩⟩
          · exact ⟨false, rfl, .inr ⟨rfl, h⟩⟩)
        clear hR
        gi_region_with (refine hR2.mono ?_; rintro e_ W3 ⟨b, rfl, hb3⟩)
        all_goals (
          clear hR2 hy
          rcases hb3 with ⟨rfl, hJ3, hk3, hg3⟩ | ⟨rfl, hJx3⟩
          · gi_wp2
            go_wp2
            go_roundg k1
            case measure => omega
            case rel =>
              refine ⟨j + 1, z - szF ⟨x0, x1⟩, ?_, ⟨hJ3⟩, ⟨by have := HK.out; omega⟩, ⟨HBd.out.then_ hk3 (fun i hi => .inl hi)⟩, ⟨hg3 z HGd.out⟩, ⟨?_⟩, ⟨?_⟩⟩
              · first | rfl | (push_cast; rfl)
              · rw [HE.out, HDR.out, evN, if_neg (by have := HZR.out; omega)]
                omega
              · have h1 := HSX.out; have h2 := HZZ.out; omega
          · gi_wp2
            go_wp2
            refine bodyPost_ret (results_none rfl _ _ _) rfl ?_
            exact ⟨⟨_, rfl⟩, .inr ⟨_, hJx3⟩⟩)
    · have c1b : decide ((j : Int) < (l.length : Int)) = false := decide_eq_false (by omega)
      go_wp2
      go_end0
      refine ⟨⟨_, rfl⟩, .inl ⟨j, ?_, HJs.out⟩⟩
      rw [HE.out, List.drop_of_length_le (by omega)]
      rfl
end Go.Proofs.Ytjkadheknjkkbaa.De
