/-
  What the texts of this seat are built over. What a method keeps: all blocks but those of a set, and what is no memory. HUFF: the lengths, the codes; codes' contract. HUFF: Encode. HUFF: Length, Code, Size; the document's lengths, Codes. HUFF: texts. A loop over a function whose values have something of their own in memory: the loop's law, and what is asked of the iterator. A region that draws its order, in a round of a loop over a function: what holds of it anywhere holds of it there. HUFF: bits. HUFF: what Decode does. HUFF: Decode. HUFF: all contracts.
  Conditions: none of its own; lemmas that the claim's row rests on.
-/
import Derived.Test.YtlbjhbanfpnogaaDoorProg
import Derived.Below
import Derived.Maps.Own
import Derived.Deep.Draws
import Derived.Deep.AppendLies
import Derived.Maps.AppendAt
import Derived.OwnWalk
import Derived.Laws.BytesArg
import Derived.Laws.MakeOwn
import Derived.Laws.OwnMore
import Derived.Deep.OwnRows
import Derived.Tactics
import Derived.Lib.ConvBytes
import Derived.Laws.Slices
import Derived.WalkKit
import Derived.KernelRfl
import Derived.RowKit3
import Derived.Deep.LoopGhost
import Derived.Deep.QuietTactic
import Derived.BigQuiet
import Derived.WideLaws
import Derived.Deep.DeepCutAuto
import Derived.Deep.CutBlock
import Derived.Deep.RegionHeld3
import Derived.Laws.Rows
import Derived.Lib.AppendStr
import Derived.ArgAppend
import Derived.Laws.IdiomCopy
import Derived.OrdersHeld
import Derived.Laws.BitsLemmas
import Derived.RowKit
import Derived.WalkMore
import Derived.WalkSpells
import Derived.Laws.CopyOwn
import Derived.Lib.Hide
import Derived.OpenShut
import Derived.Handy
import Derived.Lib.LazyBuf
import Derived.Test.YtlbjhbanfpnogaaDoorWWords
import Derived.Test.YtlbjhbanfpnogaaDoorWLast
import Derived.Test.YtlbjhbanfpnogaaDoorWTab
import Derived.Test.YtlbjhbanfpnogaaDoorWFour
import Derived.Test.YtlbjhbanfpnogaaDoorWQPut
import Derived.Test.YtlbjhbanfpnogaaDoorWApart
import Derived.Test.YtlbjhbanfpnogaaDoorWArr
import Derived.Test.YtlbjhbanfpnogaaDoorWZeros
import Derived.Test.YtlbjhbanfpnogaaDoorWFoot
import Derived.Test.YtlbjhbanfpnogaaDoorWKept
import Derived.Test.YtlbjhbanfpnogaaDoorWShare
import Derived.Test.YtlbjhbanfpnogaaDoorWN
import Derived.Test.YtlbjhbanfpnogaaDoorWFootNe
import Derived.Test.YtlbjhbanfpnogaaDoorWAt
import Derived.Test.YtlbjhbanfpnogaaDoorWEqStruct
import Derived.Test.YtlbjhbanfpnogaaDoorWRepsOne
import Derived.Test.YtlbjhbanfpnogaaDoorWNEv
import Derived.Test.YtlbjhbanfpnogaaDoorWMore
import Derived.Maps.OwnSet
import Derived.Maps.OwnIn
import Derived.DeepKeys4
import Derived.Maps.Views
import Derived.RangeFuncNested
import Derived.RangeFuncBound
import Derived.RangeFuncCalls
import Derived.RangeFuncLeaves
import Derived.TacticsInMore
import Derived.LoopNIn
import Derived.LoopIn
import Derived.OwnWalkIn
import Derived.Shelf.RegionOpen
import Derived.Sort.CutIn
import Derived.RangeFuncBox

namespace Go.Proofs.YtlbjhbanfpnogaaDoor.Ob
open Go Go.RowKit Go.Proofs.YtlbjhbanfpnogaaDoorW.PrintWords
/-- All blocks that were there lie as they lay, but those of S. -/
structure Keeps (w w' : World) (S : Nat → Prop) : Prop where
  os : w'.os = w.os
  tape : w'.tape = w.tape
  output : w'.output = w.output
  size : w.heap.size ≤ w'.heap.size
  block : ∀ k, k < w.heap.size → ¬ S k → w'.heap[k]? = w.heap[k]?
section
variable {w w1 w2 : World} {S S1 S2 : Nat → Prop}
theorem Keeps.refl (w : World) (S : Nat → Prop) : Keeps w w S := ⟨rfl, rfl, rfl, Nat.le_refl _, fun _ _ _ => rfl⟩
theorem Keeps.of_below (h : Below w.heap.size w w1) (S : Nat → Prop) : Keeps w w1 S := ⟨h.os, h.tape, h.output, h.size, fun k hk _ => h.block k hk⟩
theorem Keeps.mono (h : Keeps w w1 S) (hs : ∀ k, S k → S1 k) : Keeps w w1 S1 := ⟨h.os, h.tape, h.output, h.size, fun k hk hn => h.block k hk (fun he => hn (hs k he))⟩
theorem Keeps.then_ (h : Keeps w w1 S) (k : Keeps w1 w2 S2) (hs : ∀ i, S2 i → S i ∨ w.heap.size ≤ i) : Keeps w w2 S :=
  ⟨k.os.trans h.os, k.tape.trans h.tape, k.output.trans h.output, Nat.le_trans h.size k.size, fun i hi hn => (k.block i (Nat.lt_of_lt_of_le hi h.size) (fun h2 => (hs i h2).elim hn (fun h3 => by omega))).trans (h.block i hi hn)⟩
theorem Keeps.below (h : Keeps w w1 S) (hb : Below w1.heap.size w1 w2) : Keeps w w2 S := h.then_ (Keeps.of_below hb (fun _ => False)) (fun _ hk => hk.elim)
theorem Keeps.alloc (h : Keeps w w1 S) (o : Obj) : Keeps w (w1.alloc o) S := h.below (below_alloc (Below.refl _ _) o)
theorem Keeps.drew (h : Keeps w w1 S) : Keeps w w1.drew S := ⟨h.os, h.tape, h.output, h.size, h.block⟩
theorem Keeps.drewN (h : Keeps w w1 S) (n : Nat) : Keeps w (w1.drewN n) S := h.below (pw_below_drewN (Below.refl _ _) n)
theorem Keeps.set (h : Keeps w w1 S) {g : Nat} (hp : S g ∨ w.heap.size ≤ g) (i : Nat) (u : Value) : Keeps w (w1.setCell ⟨g, i, none⟩ u) S :=
  ⟨h.os, h.tape, h.output, by simpa [World.setCell] using h.size, fun k hk hn => (Below.heap_setCell w1 ⟨g, i, none⟩ u k (by rintro rfl; exact hp.elim hn (fun h3 => by omega))).trans (h.block k hk hn)⟩
theorem Keeps.grown {row : Option Nat} (h : Keeps w w1 S) (hg : w1.grownBy w2 row) (hr : ∀ k, row = some k → S k ∨ w.heap.size ≤ k) : Keeps w w2 S :=
  ⟨hg.os.trans h.os, hg.tape.trans h.tape, hg.output.trans h.output, Nat.le_trans h.size hg.size, fun i hi hn => (hg.block i (Nat.lt_of_lt_of_le hi h.size) (fun he => (hr i he.symm).elim hn (fun h3 => by omega))).trans (h.block i hi hn)⟩
theorem Keeps.to_below (h : Keeps w w1 S) {B : Nat} (hB : B ≤ w.heap.size) (hs : ∀ k, S k → B ≤ k) : Below B w w1 :=
  ⟨h.os, h.tape, h.output, h.size, fun k hk => h.block k (by omega) (fun h2 => by have := hs k h2; omega)⟩
theorem Keeps.under (h : Keeps w w1 S) {w0 : World} (hb : Below w0.heap.size w0 w) (hs : ∀ k, S k → w0.heap.size ≤ k) : Below w0.heap.size w0 w1 :=
  hb.trans (h.to_below hb.size hs)
/-- Block g alone. -/
def One (g : Nat) : Nat → Prop := fun j => j = g
theorem Keeps.one (w : World) (nd g i : Nat) (u : Value) : Keeps w ((w.drewN nd).setCell ⟨g, i, none⟩ u) (One g) := ((Keeps.refl w (One g)).drewN nd).set (.inl rfl) i u
theorem Keeps.kept (h : Keeps w w1 S) : Kept w w1 S := ⟨h.size, h.block⟩
theorem blk_keeps {g : Nat} {o : Obj} (hb : w.heap[g]? = some o) (h : Keeps w w1 S) (hne : ¬ S g) : w1.heap[g]? = some o := (h.block g (blk_lt hb) hne).trans hb
end
end Go.Proofs.YtlbjhbanfpnogaaDoor.Ob
namespace Go.Proofs.YtlbjhbanfpnogaaDoor.QH
open Go.RowKit Go.Proofs.YtlbjhbanfpnogaaDoorW.PrintWords Go.Proofs.YtlbjhbanfpnogaaDoorW.PrintLast Go.Proofs.YtlbjhbanfpnogaaDoorW.PrintMore
attribute [local go_sem] max2_int min2_int max_two min_two max_three min_three max_four min_four
set_option linter.unusedVariables false
set_option linter.unusedSimpArgs false
/-- The lengths of all bytes' codes, and the end's; the codes. -/
def lensN : List Nat := [13, 23, 28, 28, 28, 28, 28, 28, 28, 24, 30, 28, 28, 30, 28, 28, 28, 28, 28, 28, 28, 28, 30, 28, 28, 28, 28, 28, 28, 28, 28, 28, 6, 10, 10, 12, 13, 6, 8, 11, 10, 10, 8, 11, 8, 6, 6, 6, 5, 5, 5, 6, 6, 6, 6, 6, 6, 6, 7, 8, 15, 6, 12, 10, 13, 6, 7, 7, 7, 7, 7, 7, 7, 7, 7, 7, 7, 7, 7, 7, 7, 7, 7, 7, 7, 7, 7, 7, 8, 7, 8, 13, 19, 13, 14, 6, 15, 5, 6, 5, 6, 5, 6, 6, 6, 5, 7, 7, 6, 6, 6, 5, 6, 7, 6, 5, 5, 6, 7, 7, 7, 7, 7, 15, 11, 14, 13, 28, 20, 22, 20, 20, 22, 22, 22, 23, 22, 23, 23, 23, 23, 23, 24, 23, 24, 24, 22, 23, 24, 23, 23, 23, 23, 21, 22, 23, 22, 23, 23, 24, 22, 21, 20, 22, 22, 23, 23, 21, 23, 22, 22, 24, 21, 22, 23, 23, 21, 21, 22, 21, 23, 22, 23, 23, 20, 22, 22, 22, 23, 22, 22, 23, 26, 26, 20, 19, 22, 23, 22, 25, 26, 26, 26, 27, 27, 26, 24, 25, 19, 21, 26, 27, 27, 26, 27, 24, 21, 21, 26, 26, 28, 27, 27, 27, 20, 24, 20, 21, 22, 21, 21, 23, 22, 22, 25, 25, 24, 24, 26, 23, 26, 27, 26, 26, 27, 27, 27, 27, 27, 28, 27, 27, 27, 27, 27, 26, 30]
def codesN : List Nat := [8184, 8388568, 268435426, 268435427, 268435428, 268435429, 268435430, 268435431, 268435432, 16777194, 1073741820, 268435433, 268435434, 1073741821, 268435435, 268435436, 268435437, 268435438, 268435439, 268435440, 268435441, 268435442, 1073741822, 268435443, 268435444, 268435445, 268435446, 268435447, 268435448, 268435449, 268435450, 268435451, 20, 1016, 1017, 4090, 8185, 21, 248, 2042, 1018, 1019, 249, 2043, 250, 22, 23, 24, 0, 1, 2, 25, 26, 27, 28, 29, 30, 31, 92, 251, 32764, 32, 4091, 1020, 8186, 33, 93, 94, 95, 96, 97, 98, 99, 100, 101, 102, 103, 104, 105, 106, 107, 108, 109, 110, 111, 112, 113, 114, 252, 115, 253, 8187, 524272, 8188, 16380, 34, 32765, 3, 35, 4, 36, 5, 37, 38, 39, 6, 116, 117, 40, 41, 42, 7, 43, 118, 44, 8, 9, 45, 119, 120, 121, 122, 123, 32766, 2044, 16381, 8189, 268435452, 1048550, 4194258, 1048551, 1048552, 4194259, 4194260, 4194261, 8388569, 4194262, 8388570, 8388571, 8388572, 8388573, 8388574, 16777195, 8388575, 16777196, 16777197, 4194263, 8388576, 16777198, 8388577, 8388578, 8388579, 8388580, 2097116, 4194264, 8388581, 4194265, 8388582, 8388583, 16777199, 4194266, 2097117, 1048553, 4194267, 4194268, 8388584, 8388585, 2097118, 8388586, 4194269, 4194270, 16777200, 2097119, 4194271, 8388587, 8388588, 2097120, 2097121, 4194272, 2097122, 8388589, 4194273, 8388590, 8388591, 1048554, 4194274, 4194275, 4194276, 8388592, 4194277, 4194278, 8388593, 67108832, 67108833, 1048555, 524273, 4194279, 8388594, 4194280, 33554412, 67108834, 67108835, 67108836, 134217694, 134217695, 67108837, 16777201, 33554413, 524274, 2097123, 67108838, 134217696, 134217697, 67108839, 134217698, 16777202, 2097124, 2097125, 67108840, 67108841, 268435453, 134217699, 134217700, 134217701, 1048556, 16777203, 1048557, 2097126, 4194281, 2097127, 2097128, 8388595, 4194282, 4194283, 33554414, 33554415, 16777204, 16777205, 67108842, 8388596, 67108843, 134217702, 67108844, 67108845, 134217703, 134217704, 134217705, 134217706, 134217707, 268435454, 134217708, 134217709, 134217710, 134217711, 134217712, 67108846, 1073741823]
theorem lensN_len : lensN.length = 257 := by kernel_rfl
theorem codesN_len : codesN.length = 257 := by kernel_rfl
def lensV : Array Value := (lensN.map fun x : Nat => Value.int .i64 (x : Int)).toArray
def codesV : Array Value := (codesN.map fun x : Nat => Value.int .i64 (x : Int)).toArray
def zerosV : Array Value := Array.replicate 257 (Value.int .i64 0)
def ln (c : Nat) : Nat := lensN.getD c 0
def cd (c : Nat) : Nat := codesN.getD c 0
theorem lensV_size : lensV.size = 257 := by kernel_rfl
theorem codesV_size : codesV.size = 257 := by kernel_rfl
theorem lensV_get (c : Nat) (h : c < 257) : lensV[c]? = some (.int .i64 (ln c : Int)) := by
  have hl := lensN_len
  simp [lensV, ln, List.getElem?_eq_getElem (show c < lensN.length by omega)]
theorem codesV_get (c : Nat) (h : c < 257) : codesV[c]? = some (.int .i64 (cd c : Int)) := by
  have hl := codesN_len
  simp [codesV, cd, List.getElem?_eq_getElem (show c < codesN.length by omega)]
/-- The package-level variable that the laws of package huff read holds what the program's text lays. -/
structure GB (w : World) : Prop where
  lens : ∃ t fr, w.heap[0]? = some (.cells lensV t fr)
theorem GB.below {w w' : World} (h : GB w) (hb : Below w.heap.size w w') : GB w' := by
  obtain ⟨t, fr, h0⟩ := h.lens
  exact ⟨t, fr, (hb.block 0 (Array.getElem?_eq_some_iff.1 h0).1).trans h0⟩
theorem GB.alloc {w : World} (h : GB w) (o : Obj) : GB (w.alloc o) := h.below ((Below.refl _ _).alloc (Nat.le_refl _) _)
theorem GB.drewN {w : World} (h : GB w) (n : Nat) : GB (w.drewN n) := h.below (pw_below_drewN (Below.refl _ _) n)
theorem GB.drew {w : World} (h : GB w) : GB w.drew := h.below (Below.refl _ _).drew
theorem GB.cell {w : World} (h : GB w) (c : Nat) (hc : c < 257) : w.cell? ⟨0, c, none⟩ = some (.int .i64 (ln c : Int)) := by
  obtain ⟨t, fr, h0⟩ := h.lens
  rw [cell_of_row w 0 c _ t fr h0, lensV_get c hc]
theorem GB.size {w : World} (h : GB w) : 0 < w.heap.size := by
  obtain ⟨t, fr, h0⟩ := h.lens
  exact (Array.getElem?_eq_some_iff.1 h0).1
/-- The next code, when all bytes below c of the length n have theirs. -/
def baseN : List Nat := [0, 0, 0, 0, 0, 0, 20, 92, 248, 508, 1016, 2042, 4090, 8184, 16380, 32764, 65534, 131068, 262136, 524272, 1048550, 2097116, 4194258, 8388568, 16777194, 33554412, 67108832, 134217694, 268435426, 536870910, 1073741820, 2147483648]
def nxN (n c : Nat) : Nat := baseN.getD n 0 + ((lensN.take c).filter (fun x => x == n)).length
def outN (n c i : Nat) : Nat := if ln i < n ∨ (ln i = n ∧ i < c) then cd i else 0
def outV (n c : Nat) : Array Value := ((List.range 257).map fun i => Value.int .i64 (outN n c i : Int)).toArray
theorem tabA : ((List.range 257).all fun c => cd c == nxN (ln c) c && decide (ln c ≤ 30) && decide (5 ≤ ln c)) = true := by decide +kernel
theorem tabB : ((List.range 31).all fun n => nxN (n + 1) 0 == 2 * nxN n 257 && decide (nxN n 257 ≤ 1073741824)) = true := by decide +kernel
theorem cd_nx (c : Nat) (h : c < 257) : cd c = nxN (ln c) c := by
  have h1 := List.all_eq_true.1 tabA c (List.mem_range.2 h)
  simp only [Bool.and_eq_true, beq_iff_eq, decide_eq_true_eq] at h1
  exact h1.1.1
theorem ln_le (c : Nat) (h : c < 257) : 5 ≤ ln c ∧ ln c ≤ 30 := by
  have h1 := List.all_eq_true.1 tabA c (List.mem_range.2 h)
  simp only [Bool.and_eq_true, beq_iff_eq, decide_eq_true_eq] at h1
  exact ⟨h1.2, h1.1.2⟩
theorem nx_next (n : Nat) (h : n < 31) : nxN (n + 1) 0 = 2 * nxN n 257 ∧ nxN n 257 ≤ 1073741824 := by
  have h1 := List.all_eq_true.1 tabB n (List.mem_range.2 h)
  simp only [Bool.and_eq_true, beq_iff_eq, decide_eq_true_eq] at h1
  exact h1
theorem cnt_step (L : List Nat) (n c : Nat) (h : c < L.length) : ((L.take (c + 1)).filter (fun x => x == n)).length = ((L.take c).filter (fun x => x == n)).length + (if L.getD c 0 = n then 1 else 0) := by
  rw [List.take_succ_eq_append_getElem h, List.filter_append, List.length_append]
  have e : L.getD c 0 = L[c] := by simp [List.getElem?_eq_getElem h]
  rw [e]
  by_cases hn : L[c] = n
  · simp [hn]
  · simp [hn]
theorem cnt_mono (L : List Nat) (n c m : Nat) (h : c ≤ m) : ((L.take c).filter (fun x => x == n)).length ≤ ((L.take m).filter (fun x => x == n)).length := by
  have e : L.take m = L.take c ++ (L.take m).drop c := by
    have h1 := List.take_append_drop c (L.take m)
    rw [List.take_take, Nat.min_eq_left h] at h1
    exact h1.symm
  rw [e, List.filter_append, List.length_append]
  exact Nat.le_add_right _ _
theorem nx_step (n c : Nat) (h : c < 257) : nxN n (c + 1) = nxN n c + (if ln c = n then 1 else 0) := by
  have hl := lensN_len
  unfold nxN ln
  rw [cnt_step lensN n c (by omega), Nat.add_assoc]
theorem nx_mono (n c : Nat) (h : c ≤ 257) : nxN n c ≤ nxN n 257 := Nat.add_le_add_left (cnt_mono lensN n c 257 h) _
theorem outV_size (n c : Nat) : (outV n c).size = 257 := by simp [outV]
theorem outV_get (n c i : Nat) (h : i < 257) : (outV n c)[i]? = some (.int .i64 (outN n c i : Int)) := by
  simp [outV, h]
theorem outV_ext {n c n' c' : Nat} (h : ∀ i, i < 257 → outN n c i = outN n' c' i) : outV n c = outV n' c' := by
  unfold outV
  congr 1
  refine List.map_congr_left (fun i hi => ?_)
  rw [h i (List.mem_range.1 hi)]
theorem outV_skip (n c : Nat) (h : ¬ ln c = n) : outV n (c + 1) = outV n c := outV_ext fun i hi => by
  unfold outN
  by_cases hic : i = c
  · subst hic
    simp [h]
  · have : (i < c + 1) ↔ (i < c) := by omega
    simp [this]
theorem outV_put (n c : Nat) (hc : c < 257) (h : ln c = n) : (outV n c).setIfInBounds c (.int .i64 (cd c : Int)) = outV n (c + 1) := by
  apply Array.ext_getElem?
  intro i
  by_cases hi : i < 257
  · rw [outV_get n (c + 1) i hi]
    by_cases hic : c = i
    · subst hic
      rw [Array.getElem?_setIfInBounds_self_of_lt (by rw [outV_size]; exact hc)]
      simp [outN, h]
    · rw [Array.getElem?_setIfInBounds_ne hic, outV_get n c i hi]
      unfold outN
      have : (i < c + 1) ↔ (i < c) := by omega
      simp [this]
  · rw [Array.getElem?_eq_none (by rw [Array.size_setIfInBounds, outV_size]; omega), Array.getElem?_eq_none (by rw [outV_size]; omega)]
theorem outV_next (n : Nat) : outV (n + 1) 0 = outV n 257 := outV_ext fun i hi => by
  unfold outN
  have : (ln i < n + 1) ↔ (ln i < n ∨ ln i = n) := by omega
  simp [this, hi]
theorem outV_eq (n c : Nat) (cs : Array Value) (hs : cs.size = 257) (h : ∀ i, i < 257 → cs[i]? = some (.int .i64 (outN n c i : Int))) : outV n c = cs := by
  apply Array.ext_getElem?
  intro i
  by_cases hi : i < 257
  · rw [outV_get n c i hi, h i hi]
  · rw [Array.getElem?_eq_none (by rw [outV_size]; omega), Array.getElem?_eq_none (by omega)]
theorem outV_start : outV 0 0 = zerosV := outV_eq 0 0 _ (by unfold zerosV; exact Array.size_replicate) (fun i hi => by
  unfold zerosV outN
  rw [Array.getElem?_replicate, if_pos hi, if_neg (by omega)]
  rfl)
theorem outV_end : outV 31 0 = codesV := outV_eq 31 0 _ codesV_size (fun i hi => by
  have h1 := ln_le i hi
  rw [codesV_get i hi]
  unfold outN
  rw [if_pos (by omega)])
theorem hinfo57 : (Tryd.prog.info? 57).map (·.size) = some 257 := by kernel_rfl
theorem info3s : (Tryd.prog.info? 3).map (·.size) = some 1 := by kernel_rfl
theorem agg3 (w : World) : (isAgg 3).run Tryd.prog w = .ok false w := by kernel_rfl
theorem zero57 (w : World) : (zeroValue 57).run Tryd.prog w = .ok (.agg zerosV) w := by kernel_rfl
theorem index_arr (w : World) (cs : Array Value) (v : Value) (i : Int) (k : IntKind) (h0 : 0 ≤ i) (h1 : i < 257) (hv : cs[i.toNat]? = some v) : (Instr.index 57 (.agg cs) (.int k i)).run Tryd.prog w = .ok v w := by
  have ht := Tryd.underlying57
  have hag := agg3
  obtain ⟨q, hq, hq1⟩ := Option.map_eq_some_iff.1 info3s
  unfold Instr.index
  simp [Sem.run_bind, asIntOf, run_underlying ht, h0, h1, part, hag, sizeOf, typeInfo, hq, hq1, hv]
/-- Where codes stands: the result's block, the codes' block. -/
def CdS (w : World) (cs : Array Value) (W : World) : Prop := W.heap[w.heap.size + 1]? = some (.cells cs 57 (0, 0)) ∧ W.heap[w.heap.size]? = some (.cells zerosV 57 (0, 0)) ∧ Below w.heap.size w W
theorem CdS.set {w W : World} {cs : Array Value} (h : CdS w cs W) (c : Nat) (v : Value) : CdS w (cs.setIfInBounds c v) (W.setCell ⟨w.heap.size + 1, c, none⟩ v) :=
  ⟨blk_set h.1 c v, blk_far h.2.1 (p := ⟨w.heap.size + 1, c, none⟩) (by simp) v, h.2.2.setCell (p := ⟨w.heap.size + 1, c, none⟩) (by simp) v⟩
set_option maxHeartbeats 4000000 in
set_option maxRecDepth 100000 in
theorem huff_codes.is (w : World) (hG : GB w) : Calls Tryd.prog 38 #[] w fun e w' => e = .returned (.agg codesV) ∧ Below w.heap.size w w' := by
  have HG := Aside0.mk hG
  clear hG
  have hz : ∀ W : World, (zeroValue 57).run Tryd.prog W = .ok (.agg zerosV) W := zero57
  have hu57 := Tryd.underlying57
  go_enter Tryd.func38, Tryd.ntmps38
  go_wp2
  have HS : Aside0 (CdS w (outV 0 0) ((w.alloc (.cells zerosV 57)).alloc (.cells zerosV 57))) := ⟨by rw [outV_start]; exact ⟨by have := blk_new (w.alloc (.cells zerosV 57)) (.cells zerosV 57); rwa [World.size_alloc] at this, blk_below (blk_new w _) (below_alloc (Below.refl _ _) _), below_alloc (below_alloc (Below.refl _ _) _) _⟩⟩
  go_loopg [2, 6] 32 (fun kq v2 v6 w' => ∃ n : Nat, v2 = .int .i64 (nxN n 0 : Int) ∧ v6 = .int .i64 (n : Int) ∧ Aside0 (n + kq = 32 ∧ n ≤ 31) ∧ Aside0 (CdS w (outV n 0) w'))
  case atStart => exact ⟨0, rfl, rfl, ⟨by omega⟩, HS⟩
  case round =>
    clear HS
    obtain ⟨n, rfl, rfl, HK, HS⟩ := hrel
    by_cases cn : n < 31
    · have cnb : decide ((n : Int) < 31) = true := decide_eq_true (by omega)
      have HN := Aside0.mk cn
      obtain ⟨k1, hk1⟩ : ∃ j, gk = j + 1 := ⟨gk - 1, by have := HK.out; omega⟩
      subst hk1
      obtain ⟨t0, fr0, hb0⟩ := (HG.out.below HS.out.2.2).lens
      clear cn
      go_wp2_with (first | go_step3 | ((with_reducible refine gate_dst (N := 9) rfl ?_); refine wpList_load_row rfl 57 (.global 0) rfl 0 rfl t0 lensV fr0 _ hb0 hu57 rfl (hinfo57.trans (by rw [lensV_size])) ?_))
      clear hb0
      obtain ⟨wo, rfl⟩ : ∃ wo : World, wo = wr := ⟨_, rfl⟩
      go_loopg [2, 10] 258 (fun kq v2 v10 w' => ∃ c : Nat, v2 = .int .i64 (nxN n c : Int) ∧ v10 = .int .i64 (c : Int) ∧ Aside0 (c + kq = 258 ∧ c ≤ 257) ∧ Aside0 (CdS w (outV n c) w'))
      case atStart => exact ⟨0, rfl, rfl, ⟨by omega⟩, HS⟩
      case round =>
        clear HS
        obtain ⟨c, rfl, rfl, HC, HS⟩ := hrel
        by_cases cc : c < 257
        · have ccb : decide ((c : Int) < 257) = true := decide_eq_true (by omega)
          obtain ⟨k2, hk2⟩ : ∃ j, gk = j + 1 := ⟨gk - 1, by have := HC.out; omega⟩
          subst hk2
          have hix : ∀ W, (Instr.index 57 (.agg lensV) (.int .i64 (c : Int))).run Tryd.prog W = .ok (.int .i64 (ln c : Int)) W := fun W => index_arr W lensV _ c .i64 (by omega) (by omega) (by rw [Int.toNat_natCast]; exact lensV_get c cc)
          have hnx := nx_step n c cc
          have hcd := cd_nx c cc
          have hle := Nat.le_trans (nx_mono n c (by omega)) (nx_next n HN.out).2
          have hcl := (blk_cell HS.out.1 c).trans (outV_get n c c cc)
          have hfr := blk_frozen HS.out.1 c
          have HCC := Aside0.mk cc
          have hw1 : wrap64 ((c : Int) + 1) = (c : Int) + 1 := by unfold wrap64; omega
          have HW1 := Aside0.mk hw1
          have hc0 : (0 : Int) ≤ (c : Int) := by omega
          have hc1 : (c : Int) < 257 := by omega
          clear cc hw1
          by_cases hl : ln c = n
          · rw [if_pos hl] at hnx
            have HP := Aside0.mk (outV_put n c HCC.out hl)
            rw [hl] at hcd hix
            rw [hcd] at HP
            generalize nxN n c = x at *
            have HNX := Aside0.mk hnx
            have hw2 : wrap64 ((x : Int) + 1) = (x : Int) + 1 := by unfold wrap64; omega
            have HW2 := Aside0.mk hw2
            have hne : ((n : Int) != (n : Int)) = false := by simp
            clear hl hcd hnx hw2
            go_wp2
            go_roundg k2
            case measure => omega
            case rel => exact ⟨c + 1, (by rw [HNX.out]; first | rfl | (rw [HW2.out]; rfl)), (by first | rfl | (rw [HW1.out]; rfl)), ⟨by have := HC.out; have := HCC.out; omega⟩, ⟨by rw [← HP.out]; exact HS.out.set c _⟩⟩
          · rw [if_neg hl] at hnx
            have HP := Aside0.mk (outV_skip n c hl)
            have HNX := Aside0.mk hnx
            obtain ⟨m, hm⟩ : ∃ m, ln c = m := ⟨_, rfl⟩
            rw [hm] at hl hix
            have hne : ((m : Int) != (n : Int)) = true := bne_iff_ne.mpr (by omega)
            have hne2 : ((m : Int) == (n : Int)) = false := beq_eq_false_iff_ne.mpr (by omega)
            clear hl hm hnx hcd
            go_wp2
            go_roundg k2
            case measure => omega
            case rel => exact ⟨c + 1, (by rw [HNX.out]; rfl), (by first | rfl | (rw [HW1.out]; rfl)), ⟨by have := HC.out; have := HCC.out; omega⟩, ⟨by rw [HP.out]; exact HS.out⟩⟩
        · have ccb : decide ((c : Int) < 257) = false := decide_eq_false (by omega)
          obtain rfl : c = 257 := by have := HC.out; omega
          have hnx := nx_next n HN.out
          have HNX := Aside0.mk hnx.1
          have hle := hnx.2
          have hnle := HN.out
          have hn0 : (0 : Int) ≤ (n : Int) := by omega
          generalize nxN n 257 = x at *
          clear hnx cc
          go_wp2
          rw [Exit.noGoto_normal]
          go_wp2
          go_roundg k1
          case measure => omega
          case rel => exact ⟨n + 1, (by rw [HNX.out]; first | rfl | (rw [Int.natCast_mul, Int.mul_comm]; rfl)), (by rfl), ⟨by have := HK.out; have := HN.out; omega⟩, ⟨by rw [outV_next]; exact HS.out⟩⟩
    · have cnb : decide ((n : Int) < 31) = false := decide_eq_false (by omega)
      obtain rfl : n = 31 := by have := HK.out; omega
      have h31 := HS.out
      rw [outV_end] at h31
      obtain ⟨hb1, hb2, hb3⟩ := h31
      have HB1 := Aside0.mk hb1
      have HB2 := Aside0.mk hb2
      have HB3 := Aside0.mk hb3
      clear hb1 hb2 hb3 cn
      go_wp2_with (first | ((with_reducible refine gate_dst (N := 26) rfl ?_); refine wpList_load_row rfl 57 (.tmp 1) rfl (w.heap.size + 1) rfl 57 codesV (0, 0) _ HB1.out hu57 rfl (hinfo57.trans (by rw [codesV_size])) ?_) | (refine wpList_store_row rfl 57 (.tmp 0) (.tmp 26) rfl w.heap.size codesV rfl rfl 57 zerosV HB2.out (hinfo57.trans (by rw [codesV_size])) (by rw [codesV_size]; exact Array.size_replicate) (by kernel_rfl) ?_))
      refine bodyPost_ret (results_cell_row rfl _ _ w.heap.size 57 codesV (0, 0) _ rfl (setRow_heap _ _ _ _ _ _ HB2.out) hu57 rfl (hinfo57.trans (by rw [codesV_size]))) rfl ?_
      exact ⟨rfl, below_setRow HB3.out (Nat.le_refl _) _⟩
end Go.Proofs.YtlbjhbanfpnogaaDoor.QH
namespace Go.Proofs.YtlbjhbanfpnogaaDoor.QH
open Go.RowKit Go.Proofs.YtlbjhbanfpnogaaDoorW.PrintWords Go.Proofs.YtlbjhbanfpnogaaDoorW.PrintLast Go.Proofs.YtlbjhbanfpnogaaDoorW.PrintMore
attribute [local go_sem] max2_int min2_int max_two min_two max_three min_three max_four min_four
set_option linter.unusedVariables false
set_option linter.unusedSimpArgs false
theorem hinfo5 : (Tryd.prog.info? 5).map (fun i => (i.zero, i.size, i.bytes)) = some (some (.int .u8 0), 1, 1) := by kernel_rfl
/-- What the bits held become, byte by byte: out, held, how many. -/
def encI : Nat → List Int → Nat → Nat → List Int × Nat × Nat
  | 0, out, held, n => (out, held, n)
  | k + 1, out, held, n => if 8 ≤ n then encI k (out ++ [((held / 2 ^ (n - 8) : Nat) : Int)]) (held % 2 ^ (n - 8)) (n - 8) else (out, held, n)
def encO : List Int → List Int → Nat → Nat → List Int
  | [], out, held, n => if 0 < n then out ++ [((held * 2 ^ (8 - n) + (2 ^ (8 - n) - 1) : Nat) : Int)] else out
  | c :: b, out, held, n => encO b (encI 5 out (held * 2 ^ ln c.toNat + cd c.toNat) (n + ln c.toNat)).1 (encI 5 out (held * 2 ^ ln c.toNat + cd c.toNat) (n + ln c.toNat)).2.1 (encI 5 out (held * 2 ^ ln c.toNat + cd c.toNat) (n + ln c.toNat)).2.2
def bytesB (b : List Int) : Bool := decide (b.length ≤ 1000000) && b.all (fun x => decide (0 ≤ x ∧ x < 256))
def huff_Encode.f (b : List Int) : Option (List Int) := if bytesB b = true then some (encO b [] 0 0) else none
theorem tabC : ((List.range 257).all fun c => decide (cd c < 2 ^ ln c)) = true := by decide +kernel
theorem cd_lt (c : Nat) (h : c < 257) : cd c < 2 ^ ln c := by
  have h1 := List.all_eq_true.1 tabC c (List.mem_range.2 h)
  exact of_decide_eq_true h1
theorem bytes_at {b : List Int} (h : bytesB b = true) (i : Nat) (hi : i < b.length) : 0 ≤ rd b i ∧ rd b i < 256 := by
  unfold bytesB at h
  rw [Bool.and_eq_true] at h
  have e : rd b (i : Int) = b[i] := by simp [rd, hi]
  rw [e]
  exact of_decide_eq_true (List.all_eq_true.1 h.2 _ (List.getElem_mem hi))
theorem wraps_i64' (m : Int) (h0 : 0 ≤ m) (h1 : m < 2 ^ 62) : IntKind.i64.wrap m = m := by
  have h2 : (2 : Int) ^ 62 = 4611686018427387904 := by decide +kernel
  rw [h2] at h1
  rw [IntKind.wrap_i64]; omega
theorem or_join (L : Nat) (x C : Nat) (hx : x < 2 ^ 38) (hc : C < 2 ^ L) (hc2 : C < 2 ^ 38) (hm : x % 2 ^ L = 0) : bits .or .i64 (x : Int) (C : Int) = ((x + C : Nat) : Int) := by
  have h2 : (2 : Int) ^ 62 = 4611686018427387904 := by decide +kernel
  have h3 : (2 : Nat) ^ 38 = 274877906944 := by decide +kernel
  rw [h3] at hx hc2
  have a1 : (x : Int) % 2 ^ L = 0 := by
    have h := congrArg (fun z : Nat => (z : Int)) hm
    simpa using h
  have a2 : (C : Int) < 2 ^ L := by
    have h := Int.ofNat_lt.2 hc
    simpa using h
  have a3 : (x : Int) < 2 ^ 62 := by rw [h2]; omega
  have a4 : (C : Int) < 2 ^ 62 := by rw [h2]; omega
  rw [bits_join .i64 62 (by decide) wraps_i64' L (x : Int) (C : Int) (Int.natCast_nonneg _) a1 a3 (Int.natCast_nonneg _) a2 a4]
  simp
theorem and_mask (M H : Nat) (hM : M ≤ 32) (hH : H < 2 ^ 40) : bits .and .i64 (H : Int) (wrap64 (wrap64 (2 ^ M) - 1)) = ((H % 2 ^ M : Nat) : Int) := by
  have h2 : (2 : Int) ^ 62 = 4611686018427387904 := by decide +kernel
  have h3 : (2 : Nat) ^ 40 = 1099511627776 := by decide +kernel
  have h4 : (2 : Nat) ^ 32 = 4294967296 := by decide +kernel
  have h5 : 2 ^ M ≤ 2 ^ 32 := Nat.pow_le_pow_right (by decide) hM
  have h6 := Nat.two_pow_pos M
  rw [h4] at h5
  rw [h3] at hH
  have h7 : ((2 : Int) ^ M) = ((2 ^ M : Nat) : Int) := by simp
  have h8 : wrap64 ((2 : Int) ^ M) = (2 : Int) ^ M := by rw [h7]; unfold wrap64; omega
  have h9 : wrap64 ((2 : Int) ^ M - 1) = (2 : Int) ^ M - 1 := by rw [h7]; unfold wrap64; omega
  rw [h8, h9, bits_mask .i64 62 (by decide) wraps_i64' M (by omega) (H : Int) (by omega) (by rw [h2]; omega)]
  simp
theorem pad_core (m X y : Nat) (hX : 2 ^ m = X) (h0 : 0 < X) (h1 : y + X ≤ 256) (hy : y % X = 0) : bits .or .i64 (wrap64 (y : Int)) (wrap64 (wrap64 (X : Int) - 1)) % 256 = ((y + (X - 1) : Nat) : Int) := by
  have h38 : (2 : Nat) ^ 38 = 274877906944 := by decide +kernel
  have h4 : wrap64 (y : Int) = (y : Int) := by unfold wrap64; omega
  have h6 : wrap64 (X : Int) = (X : Int) := by unfold wrap64; omega
  have h7 : wrap64 ((X : Int) - 1) = ((X - 1 : Nat) : Int) := by unfold wrap64; omega
  rw [h4, h6, h7, or_join m y (X - 1) (by rw [h38]; omega) (by rw [hX]; omega) (by rw [h38]; omega) (by rw [hX]; exact hy)]
  omega
theorem pad_step {held n m p : Nat} (hn : n < 8) (hm : m = 8 - n) (hh : held < 2 ^ n) (hp : p = held * 2 ^ m + (2 ^ m - 1)) : bits .or .i64 (wrap64 ((held : Int) * 2 ^ m)) (wrap64 (wrap64 (2 ^ m) - 1)) % 256 = (p : Int) := by
  have h0 := Nat.two_pow_pos m
  have h1 : 2 ^ n * 2 ^ m = 256 := by rw [← Nat.pow_add, show n + m = 8 by omega]
  have h2 : held * 2 ^ m + 2 ^ m ≤ 2 ^ n * 2 ^ m := by have := Nat.mul_le_mul_right (2 ^ m) (show held + 1 ≤ 2 ^ n by omega); rw [Nat.succ_mul] at this; exact this
  have h3 : ((held : Int) * 2 ^ m) = ((held * 2 ^ m : Nat) : Int) := by simp
  have h5 : ((2 : Int) ^ m) = ((2 ^ m : Nat) : Int) := by simp
  rw [h1] at h2
  rw [h3, h5, hp]
  exact pad_core m (2 ^ m) (held * 2 ^ m) rfl h0 h2 (Nat.mul_mod_left _ _)
theorem held_step {held n L C : Nat} (hn : n < 8) (hL : L ≤ 30) (hh : held < 2 ^ n) (hc : C < 2 ^ L) : bits .or .i64 (wrap64 ((held : Int) * 2 ^ L)) (C : Int) = ((held * 2 ^ L + C : Nat) : Int) ∧ held * 2 ^ L + C < 2 ^ (n + L) := by
  have hpow : 2 ^ n * 2 ^ L ≤ 2 ^ 37 := by rw [← Nat.pow_add]; exact Nat.pow_le_pow_right (by decide) (by omega)
  have hpl : held * 2 ^ L + 2 ^ L ≤ 2 ^ n * 2 ^ L := by have := Nat.mul_le_mul_right (2 ^ L) (show held + 1 ≤ 2 ^ n by omega); rw [Nat.succ_mul] at this; exact this
  refine ⟨?_, by rw [Nat.pow_add]; omega⟩
  have h1 : ((held : Int) * 2 ^ L) = ((held * 2 ^ L : Nat) : Int) := by simp
  have hpp : 0 < 2 ^ L := Nat.two_pow_pos L
  have h37 : (2 : Nat) ^ 37 = 137438953472 := by decide +kernel
  have h38 : (2 : Nat) ^ 38 = 274877906944 := by decide +kernel
  rw [h37] at hpow
  have h2 : wrap64 ((held * 2 ^ L : Nat) : Int) = ((held * 2 ^ L : Nat) : Int) := by unfold wrap64; omega
  rw [h1, h2]
  exact or_join L (held * 2 ^ L) C (by rw [h38]; omega) hc (by rw [h38]; omega) (Nat.mul_mod_left _ _)
theorem own_apart {W : World} {v v1 : Value} {cb : Nat} (hat : v1.ownBlock = v.ownBlock ∨ ∃ b, v1.ownBlock = some b ∧ W.heap.size ≤ b) (h : v.ownBlock ≠ some cb) (hc : cb < W.heap.size) : v1.ownBlock ≠ some cb := by
  rcases hat with e | ⟨b, e, hb⟩
  · rw [e]; exact h
  · rw [e]; intro h1; cases h1; omega
set_option maxHeartbeats 4000000 in
set_option maxRecDepth 100000 in
theorem huff_Encode.calls (A0 : Option Addr) (c0 : Nat) (l0 : List Int) (r : List Int) (w : World) (hG : GB w) (hr0 : Kd.C (Kd.int .u8) w A0 l0.length l0) (hc0 : l0.length ≤ c0) (h : huff_Encode.f l0 = some r) :
    Calls Tryd.prog 16 #[.slice A0 l0.length c0] w fun e w' => ∃ v0_ : Value, e = .returned (v0_) ∧ Kd.R (Kd.int .u8) 5 w' w.heap.size (fun _ => True) v0_ r ∧ Below w.heap.size w w' := by
  unfold huff_Encode.f at h
  by_cases hb : bytesB l0 = true
  · rw [if_pos hb] at h
    have h := Option.some.inj h
    have HE := Aside0.mk h
    have HY := Aside0.mk hb
    have HL : Aside0 (l0.length ≤ 1000000) := ⟨by unfold bytesB at hb; rw [Bool.and_eq_true] at hb; exact of_decide_eq_true hb.1⟩
    have HG := Aside0.mk hG
    have HR := Aside0.mk hr0
    clear h hb hr0 hG
    have hu57 := Tryd.underlying57
    have hz : ∀ W : World, (zeroValue 57).run Tryd.prog W = .ok (.agg zerosV) W := zero57
    go_enter Tryd.func16, Tryd.ntmps16
    go_wp2_with (first | (go_at_call 38; refine (huff_codes.is _ HG.out).mono ?_; rintro e_ w1 ⟨rfl, hb1⟩; have HB1 := Aside0.mk hb1; have hz1 := blk_new w1 (.cells zerosV 57); have HZ1 := Aside0.mk hz1; clear hb1 hz1) | (refine wpList_store_row rfl 57 (.tmp 3) (.tmp 9) rfl w1.heap.size codesV rfl rfl 57 zerosV HZ1.out (hinfo57.trans (by rw [codesV_size])) (by rw [codesV_size]; exact Array.size_replicate) (by kernel_rfl) ?_; have HX1 := Aside0.mk (setRow_heap _ _ _ codesV _ _ HZ1.out); have HB2 := Aside0.mk (below_setRow (below_alloc HB1.out (.cells zerosV 57)) HB1.out.size codesV); clear HB1 HZ1; generalize (w1.alloc (.cells zerosV 57)).setRow w1.heap.size codesV = w2 at *; generalize w1.heap.size = cb at *))
    go_loopg [4, 5, 6, 12] (l0.length + 1) (fun kq v4 v5 v6 v12 w' => ∃ (j : Nat) (out : List Int) (held n : Nat), v5 = .int .i64 (held : Int) ∧ v6 = .int .i64 (n : Int) ∧ v12 = .int .i64 (j : Int) ∧ Aside0 (j + kq = l0.length + 1 ∧ j ≤ l0.length ∧ out.length ≤ 4 * j ∧ n < 8 ∧ held < 2 ^ n) ∧ Aside0 (encO (l0.drop j) out held n = r) ∧ Aside0 (Kd.R (Kd.int .u8) 5 w' w.heap.size (fun _ => True) v4 out ∧ Below w.heap.size w w' ∧ w'.heap[cb]? = some (.cells codesV 57 (0, 0)) ∧ v4.ownBlock ≠ some cb))
    case atStart => exact ⟨0, [], 0, 0, rfl, rfl, rfl, ⟨by simp⟩, HE, ⟨Kd.R_nil _ _ _ _ _, HB2.out, HX1.out, by simp [Value.ownBlock]⟩⟩
    case round =>
      clear HE HB2 HX1
      obtain ⟨j, out, held, n, rfl, rfl, rfl, HK, HE, HS⟩ := hrel
      by_cases cj : j < l0.length
      · obtain ⟨k1, hk1⟩ : ∃ q, gk = q + 1 := ⟨gk - 1, by have := HK.out; omega⟩
        subst hk1
        have cjb : decide ((j : Int) < (l0.length : Int)) = true := decide_eq_true (by omega)
        have cjn : decide (j < l0.length) = true := decide_eq_true cj
        obtain ⟨ad, e0, hx0⟩ := Kd.at_int HR.out (j : Int) (by omega) (by omega)
        subst e0
        rw [Int.toNat_natCast] at hx0
        have hx1 := (HS.out.2.1.cell (World.block_lt_of_cell? w _ hx0)).trans hx0
        have hy := bytes_at HY.out j cj
        obtain ⟨c, hc⟩ : ∃ c : Nat, rd l0 (j : Int) = (c : Int) := ⟨(rd l0 (j : Int)).toNat, by omega⟩
        have hdr : l0.drop j = (c : Int) :: l0.drop (j + 1) := by rw [List.drop_eq_getElem_cons cj, ← hc]; congr 1; simp [rd, cj]
        rw [hc] at hx1 hy
        have hE := HE.out
        rw [hdr] at hE
        simp only [encO, Int.toNat_natCast] at hE
        have HE2 := Aside0.mk hE
        have hc256 : c < 257 := by omega
        have hg0 := (HG.out.below HS.out.2.1).cell c hc256
        have hg1 := (blk_cell HS.out.2.2.1 c).trans (codesV_get c hc256)
        have hl := ln_le c hc256
        have hcd := cd_lt c hc256
        clear hE hdr hx0 hc HE
        generalize ln c = L at *
        generalize cd c = C at *
        have HCJ := Aside0.mk cj
        go_wp2
        have hn8 := HK.out.2.2.2.1
        go_quiet (fail)
        obtain ⟨E1, hH⟩ := held_step hn8 hl.2 HK.out.2.2.2.2 hcd
        have HN37 : n + L ≤ 37 := by omega
        obtain ⟨H, hHe⟩ : ∃ H, held * 2 ^ L + C = H := ⟨_, rfl⟩
        obtain ⟨N, hNe⟩ : ∃ N, n + L = N := ⟨_, rfl⟩
        have HE3 : Aside0 (encO (l0.drop (j + 1)) (encI 5 out H N).1 (encI 5 out H N).2.1 (encI 5 out H N).2.2 = r) := by rw [← hHe, ← hNe]; exact HE2
        rw [hHe] at E1 hH
        rw [hNe] at hH HN37
        rw [E1, ← Int.natCast_add, hNe]
        clear E1 HE2 hg0 hg1 hx1 hy hl hcd hn8 hHe hNe
        obtain ⟨RR, hRR⟩ : ∃ RR, encI 5 out H N = RR := ⟨_, rfl⟩
        rw [hRR] at HE3
        have HRR := Aside0.mk hRR
        have HHN : Aside0 (H < 2 ^ N ∧ N < 8 * 5 ∧ out.length ≤ 4 * j + (5 - 5) ∧ 5 ≤ 5) := ⟨hH, by omega, by have := HK.out.2.2.1; omega, by omega⟩
        clear hRR hH HN37
        go_wp2
        obtain ⟨wo, rfl⟩ : ∃ wo : World, wo = wr := ⟨_, rfl⟩
        go_loopg [4, 5, 6] 5 (fun kq v4 v5 v6 w' => ∃ (out : List Int) (H N : Nat), v5 = .int .i64 (H : Int) ∧ v6 = .int .i64 (N : Int) ∧ Aside0 (encI kq out H N = RR) ∧ Aside0 (H < 2 ^ N ∧ N < 8 * kq ∧ out.length ≤ 4 * j + (5 - kq) ∧ kq ≤ 5) ∧ Aside0 (Kd.R (Kd.int .u8) 5 w' w.heap.size (fun _ => True) v4 out ∧ Below w.heap.size w w' ∧ w'.heap[cb]? = some (.cells codesV 57 (0, 0)) ∧ v4.ownBlock ≠ some cb))
        case atStart => exact ⟨out, H, N, rfl, rfl, HRR, HHN, ⟨Kd.R_drewN HS.out.1 _, pw_below_drewN HS.out.2.1 _, HS.out.2.2.1, HS.out.2.2.2⟩⟩
        case round =>
          clear HHN HRR HS
          obtain ⟨out, H, N, rfl, rfl, HRR, HHN, HS⟩ := hrel
          by_cases c8 : 8 ≤ N
          · obtain ⟨k2, hk2⟩ : ∃ q, gk = q + 1 := ⟨gk - 1, by have := HHN.out; omega⟩
            subst hk2
            obtain ⟨M, rfl⟩ : ∃ M, N = M + 8 := ⟨N - 8, by omega⟩
            have c8b : decide (8 ≤ ((M + 8 : Nat) : Int)) = true := decide_eq_true (by omega)
            have c8c : decide ((8 : Int) ≤ (M : Int) + 8) = true := decide_eq_true (by omega)
            have hM : M ≤ 32 := by have := HHN.out; omega
            have hM0 : (0 : Int) ≤ (M : Int) := by omega
            have hw8 : wrap64 ((M : Int) + 8 - 8) = (M : Int) := by unfold wrap64; omega
            have hw9 : wrap64 (((M + 8 : Nat) : Int) - 8) = (M : Int) := by unfold wrap64; omega
            obtain ⟨p, hp⟩ : ∃ p : Nat, H / 2 ^ M = p := ⟨_, rfl⟩
            have hp2 : p < 256 := by rw [← hp, Nat.div_lt_iff_lt_mul (Nat.two_pow_pos M)]; have h1 := HHN.out.1; rw [Nat.pow_add] at h1; omega
            have hq : ((H : Int) / 2 ^ M % 256) = (p : Int) := by
              have h1 : ((H : Int) / 2 ^ M) = ((H / 2 ^ M : Nat) : Int) := by simp
              rw [h1, hp]; omega
            have hq2 : ((H : Int) / 2 ^ M) = (p : Int) := by
              have h1 : ((H : Int) / 2 ^ M) = ((H / 2 ^ M : Nat) : Int) := by simp
              rw [h1, hp]
            have E2 := and_mask M H hM (by have := HHN.out.1; have h2 : 2 ^ (M + 8) ≤ 2 ^ 40 := Nat.pow_le_pow_right (by decide) (by omega); omega)
            have HP := Aside0.mk hp
            have HLO : Aside0 ((out.length + 1) * 1 ≤ 140737488355328) := ⟨by have h1 := HHN.out.2.2.1; have h2 := HL.out; omega⟩
            obtain ⟨on, hon⟩ : ∃ on, out ++ [(p : Int)] = on := ⟨_, rfl⟩
            have HON := Aside0.mk hon
            clear hp hon hp2
            go_wp2_with ((with_reducible refine gate_builtin (b := .append) (xs := #[.tmp 34, .tmp 39]) rfl ?_); at_builtin; refine Kd.R_append (Kd.int .u8) (w0 := w) w.heap.size rfl (.tmp 34) (.tmp 39) 22 5 (.int .u8 0) 1 rfl Tryd.underlying22 hinfo5 rfl (by decide) (by decide) _ out (p : Int) [.int .u8 (p : Int)] (fun _ => True) (fun _ => False) rfl rfl rfl (fun _ hk => hk.elim) (fun _ _ => trivial) HS.out.1 HS.out.2.1 HS.out.2.1.size HLO.out ?_; intro v1 w4 ho hb hg hat; rw [HON.out] at ho; have HS4 := Aside0.mk (And.intro ho (And.intro hb (And.intro (blk_grown HS.out.2.2.1 hg (fun e => HS.out.2.2.2 e.symm)) (own_apart hat HS.out.2.2.2 (blk_lt HS.out.2.2.1))))); clear ho hb hg hat HS)
            go_roundg k2
            case measure => omega
            case rel => exact ⟨on, H % 2 ^ M, M, (by simp), rfl, ⟨by have h1 := HRR.out; unfold encI at h1; rw [if_pos (by omega), Nat.add_sub_cancel, HP.out, HON.out] at h1; exact h1⟩, ⟨Nat.mod_lt _ (Nat.two_pow_pos M), by have := HHN.out; omega, by rw [← HON.out, List.length_append]; have := HHN.out; simp only [List.length_cons, List.length_nil]; omega, by have := HHN.out; omega⟩, HS4⟩
          · have c8b : decide ((8 : Int) ≤ (N : Int)) = false := decide_eq_false (by omega)
            have hEI : encI gk out H N = (out, H, N) := by cases gk with | zero => rfl | succ q => unfold encI; rw [if_neg c8]
            have hE5 := HE3.out
            rw [← HRR.out, hEI] at hE5
            have HE5 := Aside0.mk hE5
            have hw1 : wrap64 ((j : Int) + 1) = (j : Int) + 1 := by unfold wrap64; have := HL.out; omega
            have HW1 := Aside0.mk hw1
            have HKN : Aside0 (j + 1 + k1 = l0.length + 1 ∧ j + 1 ≤ l0.length ∧ out.length ≤ 4 * (j + 1) ∧ N < 8 ∧ H < 2 ^ N) := ⟨by have h1 := HK.out; have h2 := HHN.out; omega⟩
            clear hEI hE5 hw1 c8
            go_wp2
            go_roundg k1
            case measure => omega
            case rel => exact ⟨j + 1, out, H, N, rfl, rfl, (by first | rfl | (rw [HW1.out]; rfl)), HKN, HE5, HS⟩
      · obtain rfl : j = l0.length := by have := HK.out; omega
        have cjb : decide ((l0.length : Int) < (l0.length : Int)) = false := decide_eq_false (by omega)
        have hE := HE.out
        rw [List.drop_length] at hE
        simp only [encO] at hE
        have hHL : out.length ≤ 4 * 1000000 := by have h1 := HK.out.2.2.1; have h2 := HL.out; omega
        have HHL := Aside0.mk hHL
        by_cases cn : 0 < n
        · rw [if_pos cn] at hE
          have HE2 := Aside0.mk hE
          have cnb : decide ((0 : Int) < (n : Int)) = true := decide_eq_true (by omega)
          have cnn : decide (0 < n) = true := decide_eq_true cn
          obtain ⟨m, hm⟩ : ∃ m, 8 - n = m := ⟨_, rfl⟩
          have hn8 := HK.out.2.2.2.1
          have hs1 : IntKind.i64.wrap (8 - (n : Int)) = (m : Int) := by rw [IntKind.wrap_i64]; omega
          have hs2 : wrap64 (8 - (n : Int)) = (m : Int) := by unfold wrap64; omega
          obtain ⟨p, hp⟩ : ∃ p, held * 2 ^ m + (2 ^ m - 1) = p := ⟨_, rfl⟩
          have hm0 : (0 : Int) ≤ (m : Int) := by omega
          have hm8 : (m : Int) ≤ 8 := by omega
          have hp1 := pad_step hn8 hm.symm HK.out.2.2.2.2 hp.symm
          have hp2 : IntKind.u8.wrap (bits .or .i64 (IntKind.i64.wrap ((held : Int) * 2 ^ m)) (IntKind.i64.wrap (IntKind.i64.wrap (2 ^ m) - 1))) = (p : Int) := by rw [i64_w, i64_w, i64_w, IntKind.wrap_u8]; exact hp1
          rw [hm, hp] at HE2
          clear hE HE cj hm hp
          go_wp2
          refine start_ (n := 14) (S := fun w' => Below wr.heap.size wr w') (ds := [12]) #[false, false, false, false, false, false, false, false, false, false, false, false, false, false] (by kernel_rfl) rfl rfl (below_drew1 (Below.refl _ _)) (fun hHeld => ?_)
          refine pure_ (i := 0) (N := some 49) (v := ?_) (a' := ?_) #[true, false, false, false, false, false, false, false, false, false, false, false, false, false] rfl rfl (by kernel_rfl) (fun _ _ _ h => h) (Or.inl ⟨by rfl, ?_⟩) ?_ ?_
          rotate_left
          · intro w'
            go_simp
            with_reducible rfl
          rotate_left
          · simp only [Act.put, List.setIfInBounds_toArray, List.set_cons_zero, List.set_cons_succ]
            rfl
          refine pure_ (i := 1) (N := some 50) (v := ?_) (a' := ?_) #[true, true, false, false, false, false, false, false, false, false, false, false, false, false] rfl rfl (by kernel_rfl) (fun _ _ _ h => h) (Or.inl ⟨by rfl, ?_⟩) ?_ ?_
          rotate_left
          · intro w'
            go_simp
            with_reducible rfl
          rotate_left
          · simp only [Act.put, List.setIfInBounds_toArray, List.set_cons_zero, List.set_cons_succ]
            rfl
          refine pure_ (i := 2) (N := some 51) (v := ?_) (a' := ?_) #[true, true, true, false, false, false, false, false, false, false, false, false, false, false] rfl rfl (by kernel_rfl) (fun _ _ _ h => h) (Or.inl ⟨by rfl, ?_⟩) ?_ ?_
          rotate_left
          · intro w'
            go_simp
            with_reducible rfl
          rotate_left
          · simp only [Act.put, List.setIfInBounds_toArray, List.set_cons_zero, List.set_cons_succ]
            rfl
          refine pure_ (i := 3) (N := some 52) (v := ?_) (a' := ?_) #[true, true, true, true, false, false, false, false, false, false, false, false, false, false] rfl rfl (by kernel_rfl) (fun _ _ _ h => h) (Or.inl ⟨by rfl, ?_⟩) ?_ ?_
          rotate_left
          · intro w'
            go_simp
            with_reducible rfl
          rotate_left
          · simp only [Act.put, List.setIfInBounds_toArray, List.set_cons_zero, List.set_cons_succ]
            rfl
          refine pure_ (i := 4) (N := some 53) (v := ?_) (a' := ?_) #[true, true, true, true, true, false, false, false, false, false, false, false, false, false] rfl rfl (by kernel_rfl) (fun _ _ _ h => h) (Or.inl ⟨by rfl, ?_⟩) ?_ ?_
          rotate_left
          · intro w'
            go_simp
            with_reducible rfl
          rotate_left
          · simp only [Act.put, List.setIfInBounds_toArray, List.set_cons_zero, List.set_cons_succ]
            rfl
          refine pure_ (i := 5) (N := some 54) (v := ?_) (a' := ?_) #[true, true, true, true, true, true, false, false, false, false, false, false, false, false] rfl rfl (by kernel_rfl) (fun _ _ _ h => h) (Or.inl ⟨by rfl, ?_⟩) ?_ ?_
          rotate_left
          · intro w'
            go_simp
            with_reducible rfl
          rotate_left
          · simp only [Act.put, List.setIfInBounds_toArray, List.set_cons_zero, List.set_cons_succ]
            rfl
          refine pure_ (i := 6) (N := some 55) (v := ?_) (a' := ?_) #[true, true, true, true, true, true, true, false, false, false, false, false, false, false] rfl rfl (by kernel_rfl) (fun _ _ _ h => h) (Or.inl ⟨by rfl, ?_⟩) ?_ ?_
          rotate_left
          · intro w'
            go_simp
            with_reducible rfl
          rotate_left
          · simp only [Act.put, List.setIfInBounds_toArray, List.set_cons_zero, List.set_cons_succ]
            rfl
          refine pure_ (i := 7) (N := some 56) (v := ?_) (a' := ?_) #[true, true, true, true, true, true, true, true, false, false, false, false, false, false] rfl rfl (by kernel_rfl) (fun _ _ _ h => h) (Or.inl ⟨by rfl, ?_⟩) ?_ ?_
          rotate_left
          · intro w'
            go_simp
            with_reducible rfl
          rotate_left
          · simp only [Act.put, List.setIfInBounds_toArray, List.set_cons_zero, List.set_cons_succ]
            rfl
          refine pure_ (i := 8) (N := some 57) (v := ?_) (a' := ?_) #[true, true, true, true, true, true, true, true, true, false, false, false, false, false] rfl rfl (by kernel_rfl) (fun _ _ _ h => h) (Or.inl ⟨by rfl, ?_⟩) ?_ ?_
          rotate_left
          · intro w'
            go_simp
            with_reducible rfl
          rotate_left
          · simp only [Act.put, List.setIfInBounds_toArray, List.set_cons_zero, List.set_cons_succ]
            rfl
          refine pure_ (i := 9) (N := some 58) (v := ?_) (a' := ?_) #[true, true, true, true, true, true, true, true, true, true, false, false, false, false] rfl rfl (by kernel_rfl) (fun _ _ _ h => h) (Or.inl ⟨by rfl, ?_⟩) ?_ ?_
          rotate_left
          · intro w'
            go_simp
            with_reducible rfl
          rotate_left
          · simp only [Act.put, List.setIfInBounds_toArray, List.set_cons_zero, List.set_cons_succ]
            rfl
          refine pure_ (i := 10) (N := some 59) (v := ?_) (a' := ?_) #[true, true, true, true, true, true, true, true, true, true, true, false, false, false] rfl rfl (by kernel_rfl) (fun _ _ _ h => h) (Or.inl ⟨by rfl, ?_⟩) ?_ ?_
          rotate_left
          · intro w'
            go_simp
            with_reducible rfl
          rotate_left
          · simp only [Act.put, List.setIfInBounds_toArray, List.set_cons_zero, List.set_cons_succ]
            rfl
          refine one_ (i := 11) (N := some 60) #[true, true, true, true, true, true, true, true, true, true, true, true, false, false] rfl rfl (by kernel_rfl) (by decide) (fun K_ hK_ => ?_)
          have HH_ := Aside0.mk hHeld
          clear hHeld
          refine event_step (by rfl) (by go_simp; exact ⟨rfl, rfl⟩) ?_
          have hb_ : Below wr.heap.size wr (wr.alloc (.cells #[.int .u8 (p : Int)] 5)).drew := below_drew (below_alloc (Below.refl _ _) _)
          refine hK_.out _ _ (hb_) (fun hHeld => ?_)
          clear hK_
          refine norm_ (a' := ?_) ?_ ?_
          rotate_left
          · simp only [Act.put, List.setIfInBounds_toArray, List.set_cons_zero, List.set_cons_succ]
            rfl
          refine last_ (i := 12) (N := some 61) #[true, true, true, true, true, true, true, true, true, true, true, true, true, false] rfl rfl (by kernel_rfl) (by decide) (fun K_ hK_ => ?_)
          clear hHeld
          refine Kd.R_append_step (Kd.int .u8) (w0 := w) (W := wr.drew) w.heap.size ?hw (.tmp 49) (.tmp 60) 22 5 (.int .u8 0) 1 rfl Tryd.underlying22 hinfo5 rfl (by decide) (by decide) _ out (p : Int) [.int .u8 (p : Int)] (fun _ => True) (fun _ => False) (by rfl) (by rfl) (by rfl) (fun _ hk => hk.elim) (fun _ _ => trivial) (by exact Kd.R_drew HS.out.1) (by exact HS.out.2.1.drew) (by exact HS.out.2.1.size) (by have := HHL.out; omega) ?_
          case hw => rfl
          intro v1 w4 ho hb hg hat
          have HO4 := Aside0.mk ho
          have HB4 := Aside0.mk hb
          clear ho hg hat
          refine hK_.out _ _ ?_
          clear hK_
          refine norm_ (a' := ?_) ?_ ?_
          rotate_left
          · simp only [Act.put, List.setIfInBounds_toArray, List.set_cons_zero, List.set_cons_succ]
            rfl
          refine pure_ (i := 13) (N := some 4) (v := ?_) (a' := ?_) #[true, true, true, true, true, true, true, true, true, true, true, true, true, true] rfl rfl (by kernel_rfl) (fun _ _ _ h => h) (Or.inl ⟨by rfl, ?_⟩) ?_ ?_
          rotate_left
          · intro w'
            go_simp
            with_reducible rfl
          rotate_left
          · simp only [Act.put, List.setIfInBounds_toArray, List.set_cons_zero, List.set_cons_succ]
            rfl
          refine done_ (by kernel_rfl) ?_
          go_wp2
          go_ret
          exact ⟨_, rfl, by rw [← HE2.out]; exact HO4.out, HB4.out⟩
        · rw [if_neg cn] at hE
          have HE2 := Aside0.mk hE
          obtain rfl : n = 0 := by omega
          clear hE HE cj cn
          go_wp2
          go_ret
          exact ⟨_, rfl, by rw [← HE2.out]; exact HS.out.1, HS.out.2.1⟩
  · rw [if_neg hb] at h; cases h
end Go.Proofs.YtlbjhbanfpnogaaDoor.QH
namespace Go.Proofs.YtlbjhbanfpnogaaDoor.QH
open Go.RowKit Go.Proofs.YtlbjhbanfpnogaaDoorW.PrintWords Go.Proofs.YtlbjhbanfpnogaaDoorW.PrintLast Go.Proofs.YtlbjhbanfpnogaaDoorW.PrintMore
attribute [local go_sem] max2_int min2_int max_two min_two max_three min_three max_four min_four
set_option linter.unusedVariables false
set_option linter.unusedSimpArgs false
def huff_Length.f (c : Int) : Option Int := some (if c < 0 then 0 else if c > 256 then 0 else (ln c.toNat : Int))
def huff_Code.f (c : Int) : Option Int := some (if c < 0 then 0 else if c > 256 then 0 else (cd c.toNat : Int))
set_option maxHeartbeats 1000000 in
theorem huff_Length.calls (a0 : Int) (r : Int) (w : World) (hG : GB w) (h : huff_Length.f a0 = some r) :
    Calls Tryd.prog 11 #[.int .i64 a0] w fun e w' => e = .returned (.int .i64 r) ∧ Drawn0 w w' := by
  have h := Option.some.inj h
  have hu57 := Tryd.underlying57
  by_cases h0 : a0 < 0
  · rw [if_pos h0] at h
    subst h
    have b0 : decide (a0 < 0) = true := decide_eq_true h0
    go_enter Tryd.func11, Tryd.ntmps11
    go_wp2
    go_ret
    exact ⟨rfl, Drawn0.refl _⟩
  · rw [if_neg h0] at h
    have b0 : decide (a0 < 0) = false := decide_eq_false h0
    by_cases h1 : a0 > 256
    · rw [if_pos h1] at h
      subst h
      have b1 : decide (256 < a0) = true := decide_eq_true h1
      go_enter Tryd.func11, Tryd.ntmps11
      go_wp2
      go_ret
      exact ⟨rfl, Drawn0.refl _⟩
    · rw [if_neg h1] at h
      have b1 : decide (256 < a0) = false := decide_eq_false h1
      obtain ⟨c, rfl⟩ : ∃ c : Nat, a0 = (c : Int) := ⟨a0.toNat, by omega⟩
      rw [Int.toNat_natCast] at h
      have hg0 := hG.cell c (by omega)
      rw [h] at hg0
      have hc : (c : Int) < 257 := by omega
      have hc0 : (0 : Int) ≤ (c : Int) := by omega
      have hcn : c < 257 := by omega
      clear h h1 h0
      go_enter Tryd.func11, Tryd.ntmps11
      go_wp2
      go_ret
      exact ⟨rfl, Drawn0.refl _⟩
set_option maxHeartbeats 1000000 in
theorem huff_Code.calls (a0 : Int) (r : Int) (w : World) (hG : GB w) (h : huff_Code.f a0 = some r) :
    Calls Tryd.prog 13 #[.int .i64 a0] w fun e w' => e = .returned (.int .i64 r) ∧ Below w.heap.size w w' := by
  have h := Option.some.inj h
  have hu57 := Tryd.underlying57
  by_cases h0 : a0 < 0
  · rw [if_pos h0] at h
    subst h
    have b0 : decide (a0 < 0) = true := decide_eq_true h0
    go_enter Tryd.func13, Tryd.ntmps13
    go_wp2
    go_ret
    exact ⟨rfl, Below.refl _ _⟩
  · rw [if_neg h0] at h
    have b0 : decide (a0 < 0) = false := decide_eq_false h0
    by_cases h1 : a0 > 256
    · rw [if_pos h1] at h
      subst h
      have b1 : decide (256 < a0) = true := decide_eq_true h1
      go_enter Tryd.func13, Tryd.ntmps13
      go_wp2
      go_ret
      exact ⟨rfl, Below.refl _ _⟩
    · rw [if_neg h1] at h
      have b1 : decide (256 < a0) = false := decide_eq_false h1
      obtain ⟨c, rfl⟩ : ∃ c : Nat, a0 = (c : Int) := ⟨a0.toNat, by omega⟩
      rw [Int.toNat_natCast] at h
      have hix : ∀ W, (Instr.index 57 (.agg codesV) (.int .i64 (c : Int))).run Tryd.prog W = .ok (.int .i64 r) W := fun W => by
        rw [← h]
        exact index_arr W codesV _ c .i64 (by omega) (by omega) (by rw [Int.toNat_natCast]; exact codesV_get c (by omega))
      have HG := Aside0.mk hG
      clear h h1 h0 hG
      go_enter Tryd.func13, Tryd.ntmps13
      go_wp2_with (go_at_call 38; refine (huff_codes.is _ HG.out).mono ?_; rintro e_ w1 ⟨rfl, hb1⟩; have HB1 := Aside0.mk hb1; clear hb1)
      go_ret
      exact ⟨rfl, HB1.out⟩
/-- How many bits a text's codes have. -/
def sumLn : List Int → Nat
  | [] => 0
  | c :: b => ln c.toNat + sumLn b
def huff_Size.f (b : List Int) : Option Int := if bytesB b = true then some (((sumLn b + 7) / 8 : Nat) : Int) else none
theorem sumLn_append (a b : List Int) : sumLn (a ++ b) = sumLn a + sumLn b := by
  induction a with
  | nil => simp [sumLn]
  | cons c a ih => simp only [List.cons_append, sumLn, ih]; omega
set_option maxHeartbeats 4000000 in
set_option maxRecDepth 100000 in
theorem huff_Size.calls (A0 : Option Addr) (c0 : Nat) (l0 : List Int) (r : Int) (w : World) (hG : GB w) (hr0 : Kd.C (Kd.int .u8) w A0 l0.length l0) (hc0 : l0.length ≤ c0) (h : huff_Size.f l0 = some r) :
    Calls Tryd.prog 20 #[.slice A0 l0.length c0] w fun e w' => e = .returned (.int .i64 r) ∧ Drawn0 w w' := by
  unfold huff_Size.f at h
  by_cases hb : bytesB l0 = true
  · rw [if_pos hb] at h
    have h := Option.some.inj h
    have HE := Aside0.mk h
    have HY := Aside0.mk hb
    have HL : Aside0 (l0.length ≤ 1000000) := ⟨by unfold bytesB at hb; rw [Bool.and_eq_true] at hb; exact of_decide_eq_true hb.1⟩
    have HG := Aside0.mk hG
    have HR := Aside0.mk hr0
    clear h hb hr0 hG
    have hu57 := Tryd.underlying57
    go_enter Tryd.func20, Tryd.ntmps20
    go_wp2
    go_loopg [3, 8] (l0.length + 1) (fun kq v3 v8 w' => ∃ (j s : Nat), v3 = .int .i64 (s : Int) ∧ v8 = .int .i64 (j : Int) ∧ Aside0 (j + kq = l0.length + 1 ∧ j ≤ l0.length ∧ s ≤ 30 * j ∧ s + sumLn (l0.drop j) = sumLn l0) ∧ w' = w)
    case atStart => exact ⟨0, 0, rfl, rfl, ⟨by simp⟩, rfl⟩
    case round =>
      obtain ⟨j, s, rfl, rfl, HK, rfl⟩ := hrel
      by_cases cj : j < l0.length
      · obtain ⟨k1, hk1⟩ : ∃ q, gk = q + 1 := ⟨gk - 1, by have := HK.out; omega⟩
        subst hk1
        have cjb : decide ((j : Int) < (l0.length : Int)) = true := decide_eq_true (by omega)
        have cjn : decide (j < l0.length) = true := decide_eq_true cj
        obtain ⟨ad, e0, hx0⟩ := Kd.at_int HR.out (j : Int) (by omega) (by omega)
        subst e0
        rw [Int.toNat_natCast] at hx0
        have hy := bytes_at HY.out j cj
        obtain ⟨c, hc⟩ : ∃ c : Nat, rd l0 (j : Int) = (c : Int) := ⟨(rd l0 (j : Int)).toNat, by omega⟩
        have hdr : l0.drop j = (c : Int) :: l0.drop (j + 1) := by rw [List.drop_eq_getElem_cons cj, ← hc]; congr 1; simp [rd, cj]
        rw [hc] at hx0 hy
        have hc256 : c < 257 := by omega
        have hg0 := HG.out.cell c hc256
        have hl := ln_le c hc256
        have HS : Aside0 (s + ln c + sumLn (l0.drop (j + 1)) = sumLn l0) := ⟨by have h1 := HK.out.2.2.2; rw [hdr] at h1; simp only [sumLn, Int.toNat_natCast] at h1; omega⟩
        clear hdr hc
        obtain ⟨L, hL⟩ : ∃ L, ln c = L := ⟨_, rfl⟩
        rw [hL] at hg0 hl HS
        clear hL
        have hs := HK.out.2.2.1
        have hll := HL.out
        have hw1 : wrap64 ((j : Int) + 1) = (j : Int) + 1 := by unfold wrap64; omega
        have hw2 : wrap64 ((s : Int) + (L : Int)) = ((s + L : Nat) : Int) := by unfold wrap64; omega
        have HW2 := Aside0.mk hw2
        have HW1 := Aside0.mk hw1
        have HN : Aside0 (j + 1 + k1 = l0.length + 1 ∧ j + 1 ≤ l0.length ∧ s + L ≤ 30 * (j + 1) ∧ s + L + sumLn (l0.drop (j + 1)) = sumLn l0) := ⟨by have h1 := HK.out; have h2 := HS.out; omega⟩
        clear hs hll hw2
        go_wp2
        go_roundg k1
        case measure => omega
        case rel => exact ⟨j + 1, s + L, (by first | rfl | (rw [HW2.out]) | simp), (by first | rfl | (rw [HW1.out]; rfl)), HN, rfl⟩
      · obtain rfl : j = l0.length := by have := HK.out; omega
        have hs := HK.out.2.2.2
        rw [List.drop_length] at hs
        obtain rfl : s = sumLn l0 := by simpa [sumLn] using hs
        have hs2 := HK.out.2.2.1
        have hll := HL.out
        generalize sumLn l0 = s at *
        have hd : ((s : Int) + 8 - 1).tdiv 8 = r := by rw [← HE.out, Int.tdiv_eq_ediv_of_nonneg (by omega)]; omega
        have hd2 : ((s : Int) + 7).tdiv 8 = r := by rw [← HE.out, Int.tdiv_eq_ediv_of_nonneg (by omega)]; omega
        have hd3 : ((s : Int) + 7) / 8 = r := by rw [← HE.out]; omega
        have hd4 : ((s : Int) + 8 - 1) / 8 = r := by rw [← HE.out]; omega
        clear hs cj
        go_wp2
        go_ret
        exact ⟨rfl, Drawn0.refl _⟩
  · rw [if_neg hb] at h; cases h
def lensI : List Int := lensN.map fun x : Nat => (x : Int)
def codesI : List Int := codesN.map fun x : Nat => (x : Int)
theorem lensI_encs : encs (Value.int .i64) lensI = lensV.toList := by simp [encs, lensI, lensV]
theorem lensI_len : lensI.length = 257 := by simp [lensI, lensN_len]
def gantletref04_lengths.f : Option (List Int) := some lensI
set_option maxHeartbeats 4000000 in
set_option maxRecDepth 100000 in
theorem gantletref04_lengths.calls (r : List Int) (w : World) (h : gantletref04_lengths.f = some r) :
    Calls Tryd.prog 37 #[] w fun e w' => ∃ v0_ : Value, e = .returned (v0_) ∧ Kd.R (Kd.int .i64) 3 w' w.heap.size (fun _ => True) v0_ r ∧ Below w.heap.size w w' := by
  obtain rfl := Option.some.inj h
  clear h
  go_enter Tryd.func37, Tryd.ntmps37
  go_wp2_with ((with_reducible refine gate_dst (N := 1) rfl ?_); refine Kd.R_lit (Kd.int .i64) (w0 := w) w.heap.size 3 ?hg (N := 1) ?hd (xs := lensI) (inner := lensV.toList) (ok := fun _ => True) (okp := fun _ => True) ?hr ?hp (fun _ hk => hk) trivial (Below.refl _ _) (Nat.le_refl _) (by rw [lensI_len]; decide) ?_; (case hd => rfl); (case hg => rfl); (case hr => kernel_rfl); (case hp => rw [← lensI_encs]; exact Kd.reps_scalar lensI); intro v1 w1 ho1 hb1 hg1 hn1; have HO := Aside0.mk ho1; have HB := Aside0.mk hb1; clear ho1 hb1 hg1 hn1)
  go_ret
  exact ⟨_, rfl, HO.out, HB.out⟩
def gantletref04_Codes.f : Option (List Int) := some codesI
theorem codesI_encs : encs (Value.int .i64) codesI = codesV.toList := by simp [encs, codesI, codesV]
theorem codesI_len : codesI.length = 257 := by simp [codesI, codesN_len]
theorem rd_lensI (c : Nat) (h : c < 257) : rd lensI (c : Int) = (ln c : Int) := by
  have hl := lensN_len
  simp [rd, lensI, ln, List.getElem?_eq_getElem (show c < lensN.length by omega)]
theorem rd_codesI (c : Nat) (h : c < 257) : rd codesI (c : Int) = (cd c : Int) := by
  have hl := codesN_len
  simp [rd, codesI, cd, List.getElem?_eq_getElem (show c < codesN.length by omega)]
theorem outV_one : outV 1 0 = zerosV := outV_eq 1 0 _ (by unfold zerosV; exact Array.size_replicate) (fun i hi => by
  have := ln_le i hi
  unfold zerosV outN
  rw [Array.getElem?_replicate, if_pos hi, if_neg (by omega)]
  rfl)
theorem nx_one : nxN 1 0 = 0 := by decide +kernel
/-- Where Codes stands: the lengths' row, the codes' block b. -/
def CoS (w : World) (v : Value) (b : Nat) (cs : Array Value) (W : World) : Prop := W.heap[b]? = some (.cells cs 3 (0, 0)) ∧ Kd.R (Kd.int .i64) 3 W w.heap.size (fun k => k ≠ b) v lensI ∧ Below w.heap.size w W
theorem CoS.set {w W : World} {v : Value} {b : Nat} {cs : Array Value} (h : CoS w v b cs W) (hb : w.heap.size ≤ b) (c : Nat) (u : Value) : CoS w v b (cs.setIfInBounds c u) (W.setCell ⟨b, c, none⟩ u) :=
  ⟨blk_set h.1 c u, Kd.R_far h.2.1 (p := ⟨b, c, none⟩) (fun _ hk => hk) u, h.2.2.setCell (p := ⟨b, c, none⟩) hb u⟩
theorem make257 (W : World) : (Instr.makeSlice 58 (.int .i64 257) (.int .i64 257)).run Tryd.prog W = .ok (.slice (some ⟨W.heap.size, 0, none⟩) 257 257) (W.alloc (.cells zerosV 3)) := by kernel_rfl
set_option maxHeartbeats 4000000 in
set_option maxRecDepth 100000 in
theorem gantletref04_Codes.calls (r : List Int) (w : World) (h : gantletref04_Codes.f = some r) :
    Calls Tryd.prog 39 #[] w fun e w' => ∃ v0_ : Value, e = .returned (v0_) ∧ Kd.R (Kd.int .i64) 3 w' w.heap.size (fun _ => True) v0_ r ∧ Below w.heap.size w w' := by
  obtain rfl := Option.some.inj h
  clear h
  have hmk := make257
  go_enter Tryd.func39, Tryd.ntmps39
  go_wp2_with (go_at_call 37; refine (gantletref04_lengths.calls lensI _ rfl).mono ?_; rintro e_ w1 ⟨v, rfl, hR, hb1⟩; have HR1 := Aside0.mk (Kd.R_mono (ok' := fun k => k ≠ w1.heap.size) (Kd.R_bound hR) (fun k hk => by have := hk.2.2.1; omega)); have HB1 := Aside0.mk hb1; clear hR hb1)
  obtain ⟨Al, cl, rfl⟩ := Kd.R_slice HR1.out
  obtain ⟨b, hb⟩ : ∃ b, w1.heap.size = b := ⟨_, rfl⟩
  have HS : Aside0 (CoS w (.slice Al lensI.length cl) b (outV 1 0) (w1.alloc (.cells zerosV 3))) := ⟨by rw [outV_one, ← hb]; exact ⟨blk_new _ _, Kd.R_alloc HR1.out _, below_alloc HB1.out _⟩⟩
  have HBW : Aside0 (w.heap.size ≤ b) := ⟨by rw [← hb]; exact HB1.out.size⟩
  rw [hb]
  clear HR1 HB1 hb
  rw [lensI_len] at HS ⊢
  generalize w1.alloc (.cells zerosV 3) = w2 at *
  go_loopg [3, 4, 5] 32 (fun kq v3 v4 v5 w' => ∃ n : Nat, v3 = .int .i64 (nxN n 0 : Int) ∧ v4 = .int .i64 (n : Int) ∧ Aside0 (n + kq = 33 ∧ n ≤ 31) ∧ Aside0 (CoS w (.slice Al 257 cl) b (outV n 0) w'))
  case atStart => exact ⟨1, (by rw [nx_one]; rfl), rfl, ⟨by omega⟩, HS⟩
  case round =>
    clear HS
    obtain ⟨n, rfl, rfl, HK, HS⟩ := hrel
    by_cases cn : n ≤ 30
    · have cnb : decide ((n : Int) ≤ 30) = true := decide_eq_true (by omega)
      have HN := Aside0.mk (show n < 31 by omega)
      obtain ⟨k1, hk1⟩ : ∃ j, gk = j + 1 := ⟨gk - 1, by have := HK.out; omega⟩
      subst hk1
      clear cn
      go_wp2
      obtain ⟨wo, rfl⟩ : ∃ wo : World, wo = wr := ⟨_, rfl⟩
      go_loopg [3, 5] 258 (fun kq v3 v5 w' => ∃ c : Nat, v3 = .int .i64 (nxN n c : Int) ∧ v5 = .int .i64 (c : Int) ∧ Aside0 (c + kq = 258 ∧ c ≤ 257) ∧ Aside0 (CoS w (.slice Al 257 cl) b (outV n c) w'))
      case atStart => exact ⟨0, rfl, rfl, ⟨by omega⟩, HS⟩
      case round =>
        clear HS
        obtain ⟨c, rfl, rfl, HC, HS⟩ := hrel
        by_cases cc : c ≤ 256
        · have ccb : decide ((c : Int) ≤ 256) = true := decide_eq_true (by omega)
          obtain ⟨k2, hk2⟩ : ∃ j, gk = j + 1 := ⟨gk - 1, by have := HC.out; omega⟩
          subst hk2
          have hc7 : c < 257 := by omega
          obtain ⟨hlen, hlc, hCr⟩ := Kd.R_reads' HS.out.2.1
          obtain ⟨ad, e0, hx⟩ := Kd.at_int hCr (c : Int) (by omega) (by omega)
          subst e0
          rw [Int.toNat_natCast, rd_lensI c hc7] at hx
          have hnx := nx_step n c hc7
          have hcd := cd_nx c hc7
          have hle := Nat.le_trans (nx_mono n c (by omega)) (nx_next n HN.out).2
          have hcl := (blk_cell HS.out.1 c).trans (outV_get n c c hc7)
          have hfr := blk_frozen HS.out.1 c
          have HCC := Aside0.mk hc7
          have hw1 : wrap64 ((c : Int) + 1) = (c : Int) + 1 := by unfold wrap64; omega
          have HW1 := Aside0.mk hw1
          have hc0 : (0 : Int) ≤ (c : Int) := by omega
          have hc1 : (c : Int) < 257 := by omega
          clear hw1 hlen hlc hCr cc
          by_cases hl : ln c = n
          · rw [if_pos hl] at hnx
            have HP := Aside0.mk (outV_put n c HCC.out hl)
            rw [hl] at hcd hx
            rw [hcd] at HP
            obtain ⟨x, hxe⟩ : ∃ x, nxN n c = x := ⟨_, rfl⟩
            rw [hxe] at hnx hle HP ⊢
            have HNX := Aside0.mk hnx
            have hw2 : wrap64 ((x : Int) + 1) = (x : Int) + 1 := by unfold wrap64; omega
            have HW2 := Aside0.mk hw2
            have hne : ((n : Int) == (n : Int)) = true := by simp
            clear hl hcd hnx hw2 hxe
            go_wp2
            go_roundg k2
            case measure => omega
            case rel => exact ⟨c + 1, (by rw [HNX.out]; first | rfl | (rw [HW2.out]; rfl)), (by first | rfl | (rw [HW1.out]; rfl)), ⟨by have := HC.out; have := HCC.out; omega⟩, ⟨by rw [← HP.out]; exact HS.out.set HBW.out c _⟩⟩
          · rw [if_neg hl] at hnx
            have HP := Aside0.mk (outV_skip n c hl)
            have HNX := Aside0.mk hnx
            obtain ⟨m, hm⟩ : ∃ m, ln c = m := ⟨_, rfl⟩
            rw [hm] at hl hx
            have hne2 : ((m : Int) == (n : Int)) = false := beq_eq_false_iff_ne.mpr (by omega)
            clear hl hm hnx hcd
            go_wp2
            go_roundg k2
            case measure => omega
            case rel => exact ⟨c + 1, (by rw [HNX.out]; rfl), (by first | rfl | (rw [HW1.out]; rfl)), ⟨by have := HC.out; have := HCC.out; omega⟩, ⟨by rw [HP.out]; exact HS.out⟩⟩
        · have ccb : decide ((c : Int) ≤ 256) = false := decide_eq_false (by omega)
          obtain rfl : c = 257 := by have := HC.out; omega
          have hnx := nx_next n HN.out
          have HNX := Aside0.mk hnx.1
          have hle := hnx.2
          have hnle := HN.out
          have hn0 : (0 : Int) ≤ (n : Int) := by omega
          obtain ⟨x, hxe⟩ : ∃ x, nxN n 257 = x := ⟨_, rfl⟩
          rw [hxe] at hle HNX ⊢
          clear hnx cc hxe
          go_wp2
          go_roundg k1
          case measure => omega
          case rel => exact ⟨n + 1, (by rw [HNX.out]; first | rfl | (rw [Int.natCast_mul]; rfl)), (by rfl), ⟨by have := HK.out; have := HN.out; omega⟩, ⟨by rw [outV_next]; exact HS.out⟩⟩
    · have cnb : decide ((n : Int) ≤ 30) = false := decide_eq_false (by omega)
      obtain rfl : n = 31 := by have := HK.out; omega
      have h31 := HS.out
      rw [outV_end] at h31
      clear cn HS
      go_wp2
      go_ret
      refine ⟨_, rfl, Kd.R_of_own ?_ (fun _ _ => trivial), h31.2.2⟩
      rw [codesI_len, codesI_encs]
      exact ⟨by rw [Array.length_toList, codesV_size], .inr ⟨b, 257, codesV, rfl, HBW.out, h31.1, Nat.le_refl _, by decide, by rw [codesV_size], by rw [List.take_of_length_le (by rw [Array.length_toList, codesV_size]; exact Nat.le_refl _)]⟩⟩
end Go.Proofs.YtlbjhbanfpnogaaDoor.QH
namespace Go.Proofs.YtlbjhbanfpnogaaDoor.QH
open Go.RowKit Go.Proofs.YtlbjhbanfpnogaaDoorW.PrintWords Go.Proofs.YtlbjhbanfpnogaaDoorW.PrintLast Go.Proofs.YtlbjhbanfpnogaaDoorW.PrintMore
attribute [local go_sem] max2_int min2_int max_two min_two max_three min_three max_four min_four
set_option linter.unusedVariables false
set_option linter.unusedSimpArgs false
open Go.Maps
theorem laidOut' : laidOutB Tryd.prog = true := by kernel_rfl
theorem row65 : (65 : TypeId) < Tryd.prog.types.size := of_decide_eq_true (by kernel_rfl)
theorem wide65 : (match Tryd.prog.underlying 65 with | some (.array _ _) | some (.struct _) => true | _ => false) = true := by rw [Tryd.underlying65]
theorem law65 : Keyed Tryd.prog 65 := Keyed.of_law (deep_law_laid laidOut' (m := 2) (by omega) row65 (by kernel_rfl) wide65)
theorem kt65 : Tryd.prog.keyType 65 = true := by kernel_rfl
theorem cells65 : Tryd.prog.cellsOf 65 = 2 := by kernel_rfl
theorem cells3 : Tryd.prog.cellsOf 3 = 1 := by kernel_rfl
theorem tsz : ∃ m, Tryd.prog.types.size = m + 1 := ⟨Tryd.prog.types.size - 1, (Nat.sub_add_cancel (Nat.le_of_lt (Nat.lt_of_le_of_lt (show 1 ≤ 65 by decide) row65))).symm⟩
/-- A code's key, as it is told. -/
def kl (a n : Int) : Lit := .string (keyBytes [.int .i64 a, .int .i64 n])
theorem kl_key {a n : Int} (ha : (Lit.int .i64 a).wf = true) (hn : (Lit.int .i64 n).wf = true) : keyOf Tryd.prog 65 (.agg #[.int .i64 a, .int .i64 n]) = some (kl a n) := by
  obtain ⟨m, hm⟩ := tsz
  have hf : (Value.agg #[.int .i64 a, .int .i64 n]).formed Tryd.prog 65 = true := by simp [Value.formed, Tryd.underlying65, cells65]
  unfold keyOf
  rw [Tryd.underlying65]
  simp only [kt65, hf, Bool.and_self, if_true]
  rw [hm]
  have h3 := Tryd.underlying3
  simp [Program.keyLits, Tryd.underlying65, h3, cells65, cells3, Value.cells, ha, hn, kl]
theorem kl_inj {a n a' n' : Int} (ha : (Lit.int .i64 a).wf = true) (hn : (Lit.int .i64 n).wf = true) (ha' : (Lit.int .i64 a').wf = true) (hn' : (Lit.int .i64 n').wf = true) (h : kl a n = kl a' n') : a = a' ∧ n = n' := by
  have h1 := kl_key ha hn
  have h2 := kl_key ha' hn'
  rw [h] at h1
  have h3 := law65.inj h1 h2
  simp only [Value.agg.injEq, Array.mk.injEq, List.cons.injEq, Value.int.injEq, true_and, and_true] at h3
  exact h3
theorem wf_small {x : Int} (h0 : 0 ≤ x) (h1 : x ≤ 4611686018427387904) : (Lit.int .i64 x).wf = true := WalkArith.wf_i64 (by omega)
/-- The map of the codes of the first c bytes. -/
def mapD : Nat → DataW Unit
  | 0 => .map []
  | c + 1 => (mapD c).put (kl (cd c) (ln c)) (.lit (.int .i64 (c : Int)))
def findC : Nat → Nat → Nat → Option Nat
  | 0, _, _ => none
  | c + 1, a, n => if cd c = a ∧ ln c = n then some c else findC c a n
theorem cd_small (c : Nat) (h : c < 257) : cd c ≤ 1073741824 := by
  have h1 := cd_lt c h
  have h2 := ln_le c h
  have h3 : 2 ^ ln c ≤ 2 ^ 30 := Nat.pow_le_pow_right (by decide) h2.2
  omega
theorem wf_cd (c : Nat) (h : c < 257) : (Lit.int .i64 (cd c : Int)).wf = true := wf_small (by omega) (by have := cd_small c h; omega)
theorem wf_ln (c : Nat) (h : c < 257) : (Lit.int .i64 (ln c : Int)).wf = true := wf_small (by omega) (by have := ln_le c h; omega)
theorem kl_lit (a n : Int) : WideAt.IsKeyLit (kl a n) := trivial
theorem mapD_isMap : ∀ c, IsMap (mapD c)
  | 0 => isMap_empty
  | c + 1 => (mapD_isMap c).put _ _
theorem mapD_find (a n : Nat) (ha : (Lit.int .i64 (a : Int)).wf = true) (hn : (Lit.int .i64 (n : Int)).wf = true) : ∀ c, c ≤ 257 → Maps.has (mapD c) (kl a n) = (findC c a n).isSome ∧ (mapD c).atKey (kl a n) (.lit (.int .i64 0)) = .lit (.int .i64 (((findC c a n).getD 0 : Nat) : Int))
  | 0, _ => ⟨rfl, rfl⟩
  | c + 1, hc => by
    obtain ⟨h1, h2⟩ := mapD_find a n ha hn c (by omega)
    unfold mapD findC
    by_cases h : cd c = a ∧ ln c = n
    · rw [if_pos h, h.1, h.2]
      exact ⟨has_put_same (mapD_isMap c) (kl_lit _ _) _, by rw [atKey_put_same (mapD_isMap c) (kl_lit _ _)]; rfl⟩
    · rw [if_neg h]
      have hne : kl a n ≠ kl (cd c) (ln c) := fun e => h (by
        have h3 := kl_inj ha hn (wf_cd c (by omega)) (wf_ln c (by omega)) e
        omega)
      exact ⟨(has_put_other hne _).trans h1, (atKey_put_other hne _ _).trans h2⟩
set_option maxHeartbeats 4000000 in
set_option maxRecDepth 100000 in
theorem huff_texts.is (w : World) (hG : GB w) : Calls Tryd.prog 41 #[] w fun e w' => ∃ b, e = .returned (.map (some b)) ∧ w'.ownsMap Tryd.prog 65 (plainElem (H := Unit) Tryd.prog 3) b 257 (mapD 257) ∧ w.heap.size ≤ b ∧ Below w.heap.size w w' := by
  have HG := Aside0.mk hG
  clear hG
  have hmm := @run_makeMap Tryd.prog
  have hu57 := Tryd.underlying57
  go_enter Tryd.func41, Tryd.ntmps41
  go_wp2_with (go_at_call 38; refine (huff_codes.is _ (HG.out.alloc _)).mono ?_; rintro e_ w1 ⟨rfl, hb1⟩; have HB1 := Aside0.mk (below_step (below_alloc (Below.refl w.heap.size w) _) hb1); have HO1 : Aside0 (w1.ownsMap Tryd.prog 65 (plainElem (H := Unit) Tryd.prog 3) w.heap.size 0 (mapD 0)) := ⟨(World.ownsMap_made w _ _ _).kept (grown_of_below hb1 none) (by simp)⟩; clear hb1)
  go_loopg [6] 258 (fun kq v6 w' => ∃ c : Nat, v6 = .int .i64 (c : Int) ∧ Aside0 (c + kq = 258 ∧ c ≤ 257) ∧ Aside0 (Below w.heap.size w w') ∧ Aside0 (w'.ownsMap Tryd.prog 65 (plainElem (H := Unit) Tryd.prog 3) w.heap.size c (mapD c)))
  case atStart => exact ⟨0, rfl, ⟨by omega⟩, HB1, HO1⟩
  case round =>
    clear HB1 HO1
    obtain ⟨c, rfl, HC, HB, HO⟩ := hrel
    by_cases cc : c < 257
    · have ccb : decide ((c : Int) < 257) = true := decide_eq_true (by omega)
      obtain ⟨k2, hk2⟩ : ∃ j, gk = j + 1 := ⟨gk - 1, by have := HC.out; omega⟩
      subst hk2
      have hix : ∀ W, (Instr.index 57 (.agg codesV) (.int .i64 (c : Int))).run Tryd.prog W = .ok (.int .i64 (cd c : Int)) W := fun W => index_arr W codesV _ c .i64 (by omega) (by omega) (by rw [Int.toNat_natCast]; exact codesV_get c cc)
      have hg0 := (HG.out.below HB.out).cell c cc
      have hkk := kl_key (wf_cd c cc) (wf_ln c cc)
      have HMD : Aside0 ((mapD c).put (kl (cd c) (ln c)) (.lit (.int .i64 (c : Int))) = mapD (c + 1)) := ⟨rfl⟩
      have hw1 : wrap64 ((c : Int) + 1) = (c : Int) + 1 := by unfold wrap64; omega
      have HW1 := Aside0.mk hw1
      have hc0 : (0 : Int) ≤ (c : Int) := by omega
      have HCC := Aside0.mk cc
      obtain ⟨a, ha⟩ : ∃ a, cd c = a := ⟨_, rfl⟩
      obtain ⟨n, hn⟩ : ∃ n, ln c = n := ⟨_, rfl⟩
      rw [ha] at hix hkk HMD
      rw [hn] at hg0 hkk HMD
      have HKK := Aside0.mk hkk
      clear ha hn hkk
      go_wp2_with (at_mapUpdate; refine wpList_mapUpdate_own _ rfl _ _ _ 62 rfl 65 3 law65 Tryd.underlying62 _ w.heap.size c _ rfl HO.out (by unfold maxLen; omega) _ _ _ rfl rfl HKK.out _ [] (plainElem_int Tryd.underlying3 (wf_small (by omega) (by omega))) ?_; intro w2 hown2 hgr2; rw [HMD.out] at hown2; have HO2 := Aside0.mk hown2; have HB2 := Aside0.mk (HB.out.grown hgr2 HB.out.size (fun k e => by cases e; exact Nat.le_refl _)); clear hown2 hgr2 HO HB)
      go_roundg k2
      case measure => omega
      case rel => exact ⟨c + 1, (by first | rfl | (rw [HW1.out]; rfl)), ⟨by have := HC.out; have := HCC.out; omega⟩, HB2, HO2⟩
    · have ccb : decide ((c : Int) < 257) = false := decide_eq_false (by omega)
      obtain rfl : c = 257 := by have := HC.out; omega
      clear cc
      go_wp2
      go_ret
      exact ⟨_, rfl, HO.out, Nat.le_refl _, HB.out⟩
end Go.Proofs.YtlbjhbanfpnogaaDoor.QH
namespace Go.Proofs.YtlbjhbanfpnogaaDoorR
open Go Go.RowKit
set_option linter.unusedVariables false
set_option linter.unusedSimpArgs false

/-- What an iterator owes its loop: each value x that it hands out stands in memory as Ok says, at the moment when it is handed out. -/
def SeqOk {α σ : Type} (F : Fence) (n : Nat) (P : Program) (g : Nat) (lb : Array Value) (encs : α → Array Value) (Ok : σ → α → World → Prop) (Kp : α → World → World → Prop) (s0 : σ) (nx : σ → α → Nat → σ) (S : σ → Prop) (w : World) : Prop :=
  ∀ (l : Nat) (J Jx : σ → World → Prop) (W : World), Below w.heap.size w W → AbidesFrom W.heap.size J → AbidesFrom W.heap.size Jx →
    (∀ s x W1, J s W1 → Ok s x W1 → YieldAt F (n - 1) P l (encs x) W1 fun e W' =>
      (e = .returned (.bool true) ∧ J (nx s x W'.heap.size) W' ∧ Kp x W1 W') ∨ (e = .returned (.bool false) ∧ Jx (nx s x W'.heap.size) W')) →
    J s0 W →
    CallsIn F n P g (#[.func (.yield l) #[] #[]] ++ lb) W fun e W' => (∃ v, e = .returned v) ∧ ((∃ s, S s ∧ J s W') ∨ (∃ s, Jx s W'))

/-- How a round's body may be left: it goes on, or it leaves by a jump. -/
def roundOut {α σ : Type} (Kp : α → World → World → Prop) (I : σ → World → Prop) (Ix : Code → σ → World → Prop) (s : Nat → σ) (x : α) (W0 W : World) : Exit → Act → World → Prop
  | .normal, _, W' => KeepsOthers W W' ∧ Kp x W0 W' ∧ I (s W'.heap.size) W'
  | .ret, _, W' => KeepsOthers W W' ∧ Ix .ret (s W'.heap.size) W'
  | .exit id, _, W' => KeepsOthers W W' ∧ Ix (.exit id) (s W'.heap.size) W'
  | .goto t, _, W' => KeepsOthers W W' ∧ Ix (.goto t) (s W'.heap.size) W'
  | .panic _, _, _ => False
  | .outgrown, _, _ => False

/-- All cells lie as they lay. -/
structure Still (W W' : World) : Prop where
  size : W.heap.size ≤ W'.heap.size
  cells : ∀ (k : Nat) (o : Obj), W.heap[k]? = some o → o.isCells = true → W'.heap[k]? = some o
theorem Still.of_below {W W' : World} (h : Below W.heap.size W W') : Still W W' := ⟨h.size, fun k o hk _ => (h.block k (Array.getElem?_eq_some_iff.1 hk).1).trans hk⟩
theorem Still.put {W W' : World} (h : Still W W') {l : Nat} {o : Obj} (o' : Obj) (hl : W'.heap[l]? = some o) (ho : o.isCells = false) : Still W (W'.putObj l o') :=
  ⟨by simpa using h.size, fun k q hk hq => by
    have h1 := h.cells k q hk hq
    refine (World.putObj_heap_other (fun e => ?_)).trans h1
    rw [e, hl] at h1
    cases h1
    rw [ho] at hq
    cases hq⟩
theorem rangeFunc_ok {F : Fence} {n : Nat} {P : Program} {α σ : Type} {g : Operand} {ps : Array Tmp} {assign body : Code} {Q : Exit → Act → World → Prop} {a : Act} {w : World}
    (hro : F.round = none) (h1 : 1 ≤ n) {gf : Nat} {lb : Array Value} (hg : a.eval g = .func (.func gf) #[] lb) (hFg : F.fn gf) (eg : ∀ args w, (callFunc gf args).run P w = .ok (.enter gf args) w)
    {encs : α → Array Value} {Ok : σ → α → World → Prop} {Kp : α → World → World → Prop} {s0 : σ} {nx : σ → α → Nat → σ} {S : σ → Prop} {w0 : World} (hseq : SeqOk F (n - 1) P gf lb encs Ok Kp s0 nx S w0)
    (hKl : ∀ (x : α) (A B : World) (l : Nat) (o o' : Obj), w.heap.size ≤ l → B.heap[l]? = some o → o.isCells = false → o.isWalk = false → Kp x A B → Kp x A (B.putObj l o')) (hb0 : Below w0.heap.size w0 w) (hps : ∀ x, (encs x).size = ps.size)
    (I : σ → World → Prop) (Ix : Code → σ → World → Prop) (hI : OwnFrom w.heap.size I) (hIx : ∀ c, OwnFrom w.heap.size (Ix c)) (h0 : I s0 w) (Ax : α → Act → World → Prop) (hAx : ∀ x a', OwnFrom w.heap.size (fun (_ : Unit) W => Ax x a' W))
    (hassign : ∀ (l : Nat) (s : σ) (x : α) (W : World) (K : Act → World → Prop), w.heap.size ≤ W.heap.size → I s W → Ok s x W → (∀ a' W', Below W.heap.size W W' → I s W' → Ax x a' W' → K a' W') →
      assign.wpIn (F.inRound l) (n - 1 - 1) P (Exit.then K (fun _ _ _ => False)) { tmps := (ps.zip (encs x)).foldl (fun t (p, v) => t.setIfInBounds p v) a.tmps, defers := [] } W)
    (hbody : ∀ (l : Nat) (s : σ) (x : α) (a' : Act) (W0 W : World), w.heap.size ≤ W.heap.size → Still W0 W → Below w.heap.size W0 W → I s W → Ok s x W0 → Ax x a' W → body.wpIn (F.inRound l) (n - 1 - 1) P (roundOut Kp I Ix (nx s x) x W0 W) a' W)
    (hdone : ∀ (D : Nat) (s : σ) (W : World), w.heap.size ≤ D → S s → I s W → W.heap[D]? = some (.deferred (some [])) → Q .normal { a with defers := { target := .collected D, args := #[] } :: a.defers } W)
    (hstop : ∀ (D : Nat) (c : Code) (s : σ) (W : World), w.heap.size ≤ D → Ix c s W → W.heap[D]? = some (.deferred (some [])) → c.wpIn F n P Q { a with defers := { target := .collected D, args := #[] } :: a.defers } W) :
    (Code.rangeFunc g ps assign body).wpIn F n P Q a w := by
  refine wpIn_rangeFunc fun fn hfn => ?_
  rw [hro]
  -- the two blocks that the loop lays for itself: D for deferred calls, L its record
  obtain ⟨D, hD⟩ : ∃ D, D = w.heap.size := ⟨_, rfl⟩
  obtain ⟨L, hL⟩ : ∃ L, L = w.heap.size + 1 := ⟨_, rfl⟩
  obtain ⟨rc, hrc⟩ : ∃ rc : LoopState → Option Code → Obj, rc = fun st pe => .loop { state := st, pending := pe, fn, tmps := a.tmps, params := ps, assign, body, defers := D } := ⟨_, rfl⟩
  have hnew : ∀ (W : World) (o : Obj), (W.alloc o).heap[W.heap.size]? = some o := World.alloc_heap_new
  obtain ⟨W1, hW1⟩ : ∃ W1, W1 = (w.alloc (.deferred (some []))).alloc (rc .ready none) := ⟨_, rfl⟩
  have hl1 : W1.heap[L]? = some (rc .ready none) := by
    rw [hW1, hL]; have := hnew (w.alloc (.deferred (some []))) (rc .ready none); rwa [World.size_alloc] at this
  have hd1 : W1.heap[D]? = some (.deferred (some [])) := by
    rw [hW1, hD]; exact (Below.heap_alloc _ _ _ (by simp)).trans (hnew w _)
  have hb1 : Below w0.heap.size w0 W1 := by
    rw [hW1]; exact hb0.trans ((((Below.refl _ w).alloc (Nat.le_refl _) _).alloc (by simp) _).mono hb0.size)
  have hs1 : w.heap.size ≤ W1.heap.size := by rw [hW1]; simp; omega
  have hI1 : I s0 W1 := by rw [hW1]; exact hI.alloc _ (hI.alloc _ h0)
  have hrun : (Instr.enterLoop fn a.tmps ps assign body none).run P w = .ok (L, [{ target := .collected D, args := #[] }]) W1 := by
    rw [hW1, hrc, hL, hD]; exact run_enterLoop_outer _ _ _ _ _
  refine ⟨L, [{ target := .collected D, args := #[] }], W1, { target := .fn (.func gf) lb, args := #[.func (.yield L) #[] #[]] }, W1, gf, #[.func (.yield L) #[] #[]] ++ lb, W1, hrun, ?_, ?_, ?_, fun _ => h1, ?_⟩
  · simp only [resolve, hg]; simp [go_sem]
  · intro f' hf'; simp [Target.leads] at hf'; subst hf'; exact hFg
  · simp [invoke, go_sem, eg]
  -- what stands between two rounds, and behind one that left
  have kept : ∀ {st : LoopState} {pe : Option Code} {A B : World} {row : Option Nat}, A.heap[L]? = some (rc st pe) ∧ A.heap[D]? = some (.deferred (some [])) → A.grownBy B row →
      (∀ r, row = some r → W1.heap.size ≤ r ∧ ∃ o : Obj, A.heap[r]? = some o ∧ o.isWalk = true) → B.heap[L]? = some (rc st pe) ∧ B.heap[D]? = some (.deferred (some [])) := fun h hg' hr =>
    ⟨(grownBy_keeps hg' (fun r e => (hr r e).2) h.1 (by rw [hrc]; rfl)).trans h.1, (grownBy_keeps hg' (fun r e => (hr r e).2) h.2 rfl).trans h.2⟩
  have walks : ∀ {A : World} {row : Option Nat}, (∀ r, row = some r → W1.heap.size ≤ r ∧ ∃ o : Obj, A.heap[r]? = some o ∧ o.isWalk = true) → (∀ r, row = some r → w.heap.size ≤ r ∧ ∃ o : Obj, A.heap[r]? = some o ∧ o.isCells = false) := fun hr r e => by
    obtain ⟨hB, o, ho, hw⟩ := hr r e
    exact ⟨by omega, o, ho, Obj.not_cells_of_walk hw⟩
  refine (hseq L (fun s W => I s W ∧ W.heap[L]? = some (rc .ready none) ∧ W.heap[D]? = some (.deferred (some [])))
    (fun s W => ∃ c, Ix c s W ∧ W.heap[L]? = some (rc .done (some c)) ∧ W.heap[D]? = some (.deferred (some []))) W1 hb1
    (fun s A B row hs hg' hr => ⟨hI s A B row hs.1 hg' (walks hr), kept hs.2 hg' hr⟩)
    (fun s A B row hs hg' hr => hs.imp fun c hc => ⟨hIx c s A B row hc.1 hg' (walks hr), kept hc.2 hg' hr⟩) ?round ⟨hI1, hl1, hd1⟩).mono ?behind
  case round =>
    rintro s x W ⟨hi, hl, hd⟩ hok
    have hlt : L < W.heap.size := (Array.getElem?_eq_some_iff.1 hl).1
    rw [hrc] at hl
    refine ⟨fn, _, assign, body, run_yield (P := P) (args := encs x) hl (hps x), roundIn_of_wpIn hfn (hassign _ s x W _ (by omega) hi hok ?_)⟩
    intro a' Wa hba hia hax
    have hla : Wa.heap[L]? = some (rc .ready none) := by rw [hrc]; exact (hba.block _ hlt).trans hl
    have hda : Wa.heap[D]? = some (.deferred (some [])) := (hba.block _ (by omega)).trans hd
    have hlta : L < Wa.heap.size := Nat.lt_of_lt_of_le hlt hba.size
    rw [hrc] at hla
    refine ⟨_, run_beginRound hla rfl, ?_⟩
    obtain ⟨W2, hW2⟩ : ∃ W2, W2 = Wa.putObj L (rc .busy none) := ⟨_, rfl⟩
    have hl2 : W2.heap[L]? = some (rc .busy none) := by rw [hW2]; exact World.putObj_heap_same hlta
    have hd2 : W2.heap[D]? = some (.deferred (some [])) := by rw [hW2]; exact (World.putObj_heap_other (by omega)).trans hda
    have hi2 : I s W2 := by rw [hW2]; exact hI.putObj _ hia (by omega) hla rfl
    have hax2 : Ax x a' W2 := by rw [hW2]; exact (hAx x a').putObj (s := ()) _ hax (by omega) hla rfl
    have hst : Still W W2 := by rw [hW2]; exact (Still.of_below hba).put _ hla rfl
    have hbw : Below w.heap.size W W2 := by
      rw [hW2]
      exact (hba.mono (by omega)).grown (grownBy_putObj' Wa L _) (by omega) (fun k e => by cases e; omega)
    have hgo := hbody L s x a' W W2 (by rw [hW2]; simp; omega) hst hbw hi2 hok hax2
    rw [hW2, hrc] at hgo
    refine wpIn_mono hgo ?_
    rw [hrc] at hl2 hW2
    clear hgo
    have fin : ∀ (jump : Option Code) (W3 : World), KeepsOthers W2 W3 → ∃ o, W3.heap[L]? = some o ∧ o.isCells = false ∧ o.isWalk = false ∧
        (Instr.endRound L jump).run P W3 = .ok (.bool jump.isNone) (W3.putObj L (rc (if jump.isNone then .ready else .done) jump)) ∧
        (W3.putObj L (rc (if jump.isNone then .ready else .done) jump)).heap[L]? = some (rc (if jump.isNone then .ready else .done) jump) ∧
        (W3.putObj L (rc (if jump.isNone then .ready else .done) jump)).heap[D]? = some (.deferred (some [])) := fun jump W3 hk => by
      have hl3 := hk.same _ _ hl2 rfl
      have hr := run_endRound (P := P) jump hl3
      exact ⟨_, hl3, rfl, rfl, by rw [hr, hrc], World.putObj_heap_same (Array.getElem?_eq_some_iff.1 hl3).1, (World.putObj_heap_other (by omega)).trans (hk.same _ _ hd2 rfl)⟩
    have out : ∀ (c : Code) (W3 : World), KeepsOthers W2 W3 → Ix c (nx s x W3.heap.size) W3 → ∃ v W', (Instr.endRound L (some c)).run P W3 = .ok v W' ∧ ((Ending.returned v = .returned (.bool true) ∧ (I (nx s x W'.heap.size) W' ∧ W'.heap[L]? = some (rc .ready none) ∧ W'.heap[D]? = some (.deferred (some []))) ∧ Kp x W W') ∨
        (Ending.returned v = .returned (.bool false) ∧ ∃ c', Ix c' (nx s x W'.heap.size) W' ∧ W'.heap[L]? = some (rc .done (some c')) ∧ W'.heap[D]? = some (.deferred (some [])))) := fun c W3 hk hx => by
      obtain ⟨o, ho, hc, hw, hr, hl4, hd4⟩ := fin (some c) W3 hk
      exact ⟨_, _, hr, .inr ⟨rfl, c, by rw [World.putObj_size]; exact (hIx c).putObj _ hx (by omega) ho hc, hl4, hd4⟩⟩
    rw [← hW2]
    rintro e a3 W3 hp
    cases e with
    | normal =>
      obtain ⟨hk, hkp, hi3⟩ := hp
      obtain ⟨o, ho, hc, hw, hr, hl4, hd4⟩ := fin none W3 hk
      exact ⟨_, _, hr, .inl ⟨rfl, ⟨by rw [World.putObj_size]; exact hI.putObj _ hi3 (by omega) ho hc, hl4, hd4⟩, hKl _ _ _ _ _ _ (by omega) ho hc hw hkp⟩⟩
    | ret => exact out _ W3 hp.1 hp.2
    | exit id => exact out _ W3 hp.1 hp.2
    | goto t => exact out _ W3 hp.1 hp.2
    | panic ch => exact hp.elim
    | outgrown => exact hp.elim
  case behind =>
    rintro e W2 ⟨⟨v, rfl⟩, (⟨s, hS, hi, hl, hd⟩ | ⟨s, c, hi, hl, hd⟩)⟩
    · rw [hrc] at hl
      exact ⟨none, _, run_endLoop (P := P) hl (by simp), hdone D s _ (by omega) hS (hI.putObj _ hi (by omega) hl rfl) ((World.putObj_heap_other (by omega)).trans hd)⟩
    · rw [hrc] at hl
      exact ⟨some c, _, run_endLoop (P := P) hl (by simp), hstop D c s _ (by omega) ((hIx c).putObj _ hi (by omega) hl rfl) ((World.putObj_heap_other (by omega)).trans hd)⟩
end Go.Proofs.YtlbjhbanfpnogaaDoorR
namespace Go.Proofs.YtlbjhbanfpnogaaDoorR
open Go Go.RowKit
set_option linter.unusedVariables false
section
variable {P : Program} {ops : Array Oper} {Q : Exit → Act → World → Prop} {l n : Nat}
theorem upon_round {o : Oper} {a : Act} {K K' : Act → World → Prop} (hQ : ¬ LetsOut Q) (hK : ∀ a w, K a w → K' a w) (r : Result Next) (h : o.upon P a K Q r) : o.uponIn (Fence.wide.inRound l) n P a K' Q r := by
  have hd : ∀ {p : Prop}, ((Fence.wide.inRound l).depth.isSome = true → p) := fun h => by simp [Fence.wide] at h
  cases r with
  | ok x w =>
    cases x with
    | value v => exact hK _ _ h
    | skip => exact hK _ _ h
    | defer d => exact hK _ _ h
    | enter f args =>
      refine ⟨hd, ?_⟩
      refine CallsIn.inRound l (callsIn_wide.2 (Calls.mono h fun e w' he => ?_))
      cases e with
      | returned v => exact hK _ _ he
      | panicked c => exact he
      | outgrown => exact he
    | row row args =>
      refine ⟨hd, fun c cs _ => ?_⟩
      obtain ⟨v, w', hr, hs⟩ := h c cs
      exact ⟨v, w', hK _ _ hr, stepsIn_wide.2 hs⟩
    | _ => exact h.elim
  | halt x w =>
    cases x <;> first | exact h | exact h.elim
theorem wpOps_round (hdef : ∀ o ∈ ops.toList, ∀ c, o.op ≠ .defer c) (hQ : ¬ LetsOut Q) : ∀ (L : List Nat) (a : Act) (w : World), wpOps P ops Q L a w → wpOpsIn (Fence.wide.inRound l) n P ops Q L a w
  | [], _, _, h => h
  | i :: rest, a, w, h => by
    simp only [wpOps] at h
    simp only [wpOpsIn]
    cases ho : ops[i]? with
    | none => rw [ho] at h; exact wpOps_round hdef hQ rest a w h
    | some o =>
      rw [ho] at h
      simp only [] at h ⊢
      by_cases hw : Region.wanted o (yielded ops a.tmps) = true
      · rw [if_pos hw] at h ⊢
        rcases h with h | ⟨_, h⟩
        · refine ⟨fun _ _ => trivial, ?_⟩
          rw [Oper.semAt_eq _ _ _ (hdef o (by have := Array.mem_of_getElem? ho; simpa using this))]
          exact upon_round hQ (wpOps_round hdef hQ rest) _ h
        · exact absurd h hQ
      · rw [if_neg hw] at h ⊢
        exact ⟨fun _ _ => trivial, wpOps_round hdef hQ rest _ _ h⟩
def Oper.plain (o : Oper) : Bool := match o.op with | .defer _ => false | _ => true
/-- The region, in whatever order, from the world behind the draw. -/
theorem region_round {id : Nat} {a : Act} {w : World} (hm : P.follows .mixedOrders = true) (hdef : ops.all Oper.plain = true) (hQ : ¬ LetsOut Q)
    (h : wpAny P .any ops Q ops.size (Array.replicate ops.size false) a w.drew) : (Code.region id ops true).wpIn (Fence.wide.inRound l) n P Q a w :=
  wpIn_region_draw fun t => by
    simp only [Region.schedule, hm, Bool.true_or, if_true]
    refine wpOps_round (fun o ho c hc => ?_) hQ _ _ _ (wpAny_sound ops.size t _ a _ h)
    have h1 := Array.all_eq_true_iff_forall_mem.1 hdef o (by simpa using ho)
    unfold Oper.plain at h1
    rw [hc] at h1
    cases h1
end
end Go.Proofs.YtlbjhbanfpnogaaDoorR
namespace Go.Proofs.YtlbjhbanfpnogaaDoor.QH
open Go.RowKit Go.Proofs.YtlbjhbanfpnogaaDoorW.PrintWords Go.Proofs.YtlbjhbanfpnogaaDoorW.PrintLast Go.Proofs.YtlbjhbanfpnogaaDoorW.PrintMore
attribute [local go_sem] max2_int min2_int max_two min_two max_three min_three max_four min_four
set_option linter.unusedVariables false
set_option linter.unusedSimpArgs false
open Go.Maps
open Go.Proofs.YtlbjhbanfpnogaaDoorR
/-- Bit s of bytes. -/
def bitAt (l : List Int) (s : Nat) : Int := rd l ((s / 8 : Nat) : Int) / 2 ^ (7 - s % 8) % 2
def Bt.encs (x : Int) : Array Value := #[.int .i64 x]
def Bt.Ok (l : List Int) (s : Nat) (x : Int) (_ : World) : Prop := s < 8 * l.length ∧ x = bitAt l s
def Bt.Kp (B Bq : Nat) (_ : Int) (W W' : World) : Prop := Below B W W' ∧ W'.heap[Bq]? = W.heap[Bq]?
theorem below_grown {w w' : World} (h : Below w.heap.size w w') : w.grownBy w' none := ⟨h.os, h.tape, h.output, h.size, fun k hk _ => h.block k hk⟩
theorem bit_is {c : Nat} (hc : c < 256) {i : Nat} (hi : i < 8) : bits .and .u8 ((c : Int) / 2 ^ i) 1 = (c : Int) / 2 ^ i % 2 := by
  have h1 : ((c : Int) / 2 ^ i) = ((c / 2 ^ i : Nat) : Int) := by simp
  have h2 : c / 2 ^ i ≤ c := Nat.div_le_self _ _
  rw [h1]
  generalize c / 2 ^ i = q at *
  have h := bits_mask .u8 8 (by decide) wraps_u8 1 (by decide) ((q : Nat) : Int) (by omega) (by omega)
  simpa using h
set_option maxHeartbeats 4000000 in
set_option maxRecDepth 100000 in
theorem bits1.stops (A : Option Addr) (c : Nat) (l : List Int) (w0 w : World) (Bq : Nat) (hr : Kd.C (Kd.int .u8) w0 A l.length l) (hy : bytesB l = true) (hbel : Below w0.heap.size w0 w) (hq : w.heap[Bq]? = some (.cells #[.slice A l.length c] 22 (0, 0))) :
    SeqOk Fence.wide 2 Tryd.prog 56 #[.pointer (some ⟨Bq, 0, none⟩)] Bt.encs (Bt.Ok l) (Bt.Kp w0.heap.size Bq) (0 : Nat) (fun s _ _ => s + 1) (fun s => s = 8 * l.length) w := by
  intro L J Jx W hW hJ hJx hY h0
  refine callsIn_wide.2 ?_
  have HR := Aside0.mk hr
  have HYB := Aside0.mk hy
  have HL : Aside0 (l.length ≤ 1000000) := ⟨by unfold bytesB at hy; rw [Bool.and_eq_true] at hy; exact of_decide_eq_true hy.1⟩
  have HBq := Aside0.mk (blk_below hq hW)
  have HY := Aside0.mk hY
  have HJ := Aside0.mk hJ
  have HJx := Aside0.mk hJx
  clear hr hq hY hJ hJx hy
  have HB := Aside0.mk (below_step hbel hW)
  clear hbel
  have H0 := Aside0.mk h0
  clear h0 hW
  have hcq : W.cell? ⟨Bq, 0, none⟩ = some (.slice A l.length c) := (blk_cell HBq.out 0).trans rfl
  simp only [List.append_toArray, List.cons_append, List.nil_append]
  go_enter Tryd.func56, Tryd.ntmps56
  go_wp2
  clear hcq
  go_loopg [8] (l.length + 1) (fun kq v8 w' => ∃ (j : Nat), v8 = .int .i64 (j : Int) ∧ Aside0 (J (8 * j) w') ∧ Aside0 (j + kq = l.length + 1 ∧ j ≤ l.length) ∧ Aside0 (Below w0.heap.size w0 w') ∧ Aside0 (w'.heap[Bq]? = some (.cells #[.slice A l.length c] 22 (0, 0))))
  case atStart => exact ⟨0, rfl, H0, ⟨by omega⟩, HB, HBq⟩
  case round =>
    clear HB H0 HBq
    obtain ⟨j, rfl, HJs, HK, HB, HBq⟩ := hrel
    by_cases cj : j < l.length
    · obtain ⟨k1, hk1⟩ : ∃ q, gk = q + 1 := ⟨gk - 1, by have := HK.out; omega⟩
      subst hk1
      have cjb : decide ((j : Int) < (l.length : Int)) = true := decide_eq_true (by omega)
      have cjn : decide (j < l.length) = true := decide_eq_true cj
      obtain ⟨ad, e0, hx0⟩ := Kd.at_int HR.out (j : Int) (by omega) (by omega)
      subst e0
      rw [Int.toNat_natCast] at hx0
      have hx1 := (HB.out.cell (World.block_lt_of_cell? w0 _ hx0)).trans hx0
      have hyb := bytes_at HYB.out j cj
      obtain ⟨x, hx⟩ : ∃ x : Nat, rd l (j : Int) = (x : Int) := ⟨(rd l (j : Int)).toNat, by omega⟩
      have HX := Aside0.mk hx
      rw [hx] at hx1 hyb
      have hw1 : wrap64 ((j : Int) + 1) = (j : Int) + 1 := by unfold wrap64; have := HL.out; omega
      have HW1 := Aside0.mk hw1
      have HXB : Aside0 (x < 256) := ⟨by omega⟩
      clear hx hx0 hyb hw1
      go_wp2
      obtain ⟨wo, rfl⟩ : ∃ wo : World, wo = wr := ⟨_, rfl⟩
      go_loopg [5] 9 (fun kq v5 w' => ∃ (i : Nat), v5 = .int .i64 ((i : Int) - 1) ∧ Aside0 (J (8 * j + (8 - i)) w') ∧ Aside0 (i + 1 = kq ∧ i ≤ 8) ∧ Aside0 (Below w0.heap.size w0 w') ∧ Aside0 (w'.heap[Bq]? = some (.cells #[.slice (some ad) l.length c] 22 (0, 0))))
      case atStart => exact ⟨8, rfl, HJs, ⟨by omega⟩, HB, HBq⟩
      case round =>
        clear HB HBq HJs
        obtain ⟨i, rfl, HJs, HI, HB, HBq⟩ := hrel
        cases i with
        | zero =>
          go_wp2
          rw [HW1.out]
          go_roundg k1
          case measure => omega
          case rel => exact ⟨j + 1, rfl, ⟨by have := HJs.out; rwa [show 8 * j + (8 - 0) = 8 * (j + 1) by omega] at this⟩, ⟨by have := HK.out; omega⟩, HB, HBq⟩
        | succ i =>
          obtain ⟨k2, hk2⟩ : ∃ q, gk = q + 1 := ⟨gk - 1, by have := HI.out; omega⟩
          subst hk2
          have hi7 : i ≤ 7 := by have := HI.out; omega
          have e1 : (((i + 1 : Nat) : Int) - 1) = (i : Int) := by omega
          rw [e1]
          obtain ⟨b, hb⟩ : ∃ b : Int, b = (x : Int) / 2 ^ i % 2 := ⟨_, rfl⟩
          have hbi : bits .and .u8 ((x : Int) / 2 ^ i) 1 = b := by rw [hb]; exact bit_is HXB.out (by omega)
          have hi0 : (0 : Int) ≤ (i : Int) := by omega
          have hb01 : 0 ≤ b ∧ b < 2 := by rw [hb]; omega
          have hOK : Bt.Ok l (8 * j + (8 - (i + 1))) b wr := ⟨by omega, by rw [hb]; unfold bitAt; rw [show (8 * j + (8 - (i + 1))) / 8 = j by omega, show 7 - (8 * j + (8 - (i + 1))) % 8 = i by omega, HX.out]⟩
          obtain ⟨fn_, tmps_, assign_, body_, hy, hR⟩ := HY.out _ b _ HJs.out hOK
          simp only [Bt.encs, Bt.Kp] at hy hR
          clear e1 hb hOK
          refine (wpIn_wide (n := 2)).1 ?_
          have hw2 : wrap64 ((i : Int) - 1) = (i : Int) - 1 := by unfold wrap64; omega
          have HW2 := Aside0.mk hw2
          gi_wp2
          refine hR.mono ?_
          clear hR hy hw2
          rintro e_ W3 (⟨rfl, hJ3, hk3, hk4⟩ | ⟨rfl, hJx3⟩)
          · gi_wp2
            go_wp2
            go_roundg k2
            case measure => omega
            case rel => exact ⟨i, (by first | rfl | (rw [HW2.out])), ⟨by rw [show 8 * j + (8 - i) = 8 * j + (8 - (i + 1)) + 1 by omega]; exact hJ3⟩, ⟨by have := HI.out; omega⟩, ⟨HB.out.trans hk3⟩, ⟨hk4.trans HBq.out⟩⟩
          · gi_wp2
            go_wp2
            refine bodyPost_ret (results_none rfl _ _ _) rfl ?_
            exact ⟨⟨_, rfl⟩, .inr ⟨_, hJx3⟩⟩
    · have cjb : decide ((j : Int) < (l.length : Int)) = false := decide_eq_false (by omega)
      obtain rfl : j = l.length := by have := HK.out; omega
      go_wp2
      go_end0
      exact ⟨⟨_, rfl⟩, .inl ⟨_, rfl, HJs.out⟩⟩
end Go.Proofs.YtlbjhbanfpnogaaDoor.QH
namespace Go.Proofs.YtlbjhbanfpnogaaDoor.QH
open Go.RowKit Go.Proofs.YtlbjhbanfpnogaaDoorW.PrintWords Go.Proofs.YtlbjhbanfpnogaaDoorW.PrintLast Go.Proofs.YtlbjhbanfpnogaaDoorW.PrintMore
attribute [local go_sem] max2_int min2_int max_two min_two max_three min_three max_four min_four
set_option linter.unusedVariables false
set_option linter.unusedSimpArgs false
open Go.Maps
open Go.Proofs.YtlbjhbanfpnogaaDoorR
theorem huff_bits.is (A : Option Addr) (c : Nat) (l : List Int) (w : World) : Calls Tryd.prog 42 #[.slice A l.length c] w fun e w' => ∃ Bq, e = .returned (.func (.func 56) #[] #[.pointer (some ⟨Bq, 0, none⟩)]) ∧ w'.heap[Bq]? = some (.cells #[.slice A l.length c] 22 (0, 0)) ∧ w.heap.size ≤ Bq ∧ Below w.heap.size w w' := by
  go_enter Tryd.func42, Tryd.ntmps42
  go_wp2
  go_ret
  exact ⟨_, rfl, blk_new _ _, Nat.le_refl _, below_alloc (Below.refl _ _) _⟩
/-- The bits of bytes, and the text that they are. -/
def bitsL (l : List Int) : List Nat := (List.range (8 * l.length)).map fun s => (bitAt l s).toNat
def decL (most : Int) : List Nat → Nat → Nat → List Int → List Int × Int
  | [], a, n, out => if 8 ≤ n then ([], 3) else if a = 2 ^ n - 1 then (out, 0) else ([], 3)
  | b :: bs, a, n, out => match findC 257 (2 * a + b) (n + 1) with
    | none => decL most bs (2 * a + b) (n + 1) out
    | some c => if c = 256 then ([], 3) else if most ≤ (out.length : Int) then ([], 4) else decL most bs 0 0 (out ++ [(c : Int)])
def huff_Decode.f (l : List Int) (most : Int) : Option (List Int × Int) := if bytesB l = true then some (decL most (bitsL l) 0 0 []) else none
/-- A code that none is yet: what it is at least, and at most. -/
def open_ (a n : Nat) : Prop := nxN n 257 ≤ a ∧ a < 2 ^ n ∧ n ≤ 29
theorem tabD : ((List.range 31).all fun n => (List.range (nxN n 257 - nxN n 0)).all fun k => (findC 257 (nxN n 0 + k) n).isSome) = true := by decide +kernel
theorem tabE : nxN 30 257 = 2 ^ 30 := by decide +kernel
theorem find_some (a n : Nat) (hn : n ≤ 30) (h0 : nxN n 0 ≤ a) (h1 : a < nxN n 257) : (findC 257 a n).isSome = true := by
  have h2 := List.all_eq_true.1 tabD n (List.mem_range.2 (by omega))
  have h3 := List.all_eq_true.1 h2 (a - nxN n 0) (List.mem_range.2 (by omega))
  rwa [show nxN n 0 + (a - nxN n 0) = a by omega] at h3
theorem open_next {a n b : Nat} (h : open_ a n) (hb : b < 2) (hf : findC 257 (2 * a + b) (n + 1) = none) : open_ (2 * a + b) (n + 1) := by
  obtain ⟨h1, h2, h3⟩ := h
  have h4 := (nx_next n (by omega)).1
  have h5 : ¬ (2 * a + b < nxN (n + 1) 257) := fun h6 => by
    have h7 := find_some (2 * a + b) (n + 1) (by omega) (by omega) h6
    rw [hf] at h7; cases h7
  have h8 : 2 * a + b < 2 ^ (n + 1) := by rw [Nat.pow_succ]; omega
  refine ⟨by omega, h8, ?_⟩
  rcases Nat.lt_or_ge n 29 with h9 | h9
  · omega
  · obtain rfl : n = 29 := by omega
    have h10 := tabE
    rw [h10] at h5
    exact absurd h8 h5
theorem open_start : open_ 0 0 := ⟨by decide +kernel, by decide, by decide⟩
theorem findC_sound : ∀ (c a n i : Nat), findC c a n = some i → i < c ∧ cd i = a ∧ ln i = n
  | c + 1, a, n, i, h => by
    unfold findC at h
    by_cases hh : cd c = a ∧ ln c = n
    · rw [if_pos hh] at h; cases h; exact ⟨by omega, hh.1, hh.2⟩
    · rw [if_neg hh] at h
      have h1 := findC_sound c a n i h
      exact ⟨by omega, h1.2⟩
theorem bitsL_len (l : List Int) : (bitsL l).length = 8 * l.length := by simp [bitsL]
theorem bitAt_range {l : List Int} (h : bytesB l = true) (s : Nat) (hs : s < 8 * l.length) : 0 ≤ bitAt l s ∧ bitAt l s < 2 := by unfold bitAt; omega
theorem bitsL_drop (l : List Int) (s : Nat) (hs : s < 8 * l.length) : (bitsL l).drop s = (bitAt l s).toNat :: (bitsL l).drop (s + 1) := by
  rw [List.drop_eq_getElem_cons (by rw [bitsL_len]; exact hs)]
  simp [bitsL]
theorem shl_or {a b : Nat} (ha : a < 2 ^ 29) (hb : b < 2) : bits .or .i64 (wrap64 ((a : Int) * 2)) (b : Int) = ((2 * a + b : Nat) : Int) := by
  have h38 : (2 : Nat) ^ 38 = 274877906944 := by decide +kernel
  have h29 : (2 : Nat) ^ 29 = 536870912 := by decide +kernel
  rw [h29] at ha
  have h1 : wrap64 ((a : Int) * 2) = ((a * 2 : Nat) : Int) := by unfold wrap64; omega
  rw [h1, or_join 1 (a * 2) b (by rw [h38]; omega) (by simpa using hb) (by rw [h38]; omega) (by simp), Nat.mul_comm]
/-- Between two bits. b3: the bound; b4, b5: the results; b6: the map's variable; b7: the text; b8: the code. -/
structure DecI (w : World) (most : Int) (r : List Int × Int) (l : List Int) (A : Option Addr) (c Bq mb b3 b4 b5 b6 b7 b8 : Nat) (s : Nat) (W : World) : Prop where
  be : Below w.heap.size w W
  h3 : W.heap[b3]? = some (.cells #[.int .i64 most] 3 (0, 0))
  h4 : W.heap[b4]? = some (.cells #[.slice none 0 0] 22 (0, 0))
  h5 : W.heap[b5]? = some (.cells #[.int .i64 0] 27 (0, 0))
  h6 : W.heap[b6]? = some (.cells #[.map (some mb)] 62 (0, 0))
  hm : W.ownsMap Tryd.prog 65 (plainElem (H := Unit) Tryd.prog 3) mb 257 (mapD 257)
  hq : W.heap[Bq]? = some (.cells #[.slice A l.length c] 22 (0, 0))
  st : s ≤ 8 * l.length ∧ ∃ (a n : Nat) (out : List Int) (v : Value), decL most ((bitsL l).drop s) a n out = r ∧ open_ a n ∧ out.length ≤ s ∧ W.heap[b7]? = some (.cells #[v] 22 (0, 0)) ∧ W.heap[b8]? = some (.cells #[.int .i64 (a : Int), .int .i64 (n : Int)] 65 (0, 0)) ∧ Kd.R (Kd.int .u8) 5 W w.heap.size (fun _ => True) v out
/-- Behind a return in a round. -/
structure DecX (w : World) (r : List Int × Int) (b4 b5 : Nat) (c : Code) (W : World) : Prop where
  is : c = .ret
  be : Below w.heap.size w W
  r1 : r.1 = []
  h4 : W.heap[b4]? = some (.cells #[.slice none 0 0] 22 (0, 0))
  h5 : W.heap[b5]? = some (.cells #[.int .i64 r.2] 27 (0, 0))
end Go.Proofs.YtlbjhbanfpnogaaDoor.QH
namespace Go.Proofs.YtlbjhbanfpnogaaDoor.QH
open Go.RowKit Go.Proofs.YtlbjhbanfpnogaaDoorW.PrintWords Go.Proofs.YtlbjhbanfpnogaaDoorW.PrintLast Go.Proofs.YtlbjhbanfpnogaaDoorW.PrintMore
attribute [local go_sem] max2_int min2_int max_two min_two max_three min_three max_four min_four
set_option linter.unusedVariables false
set_option linter.unusedSimpArgs false
open Go.Maps Go.Proofs.YtlbjhbanfpnogaaDoorR Go.Proofs.YtlbjhbanfpnogaaDoor.Ob
section
attribute [local go_sem] Oper.semAt_some
theorem blk_turn {W W' : World} {g t : Nat} {cs : Array Value} {row : Option Nat} (h : W.heap[g]? = some (.cells cs t (0, 0))) (hg : W.grownBy W' row) (hr : ∀ r, row = some r → ∃ o : Obj, W.heap[r]? = some o ∧ o.isCells = false) : W'.heap[g]? = some (.cells cs t (0, 0)) :=
  (hg.block g (blk_lt h) (fun e => by
    obtain ⟨o, ho, hc⟩ := hr g e.symm
    rw [h] at ho
    cases ho
    cases hc)).trans h
theorem R_turn {W W' : World} {base : Nat} {ok : Nat → Prop} {v : Value} {xs : List Int} {row : Option Nat} (h : Kd.R (Kd.int .u8) 5 W base ok v xs) (hg : W.grownBy W' row) (hr : ∀ r, row = some r → ∃ o : Obj, W.heap[r]? = some o ∧ o.isCells = false) : Kd.R (Kd.int .u8) 5 W' base ok v xs :=
  Kd.R_mono (Kd.R_step (Kd.R_bound h) (fun k hk hlt => hg.block k hlt (fun e => by
    obtain ⟨o, ho, hc⟩ := hr k e.symm
    obtain ⟨_, _, _, q, _, cells, hcells⟩ := hk
    rw [hcells] at ho
    cases ho
    cases hc))) (fun k hk => hk.1)
variable {w : World} {most : Int} {r : List Int × Int} {l : List Int} {A : Option Addr} {c Bq mb b3 b4 b5 b6 b7 b8 : Nat}
theorem DecI.own {B : Nat} (hB : w.heap.size ≤ B) (hmb : mb < B) : OwnFrom B (DecI w most r l A c Bq mb b3 b4 b5 b6 b7 b8) := fun s X Y row h hg hr => by
  have hr' : ∀ k, row = some k → ∃ o : Obj, X.heap[k]? = some o ∧ o.isCells = false := fun k e => (hr k e).2
  obtain ⟨h1, a, n, out, v, h2, h3, h4, h5, h6, h7⟩ := h.st
  exact ⟨h.be.grown hg h.be.size (fun k e => Nat.le_trans hB (hr k e).1), blk_turn h.h3 hg hr', blk_turn h.h4 hg hr', blk_turn h.h5 hg hr', blk_turn h.h6 hg hr', h.hm.kept hg (fun e => by have := (hr _ e.symm).1; omega), blk_turn h.hq hg hr', h1, a, n, out, v, h2, h3, h4, blk_turn h5 hg hr', blk_turn h6 hg hr', R_turn h7 hg hr'⟩
theorem DecX.own {B : Nat} (hB : w.heap.size ≤ B) (cc : Code) : OwnFrom B (fun (_ : Nat) W => DecX w r b4 b5 cc W) := fun s X Y row h hg hr => by
  have hr' : ∀ k, row = some k → ∃ o : Obj, X.heap[k]? = some o ∧ o.isCells = false := fun k e => (hr k e).2
  exact ⟨h.is, h.be.grown hg h.be.size (fun k e => Nat.le_trans hB (hr k e).1), h.r1, blk_turn h.h4 hg hr', blk_turn h.h5 hg hr'⟩
theorem zero3 (W : World) : (zeroValue 3).run Tryd.prog W = .ok (.int .i64 0) W := by kernel_rfl
theorem ones_core (X : Nat) (h0 : 0 < X) (h1 : X ≤ 536870912) : wrap64 (wrap64 (X : Int) - 1) = ((X - 1 : Nat) : Int) := by
  have h8 : wrap64 (X : Int) = (X : Int) := by unfold wrap64; omega
  rw [h8]; unfold wrap64; omega
theorem ones_step {n m : Nat} (hn : n ≤ 29) (hm : 2 ^ n - 1 = m) : wrap64 (wrap64 (2 ^ n) - 1) = (m : Int) := by
  have h2 : 2 ^ n ≤ 2 ^ 29 := Nat.pow_le_pow_right (by decide) hn
  have h3 : (2 : Nat) ^ 29 = 536870912 := by decide +kernel
  rw [h3] at h2
  have h7 : ((2 : Int) ^ n) = ((2 ^ n : Nat) : Int) := by simp
  rw [h7, ← hm]
  exact ones_core _ (Nat.two_pow_pos n) h2
theorem cell_put {W : World} {D b t : Nat} {v : Value} {o o' : Obj} (h : W.heap[b]? = some (.cells #[v] t (0, 0))) (hK : W.heap[D]? = some o) (ho : o.isCells = false) : (W.putObj D o').cell? ⟨b, 0, none⟩ = some v :=
  (blk_cell ((World.putObj_heap_other (fun e => by rw [e, hK] at h; cases h; cases ho)).trans h) 0).trans rfl
theorem R_put {W : World} {base : Nat} {ok : Nat → Prop} {v : Value} {xs : List Int} {D : Nat} {o o' : Obj} (h : Kd.R (Kd.int .u8) 5 W base ok v xs) (hK : W.heap[D]? = some o) (ho : o.isCells = false) : Kd.R (Kd.int .u8) 5 (W.putObj D o') base ok v xs :=
  R_turn h (grownBy_putObj' W D o') (fun k e => by cases e; exact ⟨o, hK, ho⟩)
theorem dec_results {tmps : Array Value} {b4 b5 : Nat} {Z : World} {v : Value} {e : Int} (h4 : tmps[4]? = some (.pointer (some ⟨b4, 0, none⟩))) (h5 : tmps[5]? = some (.pointer (some ⟨b5, 0, none⟩))) (c4 : Z.cell? ⟨b4, 0, none⟩ = some v) (c5 : Z.cell? ⟨b5, 0, none⟩ = some (.int .i64 e)) : (results Tryd.f18 tmps).run Tryd.prog Z = .ok (.tuple #[v, .int .i64 e]) Z := by
  simp [results, Tryd.results18, asAddr, go_sem, h4, h5, c4, c5]
/-- What a round may write. -/
def Dw (b7 b8 : Nat) (v : Value) : Nat → Prop := fun k => k = b7 ∨ k = b8 ∨ v.ownBlock = some k
theorem Dw_ne {W : World} {base : Nat} {ok : Nat → Prop} {v : Value} {out : List Int} (hR : Kd.R (Kd.int .u8) 5 W base ok v out) {g t : Nat} {cs : Array Value} (hg : W.heap[g]? = some (.cells cs t (0, 0))) (ht : 5 ≠ t) (h1 : g ≠ b7) (h2 : g ≠ b8) : ¬ Dw b7 b8 v g := fun hF => by
  rcases hF with rfl | rfl | hF
  · exact h1 rfl
  · exact h2 rfl
  · exact Kd.R_ne hR hg ht hF.symm
theorem DecI.next {s : Nat} {out : List Int} {v v1 : Value} {W W1 : World} {a1 n1 : Nat} {out1 : List Int} (h : DecI w most r l A c Bq mb b3 b4 b5 b6 b7 b8 s W) (hs : s + 1 ≤ 8 * l.length) (hd : decL most ((bitsL l).drop (s + 1)) a1 n1 out1 = r) (ho : open_ a1 n1) (hl : out1.length ≤ s + 1)
    (hR : ∃ ok, Kd.R (Kd.int .u8) 5 W w.heap.size ok v out) (hk : Keeps W W1 (Dw b7 b8 v)) (hd7 : b3 ≠ b7 ∧ b4 ≠ b7 ∧ b5 ≠ b7 ∧ b6 ≠ b7 ∧ Bq ≠ b7) (hd8 : b3 ≠ b8 ∧ b4 ≠ b8 ∧ b5 ≠ b8 ∧ b6 ≠ b8 ∧ Bq ≠ b8) (hb7 : w.heap.size ≤ b7) (hb8 : w.heap.size ≤ b8)
    (hm : W1.ownsMap Tryd.prog 65 (plainElem (H := Unit) Tryd.prog 3) mb 257 (mapD 257)) (h7 : W1.heap[b7]? = some (.cells #[v1] 22 (0, 0))) (h8 : W1.heap[b8]? = some (.cells #[.int .i64 (a1 : Int), .int .i64 (n1 : Int)] 65 (0, 0))) (hR1 : Kd.R (Kd.int .u8) 5 W1 w.heap.size (fun _ => True) v1 out1) :
    DecI w most r l A c Bq mb b3 b4 b5 b6 b7 b8 (s + 1) W1 := by
  obtain ⟨ok, hR⟩ := hR
  have ne : ∀ {g t : Nat} {cs : Array Value}, W.heap[g]? = some (.cells cs t (0, 0)) → 5 ≠ t → g ≠ b7 → g ≠ b8 → ¬ Dw b7 b8 v g := fun hg ht h1 h2 hF => by
    rcases hF with rfl | rfl | hF
    · exact h1 rfl
    · exact h2 rfl
    · exact Kd.R_ne hR hg ht hF.symm
  refine ⟨hk.under h.be (fun k hF => ?_), blk_keeps h.h3 hk (ne h.h3 (by decide) hd7.1 hd8.1), blk_keeps h.h4 hk (ne h.h4 (by decide) hd7.2.1 hd8.2.1), blk_keeps h.h5 hk (ne h.h5 (by decide) hd7.2.2.1 hd8.2.2.1), blk_keeps h.h6 hk (ne h.h6 (by decide) hd7.2.2.2.1 hd8.2.2.2.1), hm, blk_keeps h.hq hk (ne h.hq (by decide) hd7.2.2.2.2 hd8.2.2.2.2), hs, a1, n1, out1, v1, hd, ho, hl, h7, h8, hR1⟩
  rcases hF with rfl | rfl | hF
  · exact hb7
  · exact hb8
  · exact Kd.R_base hR k hF
theorem cells_own {W : World} {base : Nat} {ok : Nat → Prop} {v : Value} {xs : List Int} (hR : Kd.R (Kd.int .u8) 5 W base ok v xs) {W1 : World} (hg : W.grownBy W1 v.ownBlock) : KeepsOthers W W1 :=
  KeepsOthers.of_grownBy hg (fun j o hj ho => by
    obtain ⟨inner, hown⟩ := Kd.R_own hR
    obtain ⟨cells, hc⟩ := own_typed hown j hj
    rw [hc] at ho; cases ho; rfl)
set_option maxHeartbeats 8000000 in
set_option maxRecDepth 100000 in
theorem huff_Decode.calls (A0 : Option Addr) (c0 : Nat) (l0 : List Int) (a1 : Int) (r1 : List Int) (r2 : Int) (w : World) (hG : GB w) (hr0 : Kd.C (Kd.int .u8) w A0 l0.length l0) (hc0 : l0.length ≤ c0) (h : huff_Decode.f l0 a1 = some (r1, r2)) :
    Calls Tryd.prog 18 #[.slice A0 l0.length c0, .int .i64 a1] w fun e w' => ∃ v0_ : Value, e = .returned (.tuple #[v0_, .int .i64 r2]) ∧ Kd.R (Kd.int .u8) 5 w' w.heap.size (fun _ => True) v0_ r1 ∧ Below w.heap.size w w' := by
  unfold huff_Decode.f at h
  by_cases hb : bytesB l0 = true
  · rw [if_pos hb] at h
    have HE := Aside0.mk (Option.some.inj h)
    have HYB := Aside0.mk hb
    have HL : Aside0 (l0.length ≤ 1000000) := ⟨by unfold bytesB at hb; rw [Bool.and_eq_true] at hb; exact of_decide_eq_true hb.1⟩
    have HG := Aside0.mk hG
    have HR := Aside0.mk hr0
    obtain ⟨i0_, hi0_⟩ := info_parts hinfo5
    have HI0 := Aside0.mk hi0_
    clear h hb hr0 hG hi0_
    refine (callsIn_wide (n := 3)).1 (callsIn_of_wp_marks Tryd.func18 rfl trivial (wpIn_wide.2 ?_))
    simp only [Tryd.ntmps18, List.size_toArray, List.length_cons, List.length_nil, Nat.reduceAdd, Nat.reduceSub, Array.replicate_succ, Array.replicate_zero, List.push_toArray, List.append_toArray, List.nil_append, List.cons_append]
    have hB0 := below_alloc (below_alloc (below_alloc (Below.refl w.heap.size w) (.cells #[.int .i64 a1] 3)) (.cells #[.slice none 0 0] 22)) (.cells #[.int .i64 0] 27)
    have HB0 := Aside0.mk hB0
    clear hB0
    go_wp2_with (first | go_step3 | (go_at_call 41; refine (huff_texts.is _ (HG.out.below HB0.out)).mono ?_; rintro e_ w1 ⟨mb, rfl, hm1, hmb, hb1⟩; have HM1 := Aside0.mk hm1; have HB1 := Aside0.mk hb1; have HMB := Aside0.mk hmb; clear hm1 hb1 hmb) | (go_at_call 42; refine (huff_bits.is A0 c0 l0 _).mono ?_; rintro e_ w2 ⟨Bq, rfl, hq2, hBq, hb2⟩; have HQ2 := Aside0.mk hq2; have HB2 := Aside0.mk hb2; have HBQ := Aside0.mk hBq; clear hq2 hb2 hBq))
    have hz0 : w.heap.size + 3 ≤ w1.heap.size := by have := HB1.out.size; simp only [World.size_alloc] at this; omega
    have hmb0 : w.heap.size + 3 ≤ mb := by have := HMB.out; simp only [World.size_alloc] at this; omega
    have hmb1 : mb < w1.heap.size := HM1.out.lt
    have hbq0 : w1.heap.size + 3 ≤ Bq := by have := HBQ.out; simp only [World.size_alloc] at this; omega
    have hbq1 : Bq < w2.heap.size := blk_lt HQ2.out
    have hB1w := below_step HB0.out HB1.out
    have hBa := below_alloc (below_alloc (below_alloc (Below.refl w1.heap.size w1) (.cells #[.map (some mb)] 62)) (.cells #[.slice none 0 0] 22)) (.cells #[.int .i64 0, .int .i64 0] 65)
    have hB12 := below_step hBa HB2.out
    have HBW := Aside0.mk (below_step hB1w hB12)
    have g3 : w2.heap[w.heap.size]? = some (.cells #[.int .i64 a1] 3 (0, 0)) := blk_below (blk_below (blk_below (blk_below (blk_new w _) (below_alloc (Below.refl _ _) _)) (below_alloc (Below.refl _ _) _)) HB1.out) hB12
    have g4 : w2.heap[w.heap.size + 1]? = some (.cells #[.slice none 0 0] 22 (0, 0)) := blk_below (blk_below (blk_below (by have := blk_new (w.alloc (.cells #[.int .i64 a1] 3)) (.cells #[.slice none 0 0] 22); rwa [World.size_alloc] at this) (below_alloc (Below.refl _ _) _)) HB1.out) hB12
    have g5 : w2.heap[w.heap.size + 1 + 1]? = some (.cells #[.int .i64 0] 27 (0, 0)) := blk_below (blk_below (by have := blk_new ((w.alloc (.cells #[.int .i64 a1] 3)).alloc (.cells #[.slice none 0 0] 22)) (.cells #[.int .i64 0] 27); rwa [World.size_alloc, World.size_alloc] at this) HB1.out) hB12
    have g6 : w2.heap[w1.heap.size]? = some (.cells #[.map (some mb)] 62 (0, 0)) := blk_below (blk_below (blk_below (blk_new w1 _) (below_alloc (Below.refl _ _) _)) (below_alloc (Below.refl _ _) _)) HB2.out
    have g7 : w2.heap[w1.heap.size + 1]? = some (.cells #[.slice none 0 0] 22 (0, 0)) := blk_below (blk_below (by have := blk_new (w1.alloc (.cells #[.map (some mb)] 62)) (.cells #[.slice none 0 0] 22); rwa [World.size_alloc] at this) (below_alloc (Below.refl _ _) _)) HB2.out
    have g8 : w2.heap[w1.heap.size + 1 + 1]? = some (.cells #[.int .i64 0, .int .i64 0] 65 (0, 0)) := blk_below (by have := blk_new ((w1.alloc (.cells #[.map (some mb)] 62)).alloc (.cells #[.slice none 0 0] 22)) (.cells #[.int .i64 0, .int .i64 0] 65); rwa [World.size_alloc, World.size_alloc] at this) HB2.out
    have hI0 : DecI w a1 (r1, r2) l0 A0 c0 Bq mb w.heap.size (w.heap.size + 1) (w.heap.size + 1 + 1) w1.heap.size (w1.heap.size + 1) (w1.heap.size + 1 + 1) 0 w2 :=
      ⟨HBW.out, g3, g4, g5, g6, HM1.out.kept (grown_of_below hB12 none) (by simp), HQ2.out, Nat.zero_le _, 0, 0, [], _, HE.out, open_start, Nat.le_refl _, g7, g8, Kd.R_nil _ _ _ _ _⟩
    have hsz := HBW.out.size
    have HZ : Aside0 (w.heap.size + 3 ≤ w1.heap.size ∧ w.heap.size + 3 ≤ mb ∧ mb < w1.heap.size ∧ w1.heap.size + 3 ≤ Bq ∧ Bq < w2.heap.size) := ⟨hz0, hmb0, hmb1, hbq0, hbq1⟩
    clear g3 g4 g5 g6 g7 g8 hB12 hBa hB1w HE hz0 hmb0 hmb1 hbq0
    refine (wpIn_wide (n := 3)).1 ?_
    refine rangeFunc_ok (s0 := (0 : Nat)) rfl (by omega) (gf := 56) (lb := #[.pointer (some ⟨Bq, 0, none⟩)]) rfl trivial (enters_of Tryd.func56 (by kernel_rfl) rfl)
      (bits1.stops A0 c0 l0 w w2 Bq HR.out HYB.out HBW.out HQ2.out)
      (fun x A' C l' o o' hl' ho hc hw hk => ⟨hk.1.grown (grownBy_putObj' C l' o') (Nat.le_trans hsz (Nat.le_trans hl' (Nat.le_of_lt (Array.getElem?_eq_some_iff.1 ho).1))) (fun k e => by cases e; exact Nat.le_trans hsz hl'), (World.putObj_heap_other (by omega)).trans hk.2⟩) (Below.refl _ _) (fun _ => rfl)
      (DecI w a1 (r1, r2) l0 A0 c0 Bq mb w.heap.size (w.heap.size + 1) (w.heap.size + 1 + 1) w1.heap.size (w1.heap.size + 1) (w1.heap.size + 1 + 1)) (fun cc _ W => DecX w (r1, r2) (w.heap.size + 1) (w.heap.size + 1 + 1) cc W) (DecI.own hsz (by have := HZ.out; omega)) (fun cc => DecX.own hsz cc) hI0
      (fun x a' W => a' = { tmps := #[Value.slice A0 l0.length c0, .int .i64 a1, undef, .pointer (some ⟨w.heap.size, 0, none⟩), .pointer (some ⟨w.heap.size + 1, 0, none⟩), .pointer (some ⟨w.heap.size + 1 + 1, 0, none⟩), .pointer (some ⟨w1.heap.size, 0, none⟩), .pointer (some ⟨w1.heap.size + 1, 0, none⟩), .pointer (some ⟨w1.heap.size + 1 + 1, 0, none⟩), .int .i64 x, undef, undef, .map (some mb), .agg #[.int .i64 0, .int .i64 0], .slice A0 l0.length c0, .func (.func 56) #[] #[.pointer (some ⟨Bq, 0, none⟩)], .int .i64 x, undef, undef, undef, undef, undef, undef, undef, undef, undef, undef, undef, undef, undef, undef, undef, undef, undef, undef, undef, undef, undef, undef, undef, undef, undef, undef, undef, undef, undef, undef, undef, undef, undef, undef, undef, undef, undef, undef, undef, undef, undef, undef], defers := [] }) (fun x a' _ A' C row hs hg hr => hs) ?assign ?body ?done ?stop
    case assign =>
      rintro L s x W K hle hI hok hK
      have e0 : ((#[16] : Array Tmp).zip (Bt.encs x)).foldl (fun t (p, v) => t.setIfInBounds p v) (#[Value.slice A0 l0.length c0, .int .i64 a1, undef, .pointer (some ⟨w.heap.size, 0, none⟩), .pointer (some ⟨w.heap.size + 1, 0, none⟩), .pointer (some ⟨w.heap.size + 1 + 1, 0, none⟩), .pointer (some ⟨w1.heap.size, 0, none⟩), .pointer (some ⟨w1.heap.size + 1, 0, none⟩), .pointer (some ⟨w1.heap.size + 1 + 1, 0, none⟩), undef, undef, undef, .map (some mb), .agg #[.int .i64 0, .int .i64 0], .slice A0 l0.length c0, .func (.func 56) #[] #[.pointer (some ⟨Bq, 0, none⟩)], undef, undef, undef, undef, undef, undef, undef, undef, undef, undef, undef, undef, undef, undef, undef, undef, undef, undef, undef, undef, undef, undef, undef, undef, undef, undef, undef, undef, undef, undef, undef, undef, undef, undef, undef, undef, undef, undef, undef, undef, undef, undef, undef] : Array Value) = #[Value.slice A0 l0.length c0, .int .i64 a1, undef, .pointer (some ⟨w.heap.size, 0, none⟩), .pointer (some ⟨w.heap.size + 1, 0, none⟩), .pointer (some ⟨w.heap.size + 1 + 1, 0, none⟩), .pointer (some ⟨w1.heap.size, 0, none⟩), .pointer (some ⟨w1.heap.size + 1, 0, none⟩), .pointer (some ⟨w1.heap.size + 1 + 1, 0, none⟩), undef, undef, undef, .map (some mb), .agg #[.int .i64 0, .int .i64 0], .slice A0 l0.length c0, .func (.func 56) #[] #[.pointer (some ⟨Bq, 0, none⟩)], .int .i64 x, undef, undef, undef, undef, undef, undef, undef, undef, undef, undef, undef, undef, undef, undef, undef, undef, undef, undef, undef, undef, undef, undef, undef, undef, undef, undef, undef, undef, undef, undef, undef, undef, undef, undef, undef, undef, undef, undef, undef, undef, undef, undef] := by simp [Bt.encs]
      rw [e0]
      clear e0
      gi_wp2
      exact hK _ _ (Below.refl _ _) hI rfl
    case body =>
      rintro L s x a' W0 W hle hst hbw hI hok rfl
      obtain ⟨hs, a, n, out, v, hd, ho, hol, h7, h8, hRv⟩ := hI.st
      obtain ⟨hs8, hx⟩ := hok
      have hbr := bitAt_range HYB.out s hs8
      rw [bitsL_drop l0 s hs8] at hd
      obtain ⟨b, hb⟩ : ∃ b : Nat, bitAt l0 s = (b : Int) := ⟨(bitAt l0 s).toNat, by omega⟩
      rw [hb] at hx hd hbr
      subst hx
      rw [Int.toNat_natCast] at hd
      have hb2 : b < 2 := by omega
      have ha29 : a < 2 ^ 29 := Nat.lt_of_lt_of_le ho.2.1 (Nat.pow_le_pow_right (by decide) ho.2.2)
      have E1 := shl_or ha29 hb2
      have hw : wrap64 ((a : Int) * 2) = (a : Int) * 2 := by unfold wrap64; omega
      have E1b := E1
      rw [hw] at E1b
      have q80 := (blk_cell h8 0).trans rfl
      have q81 := (blk_cell h8 1).trans rfl
      have f80 := blk_frozen h8 0
      have f81 := blk_frozen h8 1
      have q6 := (blk_cell hI.h6 0).trans rfl
      have q7 := (blk_cell h7 0).trans rfl
      have f7 := blk_frozen h7 0
      have q3 := (blk_cell hI.h3 0).trans rfl
      have q4 := (blk_cell hI.h4 0).trans rfl
      have f4 := blk_frozen hI.h4 0
      have q5 := (blk_cell hI.h5 0).trans rfl
      have f5 := blk_frozen hI.h5 0
      have hn29 := ho.2.2
      obtain ⟨a2, ha2⟩ : ∃ a2, 2 * a + b = a2 := ⟨_, rfl⟩
      obtain ⟨n2, hn2⟩ : ∃ n2, n + 1 = n2 := ⟨_, rfl⟩
      simp only [decL] at hd
      rw [ha2, hn2] at hd
      rw [ha2] at E1 E1b
      have HE1 := Aside0.mk (And.intro E1 E1b)
      clear E1 E1b
      have hn2i : (n : Int) + 1 = (n2 : Int) := by omega
      have hne82 : mb ≠ w1.heap.size + 1 + 1 := by have := HZ.out; omega
      have hne81 : mb ≠ w1.heap.size + 1 := by have := HZ.out; omega
      obtain ⟨W2, hW2⟩ : ∃ W2, (W.setCell ⟨w1.heap.size + 1 + 1, 0, none⟩ (.int .i64 (a2 : Int))).setCell ⟨w1.heap.size + 1 + 1, 1, none⟩ (.int .i64 (n2 : Int)) = W2 := ⟨_, rfl⟩
      have hm2 := (hI.hm.setCell (a := ⟨w1.heap.size + 1 + 1, 0, none⟩) hne82 (.int .i64 (a2 : Int))).setCell (a := ⟨w1.heap.size + 1 + 1, 1, none⟩) hne82 (.int .i64 (n2 : Int))
      rw [hW2] at hm2
      have HM2 := Aside0.mk hm2
      clear hm2
      have hab : a2 < 1073741824 := by have h29 : (2 : Nat) ^ 29 = 536870912 := by decide +kernel
                                       rw [h29] at ha29; omega
      have hwa : (Lit.int .i64 (a2 : Int)).wf = true := wf_small (by omega) (by omega)
      have hwn : (Lit.int .i64 (n2 : Int)).wf = true := wf_small (by omega) (by omega)
      have HKK := Aside0.mk (kl_key hwa hwn)
      obtain ⟨hfa, hfb⟩ := mapD_find a2 n2 hwa hwn 257 (Nat.le_refl _)
      have hk2 : Keeps W W2 (Dw (w1.heap.size + 1) (w1.heap.size + 1 + 1) (.slice none 0 0)) := by rw [← hW2]; exact ((Keeps.refl W _).set (.inl (.inr (.inl rfl))) 0 _).set (.inl (.inr (.inl rfl))) 1 _
      have hko2 : KeepsOthers W W2 := by rw [← hW2]; exact (KeepsOthers.setCell _ _ _).trans (KeepsOthers.setCell _ _ _)
      have hd7 : w.heap.size ≠ w1.heap.size + 1 ∧ w.heap.size + 1 ≠ w1.heap.size + 1 ∧ w.heap.size + 1 + 1 ≠ w1.heap.size + 1 ∧ w1.heap.size ≠ w1.heap.size + 1 ∧ Bq ≠ w1.heap.size + 1 := by have := HZ.out; omega
      have hd8 : w.heap.size ≠ w1.heap.size + 1 + 1 ∧ w.heap.size + 1 ≠ w1.heap.size + 1 + 1 ∧ w.heap.size + 1 + 1 ≠ w1.heap.size + 1 + 1 ∧ w1.heap.size ≠ w1.heap.size + 1 + 1 ∧ Bq ≠ w1.heap.size + 1 + 1 := by have := HZ.out; omega
      have R0 := Kd.R_nil (Kd.int .u8) 5 W w.heap.size (fun _ => True)
      have g3 := blk_keeps hI.h3 hk2 (Dw_ne R0 hI.h3 (by decide) hd7.1 hd8.1)
      have g4 := blk_keeps hI.h4 hk2 (Dw_ne R0 hI.h4 (by decide) hd7.2.1 hd8.2.1)
      have g5 := blk_keeps hI.h5 hk2 (Dw_ne R0 hI.h5 (by decide) hd7.2.2.1 hd8.2.2.1)
      have g6 := blk_keeps hI.h6 hk2 (Dw_ne R0 hI.h6 (by decide) hd7.2.2.2.1 hd8.2.2.2.1)
      have gq := blk_keeps hI.hq hk2 (Dw_ne R0 hI.hq (by decide) hd7.2.2.2.2 hd8.2.2.2.2)
      have g7 : W2.heap[w1.heap.size + 1]? = some (.cells #[v] 22 (0, 0)) := by rw [← hW2]; exact blk_far (blk_far h7 (p := ⟨w1.heap.size + 1 + 1, 0, none⟩) (by simp) _) (p := ⟨w1.heap.size + 1 + 1, 1, none⟩) (by simp) _
      have g8 : W2.heap[w1.heap.size + 1 + 1]? = some (.cells #[.int .i64 (a2 : Int), .int .i64 (n2 : Int)] 65 (0, 0)) := by rw [← hW2]; exact (blk_put (blk_put h8 0 (.int .i64 (a2 : Int)) rfl) 1 (.int .i64 (n2 : Int)) rfl).trans rfl
      have hbe2 : Below w.heap.size w W2 := hk2.under hI.be (fun k hF => by have h1 := HZ.out; rcases hF with rfl | rfl | hF <;> first | omega | cases hF)
      have hR2 : Kd.R (Kd.int .u8) 5 W2 w.heap.size (fun _ => True) v out := by rw [← hW2]; exact Kd.R_set (Kd.R_set hRv h8 (by decide) 0 _) (blk_put h8 0 (.int .i64 (a2 : Int)) rfl) (by decide) 1 _
      have hbq2 : W2.heap[Bq]? = W0.heap[Bq]? := (hk2.block Bq (blk_lt hI.hq) (Dw_ne R0 hI.hq (by decide) hd7.2.2.2.2 hd8.2.2.2.2)).trans (hbw.block Bq hbq1)
      have hbw2 : Below w.heap.size W0 W2 := (hbw.mono hsz).trans (hk2.to_below (by have := hI.be.size; omega) (fun k hF => by have h1 := HZ.out; rcases hF with rfl | rfl | hF <;> first | omega | cases hF))
      have hI2 : DecI w a1 (r1, r2) l0 A0 c0 Bq mb w.heap.size (w.heap.size + 1) (w.heap.size + 1 + 1) w1.heap.size (w1.heap.size + 1) (w1.heap.size + 1 + 1) s W := hI
      obtain ⟨Av, cv, hve, hcv, _⟩ := Kd.R_reads hR2
      subst hve
      have p3 := (blk_cell g3 0).trans rfl
      have p4 := (blk_cell g4 0).trans rfl
      have k4 := blk_frozen g4 0
      have p5 := (blk_cell g5 0).trans rfl
      have k5 := blk_frozen g5 0
      have p6 := (blk_cell g6 0).trans rfl
      have p7 := (blk_cell g7 0).trans rfl
      have p80 := (blk_cell g8 0).trans rfl
      have p81 := (blk_cell g8 1).trans rfl
      have HI := Aside0.mk hI
      have HRv := Aside0.mk hRv
      have HR2 := Aside0.mk hR2
      have HG2 := Aside0.mk (And.intro g4 (And.intro g5 (And.intro g7 (And.intro g8 gq))))
      have HO := Aside0.mk ho
      have HOL := Aside0.mk hol
      have HKP := Aside0.mk (And.intro hbw2 hbq2)
      have HBW2 := Aside0.mk (hbw.mono hsz)
      have HBQ2 := Aside0.mk (hbw.block Bq hbq1)
      have HBE2 := Aside0.mk hbe2
      have HKO := Aside0.mk hko2
      have HK2 := Aside0.mk hk2
      have HHS : Aside0 (s + 1 ≤ 8 * l0.length) := ⟨hs8⟩
      have HAB : Aside0 (2 * a + b = a2 ∧ n + 1 = n2 ∧ b < 2) := ⟨ha2, hn2, hb2⟩
      obtain ⟨mm, hmm⟩ : ∃ mm, mapD 257 = mm := ⟨_, rfl⟩
      have HMM := Aside0.mk hmm
      rw [hmm] at HM2 hfa hfb
      have HD7 := Aside0.mk hd7
      have HD8 := Aside0.mk hd8
      have hne45 : w.heap.size + 1 ≠ w1.heap.size + 1 + 1 := hd8.2.1
      clear hI hI2 hRv h7 h8 ho hol hbw hs8 ha2 hn2 hb2 hwa hwn hw ha29 hb hst hd7 hd8 hbr hs g3 g4 g5 g6 gq g7 g8 hbe2 hR2 hbq2 hbw2 hk2 hko2 R0 hmm hcv
      cases hfc : findC 257 a2 n2 with
      | none =>
        rw [hfc] at hd hfa hfb
        have HD := Aside0.mk hd
        have HFC := Aside0.mk hfc
        have HAS : Aside0 (Maps.has mm (kl (a2 : Int) (n2 : Int)) = false) := ⟨hfa⟩
        have HAT : Aside0 (mm.atKey (kl (a2 : Int) (n2 : Int)) (.lit (.int .i64 0)) = .lit (.int .i64 0)) := ⟨hfb⟩
        clear hd hfc hfa hfb
        obtain ⟨E1, E1b⟩ := HE1.out
        gi_wp2_with (gi_at_lookup; refine wpListIn_lookup_own_ok_int _ rfl _ _ 62 rfl 65 3 .i64 law65 Tryd.underlying62 Tryd.underlying3 (zero3 _) mb 257 mm rfl HM2.out _ _ rfl HKK.out ?_; intro cv hat hwc; rw [HAS.out]; rw [HAT.out] at hat; obtain rfl : cv = 0 := (by injection hat with h1; injection h1 with _ h2; exact h2.symm); clear hat hwc)
        have hopn : open_ a2 n2 := by obtain ⟨h1, h2, h3⟩ := HAB.out; rw [← h1, ← h2]; exact open_next HO.out h3 (by rw [h1, h2]; exact HFC.out)
        refine ⟨HKO.out, HKP.out, ?_⟩
        exact HI.out.next HHS.out HD.out hopn (by have := HOL.out; omega) ⟨_, HRv.out⟩ (HK2.out.mono (fun k hF => by rcases hF with h1 | h1 | h1 <;> first | exact .inl h1 | exact .inr (.inl h1) | cases h1)) HD7.out HD8.out (by have := HZ.out; omega) (by have := HZ.out; omega) (by rw [HMM.out]; exact HM2.out) HG2.out.2.2.1 HG2.out.2.2.2.1 HR2.out
      | some c =>
        obtain ⟨hc257, hc1, hc2⟩ := findC_sound 257 a2 n2 c hfc
        rw [hfc] at hd hfa hfb
        have HAS : Aside0 (Maps.has mm (kl (a2 : Int) (n2 : Int)) = true) := ⟨hfa⟩
        have HAT : Aside0 (mm.atKey (kl (a2 : Int) (n2 : Int)) (.lit (.int .i64 0)) = .lit (.int .i64 (c : Int))) := ⟨hfb⟩
        simp only [] at hd
        clear hfc hfa hfb hc1 hc2
        by_cases c6 : c = 256
        · rw [if_pos c6] at hd
          subst c6
          have HD := Aside0.mk hd
          clear hd
          obtain ⟨E1, E1b⟩ := HE1.out
          gi_wp2_with (gi_at_lookup; refine wpListIn_lookup_own_ok_int _ rfl _ _ 62 rfl 65 3 .i64 law65 Tryd.underlying62 Tryd.underlying3 (zero3 _) mb 257 mm rfl HM2.out _ _ rfl HKK.out ?_; intro cv hat hwc; rw [HAS.out]; rw [HAT.out] at hat; obtain rfl : cv = 256 := (by injection hat with h1; injection h1 with _ h2; exact h2.symm); clear hat hwc)
          refine ⟨HKO.out.trans ((KeepsOthers.setCell _ _ _).trans (KeepsOthers.setCell _ _ _)), ?_⟩
          refine ⟨rfl, (HBE2.out.setCell (p := ⟨w.heap.size + 1, 0, none⟩) (by simp only []; omega) _).setCell (p := ⟨w.heap.size + 1 + 1, 0, none⟩) (by simp only []; omega) _, (congrArg Prod.fst HD.out).symm, blk_far ((blk_put HG2.out.1 0 _ rfl).trans rfl) (p := ⟨w.heap.size + 1 + 1, 0, none⟩) (by simp) _, ?_⟩
          rw [← congrArg Prod.snd HD.out]
          exact (blk_put (blk_far HG2.out.2.1 (p := ⟨w.heap.size + 1, 0, none⟩) (by simp) _) 0 _ rfl).trans rfl
        · rw [if_neg c6] at hd
          have c6b : ((c : Int) == 256) = false := beq_eq_false_iff_ne.mpr (by omega)
          by_cases cm : a1 ≤ (out.length : Int)
          · rw [if_pos cm] at hd
            have HD := Aside0.mk hd
            have cmb : decide (a1 ≤ (out.length : Int)) = true := decide_eq_true cm
            clear hd cm
            obtain ⟨E1, E1b⟩ := HE1.out
            gi_wp2_with (gi_at_lookup; refine wpListIn_lookup_own_ok_int _ rfl _ _ 62 rfl 65 3 .i64 law65 Tryd.underlying62 Tryd.underlying3 (zero3 _) mb 257 mm rfl HM2.out _ _ rfl HKK.out ?_; intro cv hat hwc; rw [HAS.out]; rw [HAT.out] at hat; obtain rfl : cv = (c : Int) := (by injection hat with h1; injection h1 with _ h2; exact h2.symm); clear hat hwc)
            refine ⟨HKO.out.trans ((KeepsOthers.setCell _ _ _).trans (KeepsOthers.setCell _ _ _)), ?_⟩
            refine ⟨rfl, (HBE2.out.setCell (p := ⟨w.heap.size + 1, 0, none⟩) (by simp only []; omega) _).setCell (p := ⟨w.heap.size + 1 + 1, 0, none⟩) (by simp only []; omega) _, (congrArg Prod.fst HD.out).symm, blk_far ((blk_put HG2.out.1 0 _ rfl).trans rfl) (p := ⟨w.heap.size + 1 + 1, 0, none⟩) (by simp) _, ?_⟩
            rw [← congrArg Prod.snd HD.out]
            exact (blk_put (blk_far HG2.out.2.1 (p := ⟨w.heap.size + 1, 0, none⟩) (by simp) _) 0 _ rfl).trans rfl
          · rw [if_neg cm] at hd
            have HD := Aside0.mk hd
            have cmb : decide (a1 ≤ (out.length : Int)) = false := decide_eq_false cm
            have hc256 : c < 256 := by omega
            have hcm : (c : Int) % 256 = (c : Int) := by omega
            clear hd cm
            obtain ⟨E1, E1b⟩ := HE1.out
            have HLO : Aside0 (out.length ≤ 8000000) := ⟨by have h1 := HOL.out; have h2 := HHS.out; have h3 := HL.out; omega⟩
            obtain ⟨on, hon⟩ : ∃ on, out ++ [(c : Int)] = on := ⟨_, rfl⟩
            have HON := Aside0.mk hon
            rw [hon] at HD
            have HBS := Aside0.mk (show w.heap.size ≤ W2.heap.size from HBE2.out.size)
            clear hon
            gi_wp2_with (first | (gi_at_lookup; refine wpListIn_lookup_own_ok_int _ rfl _ _ 62 rfl 65 3 .i64 law65 Tryd.underlying62 Tryd.underlying3 (zero3 _) mb 257 mm rfl HM2.out _ _ rfl HKK.out ?_; intro cv hat hwc; rw [HAS.out]; rw [HAT.out] at hat; obtain rfl : cv = (c : Int) := (by injection hat with h1; injection h1 with _ h2; exact h2.symm); clear hat hwc) | (gi_at_builtin; refine wpListIn_append_own _ rfl _ _ 22 rfl w.heap.size 5 i0_ (.int .u8 0) 1 1 Tryd.underlying22 HI0.out.1 HI0.out.2.1 HI0.out.2.2.1 HI0.out.2.2.2 rfl (by decide) _ _ _ rfl ((Kd.own_of_R HR2.out).alloc _) ⟨W2.heap.size, 0, none⟩ 1 1 [.int .u8 (c : Int)] rfl rfl (cell_one_new _ _ _) (by simp [Value.oneCell']) (by have := HLO.out; unfold maxLen; omega) (by have := HLO.out; omega) (by have := HBS.out; rw [World.size_alloc]; omega) ?_; intro v' w4 hown' hgr _; have HR4 : Aside0 (Kd.R (Kd.int .u8) 5 w4 w.heap.size (fun _ => True) v' on) := ⟨by rw [← HON.out]; refine Kd.R_of_own ?_ (fun _ _ => trivial); rw [show encs (Value.int .u8) (out ++ [(c : Int)]) = encs (Value.int .u8) out ++ [.int .u8 (c : Int)] by simp [encs], List.length_append]; exact hown'⟩; obtain ⟨g', cap', rfl⟩ := ownsRow_succ hown'; have HK4 : Aside0 (Keeps W w4 (Dw (w1.heap.size + 1) (w1.heap.size + 1 + 1) (.slice Av out.length cv))) := ⟨((HK2.out.mono (fun k hF => by rcases hF with h1 | h1 | h1 <;> first | exact .inl h1 | exact .inr (.inl h1) | cases h1)).alloc _).grown hgr (fun k e => .inl (.inr (.inr e)))⟩; have HKO4 := Aside0.mk ((HKO.out.trans (KeepsOthers.alloc _ _)).trans (cells_own (Kd.R_alloc HR2.out _) hgr)); have hb74 := blk_grown (blk_below HG2.out.2.2.1 (below_alloc (Below.refl _ _) (.cells #[.int .u8 (c : Int)] 5))) hgr (Kd.R_ne HR2.out HG2.out.2.2.1 (by decide)); have hb84 := blk_grown (blk_below HG2.out.2.2.2.1 (below_alloc (Below.refl _ _) (.cells #[.int .u8 (c : Int)] 5))) hgr (Kd.R_ne HR2.out HG2.out.2.2.2.1 (by decide)); have HM4 := Aside0.mk ((HM2.out.alloc (.cells #[.int .u8 (c : Int)] 5)).kept hgr (fun e => by obtain ⟨es, ck, hes, _⟩ := HM2.out; obtain ⟨cells_, hc_⟩ := own_typed (Kd.own_of_R HR2.out) mb e.symm; rw [hes] at hc_; cases hc_)); have r7 := (blk_cell hb74 0).trans rfl; have s7 := blk_frozen hb74 0; have r80 := (blk_cell hb84 0).trans rfl; have s80 := blk_frozen hb84 0; have r81 := (blk_cell hb84 1).trans rfl; have s81 := blk_frozen hb84 1; have HB4 := Aside0.mk (And.intro hb74 hb84); clear hown' hgr hb74 hb84 p3 p4 k4 p5 k5 p6 p7 p80 p81 q80 q81 f80 f81 q6 q7 f7 q3 q4 f4 q5 f5))
            have hk5 := ((HK4.out.set (g := w1.heap.size + 1) (.inl (.inl rfl)) 0 (.slice (some ⟨g', 0, none⟩) (out.length + 1) cap')).set (g := w1.heap.size + 1 + 1) (.inl (.inr (.inl rfl))) 0 (.int .i64 0)).set (g := w1.heap.size + 1 + 1) (.inl (.inr (.inl rfl))) 1 (.int .i64 0)
            have hbne : w1.heap.size + 1 ≠ w1.heap.size + 1 + 1 := by omega
            have h7z := blk_far (blk_far ((blk_put HB4.out.1 0 (.slice (some ⟨g', 0, none⟩) (out.length + 1) cap') rfl).trans rfl) (p := ⟨w1.heap.size + 1 + 1, 0, none⟩) hbne (.int .i64 0)) (p := ⟨w1.heap.size + 1 + 1, 1, none⟩) hbne (.int .i64 0)
            have h8a := blk_far HB4.out.2 (p := ⟨w1.heap.size + 1, 0, none⟩) (fun e => hbne e.symm) (.slice (some ⟨g', 0, none⟩) (out.length + 1) cap')
            have h8z := (blk_put (blk_put h8a 0 (.int .i64 0) rfl) 1 (.int .i64 0) rfl).trans rfl
            have hR5 := Kd.R_set (Kd.R_set (Kd.R_set HR4.out HB4.out.1 (by decide) 0 (.slice (some ⟨g', 0, none⟩) (out.length + 1) cap')) h8a (by decide) 0 (.int .i64 0)) (blk_put h8a 0 (.int .i64 0) rfl) (by decide) 1 (.int .i64 0)
            have hm5 := ((HM4.out.setCell (a := ⟨w1.heap.size + 1, 0, none⟩) hne81 (.slice (some ⟨g', 0, none⟩) (out.length + 1) cap')).setCell (a := ⟨w1.heap.size + 1 + 1, 0, none⟩) hne82 (.int .i64 0)).setCell (a := ⟨w1.heap.size + 1 + 1, 1, none⟩) hne82 (.int .i64 0)
            rw [← HMM.out] at hm5
            refine ⟨HKO4.out.trans (((KeepsOthers.setCell _ _ _).trans (KeepsOthers.setCell _ _ _)).trans (KeepsOthers.setCell _ _ _)), ⟨HBW2.out.trans (hk5.to_below (by have := HI.out.be.size; omega) (fun k hF => by have h1 := HZ.out; rcases hF with rfl | rfl | hF <;> first | omega | exact Kd.R_base HRv.out k hF)), (hk5.block Bq (blk_lt HI.out.hq) (Dw_ne HRv.out HI.out.hq (by decide) HD7.out.2.2.2.2 HD8.out.2.2.2.2)).trans HBQ2.out⟩, ?_⟩
            exact HI.out.next HHS.out HD.out open_start (by rw [← HON.out, List.length_append]; have := HOL.out; simp only [List.length_cons, List.length_nil]; omega) ⟨_, HRv.out⟩ hk5 HD7.out HD8.out (by have := HZ.out; omega) (by have := HZ.out; omega) hm5 h7z h8z hR5
    case done =>
      rintro D s W hD hS hI hK
      obtain ⟨hs, a, n, out, v, hd, ho, hol, h7, h8, hRv⟩ := hI.st
      obtain ⟨Av, cv, hve, _⟩ := Kd.R_reads hRv
      subst hve
      subst hS
      rw [List.drop_of_length_le (by rw [bitsL_len]; omega)] at hd
      simp only [decL] at hd
      have hDb := Nat.le_trans hsz hD
      have q80 := (blk_cell h8 0).trans rfl
      have q81 := (blk_cell h8 1).trans rfl
      have q7 := (blk_cell h7 0).trans rfl
      have q4 := (blk_cell hI.h4 0).trans rfl
      have f4 := blk_frozen hI.h4 0
      have q5 := (blk_cell hI.h5 0).trans rfl
      have f5 := blk_frozen hI.h5 0
      have HI := Aside0.mk hI
      have HRv := Aside0.mk hRv
      have HO := Aside0.mk ho
      have HK := Aside0.mk hK
      have HDb := Aside0.mk hDb
      have hn29 : n ≤ 29 := ho.2.2
      have hne45 : w.heap.size + 1 ≠ w1.heap.size + 1 + 1 := by have := HZ.out; omega
      clear hI hRv ho hK hs hol h7 h8 hDb
      by_cases c8 : 8 ≤ n
      · rw [if_pos c8] at hd
        have HD := Aside0.mk hd
        have c8b : decide ((8 : Int) ≤ (n : Int)) = true := decide_eq_true (by omega)
        clear hd
        go_wp2
        go_quiet (fail)
        go_wp2
        have hq4 := blk_far (blk_put (HI.out.h4 : (W.drewN nq).heap[w.heap.size + 1]? = _) 0 (.slice none 0 0) rfl) (p := ⟨w.heap.size + 1 + 1, 0, none⟩) (by simp) (.int .i64 3)
        have hq5 := (blk_put (blk_far (HI.out.h5 : (W.drewN nq).heap[w.heap.size + 1 + 1]? = _) (p := ⟨w.heap.size + 1, 0, none⟩) (by simp) (.slice none 0 0)) 0 (.int .i64 3) rfl).trans rfl
        have hKz := ((KeepsOthers.setCell (W.drewN nq) ⟨w.heap.size + 1, 0, none⟩ (.slice none 0 0)).trans (KeepsOthers.setCell _ ⟨w.heap.size + 1 + 1, 0, none⟩ (.int .i64 3))).same D _ HK.out rfl
        have c4 := cell_put (o' := .deferred none) hq4 hKz rfl
        have c5 := cell_put (o' := .deferred none) hq5 hKz rfl
        have hbz := (((pw_below_drewN HI.out.be nq).setCell (p := ⟨w.heap.size + 1, 0, none⟩) (by simp only []; omega) (.slice none 0 0)).setCell (p := ⟨w.heap.size + 1 + 1, 0, none⟩) (by simp only []; omega) (.int .i64 3))
        have hbz2 := hbz.grown (grownBy_putObj' _ D (.deferred none)) hbz.size (fun k_ e => by cases e; exact HDb.out)
        refine ⟨by simp, .inl ⟨_, _, rfl, run_takeDeferred hKz, ?_⟩⟩
        exact ⟨.tuple #[(.slice none 0 0), .int .i64 3], dec_results rfl rfl c4 c5, (.slice none 0 0), by rw [← (Prod.mk.inj HD.out).2], (by rw [← (Prod.mk.inj HD.out).1]; exact Kd.R_nil _ _ _ _ _), hbz2⟩
      · rw [if_neg c8] at hd
        have c8b : decide ((8 : Int) ≤ (n : Int)) = false := decide_eq_false (by omega)
        obtain ⟨m, hm⟩ : ∃ m, 2 ^ n - 1 = m := ⟨_, rfl⟩
        rw [hm] at hd
        have hw1 := ones_step hn29 hm
        have hw2 : IntKind.i64.wrap (IntKind.i64.wrap (2 ^ n) - 1) = (m : Int) := by rw [i64_w, i64_w]; exact hw1
        by_cases ca : a = m
        · rw [if_pos ca] at hd
          have HD := Aside0.mk hd
          have cab : ((a : Int) != (m : Int)) = false := by rw [ca]; simp
          clear hd hm ca
          go_wp2
          go_quiet (fail)
          go_wp2
          have hq4 := blk_far (blk_put (HI.out.h4 : (W.drewN nq).heap[w.heap.size + 1]? = _) 0 (.slice Av out.length cv) rfl) (p := ⟨w.heap.size + 1 + 1, 0, none⟩) (by simp) (.int .i64 0)
          have hq5 := (blk_put (blk_far (HI.out.h5 : (W.drewN nq).heap[w.heap.size + 1 + 1]? = _) (p := ⟨w.heap.size + 1, 0, none⟩) (by simp) (.slice Av out.length cv)) 0 (.int .i64 0) rfl).trans rfl
          have hKz := ((KeepsOthers.setCell (W.drewN nq) ⟨w.heap.size + 1, 0, none⟩ (.slice Av out.length cv)).trans (KeepsOthers.setCell _ ⟨w.heap.size + 1 + 1, 0, none⟩ (.int .i64 0))).same D _ HK.out rfl
          have c4 := cell_put (o' := .deferred none) hq4 hKz rfl
          have c5 := cell_put (o' := .deferred none) hq5 hKz rfl
          have hbz := (((pw_below_drewN HI.out.be nq).setCell (p := ⟨w.heap.size + 1, 0, none⟩) (by simp only []; omega) (.slice Av out.length cv)).setCell (p := ⟨w.heap.size + 1 + 1, 0, none⟩) (by simp only []; omega) (.int .i64 0))
          have hbz2 := hbz.grown (grownBy_putObj' _ D (.deferred none)) hbz.size (fun k_ e => by cases e; exact HDb.out)
          refine ⟨by simp, .inl ⟨_, _, rfl, run_takeDeferred hKz, ?_⟩⟩
          exact ⟨.tuple #[(.slice Av out.length cv), .int .i64 0], dec_results rfl rfl c4 c5, (.slice Av out.length cv), by rw [← (Prod.mk.inj HD.out).2], (by rw [← (Prod.mk.inj HD.out).1]; exact R_put (Kd.R_set (Kd.R_set (Kd.R_drewN HRv.out nq) (HI.out.h4 : (W.drewN nq).heap[w.heap.size + 1]? = _) (by decide) 0 _) (blk_far (HI.out.h5 : (W.drewN nq).heap[w.heap.size + 1 + 1]? = _) (p := ⟨w.heap.size + 1, 0, none⟩) (by simp) _) (by decide) 0 _) hKz rfl), hbz2⟩
        · rw [if_neg ca] at hd
          have HD := Aside0.mk hd
          have cab : ((a : Int) != (m : Int)) = true := bne_iff_ne.mpr (fun e => ca (Int.ofNat_inj.mp e))
          clear hd hm ca
          go_wp2
          go_quiet (fail)
          go_wp2
          have hq4 := blk_far (blk_put (HI.out.h4 : (W.drewN nq).heap[w.heap.size + 1]? = _) 0 (.slice none 0 0) rfl) (p := ⟨w.heap.size + 1 + 1, 0, none⟩) (by simp) (.int .i64 3)
          have hq5 := (blk_put (blk_far (HI.out.h5 : (W.drewN nq).heap[w.heap.size + 1 + 1]? = _) (p := ⟨w.heap.size + 1, 0, none⟩) (by simp) (.slice none 0 0)) 0 (.int .i64 3) rfl).trans rfl
          have hKz := ((KeepsOthers.setCell (W.drewN nq) ⟨w.heap.size + 1, 0, none⟩ (.slice none 0 0)).trans (KeepsOthers.setCell _ ⟨w.heap.size + 1 + 1, 0, none⟩ (.int .i64 3))).same D _ HK.out rfl
          have c4 := cell_put (o' := .deferred none) hq4 hKz rfl
          have c5 := cell_put (o' := .deferred none) hq5 hKz rfl
          have hbz := (((pw_below_drewN HI.out.be nq).setCell (p := ⟨w.heap.size + 1, 0, none⟩) (by simp only []; omega) (.slice none 0 0)).setCell (p := ⟨w.heap.size + 1 + 1, 0, none⟩) (by simp only []; omega) (.int .i64 3))
          have hbz2 := hbz.grown (grownBy_putObj' _ D (.deferred none)) hbz.size (fun k_ e => by cases e; exact HDb.out)
          refine ⟨by simp, .inl ⟨_, _, rfl, run_takeDeferred hKz, ?_⟩⟩
          exact ⟨.tuple #[(.slice none 0 0), .int .i64 3], dec_results rfl rfl c4 c5, (.slice none 0 0), by rw [← (Prod.mk.inj HD.out).2], (by rw [← (Prod.mk.inj HD.out).1]; exact Kd.R_nil _ _ _ _ _), hbz2⟩
    case stop =>
      rintro D cc s W hD hX hK
      obtain ⟨rfl, hbe, hr1, h4, h5⟩ := hX
      have q4 := (blk_cell h4 0).trans rfl
      have q5 := (blk_cell h5 0).trans rfl
      have c4 := cell_put (o' := .deferred none) h4 hK rfl
      have c5 := cell_put (o' := .deferred none) h5 hK rfl
      have hbz2 := hbe.grown (grownBy_putObj' W D (.deferred none)) hbe.size (fun k_ e => by cases e; exact Nat.le_trans hsz hD)
      gi_wp2
      refine ⟨by simp, .inl ⟨_, _, rfl, run_takeDeferred hK, ?_⟩⟩
      exact ⟨.tuple #[.slice none 0 0, .int .i64 r2], dec_results rfl rfl c4 c5, .slice none 0 0, rfl, (by have h1 : r1 = [] := hr1; subst h1; exact Kd.R_nil _ _ _ _ _), hbz2⟩
  · rw [if_neg hb] at h; cases h
end
end Go.Proofs.YtlbjhbanfpnogaaDoor.QH
namespace Go.Proofs.YtlbjhbanfpnogaaDoor.QH
open Go.RowKit Go.Proofs.YtlbjhbanfpnogaaDoorW.PrintWords Go.Proofs.YtlbjhbanfpnogaaDoorW.PrintLast Go.Proofs.YtlbjhbanfpnogaaDoorW.PrintMore
attribute [local go_sem] max2_int min2_int max_two min_two max_three min_three max_four min_four
set_option linter.unusedVariables false
set_option linter.unusedSimpArgs false
end Go.Proofs.YtlbjhbanfpnogaaDoor.QH
