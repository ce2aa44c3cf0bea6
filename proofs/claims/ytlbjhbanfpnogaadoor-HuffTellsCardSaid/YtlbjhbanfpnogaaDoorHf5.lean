/-
  HUFF: what Decode does.
  Conditions: none of its own; lemmas that the claim's row rests on.
-/
import Derived.Test.YtlbjhbanfpnogaaDoorHf4
import Derived.TacticsInMore
import Derived.LoopNIn
import Derived.LoopIn
import Derived.OwnWalkIn
import Derived.Shelf.RegionOpen
import Derived.WalkKit
import Derived.Sort.CutIn
import Derived.Maps.AppendAt
import Derived.RangeFuncBox
namespace Go.Proofs.YtlbjhbanfpnogaaDoor.QH
open Go.RowKit Go.Proofs.YtlbjhbanfpnogaaDoorW.PrintWords Go.Proofs.YtlbjhbanfpnogaaDoorW.PrintLast Go.Proofs.YtlbjhbanfpnogaaDoorW.PrintMore
attribute [local go_sem] max2_int min2_int max_two min_two max_three min_three max_four min_four
set_option linter.unusedVariables false
set_option linter.unusedSimpArgs false
open Go.Maps
open Go.Proofs.YtlbjhbanfpnogaaDoorR
theorem huff_bits.is (A : Option Addr) (c : Nat) (l : List Int) (w : World) : Calls Tryd.prog 42 #[.slice A l.length c] w fun e w' => ∃ Bq, e = .returned (.func (.func 56) #[] #[.pointer (some ⟨Bq, 0, none⟩)]) ∧ w'.heap[Bq]? = some (.cells #[.slice A l.length c] 22 (0, 0)) ∧ w.heap.size ≤ Bq ∧ Below w.heap.size w w' := by
  go_enter Tryd.func42, Tryd.ntmps42
  go_wp2
  go_ret
  exact ⟨_, rfl, blk_new _ _, Nat.le_refl _, below_alloc (Below.refl _ _) _⟩
/-- The bits of bytes, and the text that they are. -/
def bitsL (l : List Int) : List Nat := (List.range (8 * l.length)).map fun s => (bitAt l s).toNat
def decL (most : Int) : List Nat → Nat → Nat → List Int → List Int × Int
  | [], a, n, out => if 8 ≤ n then ([], 3) else if a = 2 ^ n - 1 then (out, 0) else ([], 3)
  | b :: bs, a, n, out => match findC 257 (2 * a + b) (n + 1) with
    | none => decL most bs (2 * a + b) (n + 1) out
    | some c => if c = 256 then ([], 3) else if most ≤ (out.length : Int) then ([], 4) else decL most bs 0 0 (out ++ [(c : Int)])
def huff_Decode.f (l : List Int) (most : Int) : Option (List Int × Int) := if bytesB l = true then some (decL most (bitsL l) 0 0 []) else none
/-- A code that none is yet: what it is at least, and at most. -/
def open_ (a n : Nat) : Prop := nxN n 257 ≤ a ∧ a < 2 ^ n ∧ n ≤ 29
theorem tabD : ((List.range 31).all fun n => (List.range (nxN n 257 - nxN n 0)).all fun k => (findC 257 (nxN n 0 + k) n).isSome) = true := by decide +kernel
theorem tabE : nxN 30 257 = 2 ^ 30 := by decide +kernel
theorem find_some (a n : Nat) (hn : n ≤ 30) (h0 : nxN n 0 ≤ a) (h1 : a < nxN n 257) : (findC 257 a n).isSome = true := by
  have h2 := List.all_eq_true.1 tabD n (List.mem_range.2 (by omega))
  have h3 := List.all_eq_true.1 h2 (a - nxN n 0) (List.mem_range.2 (by omega))
  rwa [show nxN n 0 + (a - nxN n 0) = a by omega] at h3
theorem open_next {a n b : Nat} (h : open_ a n) (hb : b < 2) (hf : findC 257 (2 * a + b) (n + 1) = none) : open_ (2 * a + b) (n + 1) := by
  obtain ⟨h1, h2, h3⟩ := h
  have h4 := (nx_next n (by omega)).1
  have h5 : ¬ (2 * a + b < nxN (n + 1) 257) := fun h6 => by
    have h7 := find_some (2 * a + b) (n + 1) (by omega) (by omega) h6
    rw [hf] at h7; cases h7
  have h8 : 2 * a + b < 2 ^ (n + 1) := by rw [Nat.pow_succ]; omega
  refine ⟨by omega, h8, ?_⟩
  rcases Nat.lt_or_ge n 29 with h9 | h9
  · omega
  · obtain rfl : n = 29 := by omega
    have h10 := tabE
    rw [h10] at h5
    exact absurd h8 h5
theorem open_start : open_ 0 0 := ⟨by decide +kernel, by decide, by decide⟩
theorem findC_sound : ∀ (c a n i : Nat), findC c a n = some i → i < c ∧ cd i = a ∧ ln i = n
  | c + 1, a, n, i, h => by
    unfold findC at h
    by_cases hh : cd c = a ∧ ln c = n
    · rw [if_pos hh] at h; cases h; exact ⟨by omega, hh.1, hh.2⟩
    · rw [if_neg hh] at h
      have h1 := findC_sound c a n i h
      exact ⟨by omega, h1.2⟩
theorem bitsL_len (l : List Int) : (bitsL l).length = 8 * l.length := by simp [bitsL]
theorem bitAt_range {l : List Int} (h : bytesB l = true) (s : Nat) (hs : s < 8 * l.length) : 0 ≤ bitAt l s ∧ bitAt l s < 2 := by unfold bitAt; omega
theorem bitsL_drop (l : List Int) (s : Nat) (hs : s < 8 * l.length) : (bitsL l).drop s = (bitAt l s).toNat :: (bitsL l).drop (s + 1) := by
  rw [List.drop_eq_getElem_cons (by rw [bitsL_len]; exact hs)]
  simp [bitsL]
theorem shl_or {a b : Nat} (ha : a < 2 ^ 29) (hb : b < 2) : bits .or .i64 (wrap64 ((a : Int) * 2)) (b : Int) = ((2 * a + b : Nat) : Int) := by
  have h38 : (2 : Nat) ^ 38 = 274877906944 := by decide +kernel
  have h29 : (2 : Nat) ^ 29 = 536870912 := by decide +kernel
  rw [h29] at ha
  have h1 : wrap64 ((a : Int) * 2) = ((a * 2 : Nat) : Int) := by unfold wrap64; omega
  rw [h1, or_join 1 (a * 2) b (by rw [h38]; omega) (by simpa using hb) (by rw [h38]; omega) (by simp), Nat.mul_comm]
/-- Between two bits. b3: the bound; b4, b5: the results; b6: the map's variable; b7: the text; b8: the code. -/
structure DecI (w : World) (most : Int) (r : List Int × Int) (l : List Int) (A : Option Addr) (c Bq mb b3 b4 b5 b6 b7 b8 : Nat) (s : Nat) (W : World) : Prop where
  be : Below w.heap.size w W
  h3 : W.heap[b3]? = some (.cells #[.int .i64 most] 3 (0, 0))
  h4 : W.heap[b4]? = some (.cells #[.slice none 0 0] 22 (0, 0))
  h5 : W.heap[b5]? = some (.cells #[.int .i64 0] 27 (0, 0))
  h6 : W.heap[b6]? = some (.cells #[.map (some mb)] 62 (0, 0))
  hm : W.ownsMap Tryd.prog 65 (plainElem (H := Unit) Tryd.prog 3) mb 257 (mapD 257)
  hq : W.heap[Bq]? = some (.cells #[.slice A l.length c] 22 (0, 0))
  st : s ≤ 8 * l.length ∧ ∃ (a n : Nat) (out : List Int) (v : Value), decL most ((bitsL l).drop s) a n out = r ∧ open_ a n ∧ out.length ≤ s ∧ W.heap[b7]? = some (.cells #[v] 22 (0, 0)) ∧ W.heap[b8]? = some (.cells #[.int .i64 (a : Int), .int .i64 (n : Int)] 65 (0, 0)) ∧ Kd.R (Kd.int .u8) 5 W w.heap.size (fun _ => True) v out
/-- Behind a return in a round. -/
structure DecX (w : World) (r : List Int × Int) (b4 b5 : Nat) (c : Code) (W : World) : Prop where
  is : c = .ret
  be : Below w.heap.size w W
  r1 : r.1 = []
  h4 : W.heap[b4]? = some (.cells #[.slice none 0 0] 22 (0, 0))
  h5 : W.heap[b5]? = some (.cells #[.int .i64 r.2] 27 (0, 0))
end Go.Proofs.YtlbjhbanfpnogaaDoor.QH
