-- written by a program of this session (wip/tools) out of the translation's own print and the session's texts; nothing here is trusted: Lean checks it
import Derived.Test.YtlbjhbanfpnogaaDoorProg
import Derived.Below
import Derived.Maps.Own
import Derived.Deep.Draws
import Derived.Deep.AppendLies
import Derived.Maps.AppendAt
import Derived.OwnWalk
import Derived.Laws.BytesArg
import Derived.Laws.MakeOwn
import Derived.Laws.OwnMore
import Derived.Deep.OwnRows
import Derived.Tactics
import Derived.Lib.ConvBytes
import Derived.Laws.Slices
import Derived.WalkKit
import Derived.KernelRfl
import Derived.RowKit3
import Derived.Deep.LoopGhost
import Derived.Deep.QuietTactic
import Derived.BigQuiet
import Derived.WideLaws
import Derived.Deep.DeepCutAuto
import Derived.Deep.CutBlock
import Derived.Deep.RegionHeld3
import Derived.Laws.Rows
import Derived.Lib.AppendStr
import Derived.ArgAppend
import Derived.Laws.IdiomCopy
import Derived.OrdersHeld
import Derived.Laws.BitsLemmas
import Derived.RowKit
import Derived.WalkMore
import Derived.WalkSpells
import Derived.Laws.CopyOwn
import Derived.Lib.Hide
import Derived.OpenShut
import Derived.Handy
import Derived.Lib.LazyBuf
import Derived.Test.YtlbjhbanfpnogaaDoorMQ
import Derived.Test.YtlbjhbanfpnogaaDoorMG
import Derived.Test.YtlbjhbanfpnogaaDoorQI3
import Derived.Lib.ConvBytes
import Derived.WalkSpells
import Derived.LaidEqlPtr
import Derived.Test.YtlbjhbanfpnogaaDoorWWords
import Derived.Test.YtlbjhbanfpnogaaDoorWLast
import Derived.Test.YtlbjhbanfpnogaaDoorWTab
import Derived.Test.YtlbjhbanfpnogaaDoorWFour
import Derived.Test.YtlbjhbanfpnogaaDoorWQPut
import Derived.Test.YtlbjhbanfpnogaaDoorWApart
import Derived.Test.YtlbjhbanfpnogaaDoorWArr
import Derived.Test.YtlbjhbanfpnogaaDoorWZeros
import Derived.Test.YtlbjhbanfpnogaaDoorWFoot
import Derived.Test.YtlbjhbanfpnogaaDoorWKept
import Derived.Test.YtlbjhbanfpnogaaDoorWShare
import Derived.Test.YtlbjhbanfpnogaaDoorWN
import Derived.Test.YtlbjhbanfpnogaaDoorWFootNe
import Derived.Test.YtlbjhbanfpnogaaDoorWAt
import Derived.Test.YtlbjhbanfpnogaaDoorWEqStruct
import Derived.Test.YtlbjhbanfpnogaaDoorWRepsOne
import Derived.Test.YtlbjhbanfpnogaaDoorWNEv
import Derived.Test.YtlbjhbanfpnogaaDoorWMore
namespace Go.Proofs.YtlbjhbanfpnogaaDoor.QJ
open Go.Proofs.YtlbjhbanfpnogaaDoor.QH Go.Proofs.YtlbjhbanfpnogaaDoor.QI
open Go.RowKit Go.Proofs.YtlbjhbanfpnogaaDoorW.PrintWords Go.Proofs.YtlbjhbanfpnogaaDoorW.PrintLast Go.Proofs.YtlbjhbanfpnogaaDoorW.PrintMore
attribute [local go_sem] max2_int min2_int max_two min_two max_three min_three max_four min_four   -- for this text's walks alone
set_option linter.unusedVariables false
set_option linter.unusedSimpArgs false



def errW : Option Int → Value
  | none => .nilIface
  | some c => .iface 0 (.int .i64 c)
theorem errW_none : errW none = .nilIface := rfl
theorem errW_some (c : Int) : errW (some c) = .iface 0 (.int .i64 c) := rfl

theorem info5 : (Tryd.prog.info? 5).map (fun i => (i.zero, i.size, i.bytes)) = some (some (.int .u8 0), 1, 1) := by kernel_rfl
-- the values' own types
/-! #### struct type 44 -/
structure S44 where
  f0 : Int
  f1 : Int
  f2 : ByteArray
  f3 : ByteArray
def z44 : S44 := ⟨(0 : Int), (0 : Int), (⟨#[]⟩ : ByteArray), (⟨#[]⟩ : ByteArray)⟩
def k44 : Kd S44 := Kd.iso (Kd.pair (Kd.int .i64) (Kd.pair (Kd.int .i64) (Kd.pair Kd.string Kd.string))) (fun x : S44 => (x.f0, x.f1, x.f2, x.f3))
theorem k44_open {w : World} {x : S44} {cs : List Value} (h : k44.K w x cs) : cs = [.int .i64 x.f0, .int .i64 x.f1, .string x.f2, .string x.f3] := by
  obtain ⟨_, _, rfl, rfl, ⟨_, _, rfl, rfl, ⟨_, _, rfl, rfl, rfl⟩⟩⟩ := h
  exact rfl
theorem k44_openM {w : World} {base : Nat} {ok : Nat → Prop} {x : S44} {cs : List Value} (h : k44.M w base ok x cs) : cs = [.int .i64 x.f0, .int .i64 x.f1, .string x.f2, .string x.f3] := by
  obtain ⟨_, _, rfl, rfl, ⟨_, _, rfl, rfl, ⟨_, _, rfl, rfl, rfl⟩⟩⟩ := h
  exact rfl
theorem k44_mk (w : World) (x : S44)  : k44.K w x [.int .i64 x.f0, .int .i64 x.f1, .string x.f2, .string x.f3] := ⟨[.int .i64 x.f0], [.int .i64 x.f1, .string x.f2, .string x.f3], rfl, rfl, ⟨[.int .i64 x.f1], [.string x.f2, .string x.f3], rfl, rfl, ⟨[.string x.f2], [.string x.f3], rfl, rfl, rfl⟩⟩⟩
theorem k44_mkM (w : World) (base : Nat) (ok : Nat → Prop) (x : S44)  : k44.M w base ok x [.int .i64 x.f0, .int .i64 x.f1, .string x.f2, .string x.f3] := ⟨[.int .i64 x.f0], [.int .i64 x.f1, .string x.f2, .string x.f3], rfl, rfl, ⟨[.int .i64 x.f1], [.string x.f2, .string x.f3], rfl, rfl, ⟨[.string x.f2], [.string x.f3], rfl, rfl, rfl⟩⟩⟩
def rd_T44 (xs : List S44) (i : Int) : S44 := xs.getD i.toNat z44
theorem at_T44 {w : World} {A : Option Addr} {n : Nat} {xs : List S44} (h : Kd.C k44 w A n xs) (i : Int) (h0 : 0 ≤ i) (h1 : i < n) : ∃ ad , A = some ad ∧ w.cell? (ad.add (i.toNat * 4)) = some (.int .i64 (rd_T44 xs i).f0) ∧ w.cell? ⟨(ad.add (i.toNat * 4)).block, (ad.add (i.toNat * 4)).off + 1, none⟩ = some (.int .i64 (rd_T44 xs i).f1) ∧ w.cell? ⟨(ad.add (i.toNat * 4)).block, (ad.add (i.toNat * 4)).off + 2, none⟩ = some (.string (rd_T44 xs i).f2) ∧ w.cell? ⟨(ad.add (i.toNat * 4)).block, (ad.add (i.toNat * 4)).off + 3, none⟩ = some (.string (rd_T44 xs i).f3) := by
  obtain ⟨ad, c, e, _, hK, hc0⟩ := Kd.C_get h z44 i h0 h1
  have hc : ∀ j u, c[j]? = some u → w.cell? (ad.add (i.toNat * 4 + j)) = some u := hc0
  obtain rfl := k44_open hK
  exact ⟨ad, e, hc 0 _ rfl, by rw [← add_field _ _ 1 (by omega)]; exact hc 1 _ rfl, by rw [← add_field _ _ 2 (by omega)]; exact hc 2 _ rfl, by rw [← add_field _ _ 3 (by omega)]; exact hc 3 _ rfl⟩

/-- The prefix of a kind, and what is above it. -/
def shB (k : Nat) : Nat := if k = 0 then 7 else if k = 1 then 6 else if k = 2 then 4 else if k = 3 then 4 else 5
def shA (k : Nat) : Nat := if k = 0 then 128 else if k = 1 then 64 else if k = 2 then 0 else if k = 3 then 16 else 32
def shapesV : Array Value := #[.int .i64 7, .int .i64 128, .int .i64 6, .int .i64 64, .int .i64 4, .int .i64 0, .int .i64 4, .int .i64 16, .int .i64 5, .int .i64 32]
/-- The package-level variables that the laws of package item read hold what the program's text lays. -/
structure GB (w : World) : Prop where
  huff : QH.GB w
  shapes : ∃ t fr, w.heap[1]? = some (.cells shapesV t fr)
theorem GB.below {w w' : World} (h : GB w) (hb : Below w.heap.size w w') : GB w' := by
  obtain ⟨t, fr, h0⟩ := h.shapes
  exact ⟨h.huff.below hb, t, fr, (hb.block 1 (Array.getElem?_eq_some_iff.1 h0).1).trans h0⟩
theorem GB.alloc {w : World} (h : GB w) (o : Obj) : GB (w.alloc o) := h.below ((Below.refl _ _).alloc (Nat.le_refl _) _)
theorem GB.drewN {w : World} (h : GB w) (n : Nat) : GB (w.drewN n) := h.below (pw_below_drewN (Below.refl _ _) n)
theorem GB.drew {w : World} (h : GB w) : GB w.drew := h.below (Below.refl _ _).drew
theorem GB.sh {w : World} (h : GB w) (k : Nat) (hk : k < 5) : w.cell? ⟨1, k * 2, none⟩ = some (.int .i64 (shB k : Int)) ∧ w.cell? ⟨1, k * 2 + 1, none⟩ = some (.int .i64 (shA k : Int)) := by
  obtain ⟨t, fr, h0⟩ := h.shapes
  rw [cell_of_row w 1 (k * 2) _ t fr h0, cell_of_row w 1 (k * 2 + 1) _ t fr h0]
  rcases (by omega : k = 0 ∨ k = 1 ∨ k = 2 ∨ k = 3 ∨ k = 4) with rfl | rfl | rfl | rfl | rfl <;> exact ⟨rfl, rfl⟩

end Go.Proofs.YtlbjhbanfpnogaaDoor.QJ
