-- written by a program of this session (wip/tools) out of the translation's own print and the session's texts; nothing here is trusted: Lean checks it
import Derived.Test.YtjkadheknjkkbaaDoorProg
import Derived.Below
import Derived.Maps.Own
import Derived.Deep.Draws
import Derived.Deep.AppendLies
import Derived.Maps.AppendAt
import Derived.OwnWalk
import Derived.Laws.BytesArg
import Derived.Laws.MakeOwn
import Derived.Laws.OwnMore
import Derived.Deep.OwnRows
import Derived.Tactics
import Derived.Lib.ConvBytes
import Derived.Laws.Slices
import Derived.WalkKit
import Derived.KernelRfl
import Derived.RowKit3
import Derived.Deep.LoopGhost
import Derived.Deep.QuietTactic
import Derived.BigQuiet
import Derived.WideLaws
import Derived.Deep.DeepCutAuto
import Derived.Deep.CutBlock
import Derived.Deep.RegionHeld3
import Derived.Laws.Rows
import Derived.Lib.AppendStr
import Derived.ArgAppend
import Derived.Laws.IdiomCopy
import Derived.OrdersHeld
import Derived.Laws.BitsLemmas
import Derived.RowKit
import Derived.WalkMore
import Derived.WalkSpells
import Derived.Laws.CopyOwn
import Derived.Lib.Hide
import Derived.OpenShut
import Derived.Handy
import Derived.Lib.LazyBuf
import Derived.Test.YtjkadheknjkkbaaDoorWWords
import Derived.Test.YtjkadheknjkkbaaDoorWLast
import Derived.Test.YtjkadheknjkkbaaDoorWTab
import Derived.Test.YtjkadheknjkkbaaDoorWFour
import Derived.Test.YtjkadheknjkkbaaDoorWQPut
import Derived.Test.YtjkadheknjkkbaaDoorWApart
import Derived.Test.YtjkadheknjkkbaaDoorWArr
import Derived.Test.YtjkadheknjkkbaaDoorWZeros
import Derived.Test.YtjkadheknjkkbaaDoorWFoot
import Derived.Test.YtjkadheknjkkbaaDoorWKept
import Derived.Test.YtjkadheknjkkbaaDoorWShare
import Derived.Test.YtjkadheknjkkbaaDoorWN
import Derived.Test.YtjkadheknjkkbaaDoorWFootNe
import Derived.Test.YtjkadheknjkkbaaDoorWAt
import Derived.Test.YtjkadheknjkkbaaDoorWEqStruct
import Derived.Test.YtjkadheknjkkbaaDoorWRepsOne
import Derived.Test.YtjkadheknjkkbaaDoorWInv
import Derived.Test.YtjkadheknjkkbaaDoorWInvWords
import Derived.Test.YtjkadheknjkkbaaDoorWGuard
import Derived.Test.YtjkadheknjkkbaaDoorWNEv
import Derived.Test.YtjkadheknjkkbaaDoorWMore
namespace Go.Proofs.YtjkadheknjkkbaaDoor.QL
open Go.RowKit Go.Proofs.YtjkadheknjkkbaaDoorW.PrintWords Go.Proofs.YtjkadheknjkkbaaDoorW.PrintLast Go.Proofs.YtjkadheknjkkbaaDoorW.PrintMore
attribute [local go_sem] max2_int min2_int max_two min_two max_three min_three max_four min_four   -- for this text's walks alone
set_option linter.unusedVariables false
set_option linter.unusedSimpArgs false



def errW : Option Int → Value
  | none => .nilIface
  | some c => .iface 0 (.int .i64 c)
theorem errW_none : errW none = .nilIface := rfl
theorem errW_some (c : Int) : errW (some c) = .iface 0 (.int .i64 c) := rfl

-- the values' own types
/-! #### struct type 25 -/
structure S25 where
  f0 : Int
  f1 : Int
  f2 : Bool
def z25 : S25 := ⟨(0 : Int), (0 : Int), false⟩
def k25 : Kd S25 := Kd.iso (Kd.pair (Kd.int .i64) (Kd.pair (Kd.int .i64) Kd.bool)) (fun x : S25 => (x.f0, x.f1, x.f2))
theorem k25_open {w : World} {x : S25} {cs : List Value} (h : k25.K w x cs) : cs = [.int .i64 x.f0, .int .i64 x.f1, .bool x.f2] := by
  obtain ⟨_, _, rfl, rfl, ⟨_, _, rfl, rfl, rfl⟩⟩ := h
  exact rfl
theorem k25_openM {w : World} {base : Nat} {ok : Nat → Prop} {x : S25} {cs : List Value} (h : k25.M w base ok x cs) : cs = [.int .i64 x.f0, .int .i64 x.f1, .bool x.f2] := by
  obtain ⟨_, _, rfl, rfl, ⟨_, _, rfl, rfl, rfl⟩⟩ := h
  exact rfl
theorem k25_mk (w : World) (x : S25)  : k25.K w x [.int .i64 x.f0, .int .i64 x.f1, .bool x.f2] := ⟨[.int .i64 x.f0], [.int .i64 x.f1, .bool x.f2], rfl, rfl, ⟨[.int .i64 x.f1], [.bool x.f2], rfl, rfl, rfl⟩⟩
theorem k25_mkM (w : World) (base : Nat) (ok : Nat → Prop) (x : S25)  : k25.M w base ok x [.int .i64 x.f0, .int .i64 x.f1, .bool x.f2] := ⟨[.int .i64 x.f0], [.int .i64 x.f1, .bool x.f2], rfl, rfl, ⟨[.int .i64 x.f1], [.bool x.f2], rfl, rfl, rfl⟩⟩
def rd_T25 (xs : List S25) (i : Int) : S25 := xs.getD i.toNat z25
theorem at_T25 {w : World} {A : Option Addr} {n : Nat} {xs : List S25} (h : Kd.C k25 w A n xs) (i : Int) (h0 : 0 ≤ i) (h1 : i < n) : ∃ ad , A = some ad ∧ w.cell? (ad.add (i.toNat * 3)) = some (.int .i64 (rd_T25 xs i).f0) ∧ w.cell? ⟨(ad.add (i.toNat * 3)).block, (ad.add (i.toNat * 3)).off + 1, none⟩ = some (.int .i64 (rd_T25 xs i).f1) ∧ w.cell? ⟨(ad.add (i.toNat * 3)).block, (ad.add (i.toNat * 3)).off + 2, none⟩ = some (.bool (rd_T25 xs i).f2) := by
  obtain ⟨ad, c, e, _, hK, hc0⟩ := Kd.C_get h z25 i h0 h1
  have hc : ∀ j u, c[j]? = some u → w.cell? (ad.add (i.toNat * 3 + j)) = some u := hc0
  obtain rfl := k25_open hK
  exact ⟨ad, e, hc 0 _ rfl, by rw [← add_field _ _ 1 (by omega)]; exact hc 1 _ rfl, by rw [← add_field _ _ 2 (by omega)]; exact hc 2 _ rfl⟩

/-! #### struct type 31 -/
structure S31 where
  f0 : Int
  f1 : Int
  f2 : Bool
def z31 : S31 := ⟨(0 : Int), (0 : Int), false⟩
def k31 : Kd S31 := Kd.iso (Kd.pair (Kd.int .i64) (Kd.pair (Kd.int .i64) Kd.bool)) (fun x : S31 => (x.f0, x.f1, x.f2))
theorem k31_open {w : World} {x : S31} {cs : List Value} (h : k31.K w x cs) : cs = [.int .i64 x.f0, .int .i64 x.f1, .bool x.f2] := by
  obtain ⟨_, _, rfl, rfl, ⟨_, _, rfl, rfl, rfl⟩⟩ := h
  exact rfl
theorem k31_openM {w : World} {base : Nat} {ok : Nat → Prop} {x : S31} {cs : List Value} (h : k31.M w base ok x cs) : cs = [.int .i64 x.f0, .int .i64 x.f1, .bool x.f2] := by
  obtain ⟨_, _, rfl, rfl, ⟨_, _, rfl, rfl, rfl⟩⟩ := h
  exact rfl
theorem k31_mk (w : World) (x : S31)  : k31.K w x [.int .i64 x.f0, .int .i64 x.f1, .bool x.f2] := ⟨[.int .i64 x.f0], [.int .i64 x.f1, .bool x.f2], rfl, rfl, ⟨[.int .i64 x.f1], [.bool x.f2], rfl, rfl, rfl⟩⟩
theorem k31_mkM (w : World) (base : Nat) (ok : Nat → Prop) (x : S31)  : k31.M w base ok x [.int .i64 x.f0, .int .i64 x.f1, .bool x.f2] := ⟨[.int .i64 x.f0], [.int .i64 x.f1, .bool x.f2], rfl, rfl, ⟨[.int .i64 x.f1], [.bool x.f2], rfl, rfl, rfl⟩⟩
def rd_T31 (xs : List S31) (i : Int) : S31 := xs.getD i.toNat z31
theorem at_T31 {w : World} {A : Option Addr} {n : Nat} {xs : List S31} (h : Kd.C k31 w A n xs) (i : Int) (h0 : 0 ≤ i) (h1 : i < n) : ∃ ad , A = some ad ∧ w.cell? (ad.add (i.toNat * 3)) = some (.int .i64 (rd_T31 xs i).f0) ∧ w.cell? ⟨(ad.add (i.toNat * 3)).block, (ad.add (i.toNat * 3)).off + 1, none⟩ = some (.int .i64 (rd_T31 xs i).f1) ∧ w.cell? ⟨(ad.add (i.toNat * 3)).block, (ad.add (i.toNat * 3)).off + 2, none⟩ = some (.bool (rd_T31 xs i).f2) := by
  obtain ⟨ad, c, e, _, hK, hc0⟩ := Kd.C_get h z31 i h0 h1
  have hc : ∀ j u, c[j]? = some u → w.cell? (ad.add (i.toNat * 3 + j)) = some u := hc0
  obtain rfl := k31_open hK
  exact ⟨ad, e, hc 0 _ rfl, by rw [← add_field _ _ 1 (by omega)]; exact hc 1 _ rfl, by rw [← add_field _ _ 2 (by omega)]; exact hc 2 _ rfl⟩

/-- A cell of life's table: the state to go to, the code, whether it is the connection's, whether it cannot be. -/
abbrev LCell := Int × Int × Bool × Bool
def LCell.vals (c : LCell) : List Value := [.int .i64 c.1, .int .i64 c.2.1, .bool c.2.2.1, .bool c.2.2.2]
/-- What the ten package-level cells hold: open, peer, idle, never, wrong, closed, own, gone, over, nothing. -/
def globs : List LCell := [(1, 0, false, false), (2, 0, false, false), (0, 1, true, false), (0, 0, false, true), (0, 1, false, false), (4, 0, false, false), (3, 0, false, false), (0, 5, false, false), (0, 5, true, false), (4, 0, false, false)]
def gl (i : Nat) : LCell := globs.getD i (0, 0, false, false)
/-- The package-level variables that the laws of package life read hold what the program's text lays. -/
structure GB (w : World) : Prop where
  size : 10 ≤ w.heap.size
  at_ : ∀ i, i < 10 → ∀ j v, (gl i).vals[j]? = some v → w.cell? ((⟨i, 0, none⟩ : Addr).add j) = some v
theorem GB.below {w w' : World} (h : GB w) (hb : Below w.heap.size w w') : GB w' :=
  ⟨Nat.le_trans h.size hb.size, fun i hi j v hv => by
    have h0 := h.at_ i hi j v hv
    exact (hb.cell (World.block_lt_of_cell? w _ h0)).trans h0⟩
theorem GB.alloc {w : World} (h : GB w) (o : Obj) : GB (w.alloc o) := h.below ((Below.refl _ _).alloc (Nat.le_refl _) _)
theorem GB.drewN {w : World} (h : GB w) (n : Nat) : GB (w.drewN n) := h.below (pw_below_drewN (Below.refl _ _) n)
theorem GB.drew {w : World} (h : GB w) : GB w.drew := h.below (Below.refl _ _).drew

end Go.Proofs.YtjkadheknjkkbaaDoor.QL
