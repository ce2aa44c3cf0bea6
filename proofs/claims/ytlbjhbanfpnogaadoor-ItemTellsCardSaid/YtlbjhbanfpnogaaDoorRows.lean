/-
  NARROWER THAN 'FOR EVERY INPUT', by the rows' own cells (each row's printed sentence says how): HuffTells: laid · HuffBack: laid · HuffCodes: laid · LiteralTells: laid · LiteralBack: laid · ItemTells: laid · ItemBack: laid.
  DERIVED. THE GIVEN ROWS OF THIS SEAT. 7 by the template 'for every input the law returns true; each argument reads behind the call as it read before'; 0 by the template 'total and deterministic' (their statements: YtlbjhbanfpnogaaDoorTotals.lean).
  GIVEN WITH THE SEED: the statements are not yours to turn. If you find one false, say at which input.
  Laid BY PROGRAM, IN A SANDBOX (cutbox-rows.mjs): the forced cells as the released guide's own fill.sh prints them over the translation 1d92d289147acb33… (all of the seat's roots in one cut). By AI agents, Wed Nov 11 2026. No macro, syntax, notation, axiom, sorry.
-/
import Derived.Test.YtlbjhbanfpnogaaDoorChecked
import GoSem.Claim
import GoSem.ClaimJoined
import GoSem.ClaimMapViews
import Derived.JoinedTies
import Derived.KernelRfl
namespace Go.Proofs.YtlbjhbanfpnogaaDoor
/- THE CELL 'sum', in the pinned program and in every row, IS THE sha256 OF THE DUMP (.gsa) THAT YtlbjhbanfpnogaaDoorProg.lean LOADS. Nothing in Lean hashes anything: it is a label: what it is worth is what the hold of that sum in a sandbox is worth. -/
noncomputable def Tryd.pinned : Pinned := { name := "ytlbjhbanfpnogaadoor", sum := "1d92d289147acb33420b17239380742f0089bef7b9e2a8cf2227ef0ab0320f38", checked := Tryd.checked }
namespace Rows
def none {H : Type} : Left H := { results := [], args := [] }

/- WHAT THE LISTED PACKAGE-LEVEL VARIABLES READ AS WHEN THE CALL BEGINS. Each datum BY PROGRAM (the guide's laid-datum.mjs) off the statement by which the dump's own 'gosem.cut.vars' lays the variable. In a bare row this is a premise. The card (YtlbjhbanfpnogaaDoorCards.lean) ties it to the program's text. -/
def laid_gantlet_huff_lengths {H : Type} : DataW H := .agg [.lit (.int .i64 13), .lit (.int .i64 23), .lit (.int .i64 28), .lit (.int .i64 28), .lit (.int .i64 28), .lit (.int .i64 28), .lit (.int .i64 28), .lit (.int .i64 28), .lit (.int .i64 28), .lit (.int .i64 24), .lit (.int .i64 30), .lit (.int .i64 28), .lit (.int .i64 28), .lit (.int .i64 30), .lit (.int .i64 28), .lit (.int .i64 28), .lit (.int .i64 28), .lit (.int .i64 28), .lit (.int .i64 28), .lit (.int .i64 28), .lit (.int .i64 28), .lit (.int .i64 28), .lit (.int .i64 30), .lit (.int .i64 28), .lit (.int .i64 28), .lit (.int .i64 28), .lit (.int .i64 28), .lit (.int .i64 28), .lit (.int .i64 28), .lit (.int .i64 28), .lit (.int .i64 28), .lit (.int .i64 28), .lit (.int .i64 6), .lit (.int .i64 10), .lit (.int .i64 10), .lit (.int .i64 12), .lit (.int .i64 13), .lit (.int .i64 6), .lit (.int .i64 8), .lit (.int .i64 11), .lit (.int .i64 10), .lit (.int .i64 10), .lit (.int .i64 8), .lit (.int .i64 11), .lit (.int .i64 8), .lit (.int .i64 6), .lit (.int .i64 6), .lit (.int .i64 6), .lit (.int .i64 5), .lit (.int .i64 5), .lit (.int .i64 5), .lit (.int .i64 6), .lit (.int .i64 6), .lit (.int .i64 6), .lit (.int .i64 6), .lit (.int .i64 6), .lit (.int .i64 6), .lit (.int .i64 6), .lit (.int .i64 7), .lit (.int .i64 8), .lit (.int .i64 15), .lit (.int .i64 6), .lit (.int .i64 12), .lit (.int .i64 10), .lit (.int .i64 13), .lit (.int .i64 6), .lit (.int .i64 7), .lit (.int .i64 7), .lit (.int .i64 7), .lit (.int .i64 7), .lit (.int .i64 7), .lit (.int .i64 7), .lit (.int .i64 7), .lit (.int .i64 7), .lit (.int .i64 7), .lit (.int .i64 7), .lit (.int .i64 7), .lit (.int .i64 7), .lit (.int .i64 7), .lit (.int .i64 7), .lit (.int .i64 7), .lit (.int .i64 7), .lit (.int .i64 7), .lit (.int .i64 7), .lit (.int .i64 7), .lit (.int .i64 7), .lit (.int .i64 7), .lit (.int .i64 7), .lit (.int .i64 8), .lit (.int .i64 7), .lit (.int .i64 8), .lit (.int .i64 13), .lit (.int .i64 19), .lit (.int .i64 13), .lit (.int .i64 14), .lit (.int .i64 6), .lit (.int .i64 15), .lit (.int .i64 5), .lit (.int .i64 6), .lit (.int .i64 5), .lit (.int .i64 6), .lit (.int .i64 5), .lit (.int .i64 6), .lit (.int .i64 6), .lit (.int .i64 6), .lit (.int .i64 5), .lit (.int .i64 7), .lit (.int .i64 7), .lit (.int .i64 6), .lit (.int .i64 6), .lit (.int .i64 6), .lit (.int .i64 5), .lit (.int .i64 6), .lit (.int .i64 7), .lit (.int .i64 6), .lit (.int .i64 5), .lit (.int .i64 5), .lit (.int .i64 6), .lit (.int .i64 7), .lit (.int .i64 7), .lit (.int .i64 7), .lit (.int .i64 7), .lit (.int .i64 7), .lit (.int .i64 15), .lit (.int .i64 11), .lit (.int .i64 14), .lit (.int .i64 13), .lit (.int .i64 28), .lit (.int .i64 20), .lit (.int .i64 22), .lit (.int .i64 20), .lit (.int .i64 20), .lit (.int .i64 22), .lit (.int .i64 22), .lit (.int .i64 22), .lit (.int .i64 23), .lit (.int .i64 22), .lit (.int .i64 23), .lit (.int .i64 23), .lit (.int .i64 23), .lit (.int .i64 23), .lit (.int .i64 23), .lit (.int .i64 24), .lit (.int .i64 23), .lit (.int .i64 24), .lit (.int .i64 24), .lit (.int .i64 22), .lit (.int .i64 23), .lit (.int .i64 24), .lit (.int .i64 23), .lit (.int .i64 23), .lit (.int .i64 23), .lit (.int .i64 23), .lit (.int .i64 21), .lit (.int .i64 22), .lit (.int .i64 23), .lit (.int .i64 22), .lit (.int .i64 23), .lit (.int .i64 23), .lit (.int .i64 24), .lit (.int .i64 22), .lit (.int .i64 21), .lit (.int .i64 20), .lit (.int .i64 22), .lit (.int .i64 22), .lit (.int .i64 23), .lit (.int .i64 23), .lit (.int .i64 21), .lit (.int .i64 23), .lit (.int .i64 22), .lit (.int .i64 22), .lit (.int .i64 24), .lit (.int .i64 21), .lit (.int .i64 22), .lit (.int .i64 23), .lit (.int .i64 23), .lit (.int .i64 21), .lit (.int .i64 21), .lit (.int .i64 22), .lit (.int .i64 21), .lit (.int .i64 23), .lit (.int .i64 22), .lit (.int .i64 23), .lit (.int .i64 23), .lit (.int .i64 20), .lit (.int .i64 22), .lit (.int .i64 22), .lit (.int .i64 22), .lit (.int .i64 23), .lit (.int .i64 22), .lit (.int .i64 22), .lit (.int .i64 23), .lit (.int .i64 26), .lit (.int .i64 26), .lit (.int .i64 20), .lit (.int .i64 19), .lit (.int .i64 22), .lit (.int .i64 23), .lit (.int .i64 22), .lit (.int .i64 25), .lit (.int .i64 26), .lit (.int .i64 26), .lit (.int .i64 26), .lit (.int .i64 27), .lit (.int .i64 27), .lit (.int .i64 26), .lit (.int .i64 24), .lit (.int .i64 25), .lit (.int .i64 19), .lit (.int .i64 21), .lit (.int .i64 26), .lit (.int .i64 27), .lit (.int .i64 27), .lit (.int .i64 26), .lit (.int .i64 27), .lit (.int .i64 24), .lit (.int .i64 21), .lit (.int .i64 21), .lit (.int .i64 26), .lit (.int .i64 26), .lit (.int .i64 28), .lit (.int .i64 27), .lit (.int .i64 27), .lit (.int .i64 27), .lit (.int .i64 20), .lit (.int .i64 24), .lit (.int .i64 20), .lit (.int .i64 21), .lit (.int .i64 22), .lit (.int .i64 21), .lit (.int .i64 21), .lit (.int .i64 23), .lit (.int .i64 22), .lit (.int .i64 22), .lit (.int .i64 25), .lit (.int .i64 25), .lit (.int .i64 24), .lit (.int .i64 24), .lit (.int .i64 26), .lit (.int .i64 23), .lit (.int .i64 26), .lit (.int .i64 27), .lit (.int .i64 26), .lit (.int .i64 26), .lit (.int .i64 27), .lit (.int .i64 27), .lit (.int .i64 27), .lit (.int .i64 27), .lit (.int .i64 27), .lit (.int .i64 28), .lit (.int .i64 27), .lit (.int .i64 27), .lit (.int .i64 27), .lit (.int .i64 27), .lit (.int .i64 27), .lit (.int .i64 26), .lit (.int .i64 30)]
def laid_gantlet_item_shapes {H : Type} : DataW H := .agg [.agg [.lit (.int .i64 7), .lit (.int .i64 128)], .agg [.lit (.int .i64 6), .lit (.int .i64 64)], .agg [.lit (.int .i64 4), .lit (.int .i64 0)], .agg [.lit (.int .i64 4), .lit (.int .i64 16)], .agg [.lit (.int .i64 5), .lit (.int .i64 32)]]

/-- 'gantletlaw04.HuffTells': WHATEVER THE INPUT: true; the input reads as it did. -/
def huffTellsSpec : ChangeSpec := { name := "huffTells", fn := fun _ => fun
  | [d1, d2, d3] => { results := [.lit (.bool true)], args := [d1, d2, d3] }
  | _ => none }
def huffTellsRow : OpenClaim := { program := "ytlbjhbanfpnogaadoor", sum := "1d92d289147acb33420b17239380742f0089bef7b9e2a8cf2227ef0ab0320f38", func := "gantlet/gantletlaw04.HuffTells", spec := "huffTells", unfollowed := true, recurses := true, named := ["gantlet/huff.lengths"], plainKeys := false, apart := false, laid := [("gantlet/huff.lengths", laid_gantlet_huff_lengths)] }
def HuffTellsSaid : Prop := huffTellsRow.holds Tryd.pinned (OpenSpec.ofChange huffTellsSpec)

/-- ITS FALSE NEIGHBOUR: 'it returns false'. Refute it at one input. -/
def huffTellsWrong : ChangeSpec := { name := "huffTells", fn := fun _ => fun
  | [d1, d2, d3] => { results := [.lit (.bool false)], args := [d1, d2, d3] }
  | _ => none }
def HuffTellsWrongFalsely : Prop := huffTellsRow.holds Tryd.pinned (OpenSpec.ofChange huffTellsWrong)

/-- 'gantletlaw04.HuffBack': WHATEVER THE INPUT: true; the input reads as it did. -/
def huffBackSpec : ChangeSpec := { name := "huffBack", fn := fun _ => fun
  | [d1, d2] => { results := [.lit (.bool true)], args := [d1, d2] }
  | _ => none }
def huffBackRow : OpenClaim := { program := "ytlbjhbanfpnogaadoor", sum := "1d92d289147acb33420b17239380742f0089bef7b9e2a8cf2227ef0ab0320f38", func := "gantlet/gantletlaw04.HuffBack", spec := "huffBack", unfollowed := true, recurses := true, named := ["gantlet/huff.lengths"], plainKeys := false, apart := false, laid := [("gantlet/huff.lengths", laid_gantlet_huff_lengths)] }
def HuffBackSaid : Prop := huffBackRow.holds Tryd.pinned (OpenSpec.ofChange huffBackSpec)

/-- ITS FALSE NEIGHBOUR: 'it returns false'. Refute it at one input. -/
def huffBackWrong : ChangeSpec := { name := "huffBack", fn := fun _ => fun
  | [d1, d2] => { results := [.lit (.bool false)], args := [d1, d2] }
  | _ => none }
def HuffBackWrongFalsely : Prop := huffBackRow.holds Tryd.pinned (OpenSpec.ofChange huffBackWrong)

/-- 'gantletlaw04.HuffCodes': WHATEVER THE INPUT: true; the input reads as it did. -/
def huffCodesSpec : ChangeSpec := { name := "huffCodes", fn := fun _ => fun
  | [d1, d2] => { results := [.lit (.bool true)], args := [d1, d2] }
  | _ => none }
def huffCodesRow : OpenClaim := { program := "ytlbjhbanfpnogaadoor", sum := "1d92d289147acb33420b17239380742f0089bef7b9e2a8cf2227ef0ab0320f38", func := "gantlet/gantletlaw04.HuffCodes", spec := "huffCodes", unfollowed := true, recurses := true, named := ["gantlet/huff.lengths"], plainKeys := false, apart := false, laid := [("gantlet/huff.lengths", laid_gantlet_huff_lengths)] }
def HuffCodesSaid : Prop := huffCodesRow.holds Tryd.pinned (OpenSpec.ofChange huffCodesSpec)

/-- ITS FALSE NEIGHBOUR: 'it returns false'. Refute it at one input. -/
def huffCodesWrong : ChangeSpec := { name := "huffCodes", fn := fun _ => fun
  | [d1, d2] => { results := [.lit (.bool false)], args := [d1, d2] }
  | _ => none }
def HuffCodesWrongFalsely : Prop := huffCodesRow.holds Tryd.pinned (OpenSpec.ofChange huffCodesWrong)

/-- 'gantletlaw05.LiteralTells': WHATEVER THE INPUT: true; the input reads as it did. -/
def literalTellsSpec : ChangeSpec := { name := "literalTells", fn := fun _ => fun
  | [d1, d2, d3] => { results := [.lit (.bool true)], args := [d1, d2, d3] }
  | _ => none }
def literalTellsRow : OpenClaim := { program := "ytlbjhbanfpnogaadoor", sum := "1d92d289147acb33420b17239380742f0089bef7b9e2a8cf2227ef0ab0320f38", func := "gantlet/gantletlaw05.LiteralTells", spec := "literalTells", unfollowed := true, recurses := true, named := ["gantlet/huff.lengths"], plainKeys := false, apart := false, laid := [("gantlet/huff.lengths", laid_gantlet_huff_lengths)] }
def LiteralTellsSaid : Prop := literalTellsRow.holds Tryd.pinned (OpenSpec.ofChange literalTellsSpec)

/-- ITS FALSE NEIGHBOUR: 'it returns false'. Refute it at one input. -/
def literalTellsWrong : ChangeSpec := { name := "literalTells", fn := fun _ => fun
  | [d1, d2, d3] => { results := [.lit (.bool false)], args := [d1, d2, d3] }
  | _ => none }
def LiteralTellsWrongFalsely : Prop := literalTellsRow.holds Tryd.pinned (OpenSpec.ofChange literalTellsWrong)

/-- 'gantletlaw05.LiteralBack': WHATEVER THE INPUT: true; the input reads as it did. -/
def literalBackSpec : ChangeSpec := { name := "literalBack", fn := fun _ => fun
  | [d1, d2, d3] => { results := [.lit (.bool true)], args := [d1, d2, d3] }
  | _ => none }
def literalBackRow : OpenClaim := { program := "ytlbjhbanfpnogaadoor", sum := "1d92d289147acb33420b17239380742f0089bef7b9e2a8cf2227ef0ab0320f38", func := "gantlet/gantletlaw05.LiteralBack", spec := "literalBack", unfollowed := true, recurses := true, named := ["gantlet/huff.lengths"], plainKeys := false, apart := false, laid := [("gantlet/huff.lengths", laid_gantlet_huff_lengths)] }
def LiteralBackSaid : Prop := literalBackRow.holds Tryd.pinned (OpenSpec.ofChange literalBackSpec)

/-- ITS FALSE NEIGHBOUR: 'it returns false'. Refute it at one input. -/
def literalBackWrong : ChangeSpec := { name := "literalBack", fn := fun _ => fun
  | [d1, d2, d3] => { results := [.lit (.bool false)], args := [d1, d2, d3] }
  | _ => none }
def LiteralBackWrongFalsely : Prop := literalBackRow.holds Tryd.pinned (OpenSpec.ofChange literalBackWrong)

/-- 'gantletlaw08.ItemTells': WHATEVER THE INPUT: true; the input reads as it did. -/
def itemTellsSpec : ChangeSpec := { name := "itemTells", fn := fun _ => fun
  | [d1, d2, d3] => { results := [.lit (.bool true)], args := [d1, d2, d3] }
  | _ => none }
def itemTellsRow : OpenClaim := { program := "ytlbjhbanfpnogaadoor", sum := "1d92d289147acb33420b17239380742f0089bef7b9e2a8cf2227ef0ab0320f38", func := "gantlet/gantletlaw08.ItemTells", spec := "itemTells", unfollowed := true, recurses := true, named := ["gantlet/item.shapes", "gantlet/huff.lengths"], plainKeys := false, apart := false, laid := [("gantlet/huff.lengths", laid_gantlet_huff_lengths), ("gantlet/item.shapes", laid_gantlet_item_shapes)] }
def ItemTellsSaid : Prop := itemTellsRow.holds Tryd.pinned (OpenSpec.ofChange itemTellsSpec)

/-- ITS FALSE NEIGHBOUR: 'it returns false'. Refute it at one input. -/
def itemTellsWrong : ChangeSpec := { name := "itemTells", fn := fun _ => fun
  | [d1, d2, d3] => { results := [.lit (.bool false)], args := [d1, d2, d3] }
  | _ => none }
def ItemTellsWrongFalsely : Prop := itemTellsRow.holds Tryd.pinned (OpenSpec.ofChange itemTellsWrong)

/-- 'gantletlaw08.ItemBack': WHATEVER THE INPUT: true; the input reads as it did. -/
def itemBackSpec : ChangeSpec := { name := "itemBack", fn := fun _ => fun
  | [d1, d2, d3] => { results := [.lit (.bool true)], args := [d1, d2, d3] }
  | _ => none }
def itemBackRow : OpenClaim := { program := "ytlbjhbanfpnogaadoor", sum := "1d92d289147acb33420b17239380742f0089bef7b9e2a8cf2227ef0ab0320f38", func := "gantlet/gantletlaw08.ItemBack", spec := "itemBack", unfollowed := true, recurses := true, named := ["gantlet/item.shapes", "gantlet/huff.lengths"], plainKeys := false, apart := false, laid := [("gantlet/huff.lengths", laid_gantlet_huff_lengths), ("gantlet/item.shapes", laid_gantlet_item_shapes)] }
def ItemBackSaid : Prop := itemBackRow.holds Tryd.pinned (OpenSpec.ofChange itemBackSpec)

/-- ITS FALSE NEIGHBOUR: 'it returns false'. Refute it at one input. -/
def itemBackWrong : ChangeSpec := { name := "itemBack", fn := fun _ => fun
  | [d1, d2, d3] => { results := [.lit (.bool false)], args := [d1, d2, d3] }
  | _ => none }
def ItemBackWrongFalsely : Prop := itemBackRow.holds Tryd.pinned (OpenSpec.ofChange itemBackWrong)

/- THE SECOND FORM. 'bulk': how many values and letters a reading holds, each counted each time it is reached (what is shared counts as often as it is met; a slice's spare places count too). A statement '..UptoSaid' is the law's where the arguments, and the package variables that the reading takes, are together of bulk at most 1048576: NARROWER than '..Said'. Prove '..Said' where nothing that the law and all that it calls make is longer than what came in: it says more and counts as full. Else prove '..UptoSaid'. A law counts once. -/
mutual
def uptoBulk {H : Type} : DataW H → Nat
  | .lit (.string bytes) => bytes.length + 1
  | .lit _ => 1
  | .nil => 1
  | .ptr d => uptoBulk d + 1
  | .slice elems spare => uptoBulkAll elems + uptoBulkAll spare + 1
  | .agg parts => uptoBulkAll parts + 1
  | .iface _ d => uptoBulk d + 1
  | .map entries => uptoBulkEntries entries + 1
  | .held _ => 1
def uptoBulkAll {H : Type} : List (DataW H) → Nat
  | [] => 0
  | d :: r => uptoBulk d + uptoBulkAll r
def uptoBulkEntries {H : Type} : List (Lit × DataW H) → Nat
  | [] => 0
  | x :: r => uptoBulkEntry x + uptoBulkEntries r
def uptoBulkEntry {H : Type} : Lit × DataW H → Nat
  | (.string bytes, d) => bytes.length + uptoBulk d + 1
  | (_, d) => uptoBulk d + 1
 end
def uptoSmall : (H : Type) → List (DataW H) → Bool := fun _ ds => decide (uptoBulkAll ds ≤ 1048576)
def OpenSpec.upto (s : _root_.Go.ChangeSpec) : _root_.Go.OpenSpec := { _root_.Go.OpenSpec.ofChange s with cond := some uptoSmall }

/-- 'gantletlaw04.HuffTells', WHERE WHAT IT READS IS OF BULK AT MOST 1048576: true; the input reads as it did. -/
def huffTellsUptoRow : OpenClaim := { program := "ytlbjhbanfpnogaadoor", sum := "1d92d289147acb33420b17239380742f0089bef7b9e2a8cf2227ef0ab0320f38", func := "gantlet/gantletlaw04.HuffTells", spec := "huffTells", unfollowed := true, recurses := true, named := ["gantlet/huff.lengths"], plainKeys := false, apart := false, laid := [("gantlet/huff.lengths", laid_gantlet_huff_lengths)], narrowed := true }
def HuffTellsUptoSaid : Prop := huffTellsUptoRow.holds Tryd.pinned (OpenSpec.upto huffTellsSpec)

/-- 'gantletlaw04.HuffBack', WHERE WHAT IT READS IS OF BULK AT MOST 1048576: true; the input reads as it did. -/
def huffBackUptoRow : OpenClaim := { program := "ytlbjhbanfpnogaadoor", sum := "1d92d289147acb33420b17239380742f0089bef7b9e2a8cf2227ef0ab0320f38", func := "gantlet/gantletlaw04.HuffBack", spec := "huffBack", unfollowed := true, recurses := true, named := ["gantlet/huff.lengths"], plainKeys := false, apart := false, laid := [("gantlet/huff.lengths", laid_gantlet_huff_lengths)], narrowed := true }
def HuffBackUptoSaid : Prop := huffBackUptoRow.holds Tryd.pinned (OpenSpec.upto huffBackSpec)

/-- 'gantletlaw04.HuffCodes', WHERE WHAT IT READS IS OF BULK AT MOST 1048576: true; the input reads as it did. -/
def huffCodesUptoRow : OpenClaim := { program := "ytlbjhbanfpnogaadoor", sum := "1d92d289147acb33420b17239380742f0089bef7b9e2a8cf2227ef0ab0320f38", func := "gantlet/gantletlaw04.HuffCodes", spec := "huffCodes", unfollowed := true, recurses := true, named := ["gantlet/huff.lengths"], plainKeys := false, apart := false, laid := [("gantlet/huff.lengths", laid_gantlet_huff_lengths)], narrowed := true }
def HuffCodesUptoSaid : Prop := huffCodesUptoRow.holds Tryd.pinned (OpenSpec.upto huffCodesSpec)

/-- 'gantletlaw05.LiteralTells', WHERE WHAT IT READS IS OF BULK AT MOST 1048576: true; the input reads as it did. -/
def literalTellsUptoRow : OpenClaim := { program := "ytlbjhbanfpnogaadoor", sum := "1d92d289147acb33420b17239380742f0089bef7b9e2a8cf2227ef0ab0320f38", func := "gantlet/gantletlaw05.LiteralTells", spec := "literalTells", unfollowed := true, recurses := true, named := ["gantlet/huff.lengths"], plainKeys := false, apart := false, laid := [("gantlet/huff.lengths", laid_gantlet_huff_lengths)], narrowed := true }
def LiteralTellsUptoSaid : Prop := literalTellsUptoRow.holds Tryd.pinned (OpenSpec.upto literalTellsSpec)

/-- 'gantletlaw05.LiteralBack', WHERE WHAT IT READS IS OF BULK AT MOST 1048576: true; the input reads as it did. -/
def literalBackUptoRow : OpenClaim := { program := "ytlbjhbanfpnogaadoor", sum := "1d92d289147acb33420b17239380742f0089bef7b9e2a8cf2227ef0ab0320f38", func := "gantlet/gantletlaw05.LiteralBack", spec := "literalBack", unfollowed := true, recurses := true, named := ["gantlet/huff.lengths"], plainKeys := false, apart := false, laid := [("gantlet/huff.lengths", laid_gantlet_huff_lengths)], narrowed := true }
def LiteralBackUptoSaid : Prop := literalBackUptoRow.holds Tryd.pinned (OpenSpec.upto literalBackSpec)

/-- 'gantletlaw08.ItemTells', WHERE WHAT IT READS IS OF BULK AT MOST 1048576: true; the input reads as it did. -/
def itemTellsUptoRow : OpenClaim := { program := "ytlbjhbanfpnogaadoor", sum := "1d92d289147acb33420b17239380742f0089bef7b9e2a8cf2227ef0ab0320f38", func := "gantlet/gantletlaw08.ItemTells", spec := "itemTells", unfollowed := true, recurses := true, named := ["gantlet/item.shapes", "gantlet/huff.lengths"], plainKeys := false, apart := false, laid := [("gantlet/huff.lengths", laid_gantlet_huff_lengths), ("gantlet/item.shapes", laid_gantlet_item_shapes)], narrowed := true }
def ItemTellsUptoSaid : Prop := itemTellsUptoRow.holds Tryd.pinned (OpenSpec.upto itemTellsSpec)

/-- 'gantletlaw08.ItemBack', WHERE WHAT IT READS IS OF BULK AT MOST 1048576: true; the input reads as it did. -/
def itemBackUptoRow : OpenClaim := { program := "ytlbjhbanfpnogaadoor", sum := "1d92d289147acb33420b17239380742f0089bef7b9e2a8cf2227ef0ab0320f38", func := "gantlet/gantletlaw08.ItemBack", spec := "itemBack", unfollowed := true, recurses := true, named := ["gantlet/item.shapes", "gantlet/huff.lengths"], plainKeys := false, apart := false, laid := [("gantlet/huff.lengths", laid_gantlet_huff_lengths), ("gantlet/item.shapes", laid_gantlet_item_shapes)], narrowed := true }
def ItemBackUptoSaid : Prop := itemBackUptoRow.holds Tryd.pinned (OpenSpec.upto itemBackSpec)

end Rows
end Go.Proofs.YtlbjhbanfpnogaaDoor
