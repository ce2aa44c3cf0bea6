/-
  NARROWER THAN 'FOR EVERY INPUT', by the rows' own cells (each row's printed sentence says how): LifeTells: laid · LifeDone: laid · RequestTells: laid.
  DERIVED. THE GIVEN ROWS OF THIS SEAT. 3 by the template 'for every input the law returns true; each argument reads behind the call as it read before'; 0 by the template 'total and deterministic' (their statements: YtjkadheknjkkbaaDoorTotals.lean).
  GIVEN WITH THE SEED: the statements are not yours to turn. If you find one false, say at which input.
  Laid BY PROGRAM, IN A SANDBOX (cutbox-rows.mjs): the forced cells as the released guide's own fill.sh prints them over the translation 4102d4940b3a7fc4… (all of the seat's roots in one cut). By AI agents, Wed Nov 11 2026. No macro, syntax, notation, axiom, sorry.
-/
import Derived.Test.YtjkadheknjkkbaaDoorChecked
import GoSem.PinnedTables
import GoSem.Claim
import GoSem.ClaimJoined
import GoSem.ClaimMapViews
import Derived.JoinedTies
import Derived.KernelRfl
namespace Go.Proofs.YtjkadheknjkkbaaDoor
/- THE CELL 'sum', in the pinned program and in every row, IS THE sha256 OF THE DUMP (.gsa) THAT YtjkadheknjkkbaaDoorProg.lean LOADS. Nothing in Lean hashes anything: it is a label: what it is worth is what the hold of that sum in a sandbox is worth. -/
noncomputable def Tryd.pinned : Pinned := { name := "ytjkadheknjkkbaadoor", sum := "4102d4940b3a7fc42ae2227fb290a9e1697f32eb5991177bd0b934a6db2413ad", checked := Tryd.checked }
namespace Rows
def none {H : Type} : Left H := { results := [], args := [] }

/- WHAT THE LISTED PACKAGE-LEVEL VARIABLES READ AS WHEN THE CALL BEGINS. Each datum BY PROGRAM (the guide's laid-datum.mjs) off the statement by which the dump's own 'gosem.cut.vars' lays the variable. In a bare row this is a premise. The card (YtjkadheknjkkbaaDoorCards.lean) ties it to the program's text. -/
def laid_gantlet_life_never {H : Type} : DataW H := .agg [.lit (.int .i64 0), .lit (.int .i64 0), .lit (.bool false), .lit (.bool true)]
def laid_gantlet_life_idle {H : Type} : DataW H := .agg [.lit (.int .i64 0), .lit (.int .i64 1), .lit (.bool true), .lit (.bool false)]
def laid_gantlet_life_wrong {H : Type} : DataW H := .agg [.lit (.int .i64 0), .lit (.int .i64 1), .lit (.bool false), .lit (.bool false)]
def laid_gantlet_life_gone {H : Type} : DataW H := .agg [.lit (.int .i64 0), .lit (.int .i64 5), .lit (.bool false), .lit (.bool false)]
def laid_gantlet_life_over {H : Type} : DataW H := .agg [.lit (.int .i64 0), .lit (.int .i64 5), .lit (.bool true), .lit (.bool false)]
def laid_gantlet_life_open {H : Type} : DataW H := .agg [.lit (.int .i64 1), .lit (.int .i64 0), .lit (.bool false), .lit (.bool false)]
def laid_gantlet_life_peer {H : Type} : DataW H := .agg [.lit (.int .i64 2), .lit (.int .i64 0), .lit (.bool false), .lit (.bool false)]
def laid_gantlet_life_own {H : Type} : DataW H := .agg [.lit (.int .i64 3), .lit (.int .i64 0), .lit (.bool false), .lit (.bool false)]
def laid_gantlet_life_closed {H : Type} : DataW H := .agg [.lit (.int .i64 4), .lit (.int .i64 0), .lit (.bool false), .lit (.bool false)]
def laid_gantlet_life_nothing {H : Type} : DataW H := .agg [.lit (.int .i64 4), .lit (.int .i64 0), .lit (.bool false), .lit (.bool false)]
def laid_math_bits_deBruijn32tab {H : Type} : DataW H := .agg [.lit (.int .u8 0), .lit (.int .u8 1), .lit (.int .u8 28), .lit (.int .u8 2), .lit (.int .u8 29), .lit (.int .u8 14), .lit (.int .u8 24), .lit (.int .u8 3), .lit (.int .u8 30), .lit (.int .u8 22), .lit (.int .u8 20), .lit (.int .u8 15), .lit (.int .u8 25), .lit (.int .u8 17), .lit (.int .u8 4), .lit (.int .u8 8), .lit (.int .u8 31), .lit (.int .u8 27), .lit (.int .u8 13), .lit (.int .u8 23), .lit (.int .u8 21), .lit (.int .u8 19), .lit (.int .u8 16), .lit (.int .u8 7), .lit (.int .u8 26), .lit (.int .u8 12), .lit (.int .u8 18), .lit (.int .u8 6), .lit (.int .u8 11), .lit (.int .u8 5), .lit (.int .u8 10), .lit (.int .u8 9)]
def laid_math_bits_deBruijn64tab {H : Type} : DataW H := .agg [.lit (.int .u8 0), .lit (.int .u8 1), .lit (.int .u8 56), .lit (.int .u8 2), .lit (.int .u8 57), .lit (.int .u8 49), .lit (.int .u8 28), .lit (.int .u8 3), .lit (.int .u8 61), .lit (.int .u8 58), .lit (.int .u8 42), .lit (.int .u8 50), .lit (.int .u8 38), .lit (.int .u8 29), .lit (.int .u8 17), .lit (.int .u8 4), .lit (.int .u8 62), .lit (.int .u8 47), .lit (.int .u8 59), .lit (.int .u8 36), .lit (.int .u8 45), .lit (.int .u8 43), .lit (.int .u8 51), .lit (.int .u8 22), .lit (.int .u8 53), .lit (.int .u8 39), .lit (.int .u8 33), .lit (.int .u8 30), .lit (.int .u8 24), .lit (.int .u8 18), .lit (.int .u8 12), .lit (.int .u8 5), .lit (.int .u8 63), .lit (.int .u8 55), .lit (.int .u8 48), .lit (.int .u8 27), .lit (.int .u8 60), .lit (.int .u8 41), .lit (.int .u8 37), .lit (.int .u8 16), .lit (.int .u8 46), .lit (.int .u8 35), .lit (.int .u8 44), .lit (.int .u8 21), .lit (.int .u8 52), .lit (.int .u8 32), .lit (.int .u8 23), .lit (.int .u8 11), .lit (.int .u8 54), .lit (.int .u8 26), .lit (.int .u8 40), .lit (.int .u8 15), .lit (.int .u8 34), .lit (.int .u8 20), .lit (.int .u8 31), .lit (.int .u8 10), .lit (.int .u8 25), .lit (.int .u8 14), .lit (.int .u8 19), .lit (.int .u8 9), .lit (.int .u8 13), .lit (.int .u8 8), .lit (.int .u8 7), .lit (.int .u8 6)]
def laid_internal_strconv_uint64pow10 {H : Type} : DataW H := .agg [.lit (.int .u64 1), .lit (.int .u64 10), .lit (.int .u64 100), .lit (.int .u64 1000), .lit (.int .u64 10000), .lit (.int .u64 100000), .lit (.int .u64 1000000), .lit (.int .u64 10000000), .lit (.int .u64 100000000), .lit (.int .u64 1000000000), .lit (.int .u64 10000000000), .lit (.int .u64 100000000000), .lit (.int .u64 1000000000000), .lit (.int .u64 10000000000000), .lit (.int .u64 100000000000000), .lit (.int .u64 1000000000000000), .lit (.int .u64 10000000000000000), .lit (.int .u64 100000000000000000), .lit (.int .u64 1000000000000000000), .lit (.int .u64 10000000000000000000)]
def laid_unicode_utf8_acceptRanges {H : Type} : DataW H := .agg [.agg [.lit (.int .u8 128), .lit (.int .u8 191)], .agg [.lit (.int .u8 160), .lit (.int .u8 191)], .agg [.lit (.int .u8 128), .lit (.int .u8 159)], .agg [.lit (.int .u8 144), .lit (.int .u8 191)], .agg [.lit (.int .u8 128), .lit (.int .u8 143)], .agg [.lit (.int .u8 0), .lit (.int .u8 0)], .agg [.lit (.int .u8 0), .lit (.int .u8 0)], .agg [.lit (.int .u8 0), .lit (.int .u8 0)], .agg [.lit (.int .u8 0), .lit (.int .u8 0)], .agg [.lit (.int .u8 0), .lit (.int .u8 0)], .agg [.lit (.int .u8 0), .lit (.int .u8 0)], .agg [.lit (.int .u8 0), .lit (.int .u8 0)], .agg [.lit (.int .u8 0), .lit (.int .u8 0)], .agg [.lit (.int .u8 0), .lit (.int .u8 0)], .agg [.lit (.int .u8 0), .lit (.int .u8 0)], .agg [.lit (.int .u8 0), .lit (.int .u8 0)]]
def laid_strconv_ErrRange {H : Type} : DataW H := .iface "*errors.errorString" (.ptr (.agg [.lit (.string [118, 97, 108, 117, 101, 32, 111, 117, 116, 32, 111, 102, 32, 114, 97, 110, 103, 101])]))
def laid_strconv_ErrSyntax {H : Type} : DataW H := .iface "*errors.errorString" (.ptr (.agg [.lit (.string [105, 110, 118, 97, 108, 105, 100, 32, 115, 121, 110, 116, 97, 120])]))
/-- One of Go's own tables, pinned by name: the form's constant. -/
def laid_unicode_utf8_first : DataW Unit := Go.Pinned.utf8First

/-- 'gantletlaw16.LifeTells': WHATEVER THE INPUT: true; the input reads as it did. -/
def lifeTellsSpec : ChangeSpec := { name := "lifeTells", fn := fun _ => fun
  | [d1, d2] => { results := [.lit (.bool true)], args := [d1, d2] }
  | _ => none }
def lifeTellsRow : OpenClaim := { program := "ytjkadheknjkkbaadoor", sum := "4102d4940b3a7fc42ae2227fb290a9e1697f32eb5991177bd0b934a6db2413ad", func := "gantlet/gantletlaw16.LifeTells", spec := "lifeTells", named := ["gantlet/life.open", "gantlet/life.peer", "gantlet/life.idle", "gantlet/life.never", "gantlet/life.wrong", "gantlet/life.closed", "gantlet/life.own", "gantlet/life.gone", "gantlet/life.over", "gantlet/life.nothing"], apart := false, laid := [("gantlet/life.never", laid_gantlet_life_never), ("gantlet/life.idle", laid_gantlet_life_idle), ("gantlet/life.wrong", laid_gantlet_life_wrong), ("gantlet/life.gone", laid_gantlet_life_gone), ("gantlet/life.over", laid_gantlet_life_over), ("gantlet/life.open", laid_gantlet_life_open), ("gantlet/life.peer", laid_gantlet_life_peer), ("gantlet/life.own", laid_gantlet_life_own), ("gantlet/life.closed", laid_gantlet_life_closed), ("gantlet/life.nothing", laid_gantlet_life_nothing)] }
def LifeTellsSaid : Prop := lifeTellsRow.holds Tryd.pinned (OpenSpec.ofChange lifeTellsSpec)

/-- ITS FALSE NEIGHBOUR: 'it returns false'. Refute it at one input. -/
def lifeTellsWrong : ChangeSpec := { name := "lifeTells", fn := fun _ => fun
  | [d1, d2] => { results := [.lit (.bool false)], args := [d1, d2] }
  | _ => none }
def LifeTellsWrongFalsely : Prop := lifeTellsRow.holds Tryd.pinned (OpenSpec.ofChange lifeTellsWrong)

/-- 'gantletlaw16.LifeDone': WHATEVER THE INPUT: true; the input reads as it did. -/
def lifeDoneSpec : ChangeSpec := { name := "lifeDone", fn := fun _ => fun
  | [d] => { results := [.lit (.bool true)], args := [d] }
  | _ => none }
def lifeDoneRow : OpenClaim := { program := "ytjkadheknjkkbaadoor", sum := "4102d4940b3a7fc42ae2227fb290a9e1697f32eb5991177bd0b934a6db2413ad", func := "gantlet/gantletlaw16.LifeDone", spec := "lifeDone", named := ["gantlet/life.open", "gantlet/life.peer", "gantlet/life.idle", "gantlet/life.never", "gantlet/life.wrong", "gantlet/life.closed", "gantlet/life.own", "gantlet/life.gone", "gantlet/life.over", "gantlet/life.nothing"], apart := false, laid := [("gantlet/life.never", laid_gantlet_life_never), ("gantlet/life.idle", laid_gantlet_life_idle), ("gantlet/life.wrong", laid_gantlet_life_wrong), ("gantlet/life.gone", laid_gantlet_life_gone), ("gantlet/life.over", laid_gantlet_life_over), ("gantlet/life.open", laid_gantlet_life_open), ("gantlet/life.peer", laid_gantlet_life_peer), ("gantlet/life.own", laid_gantlet_life_own), ("gantlet/life.closed", laid_gantlet_life_closed), ("gantlet/life.nothing", laid_gantlet_life_nothing)] }
def LifeDoneSaid : Prop := lifeDoneRow.holds Tryd.pinned (OpenSpec.ofChange lifeDoneSpec)

/-- ITS FALSE NEIGHBOUR: 'it returns false'. Refute it at one input. -/
def lifeDoneWrong : ChangeSpec := { name := "lifeDone", fn := fun _ => fun
  | [d] => { results := [.lit (.bool false)], args := [d] }
  | _ => none }
def LifeDoneWrongFalsely : Prop := lifeDoneRow.holds Tryd.pinned (OpenSpec.ofChange lifeDoneWrong)

/-- 'gantletlaw10.RequestTells': WHATEVER THE INPUT: true; the input reads as it did. -/
def requestTellsSpec : ChangeSpec := { name := "requestTells", fn := fun _ => fun
  | [d1, d2] => { results := [.lit (.bool true)], args := [d1, d2] }
  | _ => none }
def requestTellsRow : OpenClaim := { program := "ytjkadheknjkkbaadoor", sum := "4102d4940b3a7fc42ae2227fb290a9e1697f32eb5991177bd0b934a6db2413ad", func := "gantlet/gantletlaw10.RequestTells", spec := "requestTells", inPlace := ["internal/bytealg.IndexByteString", "internal/bytealg.IndexString"], named := ["unicode/utf8.first", "unicode/utf8.acceptRanges", "strconv.ErrSyntax", "strconv.ErrRange", "internal/strconv.uint64pow10", "math/bits.deBruijn32tab", "math/bits.deBruijn64tab", "internal/bytealg.MaxLen"], apart := false, laid := [("math/bits.deBruijn32tab", laid_math_bits_deBruijn32tab), ("math/bits.deBruijn64tab", laid_math_bits_deBruijn64tab), ("internal/strconv.uint64pow10", laid_internal_strconv_uint64pow10), ("unicode/utf8.acceptRanges", laid_unicode_utf8_acceptRanges), ("strconv.ErrRange", laid_strconv_ErrRange), ("strconv.ErrSyntax", laid_strconv_ErrSyntax), ("unicode/utf8.first", laid_unicode_utf8_first)] }
def RequestTellsSaid : Prop := requestTellsRow.holds Tryd.pinned (OpenSpec.ofChange requestTellsSpec)

/-- ITS FALSE NEIGHBOUR: 'it returns false'. Refute it at one input. -/
def requestTellsWrong : ChangeSpec := { name := "requestTells", fn := fun _ => fun
  | [d1, d2] => { results := [.lit (.bool false)], args := [d1, d2] }
  | _ => none }
def RequestTellsWrongFalsely : Prop := requestTellsRow.holds Tryd.pinned (OpenSpec.ofChange requestTellsWrong)

/- THE SECOND FORM. 'bulk': how many values and letters a reading holds, each counted each time it is reached (what is shared counts as often as it is met; a slice's spare places count too). A statement '..UptoSaid' is the law's where the arguments, and the package variables that the reading takes, are together of bulk at most 1048576: NARROWER than '..Said'. Prove '..Said' where nothing that the law and all that it calls make is longer than what came in: it says more and counts as full. Else prove '..UptoSaid'. A law counts once. -/
mutual
def uptoBulk {H : Type} : DataW H → Nat
  | .lit (.string bytes) => bytes.length + 1
  | .lit _ => 1
  | .nil => 1
  | .ptr d => uptoBulk d + 1
  | .slice elems spare => uptoBulkAll elems + uptoBulkAll spare + 1
  | .agg parts => uptoBulkAll parts + 1
  | .iface _ d => uptoBulk d + 1
  | .map entries => uptoBulkEntries entries + 1
  | .held _ => 1
def uptoBulkAll {H : Type} : List (DataW H) → Nat
  | [] => 0
  | d :: r => uptoBulk d + uptoBulkAll r
def uptoBulkEntries {H : Type} : List (Lit × DataW H) → Nat
  | [] => 0
  | x :: r => uptoBulkEntry x + uptoBulkEntries r
def uptoBulkEntry {H : Type} : Lit × DataW H → Nat
  | (.string bytes, d) => bytes.length + uptoBulk d + 1
  | (_, d) => uptoBulk d + 1
 end
def uptoSmall : (H : Type) → List (DataW H) → Bool := fun _ ds => decide (uptoBulkAll ds ≤ 1048576)
def OpenSpec.upto (s : _root_.Go.ChangeSpec) : _root_.Go.OpenSpec := { _root_.Go.OpenSpec.ofChange s with cond := some uptoSmall }

/-- 'gantletlaw16.LifeTells', WHERE WHAT IT READS IS OF BULK AT MOST 1048576: true; the input reads as it did. -/
def lifeTellsUptoRow : OpenClaim := { program := "ytjkadheknjkkbaadoor", sum := "4102d4940b3a7fc42ae2227fb290a9e1697f32eb5991177bd0b934a6db2413ad", func := "gantlet/gantletlaw16.LifeTells", spec := "lifeTells", named := ["gantlet/life.open", "gantlet/life.peer", "gantlet/life.idle", "gantlet/life.never", "gantlet/life.wrong", "gantlet/life.closed", "gantlet/life.own", "gantlet/life.gone", "gantlet/life.over", "gantlet/life.nothing"], apart := false, laid := [("gantlet/life.never", laid_gantlet_life_never), ("gantlet/life.idle", laid_gantlet_life_idle), ("gantlet/life.wrong", laid_gantlet_life_wrong), ("gantlet/life.gone", laid_gantlet_life_gone), ("gantlet/life.over", laid_gantlet_life_over), ("gantlet/life.open", laid_gantlet_life_open), ("gantlet/life.peer", laid_gantlet_life_peer), ("gantlet/life.own", laid_gantlet_life_own), ("gantlet/life.closed", laid_gantlet_life_closed), ("gantlet/life.nothing", laid_gantlet_life_nothing)], narrowed := true }
def LifeTellsUptoSaid : Prop := lifeTellsUptoRow.holds Tryd.pinned (OpenSpec.upto lifeTellsSpec)

/-- 'gantletlaw16.LifeDone', WHERE WHAT IT READS IS OF BULK AT MOST 1048576: true; the input reads as it did. -/
def lifeDoneUptoRow : OpenClaim := { program := "ytjkadheknjkkbaadoor", sum := "4102d4940b3a7fc42ae2227fb290a9e1697f32eb5991177bd0b934a6db2413ad", func := "gantlet/gantletlaw16.LifeDone", spec := "lifeDone", named := ["gantlet/life.open", "gantlet/life.peer", "gantlet/life.idle", "gantlet/life.never", "gantlet/life.wrong", "gantlet/life.closed", "gantlet/life.own", "gantlet/life.gone", "gantlet/life.over", "gantlet/life.nothing"], apart := false, laid := [("gantlet/life.never", laid_gantlet_life_never), ("gantlet/life.idle", laid_gantlet_life_idle), ("gantlet/life.wrong", laid_gantlet_life_wrong), ("gantlet/life.gone", laid_gantlet_life_gone), ("gantlet/life.over", laid_gantlet_life_over), ("gantlet/life.open", laid_gantlet_life_open), ("gantlet/life.peer", laid_gantlet_life_peer), ("gantlet/life.own", laid_gantlet_life_own), ("gantlet/life.closed", laid_gantlet_life_closed), ("gantlet/life.nothing", laid_gantlet_life_nothing)], narrowed := true }
def LifeDoneUptoSaid : Prop := lifeDoneUptoRow.holds Tryd.pinned (OpenSpec.upto lifeDoneSpec)

/-- 'gantletlaw10.RequestTells', WHERE WHAT IT READS IS OF BULK AT MOST 1048576: true; the input reads as it did. -/
def requestTellsUptoRow : OpenClaim := { program := "ytjkadheknjkkbaadoor", sum := "4102d4940b3a7fc42ae2227fb290a9e1697f32eb5991177bd0b934a6db2413ad", func := "gantlet/gantletlaw10.RequestTells", spec := "requestTells", inPlace := ["internal/bytealg.IndexByteString", "internal/bytealg.IndexString"], named := ["unicode/utf8.first", "unicode/utf8.acceptRanges", "strconv.ErrSyntax", "strconv.ErrRange", "internal/strconv.uint64pow10", "math/bits.deBruijn32tab", "math/bits.deBruijn64tab", "internal/bytealg.MaxLen"], apart := false, laid := [("math/bits.deBruijn32tab", laid_math_bits_deBruijn32tab), ("math/bits.deBruijn64tab", laid_math_bits_deBruijn64tab), ("internal/strconv.uint64pow10", laid_internal_strconv_uint64pow10), ("unicode/utf8.acceptRanges", laid_unicode_utf8_acceptRanges), ("strconv.ErrRange", laid_strconv_ErrRange), ("strconv.ErrSyntax", laid_strconv_ErrSyntax), ("unicode/utf8.first", laid_unicode_utf8_first)], narrowed := true }
def RequestTellsUptoSaid : Prop := requestTellsUptoRow.holds Tryd.pinned (OpenSpec.upto requestTellsSpec)

end Rows
end Go.Proofs.YtjkadheknjkkbaaDoor
