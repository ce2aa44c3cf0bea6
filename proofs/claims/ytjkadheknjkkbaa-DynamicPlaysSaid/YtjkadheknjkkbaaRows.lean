/-
  No cell of these rows narrows 'for every input' (looked for: loops, veiled, ifaces, maps, wideKeys, modest, calm, conditions, laid).
  DERIVED. THE GIVEN ROWS OF THIS SEAT. 7 by the template 'for every input the law returns true; each argument reads behind the call as it read before'; 0 by the template 'total and deterministic' (their statements: YtjkadheknjkkbaaTotals.lean).
  GIVEN WITH THE SEED: the statements are not yours to turn. If you find one false, say at which input.
  Laid BY PROGRAM, IN A SANDBOX (cutbox-rows.mjs): the forced cells as the released guide's own fill.sh prints them over the translation 1d4ca854709bc954… (all of the seat's roots in one cut). By AI agents, Wed Nov 11 2026. No macro, syntax, notation, axiom, sorry.
-/
import Derived.Test.YtjkadheknjkkbaaChecked
import GoSem.Claim
import GoSem.ClaimJoined
import GoSem.ClaimMapViews
import Derived.JoinedTies
import Derived.KernelRfl
namespace Go.Proofs.Ytjkadheknjkkbaa
/- THE CELL 'sum', in the pinned program and in every row, IS THE sha256 OF THE DUMP (.gsa) THAT YtjkadheknjkkbaaProg.lean LOADS. Nothing in Lean hashes anything: it is a label: what it is worth is what the hold of that sum in a sandbox is worth. -/
noncomputable def Try.pinned : Pinned := { name := "ytjkadheknjkkbaa", sum := "1d4ca854709bc954525d4dd8984dc03297897b5f1293b291bd05698a6a76f77a", checked := Try.checked }
namespace Rows
def none {H : Type} : Left H := { results := [], args := [] }

/-- 'gantletlaw15.WindowTells': WHATEVER THE INPUT: true; the input reads as it did. -/
def windowTellsSpec : ChangeSpec := { name := "windowTells", fn := fun _ => fun
  | [d1, d2, d3] => { results := [.lit (.bool true)], args := [d1, d2, d3] }
  | _ => none }
def windowTellsRow : OpenClaim := { program := "ytjkadheknjkkbaa", sum := "1d4ca854709bc954525d4dd8984dc03297897b5f1293b291bd05698a6a76f77a", func := "gantlet/gantletlaw15.WindowTells", spec := "windowTells", apart := false }
def WindowTellsSaid : Prop := windowTellsRow.holds Try.pinned (OpenSpec.ofChange windowTellsSpec)

/-- ITS FALSE NEIGHBOUR: 'it returns false'. Refute it at one input. -/
def windowTellsWrong : ChangeSpec := { name := "windowTells", fn := fun _ => fun
  | [d1, d2, d3] => { results := [.lit (.bool false)], args := [d1, d2, d3] }
  | _ => none }
def WindowTellsWrongFalsely : Prop := windowTellsRow.holds Try.pinned (OpenSpec.ofChange windowTellsWrong)

/-- 'gantletlaw18.MeterPlays': WHATEVER THE INPUT: true; the input reads as it did. -/
def meterPlaysSpec : ChangeSpec := { name := "meterPlays", fn := fun _ => fun
  | [d1, d2] => { results := [.lit (.bool true)], args := [d1, d2] }
  | _ => none }
def meterPlaysRow : OpenClaim := { program := "ytjkadheknjkkbaa", sum := "1d4ca854709bc954525d4dd8984dc03297897b5f1293b291bd05698a6a76f77a", func := "gantlet/gantletlaw18.MeterPlays", spec := "meterPlays", apart := false }
def MeterPlaysSaid : Prop := meterPlaysRow.holds Try.pinned (OpenSpec.ofChange meterPlaysSpec)

/-- ITS FALSE NEIGHBOUR: 'it returns false'. Refute it at one input. -/
def meterPlaysWrong : ChangeSpec := { name := "meterPlays", fn := fun _ => fun
  | [d1, d2] => { results := [.lit (.bool false)], args := [d1, d2] }
  | _ => none }
def MeterPlaysWrongFalsely : Prop := meterPlaysRow.holds Try.pinned (OpenSpec.ofChange meterPlaysWrong)

/-- 'gantletlaw20.SendPlays': WHATEVER THE INPUT: true; the input reads as it did. -/
def sendPlaysSpec : ChangeSpec := { name := "sendPlays", fn := fun _ => fun
  | [d1, d2] => { results := [.lit (.bool true)], args := [d1, d2] }
  | _ => none }
def sendPlaysRow : OpenClaim := { program := "ytjkadheknjkkbaa", sum := "1d4ca854709bc954525d4dd8984dc03297897b5f1293b291bd05698a6a76f77a", func := "gantlet/gantletlaw20.SendPlays", spec := "sendPlays", unfollowed := true, recurses := true, apart := false }
def SendPlaysSaid : Prop := sendPlaysRow.holds Try.pinned (OpenSpec.ofChange sendPlaysSpec)

/-- ITS FALSE NEIGHBOUR: 'it returns false'. Refute it at one input. -/
def sendPlaysWrong : ChangeSpec := { name := "sendPlays", fn := fun _ => fun
  | [d1, d2] => { results := [.lit (.bool false)], args := [d1, d2] }
  | _ => none }
def SendPlaysWrongFalsely : Prop := sendPlaysRow.holds Try.pinned (OpenSpec.ofChange sendPlaysWrong)

/-- 'gantletlaw07.DynamicPlays': WHATEVER THE INPUT: true; the input reads as it did. -/
def dynamicPlaysSpec : ChangeSpec := { name := "dynamicPlays", fn := fun _ => fun
  | [d1, d2] => { results := [.lit (.bool true)], args := [d1, d2] }
  | _ => none }
def dynamicPlaysRow : OpenClaim := { program := "ytjkadheknjkkbaa", sum := "1d4ca854709bc954525d4dd8984dc03297897b5f1293b291bd05698a6a76f77a", func := "gantlet/gantletlaw07.DynamicPlays", spec := "dynamicPlays", unfollowed := true, recurses := true, apart := false }
def DynamicPlaysSaid : Prop := dynamicPlaysRow.holds Try.pinned (OpenSpec.ofChange dynamicPlaysSpec)

/-- ITS FALSE NEIGHBOUR: 'it returns false'. Refute it at one input. -/
def dynamicPlaysWrong : ChangeSpec := { name := "dynamicPlays", fn := fun _ => fun
  | [d1, d2] => { results := [.lit (.bool false)], args := [d1, d2] }
  | _ => none }
def DynamicPlaysWrongFalsely : Prop := dynamicPlaysRow.holds Try.pinned (OpenSpec.ofChange dynamicPlaysWrong)

/-- 'gantletlaw17.StreamsPlay': WHATEVER THE INPUT: true; the input reads as it did. -/
def streamsPlaySpec : ChangeSpec := { name := "streamsPlay", fn := fun _ => fun
  | [d1, d2, d3] => { results := [.lit (.bool true)], args := [d1, d2, d3] }
  | _ => none }
def streamsPlayRow : OpenClaim := { program := "ytjkadheknjkkbaa", sum := "1d4ca854709bc954525d4dd8984dc03297897b5f1293b291bd05698a6a76f77a", func := "gantlet/gantletlaw17.StreamsPlay", spec := "streamsPlay", unfollowed := true, recurses := true, apart := false }
def StreamsPlaySaid : Prop := streamsPlayRow.holds Try.pinned (OpenSpec.ofChange streamsPlaySpec)

/-- ITS FALSE NEIGHBOUR: 'it returns false'. Refute it at one input. -/
def streamsPlayWrong : ChangeSpec := { name := "streamsPlay", fn := fun _ => fun
  | [d1, d2, d3] => { results := [.lit (.bool false)], args := [d1, d2, d3] }
  | _ => none }
def StreamsPlayWrongFalsely : Prop := streamsPlayRow.holds Try.pinned (OpenSpec.ofChange streamsPlayWrong)

/-- 'gantletlaw17.StreamsOnce': WHATEVER THE INPUT: true; the input reads as it did. -/
def streamsOnceSpec : ChangeSpec := { name := "streamsOnce", fn := fun _ => fun
  | [d1, d2] => { results := [.lit (.bool true)], args := [d1, d2] }
  | _ => none }
def streamsOnceRow : OpenClaim := { program := "ytjkadheknjkkbaa", sum := "1d4ca854709bc954525d4dd8984dc03297897b5f1293b291bd05698a6a76f77a", func := "gantlet/gantletlaw17.StreamsOnce", spec := "streamsOnce", unfollowed := true, recurses := true, apart := false }
def StreamsOnceSaid : Prop := streamsOnceRow.holds Try.pinned (OpenSpec.ofChange streamsOnceSpec)

/-- ITS FALSE NEIGHBOUR: 'it returns false'. Refute it at one input. -/
def streamsOnceWrong : ChangeSpec := { name := "streamsOnce", fn := fun _ => fun
  | [d1, d2] => { results := [.lit (.bool false)], args := [d1, d2] }
  | _ => none }
def StreamsOnceWrongFalsely : Prop := streamsOnceRow.holds Try.pinned (OpenSpec.ofChange streamsOnceWrong)

/-- 'gantletlaw20.SendWhole': WHATEVER THE INPUT: true; the input reads as it did. -/
def sendWholeSpec : ChangeSpec := { name := "sendWhole", fn := fun _ => fun
  | [d1, d2, d3] => { results := [.lit (.bool true)], args := [d1, d2, d3] }
  | _ => none }
def sendWholeRow : OpenClaim := { program := "ytjkadheknjkkbaa", sum := "1d4ca854709bc954525d4dd8984dc03297897b5f1293b291bd05698a6a76f77a", func := "gantlet/gantletlaw20.SendWhole", spec := "sendWhole", unfollowed := true, recurses := true, apart := false }
def SendWholeSaid : Prop := sendWholeRow.holds Try.pinned (OpenSpec.ofChange sendWholeSpec)

/-- ITS FALSE NEIGHBOUR: 'it returns false'. Refute it at one input. -/
def sendWholeWrong : ChangeSpec := { name := "sendWhole", fn := fun _ => fun
  | [d1, d2, d3] => { results := [.lit (.bool false)], args := [d1, d2, d3] }
  | _ => none }
def SendWholeWrongFalsely : Prop := sendWholeRow.holds Try.pinned (OpenSpec.ofChange sendWholeWrong)

/- THE SECOND FORM. 'bulk': how many values and letters a reading holds, each counted each time it is reached (what is shared counts as often as it is met; a slice's spare places count too). A statement '..UptoSaid' is the law's where the arguments, and the package variables that the reading takes, are together of bulk at most 1048576: NARROWER than '..Said'. Prove '..Said' where nothing that the law and all that it calls make is longer than what came in: it says more and counts as full. Else prove '..UptoSaid'. A law counts once. -/
mutual
def uptoBulk {H : Type} : DataW H → Nat
  | .lit (.string bytes) => bytes.length + 1
  | .lit _ => 1
  | .nil => 1
  | .ptr d => uptoBulk d + 1
  | .slice elems spare => uptoBulkAll elems + uptoBulkAll spare + 1
  | .agg parts => uptoBulkAll parts + 1
  | .iface _ d => uptoBulk d + 1
  | .map entries => uptoBulkEntries entries + 1
  | .held _ => 1
def uptoBulkAll {H : Type} : List (DataW H) → Nat
  | [] => 0
  | d :: r => uptoBulk d + uptoBulkAll r
def uptoBulkEntries {H : Type} : List (Lit × DataW H) → Nat
  | [] => 0
  | x :: r => uptoBulkEntry x + uptoBulkEntries r
def uptoBulkEntry {H : Type} : Lit × DataW H → Nat
  | (.string bytes, d) => bytes.length + uptoBulk d + 1
  | (_, d) => uptoBulk d + 1
 end
def uptoSmall : (H : Type) → List (DataW H) → Bool := fun _ ds => decide (uptoBulkAll ds ≤ 1048576)
def OpenSpec.upto (s : _root_.Go.ChangeSpec) : _root_.Go.OpenSpec := { _root_.Go.OpenSpec.ofChange s with cond := some uptoSmall }

/-- 'gantletlaw15.WindowTells', WHERE WHAT IT READS IS OF BULK AT MOST 1048576: true; the input reads as it did. -/
def windowTellsUptoRow : OpenClaim := { program := "ytjkadheknjkkbaa", sum := "1d4ca854709bc954525d4dd8984dc03297897b5f1293b291bd05698a6a76f77a", func := "gantlet/gantletlaw15.WindowTells", spec := "windowTells", apart := false, narrowed := true }
def WindowTellsUptoSaid : Prop := windowTellsUptoRow.holds Try.pinned (OpenSpec.upto windowTellsSpec)

/-- 'gantletlaw18.MeterPlays', WHERE WHAT IT READS IS OF BULK AT MOST 1048576: true; the input reads as it did. -/
def meterPlaysUptoRow : OpenClaim := { program := "ytjkadheknjkkbaa", sum := "1d4ca854709bc954525d4dd8984dc03297897b5f1293b291bd05698a6a76f77a", func := "gantlet/gantletlaw18.MeterPlays", spec := "meterPlays", apart := false, narrowed := true }
def MeterPlaysUptoSaid : Prop := meterPlaysUptoRow.holds Try.pinned (OpenSpec.upto meterPlaysSpec)

/-- 'gantletlaw20.SendPlays', WHERE WHAT IT READS IS OF BULK AT MOST 1048576: true; the input reads as it did. -/
def sendPlaysUptoRow : OpenClaim := { program := "ytjkadheknjkkbaa", sum := "1d4ca854709bc954525d4dd8984dc03297897b5f1293b291bd05698a6a76f77a", func := "gantlet/gantletlaw20.SendPlays", spec := "sendPlays", unfollowed := true, recurses := true, apart := false, narrowed := true }
def SendPlaysUptoSaid : Prop := sendPlaysUptoRow.holds Try.pinned (OpenSpec.upto sendPlaysSpec)

/-- 'gantletlaw07.DynamicPlays', WHERE WHAT IT READS IS OF BULK AT MOST 1048576: true; the input reads as it did. -/
def dynamicPlaysUptoRow : OpenClaim := { program := "ytjkadheknjkkbaa", sum := "1d4ca854709bc954525d4dd8984dc03297897b5f1293b291bd05698a6a76f77a", func := "gantlet/gantletlaw07.DynamicPlays", spec := "dynamicPlays", unfollowed := true, recurses := true, apart := false, narrowed := true }
def DynamicPlaysUptoSaid : Prop := dynamicPlaysUptoRow.holds Try.pinned (OpenSpec.upto dynamicPlaysSpec)

/-- 'gantletlaw17.StreamsPlay', WHERE WHAT IT READS IS OF BULK AT MOST 1048576: true; the input reads as it did. -/
def streamsPlayUptoRow : OpenClaim := { program := "ytjkadheknjkkbaa", sum := "1d4ca854709bc954525d4dd8984dc03297897b5f1293b291bd05698a6a76f77a", func := "gantlet/gantletlaw17.StreamsPlay", spec := "streamsPlay", unfollowed := true, recurses := true, apart := false, narrowed := true }
def StreamsPlayUptoSaid : Prop := streamsPlayUptoRow.holds Try.pinned (OpenSpec.upto streamsPlaySpec)

/-- 'gantletlaw17.StreamsOnce', WHERE WHAT IT READS IS OF BULK AT MOST 1048576: true; the input reads as it did. -/
def streamsOnceUptoRow : OpenClaim := { program := "ytjkadheknjkkbaa", sum := "1d4ca854709bc954525d4dd8984dc03297897b5f1293b291bd05698a6a76f77a", func := "gantlet/gantletlaw17.StreamsOnce", spec := "streamsOnce", unfollowed := true, recurses := true, apart := false, narrowed := true }
def StreamsOnceUptoSaid : Prop := streamsOnceUptoRow.holds Try.pinned (OpenSpec.upto streamsOnceSpec)

/-- 'gantletlaw20.SendWhole', WHERE WHAT IT READS IS OF BULK AT MOST 1048576: true; the input reads as it did. -/
def sendWholeUptoRow : OpenClaim := { program := "ytjkadheknjkkbaa", sum := "1d4ca854709bc954525d4dd8984dc03297897b5f1293b291bd05698a6a76f77a", func := "gantlet/gantletlaw20.SendWhole", spec := "sendWhole", unfollowed := true, recurses := true, apart := false, narrowed := true }
def SendWholeUptoSaid : Prop := sendWholeUptoRow.holds Try.pinned (OpenSpec.upto sendWholeSpec)

end Rows
end Go.Proofs.Ytjkadheknjkkbaa
