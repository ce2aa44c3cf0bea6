/-
  No cell of these rows narrows 'for every input' (looked for: loops, veiled, ifaces, maps, wideKeys, modest, calm, conditions, laid).
  DERIVED. THE GIVEN ROWS OF THIS SEAT. 12 by the template 'for every input the law returns true; each argument reads behind the call as it read before'; 0 by the template 'total and deterministic' (their statements: YtbmnplojpeabmaaTotals.lean).
  GIVEN WITH THE SEED: the statements are not yours to turn. If you find one false, say at which input.
  Laid BY PROGRAM, IN A SANDBOX (cutbox-rows.mjs): the forced cells as the released guide's own fill.sh prints them over the translation 0741f1502b606d24… (all of the seat's roots in one cut). By AI agents, Wed Nov 11 2026. No macro, syntax, notation, axiom, sorry.
-/
import Derived.Test.YtbmnplojpeabmaaChecked
import GoSem.Claim
import GoSem.ClaimJoined
import GoSem.ClaimMapViews
import Derived.JoinedTies
import Derived.KernelRfl
namespace Go.Proofs.Ytbmnplojpeabmaa
/- THE CELL 'sum', in the pinned program and in every row, IS THE sha256 OF THE DUMP (.gsa) THAT YtbmnplojpeabmaaProg.lean LOADS. Nothing in Lean hashes anything: it is a label: what it is worth is what the hold of that sum in a sandbox is worth. -/
noncomputable def Try.pinned : Pinned := { name := "ytbmnplojpeabmaa", sum := "0741f1502b606d243d1eb88186c637674e7d41108c9bc844b157615bb49a70a1", checked := Try.checked }
namespace Rows
def none {H : Type} : Left H := { results := [], args := [] }

/-- 'gantletlaw01.WireTells': WHATEVER THE INPUT: true; the input reads as it did. -/
def wireTellsSpec : ChangeSpec := { name := "wireTells", fn := fun _ => fun
  | [d1, d2, d3] => { results := [.lit (.bool true)], args := [d1, d2, d3] }
  | _ => none }
def wireTellsRow : OpenClaim := { program := "ytbmnplojpeabmaa", sum := "0741f1502b606d243d1eb88186c637674e7d41108c9bc844b157615bb49a70a1", func := "gantlet/gantletlaw01.WireTells", spec := "wireTells", apart := false }
def WireTellsSaid : Prop := wireTellsRow.holds Try.pinned (OpenSpec.ofChange wireTellsSpec)

/-- ITS FALSE NEIGHBOUR: 'it returns false'. Refute it at one input. -/
def wireTellsWrong : ChangeSpec := { name := "wireTells", fn := fun _ => fun
  | [d1, d2, d3] => { results := [.lit (.bool false)], args := [d1, d2, d3] }
  | _ => none }
def WireTellsWrongFalsely : Prop := wireTellsRow.holds Try.pinned (OpenSpec.ofChange wireTellsWrong)

/-- 'gantletlaw01.WireBack': WHATEVER THE INPUT: true; the input reads as it did. -/
def wireBackSpec : ChangeSpec := { name := "wireBack", fn := fun _ => fun
  | [d1, d2, d3] => { results := [.lit (.bool true)], args := [d1, d2, d3] }
  | _ => none }
def wireBackRow : OpenClaim := { program := "ytbmnplojpeabmaa", sum := "0741f1502b606d243d1eb88186c637674e7d41108c9bc844b157615bb49a70a1", func := "gantlet/gantletlaw01.WireBack", spec := "wireBack", apart := false }
def WireBackSaid : Prop := wireBackRow.holds Try.pinned (OpenSpec.ofChange wireBackSpec)

/-- ITS FALSE NEIGHBOUR: 'it returns false'. Refute it at one input. -/
def wireBackWrong : ChangeSpec := { name := "wireBack", fn := fun _ => fun
  | [d1, d2, d3] => { results := [.lit (.bool false)], args := [d1, d2, d3] }
  | _ => none }
def WireBackWrongFalsely : Prop := wireBackRow.holds Try.pinned (OpenSpec.ofChange wireBackWrong)

/-- 'gantletlaw12.SettingsApplies': WHATEVER THE INPUT: true; the input reads as it did. -/
def settingsAppliesSpec : ChangeSpec := { name := "settingsApplies", fn := fun _ => fun
  | [d1, d2] => { results := [.lit (.bool true)], args := [d1, d2] }
  | _ => none }
def settingsAppliesRow : OpenClaim := { program := "ytbmnplojpeabmaa", sum := "0741f1502b606d243d1eb88186c637674e7d41108c9bc844b157615bb49a70a1", func := "gantlet/gantletlaw12.SettingsApplies", spec := "settingsApplies", apart := false }
def SettingsAppliesSaid : Prop := settingsAppliesRow.holds Try.pinned (OpenSpec.ofChange settingsAppliesSpec)

/-- ITS FALSE NEIGHBOUR: 'it returns false'. Refute it at one input. -/
def settingsAppliesWrong : ChangeSpec := { name := "settingsApplies", fn := fun _ => fun
  | [d1, d2] => { results := [.lit (.bool false)], args := [d1, d2] }
  | _ => none }
def SettingsAppliesWrongFalsely : Prop := settingsAppliesRow.holds Try.pinned (OpenSpec.ofChange settingsAppliesWrong)

/-- 'gantletlaw14.OutletPlays': WHATEVER THE INPUT: true; the input reads as it did. -/
def outletPlaysSpec : ChangeSpec := { name := "outletPlays", fn := fun _ => fun
  | [d] => { results := [.lit (.bool true)], args := [d] }
  | _ => none }
def outletPlaysRow : OpenClaim := { program := "ytbmnplojpeabmaa", sum := "0741f1502b606d243d1eb88186c637674e7d41108c9bc844b157615bb49a70a1", func := "gantlet/gantletlaw14.OutletPlays", spec := "outletPlays", unfollowed := true, recurses := true, apart := false }
def OutletPlaysSaid : Prop := outletPlaysRow.holds Try.pinned (OpenSpec.ofChange outletPlaysSpec)

/-- ITS FALSE NEIGHBOUR: 'it returns false'. Refute it at one input. -/
def outletPlaysWrong : ChangeSpec := { name := "outletPlays", fn := fun _ => fun
  | [d] => { results := [.lit (.bool false)], args := [d] }
  | _ => none }
def OutletPlaysWrongFalsely : Prop := outletPlaysRow.holds Try.pinned (OpenSpec.ofChange outletPlaysWrong)

/-- 'gantletlaw14.OutletWhole': WHATEVER THE INPUT: true; the input reads as it did. -/
def outletWholeSpec : ChangeSpec := { name := "outletWhole", fn := fun _ => fun
  | [d] => { results := [.lit (.bool true)], args := [d] }
  | _ => none }
def outletWholeRow : OpenClaim := { program := "ytbmnplojpeabmaa", sum := "0741f1502b606d243d1eb88186c637674e7d41108c9bc844b157615bb49a70a1", func := "gantlet/gantletlaw14.OutletWhole", spec := "outletWhole", unfollowed := true, recurses := true, apart := false }
def OutletWholeSaid : Prop := outletWholeRow.holds Try.pinned (OpenSpec.ofChange outletWholeSpec)

/-- ITS FALSE NEIGHBOUR: 'it returns false'. Refute it at one input. -/
def outletWholeWrong : ChangeSpec := { name := "outletWhole", fn := fun _ => fun
  | [d] => { results := [.lit (.bool false)], args := [d] }
  | _ => none }
def OutletWholeWrongFalsely : Prop := outletWholeRow.holds Try.pinned (OpenSpec.ofChange outletWholeWrong)

/-- 'gantletlaw19.ControlPlays': WHATEVER THE INPUT: true; the input reads as it did. -/
def controlPlaysSpec : ChangeSpec := { name := "controlPlays", fn := fun _ => fun
  | [d1, d2] => { results := [.lit (.bool true)], args := [d1, d2] }
  | _ => none }
def controlPlaysRow : OpenClaim := { program := "ytbmnplojpeabmaa", sum := "0741f1502b606d243d1eb88186c637674e7d41108c9bc844b157615bb49a70a1", func := "gantlet/gantletlaw19.ControlPlays", spec := "controlPlays", unfollowed := true, recurses := true, apart := false }
def ControlPlaysSaid : Prop := controlPlaysRow.holds Try.pinned (OpenSpec.ofChange controlPlaysSpec)

/-- ITS FALSE NEIGHBOUR: 'it returns false'. Refute it at one input. -/
def controlPlaysWrong : ChangeSpec := { name := "controlPlays", fn := fun _ => fun
  | [d1, d2] => { results := [.lit (.bool false)], args := [d1, d2] }
  | _ => none }
def ControlPlaysWrongFalsely : Prop := controlPlaysRow.holds Try.pinned (OpenSpec.ofChange controlPlaysWrong)

/-- 'gantletlaw19.ControlOrder': WHATEVER THE INPUT: true; the input reads as it did. -/
def controlOrderSpec : ChangeSpec := { name := "controlOrder", fn := fun _ => fun
  | [d1, d2] => { results := [.lit (.bool true)], args := [d1, d2] }
  | _ => none }
def controlOrderRow : OpenClaim := { program := "ytbmnplojpeabmaa", sum := "0741f1502b606d243d1eb88186c637674e7d41108c9bc844b157615bb49a70a1", func := "gantlet/gantletlaw19.ControlOrder", spec := "controlOrder", unfollowed := true, recurses := true, apart := false }
def ControlOrderSaid : Prop := controlOrderRow.holds Try.pinned (OpenSpec.ofChange controlOrderSpec)

/-- ITS FALSE NEIGHBOUR: 'it returns false'. Refute it at one input. -/
def controlOrderWrong : ChangeSpec := { name := "controlOrder", fn := fun _ => fun
  | [d1, d2] => { results := [.lit (.bool false)], args := [d1, d2] }
  | _ => none }
def ControlOrderWrongFalsely : Prop := controlOrderRow.holds Try.pinned (OpenSpec.ofChange controlOrderWrong)

/-- 'gantletlaw02.FrameBack': WHATEVER THE INPUT: true; the input reads as it did. -/
def frameBackSpec : ChangeSpec := { name := "frameBack", fn := fun _ => fun
  | [d1, d2, d3] => { results := [.lit (.bool true)], args := [d1, d2, d3] }
  | _ => none }
def frameBackRow : OpenClaim := { program := "ytbmnplojpeabmaa", sum := "0741f1502b606d243d1eb88186c637674e7d41108c9bc844b157615bb49a70a1", func := "gantlet/gantletlaw02.FrameBack", spec := "frameBack", unfollowed := true, recurses := true, apart := false }
def FrameBackSaid : Prop := frameBackRow.holds Try.pinned (OpenSpec.ofChange frameBackSpec)

/-- ITS FALSE NEIGHBOUR: 'it returns false'. Refute it at one input. -/
def frameBackWrong : ChangeSpec := { name := "frameBack", fn := fun _ => fun
  | [d1, d2, d3] => { results := [.lit (.bool false)], args := [d1, d2, d3] }
  | _ => none }
def FrameBackWrongFalsely : Prop := frameBackRow.holds Try.pinned (OpenSpec.ofChange frameBackWrong)

/-- 'gantletlaw13.IntakePlays': WHATEVER THE INPUT: true; the input reads as it did. -/
def intakePlaysSpec : ChangeSpec := { name := "intakePlays", fn := fun _ => fun
  | [d1, d2] => { results := [.lit (.bool true)], args := [d1, d2] }
  | _ => none }
def intakePlaysRow : OpenClaim := { program := "ytbmnplojpeabmaa", sum := "0741f1502b606d243d1eb88186c637674e7d41108c9bc844b157615bb49a70a1", func := "gantlet/gantletlaw13.IntakePlays", spec := "intakePlays", apart := false }
def IntakePlaysSaid : Prop := intakePlaysRow.holds Try.pinned (OpenSpec.ofChange intakePlaysSpec)

/-- ITS FALSE NEIGHBOUR: 'it returns false'. Refute it at one input. -/
def intakePlaysWrong : ChangeSpec := { name := "intakePlays", fn := fun _ => fun
  | [d1, d2] => { results := [.lit (.bool false)], args := [d1, d2] }
  | _ => none }
def IntakePlaysWrongFalsely : Prop := intakePlaysRow.holds Try.pinned (OpenSpec.ofChange intakePlaysWrong)

/-- 'gantletlaw13.IntakeChunks': WHATEVER THE INPUT: true; the input reads as it did. -/
def intakeChunksSpec : ChangeSpec := { name := "intakeChunks", fn := fun _ => fun
  | [d] => { results := [.lit (.bool true)], args := [d] }
  | _ => none }
def intakeChunksRow : OpenClaim := { program := "ytbmnplojpeabmaa", sum := "0741f1502b606d243d1eb88186c637674e7d41108c9bc844b157615bb49a70a1", func := "gantlet/gantletlaw13.IntakeChunks", spec := "intakeChunks", apart := false }
def IntakeChunksSaid : Prop := intakeChunksRow.holds Try.pinned (OpenSpec.ofChange intakeChunksSpec)

/-- ITS FALSE NEIGHBOUR: 'it returns false'. Refute it at one input. -/
def intakeChunksWrong : ChangeSpec := { name := "intakeChunks", fn := fun _ => fun
  | [d] => { results := [.lit (.bool false)], args := [d] }
  | _ => none }
def IntakeChunksWrongFalsely : Prop := intakeChunksRow.holds Try.pinned (OpenSpec.ofChange intakeChunksWrong)

/-- 'gantletlaw02.FrameTells': WHATEVER THE INPUT: true; the input reads as it did. -/
def frameTellsSpec : ChangeSpec := { name := "frameTells", fn := fun _ => fun
  | [d1, d2, d3] => { results := [.lit (.bool true)], args := [d1, d2, d3] }
  | _ => none }
def frameTellsRow : OpenClaim := { program := "ytbmnplojpeabmaa", sum := "0741f1502b606d243d1eb88186c637674e7d41108c9bc844b157615bb49a70a1", func := "gantlet/gantletlaw02.FrameTells", spec := "frameTells", unfollowed := true, recurses := true, apart := false }
def FrameTellsSaid : Prop := frameTellsRow.holds Try.pinned (OpenSpec.ofChange frameTellsSpec)

/-- ITS FALSE NEIGHBOUR: 'it returns false'. Refute it at one input. -/
def frameTellsWrong : ChangeSpec := { name := "frameTells", fn := fun _ => fun
  | [d1, d2, d3] => { results := [.lit (.bool false)], args := [d1, d2, d3] }
  | _ => none }
def FrameTellsWrongFalsely : Prop := frameTellsRow.holds Try.pinned (OpenSpec.ofChange frameTellsWrong)

/-- 'gantletlaw11.PayloadPadded': WHATEVER THE INPUT: true; the input reads as it did. -/
def payloadPaddedSpec : ChangeSpec := { name := "payloadPadded", fn := fun _ => fun
  | [d1, d2] => { results := [.lit (.bool true)], args := [d1, d2] }
  | _ => none }
def payloadPaddedRow : OpenClaim := { program := "ytbmnplojpeabmaa", sum := "0741f1502b606d243d1eb88186c637674e7d41108c9bc844b157615bb49a70a1", func := "gantlet/gantletlaw11.PayloadPadded", spec := "payloadPadded", unfollowed := true, recurses := true, apart := false }
def PayloadPaddedSaid : Prop := payloadPaddedRow.holds Try.pinned (OpenSpec.ofChange payloadPaddedSpec)

/-- ITS FALSE NEIGHBOUR: 'it returns false'. Refute it at one input. -/
def payloadPaddedWrong : ChangeSpec := { name := "payloadPadded", fn := fun _ => fun
  | [d1, d2] => { results := [.lit (.bool false)], args := [d1, d2] }
  | _ => none }
def PayloadPaddedWrongFalsely : Prop := payloadPaddedRow.holds Try.pinned (OpenSpec.ofChange payloadPaddedWrong)

/- THE SECOND FORM. 'bulk': how many values and letters a reading holds, each counted each time it is reached (what is shared counts as often as it is met; a slice's spare places count too). A statement '..UptoSaid' is the law's where the arguments, and the package variables that the reading takes, are together of bulk at most 1048576: NARROWER than '..Said'. Prove '..Said' where nothing that the law and all that it calls make is longer than what came in: it says more and counts as full. Else prove '..UptoSaid'. A law counts once. -/
mutual
def uptoBulk {H : Type} : DataW H → Nat
  | .lit (.string bytes) => bytes.length + 1
  | .lit _ => 1
  | .nil => 1
  | .ptr d => uptoBulk d + 1
  | .slice elems spare => uptoBulkAll elems + uptoBulkAll spare + 1
  | .agg parts => uptoBulkAll parts + 1
  | .iface _ d => uptoBulk d + 1
  | .map entries => uptoBulkEntries entries + 1
  | .held _ => 1
def uptoBulkAll {H : Type} : List (DataW H) → Nat
  | [] => 0
  | d :: r => uptoBulk d + uptoBulkAll r
def uptoBulkEntries {H : Type} : List (Lit × DataW H) → Nat
  | [] => 0
  | x :: r => uptoBulkEntry x + uptoBulkEntries r
def uptoBulkEntry {H : Type} : Lit × DataW H → Nat
  | (.string bytes, d) => bytes.length + uptoBulk d + 1
  | (_, d) => uptoBulk d + 1
 end
def uptoSmall : (H : Type) → List (DataW H) → Bool := fun _ ds => decide (uptoBulkAll ds ≤ 1048576)
def OpenSpec.upto (s : _root_.Go.ChangeSpec) : _root_.Go.OpenSpec := { _root_.Go.OpenSpec.ofChange s with cond := some uptoSmall }

/-- 'gantletlaw01.WireTells', WHERE WHAT IT READS IS OF BULK AT MOST 1048576: true; the input reads as it did. -/
def wireTellsUptoRow : OpenClaim := { program := "ytbmnplojpeabmaa", sum := "0741f1502b606d243d1eb88186c637674e7d41108c9bc844b157615bb49a70a1", func := "gantlet/gantletlaw01.WireTells", spec := "wireTells", apart := false, narrowed := true }
def WireTellsUptoSaid : Prop := wireTellsUptoRow.holds Try.pinned (OpenSpec.upto wireTellsSpec)

/-- 'gantletlaw01.WireBack', WHERE WHAT IT READS IS OF BULK AT MOST 1048576: true; the input reads as it did. -/
def wireBackUptoRow : OpenClaim := { program := "ytbmnplojpeabmaa", sum := "0741f1502b606d243d1eb88186c637674e7d41108c9bc844b157615bb49a70a1", func := "gantlet/gantletlaw01.WireBack", spec := "wireBack", apart := false, narrowed := true }
def WireBackUptoSaid : Prop := wireBackUptoRow.holds Try.pinned (OpenSpec.upto wireBackSpec)

/-- 'gantletlaw12.SettingsApplies', WHERE WHAT IT READS IS OF BULK AT MOST 1048576: true; the input reads as it did. -/
def settingsAppliesUptoRow : OpenClaim := { program := "ytbmnplojpeabmaa", sum := "0741f1502b606d243d1eb88186c637674e7d41108c9bc844b157615bb49a70a1", func := "gantlet/gantletlaw12.SettingsApplies", spec := "settingsApplies", apart := false, narrowed := true }
def SettingsAppliesUptoSaid : Prop := settingsAppliesUptoRow.holds Try.pinned (OpenSpec.upto settingsAppliesSpec)

/-- 'gantletlaw14.OutletPlays', WHERE WHAT IT READS IS OF BULK AT MOST 1048576: true; the input reads as it did. -/
def outletPlaysUptoRow : OpenClaim := { program := "ytbmnplojpeabmaa", sum := "0741f1502b606d243d1eb88186c637674e7d41108c9bc844b157615bb49a70a1", func := "gantlet/gantletlaw14.OutletPlays", spec := "outletPlays", unfollowed := true, recurses := true, apart := false, narrowed := true }
def OutletPlaysUptoSaid : Prop := outletPlaysUptoRow.holds Try.pinned (OpenSpec.upto outletPlaysSpec)

/-- 'gantletlaw14.OutletWhole', WHERE WHAT IT READS IS OF BULK AT MOST 1048576: true; the input reads as it did. -/
def outletWholeUptoRow : OpenClaim := { program := "ytbmnplojpeabmaa", sum := "0741f1502b606d243d1eb88186c637674e7d41108c9bc844b157615bb49a70a1", func := "gantlet/gantletlaw14.OutletWhole", spec := "outletWhole", unfollowed := true, recurses := true, apart := false, narrowed := true }
def OutletWholeUptoSaid : Prop := outletWholeUptoRow.holds Try.pinned (OpenSpec.upto outletWholeSpec)

/-- 'gantletlaw19.ControlPlays', WHERE WHAT IT READS IS OF BULK AT MOST 1048576: true; the input reads as it did. -/
def controlPlaysUptoRow : OpenClaim := { program := "ytbmnplojpeabmaa", sum := "0741f1502b606d243d1eb88186c637674e7d41108c9bc844b157615bb49a70a1", func := "gantlet/gantletlaw19.ControlPlays", spec := "controlPlays", unfollowed := true, recurses := true, apart := false, narrowed := true }
def ControlPlaysUptoSaid : Prop := controlPlaysUptoRow.holds Try.pinned (OpenSpec.upto controlPlaysSpec)

/-- 'gantletlaw19.ControlOrder', WHERE WHAT IT READS IS OF BULK AT MOST 1048576: true; the input reads as it did. -/
def controlOrderUptoRow : OpenClaim := { program := "ytbmnplojpeabmaa", sum := "0741f1502b606d243d1eb88186c637674e7d41108c9bc844b157615bb49a70a1", func := "gantlet/gantletlaw19.ControlOrder", spec := "controlOrder", unfollowed := true, recurses := true, apart := false, narrowed := true }
def ControlOrderUptoSaid : Prop := controlOrderUptoRow.holds Try.pinned (OpenSpec.upto controlOrderSpec)

/-- 'gantletlaw02.FrameBack', WHERE WHAT IT READS IS OF BULK AT MOST 1048576: true; the input reads as it did. -/
def frameBackUptoRow : OpenClaim := { program := "ytbmnplojpeabmaa", sum := "0741f1502b606d243d1eb88186c637674e7d41108c9bc844b157615bb49a70a1", func := "gantlet/gantletlaw02.FrameBack", spec := "frameBack", unfollowed := true, recurses := true, apart := false, narrowed := true }
def FrameBackUptoSaid : Prop := frameBackUptoRow.holds Try.pinned (OpenSpec.upto frameBackSpec)

/-- 'gantletlaw13.IntakePlays', WHERE WHAT IT READS IS OF BULK AT MOST 1048576: true; the input reads as it did. -/
def intakePlaysUptoRow : OpenClaim := { program := "ytbmnplojpeabmaa", sum := "0741f1502b606d243d1eb88186c637674e7d41108c9bc844b157615bb49a70a1", func := "gantlet/gantletlaw13.IntakePlays", spec := "intakePlays", apart := false, narrowed := true }
def IntakePlaysUptoSaid : Prop := intakePlaysUptoRow.holds Try.pinned (OpenSpec.upto intakePlaysSpec)

/-- 'gantletlaw13.IntakeChunks', WHERE WHAT IT READS IS OF BULK AT MOST 1048576: true; the input reads as it did. -/
def intakeChunksUptoRow : OpenClaim := { program := "ytbmnplojpeabmaa", sum := "0741f1502b606d243d1eb88186c637674e7d41108c9bc844b157615bb49a70a1", func := "gantlet/gantletlaw13.IntakeChunks", spec := "intakeChunks", apart := false, narrowed := true }
def IntakeChunksUptoSaid : Prop := intakeChunksUptoRow.holds Try.pinned (OpenSpec.upto intakeChunksSpec)

/-- 'gantletlaw02.FrameTells', WHERE WHAT IT READS IS OF BULK AT MOST 1048576: true; the input reads as it did. -/
def frameTellsUptoRow : OpenClaim := { program := "ytbmnplojpeabmaa", sum := "0741f1502b606d243d1eb88186c637674e7d41108c9bc844b157615bb49a70a1", func := "gantlet/gantletlaw02.FrameTells", spec := "frameTells", unfollowed := true, recurses := true, apart := false, narrowed := true }
def FrameTellsUptoSaid : Prop := frameTellsUptoRow.holds Try.pinned (OpenSpec.upto frameTellsSpec)

/-- 'gantletlaw11.PayloadPadded', WHERE WHAT IT READS IS OF BULK AT MOST 1048576: true; the input reads as it did. -/
def payloadPaddedUptoRow : OpenClaim := { program := "ytbmnplojpeabmaa", sum := "0741f1502b606d243d1eb88186c637674e7d41108c9bc844b157615bb49a70a1", func := "gantlet/gantletlaw11.PayloadPadded", spec := "payloadPadded", unfollowed := true, recurses := true, apart := false, narrowed := true }
def PayloadPaddedUptoSaid : Prop := payloadPaddedUptoRow.holds Try.pinned (OpenSpec.upto payloadPaddedSpec)

end Rows
end Go.Proofs.Ytbmnplojpeabmaa
