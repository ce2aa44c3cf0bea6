/-
  DERIVED. GIVEN WITH THE SEED: THE CARDS: each row of YtjkadheknjkkbaaDoorRows.lean that lists a variable, with what it lists TIED to the program's text (the seventh form; the later family's looks); each row that meets fmt, with fmt's text TOLD by the authors' own Lean function (tested against real Go, not proved from fmt's source: count such statements apart). THE CARD IS WHAT COUNTS. Prove the row's statement (the work); the ties are given (YtjkadheknjkkbaaDoorTie.lean); close each card by the builder's one call (the guide's Derived/Test/ToyasCard.lean, 'card_holds'). Laid BY PROGRAM, IN A SANDBOX (cutbox-door.mjs). By AI agents, Wed Nov 11 2026. No macro, syntax, notation, axiom, sorry.
-/
import Derived.Test.YtjkadheknjkkbaaDoorRows
import GoSem.ClaimSeven
namespace Go.Proofs.YtjkadheknjkkbaaDoor
namespace Rows

/-- THE TIED CARD OF 'gantletlaw16.LifeTells'. -/
def lifeTellsCard : Claim7 := { stood := { row := lifeTellsRow, standIns := [], harness := (true, "ebcb1670b305c2b4856ae9a5d2037098b2a5f0333a97977e948cef4f030e6973"), looks := true }, kinds := [], alts := [], laidByText := true, laidKinds := [.data, .data, .data, .data, .data, .data, .data, .data, .data, .data], laidTests := true, laidLooks := .later }
def LifeTellsCardSaid : Prop := Claim7.holds Tryd.pinned (.plain (OpenSpec.ofChange lifeTellsSpec)) lifeTellsCard

/-- THE TIED CARD OF 'gantletlaw16.LifeDone'. -/
def lifeDoneCard : Claim7 := { stood := { row := lifeDoneRow, standIns := [], harness := (true, "ebcb1670b305c2b4856ae9a5d2037098b2a5f0333a97977e948cef4f030e6973"), looks := true }, kinds := [], alts := [], laidByText := true, laidKinds := [.data, .data, .data, .data, .data, .data, .data, .data, .data, .data], laidTests := true, laidLooks := .later }
def LifeDoneCardSaid : Prop := Claim7.holds Tryd.pinned (.plain (OpenSpec.ofChange lifeDoneSpec)) lifeDoneCard

/-- THE TIED CARD OF 'gantletlaw10.RequestTells'. -/
def requestTellsCard : Claim7 := { stood := { row := requestTellsRow, standIns := [], harness := (true, "ebcb1670b305c2b4856ae9a5d2037098b2a5f0333a97977e948cef4f030e6973"), looks := true }, kinds := [], alts := [], laidByText := true, laidKinds := [.data, .data, .data, .data, .sentinel, .sentinel, .pinned], laidTests := true, laidLooks := .later }
def RequestTellsCardSaid : Prop := Claim7.holds Tryd.pinned (.plain (OpenSpec.ofChange requestTellsSpec)) requestTellsCard

/-- THE SECOND FORM's CARD OF 'gantletlaw16.LifeTells'. -/
def lifeTellsUptoCard : Claim7 := { stood := { row := lifeTellsUptoRow, standIns := [], harness := (true, "ebcb1670b305c2b4856ae9a5d2037098b2a5f0333a97977e948cef4f030e6973"), looks := true }, kinds := [], alts := [], laidByText := true, laidKinds := [.data, .data, .data, .data, .data, .data, .data, .data, .data, .data], laidTests := true, laidLooks := .later }
def LifeTellsUptoCardSaid : Prop := Claim7.holds Tryd.pinned (.plain (OpenSpec.upto lifeTellsSpec)) lifeTellsUptoCard

/-- THE SECOND FORM's CARD OF 'gantletlaw16.LifeDone'. -/
def lifeDoneUptoCard : Claim7 := { stood := { row := lifeDoneUptoRow, standIns := [], harness := (true, "ebcb1670b305c2b4856ae9a5d2037098b2a5f0333a97977e948cef4f030e6973"), looks := true }, kinds := [], alts := [], laidByText := true, laidKinds := [.data, .data, .data, .data, .data, .data, .data, .data, .data, .data], laidTests := true, laidLooks := .later }
def LifeDoneUptoCardSaid : Prop := Claim7.holds Tryd.pinned (.plain (OpenSpec.upto lifeDoneSpec)) lifeDoneUptoCard

/-- THE SECOND FORM's CARD OF 'gantletlaw10.RequestTells'. -/
def requestTellsUptoCard : Claim7 := { stood := { row := requestTellsUptoRow, standIns := [], harness := (true, "ebcb1670b305c2b4856ae9a5d2037098b2a5f0333a97977e948cef4f030e6973"), looks := true }, kinds := [], alts := [], laidByText := true, laidKinds := [.data, .data, .data, .data, .sentinel, .sentinel, .pinned], laidTests := true, laidLooks := .later }
def RequestTellsUptoCardSaid : Prop := Claim7.holds Tryd.pinned (.plain (OpenSpec.upto requestTellsSpec)) requestTellsUptoCard
end Rows
end Go.Proofs.YtjkadheknjkkbaaDoor
