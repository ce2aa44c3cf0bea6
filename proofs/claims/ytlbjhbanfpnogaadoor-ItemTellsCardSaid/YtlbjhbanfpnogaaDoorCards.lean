/-
  DERIVED. GIVEN WITH THE SEED: THE CARDS: each row of YtlbjhbanfpnogaaDoorRows.lean that lists a variable, with what it lists TIED to the program's text (the seventh form; the later family's looks); each row that meets fmt, with fmt's text TOLD by the authors' own Lean function (tested against real Go, not proved from fmt's source: count such statements apart). THE CARD IS WHAT COUNTS. Prove the row's statement (the work); the ties are given (YtlbjhbanfpnogaaDoorTie.lean); close each card by the builder's one call (the guide's Derived/Test/ToyasCard.lean, 'card_holds'). Laid BY PROGRAM, IN A SANDBOX (cutbox-door.mjs). By AI agents, Wed Nov 11 2026. No macro, syntax, notation, axiom, sorry.
-/
import Derived.Test.YtlbjhbanfpnogaaDoorRows
import GoSem.ClaimSeven
namespace Go.Proofs.YtlbjhbanfpnogaaDoor
namespace Rows

/-- THE TIED CARD OF 'gantletlaw04.HuffTells'. -/
def huffTellsCard : Claim7 := { stood := { row := huffTellsRow, standIns := [], harness := (true, "4e4fa4b7c14fb452f76015f7779752a6a6007551d6a81e659fbbcc72fe1b82db"), looks := false }, kinds := [], alts := [], laidByText := true, laidKinds := [.data], laidTests := true, laidLooks := .later }
def HuffTellsCardSaid : Prop := Claim7.holds Tryd.pinned (.plain (OpenSpec.ofChange huffTellsSpec)) huffTellsCard

/-- THE TIED CARD OF 'gantletlaw04.HuffBack'. -/
def huffBackCard : Claim7 := { stood := { row := huffBackRow, standIns := [], harness := (true, "4e4fa4b7c14fb452f76015f7779752a6a6007551d6a81e659fbbcc72fe1b82db"), looks := false }, kinds := [], alts := [], laidByText := true, laidKinds := [.data], laidTests := true, laidLooks := .later }
def HuffBackCardSaid : Prop := Claim7.holds Tryd.pinned (.plain (OpenSpec.ofChange huffBackSpec)) huffBackCard

/-- THE TIED CARD OF 'gantletlaw04.HuffCodes'. -/
def huffCodesCard : Claim7 := { stood := { row := huffCodesRow, standIns := [], harness := (true, "4e4fa4b7c14fb452f76015f7779752a6a6007551d6a81e659fbbcc72fe1b82db"), looks := false }, kinds := [], alts := [], laidByText := true, laidKinds := [.data], laidTests := true, laidLooks := .later }
def HuffCodesCardSaid : Prop := Claim7.holds Tryd.pinned (.plain (OpenSpec.ofChange huffCodesSpec)) huffCodesCard

/-- THE TIED CARD OF 'gantletlaw05.LiteralTells'. -/
def literalTellsCard : Claim7 := { stood := { row := literalTellsRow, standIns := [], harness := (true, "4e4fa4b7c14fb452f76015f7779752a6a6007551d6a81e659fbbcc72fe1b82db"), looks := false }, kinds := [], alts := [], laidByText := true, laidKinds := [.data], laidTests := true, laidLooks := .later }
def LiteralTellsCardSaid : Prop := Claim7.holds Tryd.pinned (.plain (OpenSpec.ofChange literalTellsSpec)) literalTellsCard

/-- THE TIED CARD OF 'gantletlaw05.LiteralBack'. -/
def literalBackCard : Claim7 := { stood := { row := literalBackRow, standIns := [], harness := (true, "4e4fa4b7c14fb452f76015f7779752a6a6007551d6a81e659fbbcc72fe1b82db"), looks := false }, kinds := [], alts := [], laidByText := true, laidKinds := [.data], laidTests := true, laidLooks := .later }
def LiteralBackCardSaid : Prop := Claim7.holds Tryd.pinned (.plain (OpenSpec.ofChange literalBackSpec)) literalBackCard

/-- THE TIED CARD OF 'gantletlaw08.ItemTells'. -/
def itemTellsCard : Claim7 := { stood := { row := itemTellsRow, standIns := [], harness := (true, "4e4fa4b7c14fb452f76015f7779752a6a6007551d6a81e659fbbcc72fe1b82db"), looks := false }, kinds := [], alts := [], laidByText := true, laidKinds := [.data, .data], laidTests := true, laidLooks := .later }
def ItemTellsCardSaid : Prop := Claim7.holds Tryd.pinned (.plain (OpenSpec.ofChange itemTellsSpec)) itemTellsCard

/-- THE TIED CARD OF 'gantletlaw08.ItemBack'. -/
def itemBackCard : Claim7 := { stood := { row := itemBackRow, standIns := [], harness := (true, "4e4fa4b7c14fb452f76015f7779752a6a6007551d6a81e659fbbcc72fe1b82db"), looks := false }, kinds := [], alts := [], laidByText := true, laidKinds := [.data, .data], laidTests := true, laidLooks := .later }
def ItemBackCardSaid : Prop := Claim7.holds Tryd.pinned (.plain (OpenSpec.ofChange itemBackSpec)) itemBackCard

/-- THE SECOND FORM's CARD OF 'gantletlaw04.HuffTells'. -/
def huffTellsUptoCard : Claim7 := { stood := { row := huffTellsUptoRow, standIns := [], harness := (true, "4e4fa4b7c14fb452f76015f7779752a6a6007551d6a81e659fbbcc72fe1b82db"), looks := false }, kinds := [], alts := [], laidByText := true, laidKinds := [.data], laidTests := true, laidLooks := .later }
def HuffTellsUptoCardSaid : Prop := Claim7.holds Tryd.pinned (.plain (OpenSpec.upto huffTellsSpec)) huffTellsUptoCard

/-- THE SECOND FORM's CARD OF 'gantletlaw04.HuffBack'. -/
def huffBackUptoCard : Claim7 := { stood := { row := huffBackUptoRow, standIns := [], harness := (true, "4e4fa4b7c14fb452f76015f7779752a6a6007551d6a81e659fbbcc72fe1b82db"), looks := false }, kinds := [], alts := [], laidByText := true, laidKinds := [.data], laidTests := true, laidLooks := .later }
def HuffBackUptoCardSaid : Prop := Claim7.holds Tryd.pinned (.plain (OpenSpec.upto huffBackSpec)) huffBackUptoCard

/-- THE SECOND FORM's CARD OF 'gantletlaw04.HuffCodes'. -/
def huffCodesUptoCard : Claim7 := { stood := { row := huffCodesUptoRow, standIns := [], harness := (true, "4e4fa4b7c14fb452f76015f7779752a6a6007551d6a81e659fbbcc72fe1b82db"), looks := false }, kinds := [], alts := [], laidByText := true, laidKinds := [.data], laidTests := true, laidLooks := .later }
def HuffCodesUptoCardSaid : Prop := Claim7.holds Tryd.pinned (.plain (OpenSpec.upto huffCodesSpec)) huffCodesUptoCard

/-- THE SECOND FORM's CARD OF 'gantletlaw05.LiteralTells'. -/
def literalTellsUptoCard : Claim7 := { stood := { row := literalTellsUptoRow, standIns := [], harness := (true, "4e4fa4b7c14fb452f76015f7779752a6a6007551d6a81e659fbbcc72fe1b82db"), looks := false }, kinds := [], alts := [], laidByText := true, laidKinds := [.data], laidTests := true, laidLooks := .later }
def LiteralTellsUptoCardSaid : Prop := Claim7.holds Tryd.pinned (.plain (OpenSpec.upto literalTellsSpec)) literalTellsUptoCard

/-- THE SECOND FORM's CARD OF 'gantletlaw05.LiteralBack'. -/
def literalBackUptoCard : Claim7 := { stood := { row := literalBackUptoRow, standIns := [], harness := (true, "4e4fa4b7c14fb452f76015f7779752a6a6007551d6a81e659fbbcc72fe1b82db"), looks := false }, kinds := [], alts := [], laidByText := true, laidKinds := [.data], laidTests := true, laidLooks := .later }
def LiteralBackUptoCardSaid : Prop := Claim7.holds Tryd.pinned (.plain (OpenSpec.upto literalBackSpec)) literalBackUptoCard

/-- THE SECOND FORM's CARD OF 'gantletlaw08.ItemTells'. -/
def itemTellsUptoCard : Claim7 := { stood := { row := itemTellsUptoRow, standIns := [], harness := (true, "4e4fa4b7c14fb452f76015f7779752a6a6007551d6a81e659fbbcc72fe1b82db"), looks := false }, kinds := [], alts := [], laidByText := true, laidKinds := [.data, .data], laidTests := true, laidLooks := .later }
def ItemTellsUptoCardSaid : Prop := Claim7.holds Tryd.pinned (.plain (OpenSpec.upto itemTellsSpec)) itemTellsUptoCard

/-- THE SECOND FORM's CARD OF 'gantletlaw08.ItemBack'. -/
def itemBackUptoCard : Claim7 := { stood := { row := itemBackUptoRow, standIns := [], harness := (true, "4e4fa4b7c14fb452f76015f7779752a6a6007551d6a81e659fbbcc72fe1b82db"), looks := false }, kinds := [], alts := [], laidByText := true, laidKinds := [.data, .data], laidTests := true, laidLooks := .later }
def ItemBackUptoCardSaid : Prop := Claim7.holds Tryd.pinned (.plain (OpenSpec.upto itemBackSpec)) itemBackUptoCard
end Rows
end Go.Proofs.YtlbjhbanfpnogaaDoor
