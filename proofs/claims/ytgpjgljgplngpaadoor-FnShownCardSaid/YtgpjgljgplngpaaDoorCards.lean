/-
  DERIVED. GIVEN WITH THE SEED: THE CARDS: each row of YtgpjgljgplngpaaDoorRows.lean that lists a variable, with what it lists TIED to the program's text (the seventh form; the later family's looks); each row that meets fmt, with fmt's text TOLD by the authors' own Lean function (tested against real Go, not proved from fmt's source: count such statements apart). THE CARD IS WHAT COUNTS. Prove the row's statement (the work); the ties are given (YtgpjgljgplngpaaDoorTie.lean); close each card by the builder's one call (the guide's Derived/Test/ToyasCard.lean, 'card_holds'). Laid BY PROGRAM, IN A SANDBOX (cutbox-door.mjs). By AI agents, Wed Nov 11 2026. No macro, syntax, notation, axiom, sorry.
-/
import Derived.Test.YtgpjgljgplngpaaDoorRows
import GoSem.ClaimSeven
namespace Go.Proofs.YtgpjgljgplngpaaDoor
namespace Rows

/-- THE TIED CARD OF 'laws.FnExactKeyText'. -/
def fnExactKeyTextCard : Claim7 := { stood := { row := fnExactKeyTextRow, standIns := [], harness := (true, "349318e2f67e03e1000814800a9a62931c725a13daabfeb621257fd76d51b21c"), looks := true }, kinds := [], alts := [], laidByText := true, laidKinds := [.data, .data, .data], laidTests := true, laidLooks := .later }
def FnExactKeyTextCardSaid : Prop := Claim7.holds Tryd.pinned (.plain (OpenSpec.ofChange fnExactKeyTextSpec)) fnExactKeyTextCard

/-- THE TIED CARD OF 'laws.FnExactWordText'. -/
def fnExactWordTextCard : Claim7 := { stood := { row := fnExactWordTextRow, standIns := [], harness := (true, "349318e2f67e03e1000814800a9a62931c725a13daabfeb621257fd76d51b21c"), looks := true }, kinds := [], alts := [], laidByText := true, laidKinds := [.data, .data, .data], laidTests := true, laidLooks := .later }
def FnExactWordTextCardSaid : Prop := Claim7.holds Tryd.pinned (.plain (OpenSpec.ofChange fnExactWordTextSpec)) fnExactWordTextCard

/-- THE TIED CARD OF 'laws.FnExactKeyRead'. -/
def fnExactKeyReadCard : Claim7 := { stood := { row := fnExactKeyReadRow, standIns := [], harness := (true, "349318e2f67e03e1000814800a9a62931c725a13daabfeb621257fd76d51b21c"), looks := true }, kinds := [], alts := [], laidByText := true, laidKinds := [.data, .data, .data, .sentinel, .sentinel], laidTests := true, laidLooks := .later }
def FnExactKeyReadCardSaid : Prop := Claim7.holds Tryd.pinned (.plain (OpenSpec.ofChange fnExactKeyReadSpec)) fnExactKeyReadCard

/-- THE TIED CARD OF 'laws.FnShown'. -/
def fnShownCard : Claim7 := { stood := { row := fnShownRow, standIns := [], harness := (true, "349318e2f67e03e1000814800a9a62931c725a13daabfeb621257fd76d51b21c"), looks := true }, kinds := [], alts := [], laidByText := true, laidKinds := [.data, .data, .data, .sentinel, .sentinel], laidTests := true, laidLooks := .later }
def FnShownCardSaid : Prop := Claim7.holds Tryd.pinned (.plain (OpenSpec.ofChange fnShownSpec)) fnShownCard

/-- THE SECOND FORM's CARD OF 'laws.FnExactKeyText'. -/
def fnExactKeyTextUptoCard : Claim7 := { stood := { row := fnExactKeyTextUptoRow, standIns := [], harness := (true, "349318e2f67e03e1000814800a9a62931c725a13daabfeb621257fd76d51b21c"), looks := true }, kinds := [], alts := [], laidByText := true, laidKinds := [.data, .data, .data], laidTests := true, laidLooks := .later }
def FnExactKeyTextUptoCardSaid : Prop := Claim7.holds Tryd.pinned (.plain (OpenSpec.upto fnExactKeyTextSpec)) fnExactKeyTextUptoCard

/-- THE SECOND FORM's CARD OF 'laws.FnExactWordText'. -/
def fnExactWordTextUptoCard : Claim7 := { stood := { row := fnExactWordTextUptoRow, standIns := [], harness := (true, "349318e2f67e03e1000814800a9a62931c725a13daabfeb621257fd76d51b21c"), looks := true }, kinds := [], alts := [], laidByText := true, laidKinds := [.data, .data, .data], laidTests := true, laidLooks := .later }
def FnExactWordTextUptoCardSaid : Prop := Claim7.holds Tryd.pinned (.plain (OpenSpec.upto fnExactWordTextSpec)) fnExactWordTextUptoCard

/-- THE SECOND FORM's CARD OF 'laws.FnExactKeyRead'. -/
def fnExactKeyReadUptoCard : Claim7 := { stood := { row := fnExactKeyReadUptoRow, standIns := [], harness := (true, "349318e2f67e03e1000814800a9a62931c725a13daabfeb621257fd76d51b21c"), looks := true }, kinds := [], alts := [], laidByText := true, laidKinds := [.data, .data, .data, .sentinel, .sentinel], laidTests := true, laidLooks := .later }
def FnExactKeyReadUptoCardSaid : Prop := Claim7.holds Tryd.pinned (.plain (OpenSpec.upto fnExactKeyReadSpec)) fnExactKeyReadUptoCard

/-- THE SECOND FORM's CARD OF 'laws.FnShown'. -/
def fnShownUptoCard : Claim7 := { stood := { row := fnShownUptoRow, standIns := [], harness := (true, "349318e2f67e03e1000814800a9a62931c725a13daabfeb621257fd76d51b21c"), looks := true }, kinds := [], alts := [], laidByText := true, laidKinds := [.data, .data, .data, .sentinel, .sentinel], laidTests := true, laidLooks := .later }
def FnShownUptoCardSaid : Prop := Claim7.holds Tryd.pinned (.plain (OpenSpec.upto fnShownSpec)) fnShownUptoCard
end Rows
end Go.Proofs.YtgpjgljgplngpaaDoor
