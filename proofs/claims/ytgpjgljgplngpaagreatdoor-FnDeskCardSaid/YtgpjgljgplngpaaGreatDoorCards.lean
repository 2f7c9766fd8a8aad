/-
  DERIVED. GIVEN WITH THE SEED: THE CARDS: each row of YtgpjgljgplngpaaGreatDoorRows.lean that lists a variable, with what it lists TIED to the program's text (the seventh form; the later family's looks); each row that meets fmt, with fmt's text TOLD by the authors' own Lean function (tested against real Go, not proved from fmt's source: count such statements apart). THE CARD IS WHAT COUNTS. Prove the row's statement (the work); the ties are given (YtgpjgljgplngpaaGreatDoorTie.lean); close each card by the builder's one call (the guide's Derived/Test/ToyasCard.lean, 'card_holds'). Laid BY PROGRAM, IN A SANDBOX (cutbox-door.mjs). By AI agents, Wed Nov 11 2026. No macro, syntax, notation, axiom, sorry.
-/
import Derived.Test.YtgpjgljgplngpaaGreatDoorRows
import GoSem.ClaimSeven
namespace Go.Proofs.YtgpjgljgplngpaaGreatDoor
namespace Rows

/-- THE TIED CARD OF 'laws.FnExactDeskNew'. -/
def fnExactDeskNewCard : Claim7 := { stood := { row := fnExactDeskNewRow, standIns := [], harness := (true, "afe2ed8cb681d0e195fcba4856b639674ec4f78483273f8d0e28debd4e4ccfe2"), looks := true }, kinds := [], alts := [], laidByText := true, laidKinds := [.data, .data, .data, .data, .sentinel, .sentinel, .pinned], laidTests := true, laidLooks := .later }
def FnExactDeskNewCardSaid : Prop := Claim7.holds Tryz.pinned (.plain (OpenSpec.ofChange fnExactDeskNewSpec)) fnExactDeskNewCard

/-- THE TIED CARD OF 'laws.FnExactSession'. -/
def fnExactSessionCard : Claim7 := { stood := { row := fnExactSessionRow, standIns := [], harness := (true, "afe2ed8cb681d0e195fcba4856b639674ec4f78483273f8d0e28debd4e4ccfe2"), looks := true }, kinds := [], alts := [], laidByText := true, laidKinds := [.data, .data, .data, .data, .sentinel, .sentinel, .pinned], laidTests := true, laidLooks := .later }
def FnExactSessionCardSaid : Prop := Claim7.holds Tryz.pinned (.plain (OpenSpec.ofChange fnExactSessionSpec)) fnExactSessionCard

/-- THE TIED CARD OF 'laws.FnDesk'. -/
def fnDeskCard : Claim7 := { stood := { row := fnDeskRow, standIns := [], harness := (true, "afe2ed8cb681d0e195fcba4856b639674ec4f78483273f8d0e28debd4e4ccfe2"), looks := true }, kinds := [], alts := [], laidByText := true, laidKinds := [.data, .data, .data, .data, .sentinel, .sentinel, .pinned], laidTests := true, laidLooks := .later }
def FnDeskCardSaid : Prop := Claim7.holds Tryz.pinned (.plain (OpenSpec.ofChange fnDeskSpec)) fnDeskCard

/-- THE TIED CARD OF 'laws.FnSession'. -/
def fnSessionCard : Claim7 := { stood := { row := fnSessionRow, standIns := [], harness := (true, "afe2ed8cb681d0e195fcba4856b639674ec4f78483273f8d0e28debd4e4ccfe2"), looks := true }, kinds := [], alts := [], laidByText := true, laidKinds := [.data, .data, .data, .data, .sentinel, .sentinel, .pinned], laidTests := true, laidLooks := .later }
def FnSessionCardSaid : Prop := Claim7.holds Tryz.pinned (.plain (OpenSpec.ofChange fnSessionSpec)) fnSessionCard

/-- THE SECOND FORM's CARD OF 'laws.FnExactDeskNew'. -/
def fnExactDeskNewUptoCard : Claim7 := { stood := { row := fnExactDeskNewUptoRow, standIns := [], harness := (true, "afe2ed8cb681d0e195fcba4856b639674ec4f78483273f8d0e28debd4e4ccfe2"), looks := true }, kinds := [], alts := [], laidByText := true, laidKinds := [.data, .data, .data, .data, .sentinel, .sentinel, .pinned], laidTests := true, laidLooks := .later }
def FnExactDeskNewUptoCardSaid : Prop := Claim7.holds Tryz.pinned (.plain (OpenSpec.upto fnExactDeskNewSpec)) fnExactDeskNewUptoCard

/-- THE SECOND FORM's CARD OF 'laws.FnExactSession'. -/
def fnExactSessionUptoCard : Claim7 := { stood := { row := fnExactSessionUptoRow, standIns := [], harness := (true, "afe2ed8cb681d0e195fcba4856b639674ec4f78483273f8d0e28debd4e4ccfe2"), looks := true }, kinds := [], alts := [], laidByText := true, laidKinds := [.data, .data, .data, .data, .sentinel, .sentinel, .pinned], laidTests := true, laidLooks := .later }
def FnExactSessionUptoCardSaid : Prop := Claim7.holds Tryz.pinned (.plain (OpenSpec.upto fnExactSessionSpec)) fnExactSessionUptoCard

/-- THE SECOND FORM's CARD OF 'laws.FnDesk'. -/
def fnDeskUptoCard : Claim7 := { stood := { row := fnDeskUptoRow, standIns := [], harness := (true, "afe2ed8cb681d0e195fcba4856b639674ec4f78483273f8d0e28debd4e4ccfe2"), looks := true }, kinds := [], alts := [], laidByText := true, laidKinds := [.data, .data, .data, .data, .sentinel, .sentinel, .pinned], laidTests := true, laidLooks := .later }
def FnDeskUptoCardSaid : Prop := Claim7.holds Tryz.pinned (.plain (OpenSpec.upto fnDeskSpec)) fnDeskUptoCard

/-- THE SECOND FORM's CARD OF 'laws.FnSession'. -/
def fnSessionUptoCard : Claim7 := { stood := { row := fnSessionUptoRow, standIns := [], harness := (true, "afe2ed8cb681d0e195fcba4856b639674ec4f78483273f8d0e28debd4e4ccfe2"), looks := true }, kinds := [], alts := [], laidByText := true, laidKinds := [.data, .data, .data, .data, .sentinel, .sentinel, .pinned], laidTests := true, laidLooks := .later }
def FnSessionUptoCardSaid : Prop := Claim7.holds Tryz.pinned (.plain (OpenSpec.upto fnSessionSpec)) fnSessionUptoCard
end Rows
end Go.Proofs.YtgpjgljgplngpaaGreatDoor
