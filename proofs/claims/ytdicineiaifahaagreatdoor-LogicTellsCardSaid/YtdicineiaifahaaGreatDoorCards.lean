/-
  DERIVED. GIVEN WITH THE SEED: THE CARDS: each row of YtdicineiaifahaaGreatDoorRows.lean that lists a variable, with what it lists TIED to the program's text (the seventh form; the later family's looks); each row that meets fmt, with fmt's text TOLD by the authors' own Lean function (tested against real Go, not proved from fmt's source: count such statements apart). THE CARD IS WHAT COUNTS. Prove the row's statement (the work); the ties are given (YtdicineiaifahaaGreatDoorTie.lean); close each card by the builder's one call (the guide's Derived/Test/ToyasCard.lean, 'card_holds'). Laid BY PROGRAM, IN A SANDBOX (cutbox-door.mjs). By AI agents, Wed Nov 11 2026. No macro, syntax, notation, axiom, sorry.
-/
import Derived.Test.YtdicineiaifahaaGreatDoorRows
import GoSem.ClaimSeven
namespace Go.Proofs.YtdicineiaifahaaGreatDoor
namespace Rows

/-- THE TIED CARD OF 'verdictlaw2.LogicOrder'. -/
def logicOrderCard : Claim7 := { stood := { row := logicOrderRow, standIns := [], harness := (true, "4ef1e783b60313ecfb0154226ff29d85a4c1ad324d1bc0e1141d969011479145"), looks := true }, kinds := [], alts := [], laidByText := true, laidKinds := [.data, .data, .data, .data, .data, .data, .data, .data, .pinned], laidTests := true, laidLooks := .later }
def LogicOrderCardSaid : Prop := Claim7.holds Tryz.pinned (.plain (OpenSpec.ofChange logicOrderSpec)) logicOrderCard

/-- THE TIED CARD OF 'verdictlaw2.LogicTells'. -/
def logicTellsCard : Claim7 := { stood := { row := logicTellsRow, standIns := [], harness := (true, "4ef1e783b60313ecfb0154226ff29d85a4c1ad324d1bc0e1141d969011479145"), looks := true }, kinds := [], alts := [], laidByText := true, laidKinds := [.data, .data, .data, .data, .data, .data, .data, .data, .pinned], laidTests := true, laidLooks := .later }
def LogicTellsCardSaid : Prop := Claim7.holds Tryz.pinned (.plain (OpenSpec.ofChange logicTellsSpec)) logicTellsCard

/-- THE SECOND FORM's CARD OF 'verdictlaw2.LogicOrder'. -/
def logicOrderUptoCard : Claim7 := { stood := { row := logicOrderUptoRow, standIns := [], harness := (true, "4ef1e783b60313ecfb0154226ff29d85a4c1ad324d1bc0e1141d969011479145"), looks := true }, kinds := [], alts := [], laidByText := true, laidKinds := [.data, .data, .data, .data, .data, .data, .data, .data, .pinned], laidTests := true, laidLooks := .later }
def LogicOrderUptoCardSaid : Prop := Claim7.holds Tryz.pinned (.plain (OpenSpec.upto logicOrderSpec)) logicOrderUptoCard

/-- THE SECOND FORM's CARD OF 'verdictlaw2.LogicTells'. -/
def logicTellsUptoCard : Claim7 := { stood := { row := logicTellsUptoRow, standIns := [], harness := (true, "4ef1e783b60313ecfb0154226ff29d85a4c1ad324d1bc0e1141d969011479145"), looks := true }, kinds := [], alts := [], laidByText := true, laidKinds := [.data, .data, .data, .data, .data, .data, .data, .data, .pinned], laidTests := true, laidLooks := .later }
def LogicTellsUptoCardSaid : Prop := Claim7.holds Tryz.pinned (.plain (OpenSpec.upto logicTellsSpec)) logicTellsUptoCard
end Rows
end Go.Proofs.YtdicineiaifahaaGreatDoor
