/-
  DERIVED. GIVEN WITH THE SEED: THE CARDS: each row of YtemahcjglmhefaaGreatDoorRows.lean that lists a variable, with what it lists TIED to the program's text (the seventh form; the later family's looks); each row that meets fmt, with fmt's text TOLD by the authors' own Lean function (tested against real Go, not proved from fmt's source: count such statements apart). THE CARD IS WHAT COUNTS. Prove the row's statement (the work); the ties are given (YtemahcjglmhefaaGreatDoorTie.lean); close each card by the builder's one call (the guide's Derived/Test/ToyasCard.lean, 'card_holds'). Laid BY PROGRAM, IN A SANDBOX (cutbox-door.mjs). By AI agents, Wed Nov 11 2026. No macro, syntax, notation, axiom, sorry.
-/
import Derived.Test.YtemahcjglmhefaaGreatDoorRows
import GoSem.ClaimSeven
namespace Go.Proofs.YtemahcjglmhefaaGreatDoor
namespace Rows

/-- THE TIED CARD OF 'laws.FnServe'. -/
def fnServeCard : Claim7 := { stood := { row := fnServeRow, standIns := [], harness := (true, "46d91d379f75078c71db5c78880ad3fb3d065d23313a69fc3333305eac2914bb"), looks := false }, kinds := [], alts := [], laidByText := true, laidKinds := [.listed, .data], laidTests := true, laidLooks := .later }
def FnServeCardSaid : Prop := Claim7.holds Tryz.pinned (.plain (OpenSpec.ofChange fnServeSpec)) fnServeCard

/-- THE TIED CARD OF 'laws.FnChanges'. -/
def fnChangesCard : Claim7 := { stood := { row := fnChangesRow, standIns := [], harness := (true, "46d91d379f75078c71db5c78880ad3fb3d065d23313a69fc3333305eac2914bb"), looks := false }, kinds := [], alts := [], laidByText := true, laidKinds := [.listed, .data], laidTests := true, laidLooks := .later }
def FnChangesCardSaid : Prop := Claim7.holds Tryz.pinned (.plain (OpenSpec.ofChange fnChangesSpec)) fnChangesCard

/-- THE SECOND FORM's CARD OF 'laws.FnServe'. -/
def fnServeUptoCard : Claim7 := { stood := { row := fnServeUptoRow, standIns := [], harness := (true, "46d91d379f75078c71db5c78880ad3fb3d065d23313a69fc3333305eac2914bb"), looks := false }, kinds := [], alts := [], laidByText := true, laidKinds := [.listed, .data], laidTests := true, laidLooks := .later }
def FnServeUptoCardSaid : Prop := Claim7.holds Tryz.pinned (.plain (OpenSpec.upto fnServeSpec)) fnServeUptoCard

/-- THE SECOND FORM's CARD OF 'laws.FnChanges'. -/
def fnChangesUptoCard : Claim7 := { stood := { row := fnChangesUptoRow, standIns := [], harness := (true, "46d91d379f75078c71db5c78880ad3fb3d065d23313a69fc3333305eac2914bb"), looks := false }, kinds := [], alts := [], laidByText := true, laidKinds := [.listed, .data], laidTests := true, laidLooks := .later }
def FnChangesUptoCardSaid : Prop := Claim7.holds Tryz.pinned (.plain (OpenSpec.upto fnChangesSpec)) fnChangesUptoCard
end Rows
end Go.Proofs.YtemahcjglmhefaaGreatDoor
