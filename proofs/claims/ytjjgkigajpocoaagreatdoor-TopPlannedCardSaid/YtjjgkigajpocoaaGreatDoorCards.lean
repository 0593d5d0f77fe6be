/-
  DERIVED. GIVEN WITH THE SEED: THE CARDS: each row of YtjjgkigajpocoaaGreatDoorRows.lean that lists a variable, with what it lists TIED to the program's text (the seventh form; the later family's looks); each row that meets fmt, with fmt's text TOLD by the authors' own Lean function (tested against real Go, not proved from fmt's source: count such statements apart). THE CARD IS WHAT COUNTS. Prove the row's statement (the work); the ties are given (YtjjgkigajpocoaaGreatDoorTie.lean); close each card by the builder's one call (the guide's Derived/Test/ToyasCard.lean, 'card_holds'). Laid BY PROGRAM, IN A SANDBOX (cutbox-door.mjs). By AI agents, Wed Nov 11 2026. No macro, syntax, notation, axiom, sorry.
-/
import Derived.Test.YtjjgkigajpocoaaGreatDoorRows
import GoSem.ClaimSeven
namespace Go.Proofs.YtjjgkigajpocoaaGreatDoor
namespace Rows

/-- THE TIED CARD OF 'ferrulelaw14.FilesSeason'. -/
def filesSeasonCard : Claim7 := { stood := { row := filesSeasonRow, standIns := [], harness := (true, "826569cc35b23d84b9fb32267253e61f007a8fe76e03434c0e9e68b1cb748fcc"), looks := true }, kinds := [], alts := [], laidByText := true, laidKinds := [.data, .data, .data, .data, .sentinel, .sentinel, .pinned], laidTests := true, laidLooks := .later }
def FilesSeasonCardSaid : Prop := Claim7.holds Tryz.pinned (.plain (OpenSpec.ofChange filesSeasonSpec)) filesSeasonCard

/-- THE TIED CARD OF 'ferruletop.TopFees'. -/
def topFeesCard : Claim7 := { stood := { row := topFeesRow, standIns := [], harness := (true, "826569cc35b23d84b9fb32267253e61f007a8fe76e03434c0e9e68b1cb748fcc"), looks := true }, kinds := [], alts := [], laidByText := true, laidKinds := [.data, .data, .data, .data, .sentinel, .sentinel, .pinned], laidTests := true, laidLooks := .later }
def TopFeesCardSaid : Prop := Claim7.holds Tryz.pinned (.plain (OpenSpec.ofChange topFeesSpec)) topFeesCard

/-- THE TIED CARD OF 'ferruletop.TopPlanned'. -/
def topPlannedCard : Claim7 := { stood := { row := topPlannedRow, standIns := [], harness := (true, "826569cc35b23d84b9fb32267253e61f007a8fe76e03434c0e9e68b1cb748fcc"), looks := true }, kinds := [], alts := [], laidByText := true, laidKinds := [.data, .data, .data, .data, .sentinel, .sentinel, .pinned], laidTests := true, laidLooks := .later }
def TopPlannedCardSaid : Prop := Claim7.holds Tryz.pinned (.plain (OpenSpec.ofChange topPlannedSpec)) topPlannedCard

/-- THE SECOND FORM's CARD OF 'ferrulelaw14.FilesSeason'. -/
def filesSeasonUptoCard : Claim7 := { stood := { row := filesSeasonUptoRow, standIns := [], harness := (true, "826569cc35b23d84b9fb32267253e61f007a8fe76e03434c0e9e68b1cb748fcc"), looks := true }, kinds := [], alts := [], laidByText := true, laidKinds := [.data, .data, .data, .data, .sentinel, .sentinel, .pinned], laidTests := true, laidLooks := .later }
def FilesSeasonUptoCardSaid : Prop := Claim7.holds Tryz.pinned (.plain (OpenSpec.upto filesSeasonSpec)) filesSeasonUptoCard

/-- THE SECOND FORM's CARD OF 'ferruletop.TopFees'. -/
def topFeesUptoCard : Claim7 := { stood := { row := topFeesUptoRow, standIns := [], harness := (true, "826569cc35b23d84b9fb32267253e61f007a8fe76e03434c0e9e68b1cb748fcc"), looks := true }, kinds := [], alts := [], laidByText := true, laidKinds := [.data, .data, .data, .data, .sentinel, .sentinel, .pinned], laidTests := true, laidLooks := .later }
def TopFeesUptoCardSaid : Prop := Claim7.holds Tryz.pinned (.plain (OpenSpec.upto topFeesSpec)) topFeesUptoCard

/-- THE SECOND FORM's CARD OF 'ferruletop.TopPlanned'. -/
def topPlannedUptoCard : Claim7 := { stood := { row := topPlannedUptoRow, standIns := [], harness := (true, "826569cc35b23d84b9fb32267253e61f007a8fe76e03434c0e9e68b1cb748fcc"), looks := true }, kinds := [], alts := [], laidByText := true, laidKinds := [.data, .data, .data, .data, .sentinel, .sentinel, .pinned], laidTests := true, laidLooks := .later }
def TopPlannedUptoCardSaid : Prop := Claim7.holds Tryz.pinned (.plain (OpenSpec.upto topPlannedSpec)) topPlannedUptoCard
end Rows
end Go.Proofs.YtjjgkigajpocoaaGreatDoor
