/-
  DERIVED. GIVEN WITH THE SEED: THE CARDS: each row of YtgjjjhfempihkaaDoorRows.lean that lists a variable, with what it lists TIED to the program's text (the seventh form; the later family's looks); each row that meets fmt, with fmt's text TOLD by the authors' own Lean function (tested against real Go, not proved from fmt's source: count such statements apart). THE CARD IS WHAT COUNTS. Prove the row's statement (the work); the ties are given (YtgjjjhfempihkaaDoorTie.lean); close each card by the builder's one call (the guide's Derived/Test/ToyasCard.lean, 'card_holds'). Laid BY PROGRAM, IN A SANDBOX (cutbox-door.mjs). By AI agents, Wed Nov 11 2026. No macro, syntax, notation, axiom, sorry.
-/
import Derived.Test.YtgjjjhfempihkaaDoorRows
import GoSem.ClaimSeven
namespace Go.Proofs.YtgjjjhfempihkaaDoor
namespace Rows

/-- THE TIED CARD OF 'ferrulelaw14.FilesMended'. -/
def filesMendedCard : Claim7 := { stood := { row := filesMendedRow, standIns := [], harness := (true, "858dd0b46d2856cfc12f7d08037eb42aa40bb090f52a6fb094080aee8c9ade29"), looks := false }, kinds := [], alts := [], laidByText := true, laidKinds := [.data, .pinned], laidTests := true, laidLooks := .later }
def FilesMendedCardSaid : Prop := Claim7.holds Tryd.pinned (.plain (OpenSpec.ofChange filesMendedSpec)) filesMendedCard

/-- THE TIED CARD OF 'ferrulelaw14.FilesTwo'. -/
def filesTwoCard : Claim7 := { stood := { row := filesTwoRow, standIns := [], harness := (true, "858dd0b46d2856cfc12f7d08037eb42aa40bb090f52a6fb094080aee8c9ade29"), looks := false }, kinds := [], alts := [], laidByText := true, laidKinds := [.data, .pinned], laidTests := true, laidLooks := .later }
def FilesTwoCardSaid : Prop := Claim7.holds Tryd.pinned (.plain (OpenSpec.ofChange filesTwoSpec)) filesTwoCard

/-- THE TIED CARD OF 'ferrulelaw14.FilesWritten'. -/
def filesWrittenCard : Claim7 := { stood := { row := filesWrittenRow, standIns := [], harness := (true, "858dd0b46d2856cfc12f7d08037eb42aa40bb090f52a6fb094080aee8c9ade29"), looks := false }, kinds := [], alts := [], laidByText := true, laidKinds := [.data, .pinned], laidTests := true, laidLooks := .later }
def FilesWrittenCardSaid : Prop := Claim7.holds Tryd.pinned (.plain (OpenSpec.ofChange filesWrittenSpec)) filesWrittenCard

/-- THE TIED CARD OF 'ferrulelaw14.FilesRead'. -/
def filesReadCard : Claim7 := { stood := { row := filesReadRow, standIns := [], harness := (true, "858dd0b46d2856cfc12f7d08037eb42aa40bb090f52a6fb094080aee8c9ade29"), looks := false }, kinds := [], alts := [], laidByText := true, laidKinds := [.data, .pinned], laidTests := true, laidLooks := .later }
def FilesReadCardSaid : Prop := Claim7.holds Tryd.pinned (.plain (OpenSpec.ofChange filesReadSpec)) filesReadCard

/-- THE TIED CARD OF 'ferrulelaw14.FilesBack'. -/
def filesBackCard : Claim7 := { stood := { row := filesBackRow, standIns := [], harness := (true, "858dd0b46d2856cfc12f7d08037eb42aa40bb090f52a6fb094080aee8c9ade29"), looks := false }, kinds := [], alts := [], laidByText := true, laidKinds := [.data, .pinned], laidTests := true, laidLooks := .later }
def FilesBackCardSaid : Prop := Claim7.holds Tryd.pinned (.plain (OpenSpec.ofChange filesBackSpec)) filesBackCard

/-- THE TIED CARD OF 'ferrulelaw14.FilesCopies'. -/
def filesCopiesCard : Claim7 := { stood := { row := filesCopiesRow, standIns := [], harness := (true, "858dd0b46d2856cfc12f7d08037eb42aa40bb090f52a6fb094080aee8c9ade29"), looks := false }, kinds := [], alts := [], laidByText := true, laidKinds := [.data, .pinned], laidTests := true, laidLooks := .later }
def FilesCopiesCardSaid : Prop := Claim7.holds Tryd.pinned (.plain (OpenSpec.ofChange filesCopiesSpec)) filesCopiesCard

/-- THE TIED CARD OF 'ferrulelaw14.FilesJoined'. -/
def filesJoinedCard : Claim7 := { stood := { row := filesJoinedRow, standIns := [], harness := (true, "858dd0b46d2856cfc12f7d08037eb42aa40bb090f52a6fb094080aee8c9ade29"), looks := false }, kinds := [], alts := [], laidByText := true, laidKinds := [.data, .pinned], laidTests := true, laidLooks := .later }
def FilesJoinedCardSaid : Prop := Claim7.holds Tryd.pinned (.plain (OpenSpec.ofChange filesJoinedSpec)) filesJoinedCard

/-- THE SECOND FORM's CARD OF 'ferrulelaw14.FilesMended'. -/
def filesMendedUptoCard : Claim7 := { stood := { row := filesMendedUptoRow, standIns := [], harness := (true, "858dd0b46d2856cfc12f7d08037eb42aa40bb090f52a6fb094080aee8c9ade29"), looks := false }, kinds := [], alts := [], laidByText := true, laidKinds := [.data, .pinned], laidTests := true, laidLooks := .later }
def FilesMendedUptoCardSaid : Prop := Claim7.holds Tryd.pinned (.plain (OpenSpec.upto filesMendedSpec)) filesMendedUptoCard

/-- THE SECOND FORM's CARD OF 'ferrulelaw14.FilesTwo'. -/
def filesTwoUptoCard : Claim7 := { stood := { row := filesTwoUptoRow, standIns := [], harness := (true, "858dd0b46d2856cfc12f7d08037eb42aa40bb090f52a6fb094080aee8c9ade29"), looks := false }, kinds := [], alts := [], laidByText := true, laidKinds := [.data, .pinned], laidTests := true, laidLooks := .later }
def FilesTwoUptoCardSaid : Prop := Claim7.holds Tryd.pinned (.plain (OpenSpec.upto filesTwoSpec)) filesTwoUptoCard

/-- THE SECOND FORM's CARD OF 'ferrulelaw14.FilesWritten'. -/
def filesWrittenUptoCard : Claim7 := { stood := { row := filesWrittenUptoRow, standIns := [], harness := (true, "858dd0b46d2856cfc12f7d08037eb42aa40bb090f52a6fb094080aee8c9ade29"), looks := false }, kinds := [], alts := [], laidByText := true, laidKinds := [.data, .pinned], laidTests := true, laidLooks := .later }
def FilesWrittenUptoCardSaid : Prop := Claim7.holds Tryd.pinned (.plain (OpenSpec.upto filesWrittenSpec)) filesWrittenUptoCard

/-- THE SECOND FORM's CARD OF 'ferrulelaw14.FilesRead'. -/
def filesReadUptoCard : Claim7 := { stood := { row := filesReadUptoRow, standIns := [], harness := (true, "858dd0b46d2856cfc12f7d08037eb42aa40bb090f52a6fb094080aee8c9ade29"), looks := false }, kinds := [], alts := [], laidByText := true, laidKinds := [.data, .pinned], laidTests := true, laidLooks := .later }
def FilesReadUptoCardSaid : Prop := Claim7.holds Tryd.pinned (.plain (OpenSpec.upto filesReadSpec)) filesReadUptoCard

/-- THE SECOND FORM's CARD OF 'ferrulelaw14.FilesBack'. -/
def filesBackUptoCard : Claim7 := { stood := { row := filesBackUptoRow, standIns := [], harness := (true, "858dd0b46d2856cfc12f7d08037eb42aa40bb090f52a6fb094080aee8c9ade29"), looks := false }, kinds := [], alts := [], laidByText := true, laidKinds := [.data, .pinned], laidTests := true, laidLooks := .later }
def FilesBackUptoCardSaid : Prop := Claim7.holds Tryd.pinned (.plain (OpenSpec.upto filesBackSpec)) filesBackUptoCard

/-- THE SECOND FORM's CARD OF 'ferrulelaw14.FilesCopies'. -/
def filesCopiesUptoCard : Claim7 := { stood := { row := filesCopiesUptoRow, standIns := [], harness := (true, "858dd0b46d2856cfc12f7d08037eb42aa40bb090f52a6fb094080aee8c9ade29"), looks := false }, kinds := [], alts := [], laidByText := true, laidKinds := [.data, .pinned], laidTests := true, laidLooks := .later }
def FilesCopiesUptoCardSaid : Prop := Claim7.holds Tryd.pinned (.plain (OpenSpec.upto filesCopiesSpec)) filesCopiesUptoCard

/-- THE SECOND FORM's CARD OF 'ferrulelaw14.FilesJoined'. -/
def filesJoinedUptoCard : Claim7 := { stood := { row := filesJoinedUptoRow, standIns := [], harness := (true, "858dd0b46d2856cfc12f7d08037eb42aa40bb090f52a6fb094080aee8c9ade29"), looks := false }, kinds := [], alts := [], laidByText := true, laidKinds := [.data, .pinned], laidTests := true, laidLooks := .later }
def FilesJoinedUptoCardSaid : Prop := Claim7.holds Tryd.pinned (.plain (OpenSpec.upto filesJoinedSpec)) filesJoinedUptoCard
end Rows
end Go.Proofs.YtgjjjhfempihkaaDoor
