/- ForewomanHalves returns true for every input, and leaves its arguments as they were; the row lists variables, tied by the card. No condition. -/
import Derived.Test.YtplfnoecifjgeaaGreatDoorHalvesG
import Derived.Test.YtplfnoecifjgeaaGreatDoorRows
import Derived.Test.YtplfnoecifjgeaaGreatDoorTie
import Derived.Test.YtplfnoecifjgeaaGreatDoorCards
import Derived.WalkKit
import Derived.ProofKit
import Derived.OpenShut
import Derived.LaidMore
import Derived.Lay
import Derived.SevenTiedAt
import Derived.Stop.Joined
set_option linter.unusedVariables false
set_option linter.unusedSimpArgs false
namespace Go.Proofs.YtplfnoecifjgeaaGreatDoor.ForewomanHalvesProof
open Go.ChangeShapes Go.WideShapes Go.ChangeAt Go.RowKit Go.Fer Go.Fer.nT
set_option maxRecDepth 100000
noncomputable abbrev la : Program := Tryz.pinned.checked.prog
theorem bT : la.inPlace 5 = Rows.forewomanHalvesRow.inPlace := by kernel_rfl
theorem a2 : la.unfollowed 5 = Rows.forewomanHalvesRow.unfollowed := by kernel_rfl
theorem a3 : la.recurses 5 = Rows.forewomanHalvesRow.recurses := by kernel_rfl
theorem a4 : la.varsNamed 5 = Rows.forewomanHalvesRow.named := by kernel_rfl
theorem fV : laidOutB la = true := by kernel_rfl
theorem fW : mapsRowed la = true := by kernel_rfl
end Go.Proofs.YtplfnoecifjgeaaGreatDoor.ForewomanHalvesProof
