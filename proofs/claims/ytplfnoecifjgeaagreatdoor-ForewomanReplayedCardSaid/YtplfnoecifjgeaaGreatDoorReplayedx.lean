/- ForewomanReplayed returns true for every input, and leaves its arguments as they were; the row lists variables, tied by the card. No condition. -/
import Derived.Test.YtplfnoecifjgeaaGreatDoorReplayedG
import Derived.Test.YtplfnoecifjgeaaGreatDoorRows
import Derived.Test.YtplfnoecifjgeaaGreatDoorTie
import Derived.Test.YtplfnoecifjgeaaGreatDoorCards
import Derived.WalkKit
import Derived.ProofKit
import Derived.OpenShut
import Derived.LaidMore
import Derived.Lay
import Derived.SevenTiedAt
import Derived.Stop.Joined
set_option linter.unusedVariables false
set_option linter.unusedSimpArgs false
namespace Go.Proofs.YtplfnoecifjgeaaGreatDoor.ForewomanReplayedProof
open Go.ChangeShapes Go.WideShapes Go.ChangeAt Go.RowKit Go.Fer Go.Fer.nV
set_option maxRecDepth 100000
noncomputable abbrev lf : Program := Tryz.pinned.checked.prog
theorem bT : lf.inPlace 11 = Rows.forewomanReplayedRow.inPlace := by kernel_rfl
theorem a2 : lf.unfollowed 11 = Rows.forewomanReplayedRow.unfollowed := by kernel_rfl
theorem a3 : lf.recurses 11 = Rows.forewomanReplayedRow.recurses := by kernel_rfl
theorem a4 : lf.varsNamed 11 = Rows.forewomanReplayedRow.named := by kernel_rfl
theorem fW : laidOutB lf = true := by kernel_rfl
theorem fX : mapsRowed lf = true := by kernel_rfl
end Go.Proofs.YtplfnoecifjgeaaGreatDoor.ForewomanReplayedProof
