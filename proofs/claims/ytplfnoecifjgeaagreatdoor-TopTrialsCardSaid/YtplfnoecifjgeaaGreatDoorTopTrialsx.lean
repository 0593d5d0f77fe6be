/- TopTrials returns true for every input, and leaves its arguments as they were; the row lists variables, tied by the card. No condition. -/
import Derived.Test.YtplfnoecifjgeaaGreatDoorTopTrialsG
import Derived.Test.YtplfnoecifjgeaaGreatDoorRows
import Derived.Test.YtplfnoecifjgeaaGreatDoorTie
import Derived.Test.YtplfnoecifjgeaaGreatDoorCards
import Derived.WalkKit
import Derived.ProofKit
import Derived.OpenShut
import Derived.LaidMore
import Derived.Lay
import Derived.SevenTiedAt
import Derived.Stop.Joined
set_option linter.unusedVariables false
set_option linter.unusedSimpArgs false
namespace Go.Proofs.YtplfnoecifjgeaaGreatDoor.TopTrialsProof
open Go.ChangeShapes Go.WideShapes Go.ChangeAt Go.RowKit Go.Fer Go.Fer.oe
set_option maxRecDepth 100000
noncomputable abbrev lH : Program := Tryz.pinned.checked.prog
theorem b8 : lH.inPlace 3 = Rows.topTrialsRow.inPlace := by kernel_rfl
theorem a2 : lH.unfollowed 3 = Rows.topTrialsRow.unfollowed := by kernel_rfl
theorem a3 : lH.recurses 3 = Rows.topTrialsRow.recurses := by kernel_rfl
theorem a4 : lH.varsNamed 3 = Rows.topTrialsRow.named := by kernel_rfl
theorem fG : laidOutB lH = true := by kernel_rfl
theorem fH : mapsRowed lH = true := by kernel_rfl
end Go.Proofs.YtplfnoecifjgeaaGreatDoor.TopTrialsProof
