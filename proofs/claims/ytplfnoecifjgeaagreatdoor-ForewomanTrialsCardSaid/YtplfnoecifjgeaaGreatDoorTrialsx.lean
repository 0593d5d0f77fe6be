/- ForewomanTrials returns true for every input, and leaves its arguments as they were; the row lists variables, tied by the card. No condition. -/
import Derived.Test.YtplfnoecifjgeaaGreatDoorTrialsG
import Derived.Test.YtplfnoecifjgeaaGreatDoorRows
import Derived.Test.YtplfnoecifjgeaaGreatDoorTie
import Derived.Test.YtplfnoecifjgeaaGreatDoorCards
import Derived.WalkKit
import Derived.ProofKit
import Derived.OpenShut
import Derived.LaidMore
import Derived.Lay
import Derived.SevenTiedAt
import Derived.Stop.Joined
set_option linter.unusedVariables false
set_option linter.unusedSimpArgs false
namespace Go.Proofs.YtplfnoecifjgeaaGreatDoor.ForewomanTrialsProof
open Go.ChangeShapes Go.WideShapes Go.ChangeAt Go.RowKit Go.Fer Go.Fer.nZ
set_option maxRecDepth 100000
noncomputable abbrev lk : Program := Tryz.pinned.checked.prog
theorem bV : lk.inPlace 9 = Rows.forewomanTrialsRow.inPlace := by kernel_rfl
theorem a2 : lk.unfollowed 9 = Rows.forewomanTrialsRow.unfollowed := by kernel_rfl
theorem a3 : lk.recurses 9 = Rows.forewomanTrialsRow.recurses := by kernel_rfl
theorem a4 : lk.varsNamed 9 = Rows.forewomanTrialsRow.named := by kernel_rfl
theorem f' : laidOutB lk = true := by kernel_rfl
theorem ga : mapsRowed lk = true := by kernel_rfl
end Go.Proofs.YtplfnoecifjgeaaGreatDoor.ForewomanTrialsProof
