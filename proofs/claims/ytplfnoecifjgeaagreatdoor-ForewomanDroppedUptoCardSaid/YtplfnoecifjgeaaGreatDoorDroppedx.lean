/- ForewomanDropped returns true for every input of bulk at most 1048576, and leaves its arguments as they were; the row lists variables, tied by the card. Condition: the bound on the bulk of what is read (the statement's own). -/
import Derived.Test.YtplfnoecifjgeaaGreatDoorDroppedG
import Derived.Test.YtplfnoecifjgeaaGreatDoorRows
import Derived.Test.YtplfnoecifjgeaaGreatDoorTie
import Derived.Test.YtplfnoecifjgeaaGreatDoorCards
import Derived.WalkKit
import Derived.ProofKit
import Derived.OpenShut
import Derived.LaidMore
import Derived.Lay
import Derived.SevenTiedAt
import Derived.Stop.Joined
import Derived.JoinedCond
set_option linter.unusedVariables false
set_option linter.unusedSimpArgs false
namespace Go.Proofs.YtplfnoecifjgeaaGreatDoor.ForewomanDroppedProof
open Go.ChangeShapes Go.WideShapes Go.ChangeAt Go.RowKit Go.Fer Go.Fer.og
set_option maxRecDepth 100000
noncomputable abbrev lD : Program := Tryz.pinned.checked.prog
theorem b9 : lD.inPlace 10 = Rows.forewomanDroppedUptoRow.inPlace := by kernel_rfl
theorem a2 : lD.unfollowed 10 = Rows.forewomanDroppedUptoRow.unfollowed := by kernel_rfl
theorem a3 : lD.recurses 10 = Rows.forewomanDroppedUptoRow.recurses := by kernel_rfl
theorem a4 : lD.varsNamed 10 = Rows.forewomanDroppedUptoRow.named := by kernel_rfl
theorem gw : laidOutB lD = true := by kernel_rfl
theorem gx : mapsRowed lD = true := by kernel_rfl
end Go.Proofs.YtplfnoecifjgeaaGreatDoor.ForewomanDroppedProof
