/- TopPlanned returns true for every input, and leaves its arguments as they were; the row lists variables, tied by the card. No condition. -/
import Derived.Test.YtjjgkigajpocoaaGreatDoorRows
import Derived.Test.YtjjgkigajpocoaaGreatDoorTie
import Derived.Test.YtjjgkigajpocoaaGreatDoorCards
import Derived.WalkKit
import Derived.ProofKit
import Derived.OpenShut
import Derived.LaidMore
import Derived.Lay
import Derived.SevenTiedAt
import Derived.Stop.Joined
set_option linter.unusedVariables false
set_option linter.unusedSimpArgs false
namespace Go.Proofs.YtjjgkigajpocoaaGreatDoor.TopPlannedProof
open Go.ChangeShapes Go.WideShapes Go.ChangeAt Go.RowKit
set_option maxRecDepth 100000
noncomputable abbrev nV : Program := Tryz.pinned.checked.prog
theorem cr : nV.inPlace 5 = Rows.topPlannedRow.inPlace := by kernel_rfl
theorem b4 : nV.unfollowed 5 = Rows.topPlannedRow.unfollowed := by kernel_rfl
theorem eh : nV.recurses 5 = Rows.topPlannedRow.recurses := by kernel_rfl
end Go.Proofs.YtjjgkigajpocoaaGreatDoor.TopPlannedProof
