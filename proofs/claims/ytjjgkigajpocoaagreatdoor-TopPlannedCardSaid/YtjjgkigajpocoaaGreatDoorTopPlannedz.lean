/- TopPlanned returns true for every input, and leaves its arguments as they were; the row lists variables, tied by the card. No condition. -/
import Derived.Test.YtjjgkigajpocoaaGreatDoorRows
import Derived.Test.YtjjgkigajpocoaaGreatDoorTie
import Derived.Test.YtjjgkigajpocoaaGreatDoorCards
import Derived.WalkKit
import Derived.ProofKit
import Derived.OpenShut
import Derived.LaidMore
import Derived.Lay
import Derived.SevenTiedAt
import Derived.Stop.Joined
import Derived.Test.YtjjgkigajpocoaaGreatDoorTopPlannedx
import Derived.Test.YtjjgkigajpocoaaGreatDoorTopPlannedy
set_option linter.unusedVariables false
set_option linter.unusedSimpArgs false
namespace Go.Proofs.YtjjgkigajpocoaaGreatDoor.TopPlannedProof
open Go.ChangeShapes Go.WideShapes Go.ChangeAt Go.RowKit
set_option maxRecDepth 100000
theorem gC : true = nV.looks [] := by kernel_rfl
theorem jy : Rows.topPlannedRow.wfByText (OpenSpec.ofChange Rows.topPlannedSpec) = true := by kernel_rfl
end Go.Proofs.YtjjgkigajpocoaaGreatDoor.TopPlannedProof
