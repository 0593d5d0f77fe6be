/- TopPlanned returns true for every input, and leaves its arguments as they were; the row lists variables, tied by the card. No condition. -/
import Derived.Test.YtjjgkigajpocoaaGreatDoorRows
import Derived.Test.YtjjgkigajpocoaaGreatDoorTie
import Derived.Test.YtjjgkigajpocoaaGreatDoorCards
import Derived.WalkKit
import Derived.ProofKit
import Derived.OpenShut
import Derived.LaidMore
import Derived.Lay
import Derived.SevenTiedAt
import Derived.Stop.Joined
import Derived.Test.YtjjgkigajpocoaaGreatDoorTopPlannedx
import Derived.Test.YtjjgkigajpocoaaGreatDoorTopPlannedy
import Derived.Test.YtjjgkigajpocoaaGreatDoorTopPlannedz
import Derived.Test.YtjjgkigajpocoaaGreatDoorTopPlannedu
set_option linter.unusedVariables false
set_option linter.unusedSimpArgs false
namespace Go.Proofs.YtjjgkigajpocoaaGreatDoor.TopPlannedProof
open Go.ChangeShapes Go.WideShapes Go.ChangeAt Go.RowKit
set_option maxRecDepth 100000
theorem cT : (Tryz.f5.params.toList ++ Rows.topPlannedSpec.plain.varTypes nV).any (nV.loopsFrom ·) = Rows.topPlannedRow.loops := by kernel_rfl
theorem fc : nV.stopsHeard = true := by kernel_rfl
theorem jf : nV.mayEnter = true := by kernel_rfl
theorem u6 : nV.liftsFinal = Rows.topPlannedRow.lifted := by kernel_rfl
end Go.Proofs.YtjjgkigajpocoaaGreatDoor.TopPlannedProof
