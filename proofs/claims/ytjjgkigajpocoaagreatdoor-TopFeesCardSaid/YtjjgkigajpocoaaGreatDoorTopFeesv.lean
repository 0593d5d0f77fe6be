/- TopFees returns true for every input, and leaves its arguments as they were; the row lists variables, tied by the card. No condition. -/
import Derived.Test.YtjjgkigajpocoaaGreatDoorRows
import Derived.Test.YtjjgkigajpocoaaGreatDoorTie
import Derived.Test.YtjjgkigajpocoaaGreatDoorCards
import Derived.WalkKit
import Derived.ProofKit
import Derived.OpenShut
import Derived.LaidMore
import Derived.Lay
import Derived.SevenTiedAt
import Derived.Stop.Joined
import Derived.Test.YtjjgkigajpocoaaGreatDoorTopFeesx
import Derived.Test.YtjjgkigajpocoaaGreatDoorTopFeesy
import Derived.Test.YtjjgkigajpocoaaGreatDoorTopFeesz
import Derived.Test.YtjjgkigajpocoaaGreatDoorTopFeesu
set_option linter.unusedVariables false
set_option linter.unusedSimpArgs false
namespace Go.Proofs.YtjjgkigajpocoaaGreatDoor.TopFeesProof
open Go.ChangeShapes Go.WideShapes Go.ChangeAt Go.RowKit
set_option maxRecDepth 100000
theorem dv : (Tryz.f4.params.toList ++ Rows.topFeesSpec.plain.varTypes n6).any (n6.loopsFrom ·) = Rows.topFeesRow.loops := by kernel_rfl
theorem fc : n6.stopsHeard = true := by kernel_rfl
theorem ji : n6.mayEnter = true := by kernel_rfl
theorem vn : n6.liftsFinal = Rows.topFeesRow.lifted := by kernel_rfl
end Go.Proofs.YtjjgkigajpocoaaGreatDoor.TopFeesProof
