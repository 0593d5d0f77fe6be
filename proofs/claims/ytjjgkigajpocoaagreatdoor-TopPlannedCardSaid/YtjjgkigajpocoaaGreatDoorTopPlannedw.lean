/- TopPlanned returns true for every input, and leaves its arguments as they were; the row lists variables, tied by the card. No condition. -/
import Derived.Test.YtjjgkigajpocoaaGreatDoorRows
import Derived.Test.YtjjgkigajpocoaaGreatDoorTie
import Derived.Test.YtjjgkigajpocoaaGreatDoorCards
import Derived.WalkKit
import Derived.ProofKit
import Derived.OpenShut
import Derived.LaidMore
import Derived.Lay
import Derived.SevenTiedAt
import Derived.Stop.Joined
import Derived.Test.YtjjgkigajpocoaaGreatDoorTopPlannedx
import Derived.Test.YtjjgkigajpocoaaGreatDoorTopPlannedy
import Derived.Test.YtjjgkigajpocoaaGreatDoorTopPlannedz
import Derived.Test.YtjjgkigajpocoaaGreatDoorTopPlannedu
import Derived.Test.YtjjgkigajpocoaaGreatDoorTopPlannedv
set_option linter.unusedVariables false
set_option linter.unusedSimpArgs false
namespace Go.Proofs.YtjjgkigajpocoaaGreatDoor.TopPlannedProof
open Go.ChangeShapes Go.WideShapes Go.ChangeAt Go.RowKit
set_option maxRecDepth 100000
theorem JQ : nV.make = some Rows.topPlannedRow.make := by kernel_rfl
theorem aml : joinedFacts nV 5 Tryz.f5 Rows.topPlannedSpec Rows.topPlannedRow = true := by
  unfold joinedFacts;rw[cr, b4, eh, gi, ih, ij, cT, fc, jf, u6, JQ];kernel_rfl
theorem amm : Tryz.f5.isInstance nV Rows.topPlannedRow.origin Rows.topPlannedRow.targs := of_decide_eq_true (by kernel_rfl)
theorem amn : Tryz.f5.isWrapper nV Rows.topPlannedRow.wrapper Rows.topPlannedRow.mainSum := by unfold Func.isWrapper; first | (rw[if_pos (by decide +kernel)]; kernel_rfl) | (rw[if_neg (by decide +kernel)]; exact⟨rfl, rfl⟩)
end Go.Proofs.YtjjgkigajpocoaaGreatDoor.TopPlannedProof
