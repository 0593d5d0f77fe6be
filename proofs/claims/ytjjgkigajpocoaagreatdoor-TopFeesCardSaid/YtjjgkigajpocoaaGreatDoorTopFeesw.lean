/- TopFees returns true for every input, and leaves its arguments as they were; the row lists variables, tied by the card. No condition. -/
import Derived.Test.YtjjgkigajpocoaaGreatDoorRows
import Derived.Test.YtjjgkigajpocoaaGreatDoorTie
import Derived.Test.YtjjgkigajpocoaaGreatDoorCards
import Derived.WalkKit
import Derived.ProofKit
import Derived.OpenShut
import Derived.LaidMore
import Derived.Lay
import Derived.SevenTiedAt
import Derived.Stop.Joined
import Derived.Test.YtjjgkigajpocoaaGreatDoorTopFeesx
import Derived.Test.YtjjgkigajpocoaaGreatDoorTopFeesy
import Derived.Test.YtjjgkigajpocoaaGreatDoorTopFeesz
import Derived.Test.YtjjgkigajpocoaaGreatDoorTopFeesu
import Derived.Test.YtjjgkigajpocoaaGreatDoorTopFeesv
set_option linter.unusedVariables false
set_option linter.unusedSimpArgs false
namespace Go.Proofs.YtjjgkigajpocoaaGreatDoor.TopFeesProof
open Go.ChangeShapes Go.WideShapes Go.ChangeAt Go.RowKit
set_option maxRecDepth 100000
theorem J_ : n6.make = some Rows.topFeesRow.make := by kernel_rfl
theorem amW : joinedFacts n6 4 Tryz.f4 Rows.topFeesSpec Rows.topFeesRow = true := by
  unfold joinedFacts;rw[cH, b1, ek, gp, ir, iu, dv, fc, ji, vn, J_];kernel_rfl
theorem amX : Tryz.f4.isInstance n6 Rows.topFeesRow.origin Rows.topFeesRow.targs := of_decide_eq_true (by kernel_rfl)
theorem amY : Tryz.f4.isWrapper n6 Rows.topFeesRow.wrapper Rows.topFeesRow.mainSum := by unfold Func.isWrapper; first | (rw[if_pos (by decide +kernel)]; kernel_rfl) | (rw[if_neg (by decide +kernel)]; exact⟨rfl, rfl⟩)
end Go.Proofs.YtjjgkigajpocoaaGreatDoor.TopFeesProof
