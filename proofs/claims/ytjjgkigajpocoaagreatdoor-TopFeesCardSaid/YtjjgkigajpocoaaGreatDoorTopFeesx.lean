/- TopFees returns true for every input, and leaves its arguments as they were; the row lists variables, tied by the card. No condition. -/
import Derived.Test.YtjjgkigajpocoaaGreatDoorRows
import Derived.Test.YtjjgkigajpocoaaGreatDoorTie
import Derived.Test.YtjjgkigajpocoaaGreatDoorCards
import Derived.WalkKit
import Derived.ProofKit
import Derived.OpenShut
import Derived.LaidMore
import Derived.Lay
import Derived.SevenTiedAt
import Derived.Stop.Joined
set_option linter.unusedVariables false
set_option linter.unusedSimpArgs false
namespace Go.Proofs.YtjjgkigajpocoaaGreatDoor.TopFeesProof
open Go.ChangeShapes Go.WideShapes Go.ChangeAt Go.RowKit
set_option maxRecDepth 100000
noncomputable abbrev n6 : Program := Tryz.pinned.checked.prog
theorem cH : n6.inPlace 4 = Rows.topFeesRow.inPlace := by kernel_rfl
theorem b1 : n6.unfollowed 4 = Rows.topFeesRow.unfollowed := by kernel_rfl
theorem ek : n6.recurses 4 = Rows.topFeesRow.recurses := by kernel_rfl
end Go.Proofs.YtjjgkigajpocoaaGreatDoor.TopFeesProof
