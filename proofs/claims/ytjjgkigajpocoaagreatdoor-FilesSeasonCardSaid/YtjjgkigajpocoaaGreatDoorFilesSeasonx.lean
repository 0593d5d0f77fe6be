/- FilesSeason returns true for every input, and leaves its arguments as they were; the row lists variables, tied by the card. No condition. -/
import Derived.Test.YtjjgkigajpocoaaGreatDoorRows
import Derived.Test.YtjjgkigajpocoaaGreatDoorTie
import Derived.Test.YtjjgkigajpocoaaGreatDoorCards
import Derived.WalkKit
import Derived.ProofKit
import Derived.OpenShut
import Derived.LaidMore
import Derived.Lay
import Derived.SevenTiedAt
import Derived.Stop.Joined
set_option linter.unusedVariables false
set_option linter.unusedSimpArgs false
namespace Go.Proofs.YtjjgkigajpocoaaGreatDoor.FilesSeasonProof
open Go.ChangeShapes Go.WideShapes Go.ChangeAt Go.RowKit
set_option maxRecDepth 100000
noncomputable abbrev nT : Program := Tryz.pinned.checked.prog
theorem cw : nT.inPlace 3 = Rows.filesSeasonRow.inPlace := by kernel_rfl
theorem b2 : nT.unfollowed 3 = Rows.filesSeasonRow.unfollowed := by kernel_rfl
theorem ef : nT.recurses 3 = Rows.filesSeasonRow.recurses := by kernel_rfl
end Go.Proofs.YtjjgkigajpocoaaGreatDoor.FilesSeasonProof
