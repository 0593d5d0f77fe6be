/- FilesSeason returns true for every input, and leaves its arguments as they were; the row lists variables, tied by the card. No condition. -/
import Derived.Test.YtjjgkigajpocoaaGreatDoorRows
import Derived.Test.YtjjgkigajpocoaaGreatDoorTie
import Derived.Test.YtjjgkigajpocoaaGreatDoorCards
import Derived.WalkKit
import Derived.ProofKit
import Derived.OpenShut
import Derived.LaidMore
import Derived.Lay
import Derived.SevenTiedAt
import Derived.Stop.Joined
import Derived.Test.YtjjgkigajpocoaaGreatDoorFilesSeasonx
import Derived.Test.YtjjgkigajpocoaaGreatDoorFilesSeasony
import Derived.Test.YtjjgkigajpocoaaGreatDoorFilesSeasonz
import Derived.Test.YtjjgkigajpocoaaGreatDoorFilesSeasonu
set_option linter.unusedVariables false
set_option linter.unusedSimpArgs false
namespace Go.Proofs.YtjjgkigajpocoaaGreatDoor.FilesSeasonProof
open Go.ChangeShapes Go.WideShapes Go.ChangeAt Go.RowKit
set_option maxRecDepth 100000
theorem cY : (Tryz.f3.params.toList ++ Rows.filesSeasonSpec.plain.varTypes nT).any (nT.loopsFrom ·) = Rows.filesSeasonRow.loops := by kernel_rfl
theorem fe : nT.stopsHeard = true := by kernel_rfl
theorem iV : nT.mayEnter = true := by kernel_rfl
theorem u6 : nT.liftsFinal = Rows.filesSeasonRow.lifted := by kernel_rfl
end Go.Proofs.YtjjgkigajpocoaaGreatDoor.FilesSeasonProof
