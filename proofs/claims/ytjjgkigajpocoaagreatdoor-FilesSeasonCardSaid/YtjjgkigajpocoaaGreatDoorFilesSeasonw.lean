/- FilesSeason returns true for every input, and leaves its arguments as they were; the row lists variables, tied by the card. No condition. -/
import Derived.Test.YtjjgkigajpocoaaGreatDoorRows
import Derived.Test.YtjjgkigajpocoaaGreatDoorTie
import Derived.Test.YtjjgkigajpocoaaGreatDoorCards
import Derived.WalkKit
import Derived.ProofKit
import Derived.OpenShut
import Derived.LaidMore
import Derived.Lay
import Derived.SevenTiedAt
import Derived.Stop.Joined
import Derived.Test.YtjjgkigajpocoaaGreatDoorFilesSeasonx
import Derived.Test.YtjjgkigajpocoaaGreatDoorFilesSeasony
import Derived.Test.YtjjgkigajpocoaaGreatDoorFilesSeasonz
import Derived.Test.YtjjgkigajpocoaaGreatDoorFilesSeasonu
import Derived.Test.YtjjgkigajpocoaaGreatDoorFilesSeasonv
set_option linter.unusedVariables false
set_option linter.unusedSimpArgs false
namespace Go.Proofs.YtjjgkigajpocoaaGreatDoor.FilesSeasonProof
open Go.ChangeShapes Go.WideShapes Go.ChangeAt Go.RowKit
set_option maxRecDepth 100000
theorem JJ : nT.make = some Rows.filesSeasonRow.make := by kernel_rfl
theorem aml : joinedFacts nT 3 Tryz.f3 Rows.filesSeasonSpec Rows.filesSeasonRow = true := by
  unfold joinedFacts;rw[cw, b2, ef, gj, ig, ih, cY, fe, iV, u6, JJ];kernel_rfl
theorem amm : Tryz.f3.isInstance nT Rows.filesSeasonRow.origin Rows.filesSeasonRow.targs := of_decide_eq_true (by kernel_rfl)
theorem amn : Tryz.f3.isWrapper nT Rows.filesSeasonRow.wrapper Rows.filesSeasonRow.mainSum := by unfold Func.isWrapper; first | (rw[if_pos (by decide +kernel)]; kernel_rfl) | (rw[if_neg (by decide +kernel)]; exact⟨rfl, rfl⟩)
end Go.Proofs.YtjjgkigajpocoaaGreatDoor.FilesSeasonProof
