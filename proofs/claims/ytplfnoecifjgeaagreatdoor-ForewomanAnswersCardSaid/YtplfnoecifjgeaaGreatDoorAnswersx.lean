/- ForewomanAnswers returns true for every input, and leaves its arguments as they were; the row lists variables, tied by the card. No condition. -/
import Derived.Test.YtplfnoecifjgeaaGreatDoorAnswersG
import Derived.Test.YtplfnoecifjgeaaGreatDoorRows
import Derived.Test.YtplfnoecifjgeaaGreatDoorTie
import Derived.Test.YtplfnoecifjgeaaGreatDoorCards
import Derived.WalkKit
import Derived.ProofKit
import Derived.OpenShut
import Derived.LaidMore
import Derived.Lay
import Derived.SevenTiedAt
import Derived.Stop.Joined
set_option linter.unusedVariables false
set_option linter.unusedSimpArgs false
namespace Go.Proofs.YtplfnoecifjgeaaGreatDoor.ForewomanAnswersProof
open Go.ChangeShapes Go.WideShapes Go.ChangeAt Go.RowKit Go.Fer Go.Fer.oE
set_option maxRecDepth 100000
noncomputable abbrev lG : Program := Tryz.pinned.checked.prog
theorem b' : lG.inPlace 7 = Rows.forewomanAnswersRow.inPlace := by kernel_rfl
theorem a2 : lG.unfollowed 7 = Rows.forewomanAnswersRow.unfollowed := by kernel_rfl
theorem a3 : lG.recurses 7 = Rows.forewomanAnswersRow.recurses := by kernel_rfl
theorem a4 : lG.varsNamed 7 = Rows.forewomanAnswersRow.named := by kernel_rfl
theorem fX : laidOutB lG = true := by kernel_rfl
theorem gz : mapsRowed lG = true := by kernel_rfl
end Go.Proofs.YtplfnoecifjgeaaGreatDoor.ForewomanAnswersProof
