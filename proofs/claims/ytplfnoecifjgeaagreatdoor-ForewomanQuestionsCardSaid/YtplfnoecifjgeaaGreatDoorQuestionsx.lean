/- ForewomanQuestions returns true for every input, and leaves its arguments as they were; the row lists variables, tied by the card. No condition. -/
import Derived.Test.YtplfnoecifjgeaaGreatDoorQuestionsG
import Derived.Test.YtplfnoecifjgeaaGreatDoorRows
import Derived.Test.YtplfnoecifjgeaaGreatDoorTie
import Derived.Test.YtplfnoecifjgeaaGreatDoorCards
import Derived.WalkKit
import Derived.ProofKit
import Derived.OpenShut
import Derived.LaidMore
import Derived.Lay
import Derived.SevenTiedAt
import Derived.Stop.Joined
namespace Go.Proofs.YtplfnoecifjgeaaGreatDoor.ForewomanQuestionsProof
open Go.ChangeShapes Go.WideShapes Go.ChangeAt Go.RowKit Go.Fer Go.Fer.n_
set_option linter.unusedVariables false
set_option maxRecDepth 100000
noncomputable abbrev lx : Program := Tryz.pinned.checked.prog
theorem ca : lx.inPlace 8 = Rows.forewomanQuestionsRow.inPlace := by kernel_rfl
theorem a2 : lx.unfollowed 8 = Rows.forewomanQuestionsRow.unfollowed := by kernel_rfl
theorem a3 : lx.recurses 8 = Rows.forewomanQuestionsRow.recurses := by kernel_rfl
theorem a4 : lx.varsNamed 8 = Rows.forewomanQuestionsRow.named := by kernel_rfl
theorem gn : laidOutB lx = true := by kernel_rfl
theorem gp : mapsRowed lx = true := by kernel_rfl
end Go.Proofs.YtplfnoecifjgeaaGreatDoor.ForewomanQuestionsProof
