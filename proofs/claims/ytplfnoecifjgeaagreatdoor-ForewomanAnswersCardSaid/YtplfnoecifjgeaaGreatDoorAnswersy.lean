/- ForewomanAnswers returns true for every input, and leaves its arguments as they were; the row lists variables, tied by the card. No condition. -/
import Derived.Test.YtplfnoecifjgeaaGreatDoorAnswersG
import Derived.Test.YtplfnoecifjgeaaGreatDoorRows
import Derived.Test.YtplfnoecifjgeaaGreatDoorTie
import Derived.Test.YtplfnoecifjgeaaGreatDoorCards
import Derived.WalkKit
import Derived.ProofKit
import Derived.OpenShut
import Derived.LaidMore
import Derived.Lay
import Derived.SevenTiedAt
import Derived.Stop.Joined
import Derived.Test.YtplfnoecifjgeaaGreatDoorAnswersx
set_option linter.unusedVariables false
set_option linter.unusedSimpArgs false
namespace Go.Proofs.YtplfnoecifjgeaaGreatDoor.ForewomanAnswersProof
open Go.ChangeShapes Go.WideShapes Go.ChangeAt Go.RowKit Go.Fer Go.Fer.oE
set_option maxRecDepth 100000
theorem a9 : true = lG.looks [] := by kernel_rfl
theorem hB : Rows.forewomanAnswersRow.wfByText (OpenSpec.ofChange Rows.forewomanAnswersSpec) = true := by kernel_rfl
theorem acO : false = Rows.forewomanAnswersRow.goesBy lG := by kernel_rfl
theorem a12 : lG.funcNamed Rows.forewomanAnswersRow.func = some 7 := by kernel_rfl
theorem dr : (Tryz.f7.params.toList ++ Rows.forewomanAnswersSpec.plain.varTypes lG).any (lG.loopsFrom ·) = Rows.forewomanAnswersRow.loops := by kernel_rfl
theorem eb : lG.stopsHeard = true := by kernel_rfl
theorem lH : lG.mayEnter = true := by kernel_rfl
theorem qj : lG.liftsFinal = Rows.forewomanAnswersRow.lifted := by kernel_rfl
theorem w3 : lG.make = some Rows.forewomanAnswersRow.make := by kernel_rfl
theorem acP : joinedFacts lG 7 Tryz.f7 Rows.forewomanAnswersSpec Rows.forewomanAnswersRow = true := by
  unfold joinedFacts;rw[b', a2, a3, a4, fX, gz, dr, eb, lH, qj, w3];kernel_rfl
theorem acQ : Tryz.f7.isInstance lG Rows.forewomanAnswersRow.origin Rows.forewomanAnswersRow.targs := of_decide_eq_true (by kernel_rfl)
theorem acR : Tryz.f7.isWrapper lG Rows.forewomanAnswersRow.wrapper Rows.forewomanAnswersRow.mainSum := by unfold Func.isWrapper; first | (rw[if_pos (by decide +kernel)]; kernel_rfl) | (rw[if_neg (by decide +kernel)]; exact⟨rfl, rfl⟩)
end Go.Proofs.YtplfnoecifjgeaaGreatDoor.ForewomanAnswersProof
