/- ForewomanAnswers returns true for every input, and leaves its arguments as they were; the row lists variables, tied by the card. No condition. -/
import Derived.Test.YtplfnoecifjgeaaGreatDoorAnswersG
import Derived.Test.YtplfnoecifjgeaaGreatDoorRows
import Derived.Test.YtplfnoecifjgeaaGreatDoorTie
import Derived.Test.YtplfnoecifjgeaaGreatDoorCards
import Derived.WalkKit
import Derived.ProofKit
import Derived.OpenShut
import Derived.LaidMore
import Derived.Lay
import Derived.SevenTiedAt
import Derived.Stop.Joined
import Derived.Test.YtplfnoecifjgeaaGreatDoorAnswersx
set_option linter.unusedVariables false
set_option linter.unusedSimpArgs false
namespace Go.Proofs.YtplfnoecifjgeaaGreatDoor.ForewomanAnswersProof
open Go.ChangeShapes Go.WideShapes Go.ChangeAt Go.RowKit Go.Fer Go.Fer.oG
set_option maxRecDepth 100000
theorem a9 : true = lI.rh [] := by kernel_rfl
theorem hC : Rows.forewomanAnswersRow.wfByText (OpenSpec.ofChange Rows.forewomanAnswersSpec) = true := by kernel_rfl
theorem acS : false = Rows.forewomanAnswersRow.goesBy lI := by kernel_rfl
theorem a12 : lI.funcNamed Rows.forewomanAnswersRow.func = some 7 := by kernel_rfl
theorem ds : (Tryz.f7.params.toList ++ Rows.forewomanAnswersSpec.plain.varTypes lI).any (lI.loopsFrom ·) = Rows.forewomanAnswersRow.loops := by kernel_rfl
theorem ec : lI.stopsHeard = true := by kernel_rfl
theorem lJ : lI.mayEnter = true := by kernel_rfl
theorem qm : lI.liftsFinal = Rows.forewomanAnswersRow.lifted := by kernel_rfl
theorem w7 : lI.make = some Rows.forewomanAnswersRow.make := by kernel_rfl
theorem acT : joinedFacts lI 7 Tryz.f7 Rows.forewomanAnswersSpec Rows.forewomanAnswersRow = true := by
  unfold joinedFacts;rw[ca, a2, a3, a4, fY, gA, ds, ec, lJ, qm, w7];kernel_rfl
theorem acU : Tryz.f7.isInstance lI Rows.forewomanAnswersRow.origin Rows.forewomanAnswersRow.targs := of_decide_eq_true (by kernel_rfl)
theorem acV : Tryz.f7.isWrapper lI Rows.forewomanAnswersRow.wrapper Rows.forewomanAnswersRow.mainSum := by unfold Func.isWrapper; first | (rw[if_pos (by decide +kernel)]; kernel_rfl) | (rw[if_neg (by decide +kernel)]; exact⟨rfl, rfl⟩)
end Go.Proofs.YtplfnoecifjgeaaGreatDoor.ForewomanAnswersProof
