/- ForewomanQuestions returns true for every input, and leaves its arguments as they were; the row lists variables, tied by the card. No condition. -/
import Derived.Test.YtplfnoecifjgeaaGreatDoorQuestionsG
import Derived.Test.YtplfnoecifjgeaaGreatDoorRows
import Derived.Test.YtplfnoecifjgeaaGreatDoorTie
import Derived.Test.YtplfnoecifjgeaaGreatDoorCards
import Derived.WalkKit
import Derived.ProofKit
import Derived.OpenShut
import Derived.LaidMore
import Derived.Lay
import Derived.SevenTiedAt
import Derived.Stop.Joined
import Derived.Test.YtplfnoecifjgeaaGreatDoorQuestionsx
namespace Go.Proofs.YtplfnoecifjgeaaGreatDoor.ForewomanQuestionsProof
open Go.ChangeShapes Go.WideShapes Go.ChangeAt Go.RowKit Go.Fer Go.Fer.n_
set_option linter.unusedVariables false
set_option maxRecDepth 100000
theorem a9 : true = lx.looks [] := by kernel_rfl
theorem hx : Rows.forewomanQuestionsRow.wfByText (OpenSpec.ofChange Rows.forewomanQuestionsSpec) = true := by kernel_rfl
theorem abD : false = Rows.forewomanQuestionsRow.goesBy lx := by kernel_rfl
theorem QM : lx.funcNamed Rows.forewomanQuestionsRow.func = some 8 := by kernel_rfl
theorem dB : (Tryz.f8.params.toList ++ Rows.forewomanQuestionsSpec.plain.varTypes lx).any (lx.loopsFrom ·) = Rows.forewomanQuestionsRow.loops := by kernel_rfl
theorem eu : lx.stopsHeard = true := by kernel_rfl
theorem kj : lx.mayEnter = true := by kernel_rfl
theorem nx : lx.liftsFinal = Rows.forewomanQuestionsRow.lifted := by kernel_rfl
theorem s5 : lx.make = some Rows.forewomanQuestionsRow.make := by kernel_rfl
theorem abE : joinedFacts lx 8 Tryz.f8 Rows.forewomanQuestionsSpec Rows.forewomanQuestionsRow = true := by
  unfold joinedFacts;rw [ca, a2, a3, a4, gn, gp, dB, eu, kj, nx, s5];kernel_rfl
theorem abF : Tryz.f8.isInstance lx Rows.forewomanQuestionsRow.origin Rows.forewomanQuestionsRow.targs := of_decide_eq_true (by kernel_rfl)
theorem abG : Tryz.f8.isWrapper lx Rows.forewomanQuestionsRow.wrapper Rows.forewomanQuestionsRow.mainSum := by unfold Func.isWrapper; first | (rw [if_pos (by decide +kernel)]; kernel_rfl) | (rw [if_neg (by decide +kernel)]; exact ⟨rfl, rfl⟩)
end Go.Proofs.YtplfnoecifjgeaaGreatDoor.ForewomanQuestionsProof
