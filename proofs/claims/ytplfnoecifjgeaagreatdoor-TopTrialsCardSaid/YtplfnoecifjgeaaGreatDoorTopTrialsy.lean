/- TopTrials returns true for every input, and leaves its arguments as they were; the row lists variables, tied by the card. No condition. -/
import Derived.Test.YtplfnoecifjgeaaGreatDoorTopTrialsG
import Derived.Test.YtplfnoecifjgeaaGreatDoorRows
import Derived.Test.YtplfnoecifjgeaaGreatDoorTie
import Derived.Test.YtplfnoecifjgeaaGreatDoorCards
import Derived.WalkKit
import Derived.ProofKit
import Derived.OpenShut
import Derived.LaidMore
import Derived.Lay
import Derived.SevenTiedAt
import Derived.Stop.Joined
import Derived.Test.YtplfnoecifjgeaaGreatDoorTopTrialsx
set_option linter.unusedVariables false
set_option linter.unusedSimpArgs false
namespace Go.Proofs.YtplfnoecifjgeaaGreatDoor.TopTrialsProof
open Go.ChangeShapes Go.WideShapes Go.ChangeAt Go.RowKit Go.Fer Go.Fer.oi
set_option maxRecDepth 100000
theorem a9 : true = lJ.qQ [] := by kernel_rfl
theorem hA : Rows.topTrialsRow.wfByText (OpenSpec.ofChange Rows.topTrialsSpec) = true := by kernel_rfl
theorem acx : false = Rows.topTrialsRow.goesBy lJ := by kernel_rfl
theorem a12 : lJ.funcNamed Rows.topTrialsRow.func = some 3 := by kernel_rfl
theorem dO : (Tryz.f3.params.toList ++ Rows.topTrialsSpec.plain.varTypes lJ).any (lJ.loopsFrom ·) = Rows.topTrialsRow.loops := by kernel_rfl
theorem e1 : lJ.stopsHeard = true := by kernel_rfl
theorem mM : lJ.mayEnter = true := by kernel_rfl
theorem r2 : lJ.liftsFinal = Rows.topTrialsRow.lifted := by kernel_rfl
theorem Fm : lJ.make = some Rows.topTrialsRow.make := by kernel_rfl
theorem acy : joinedFacts lJ 3 Tryz.f3 Rows.topTrialsSpec Rows.topTrialsRow = true := by
  unfold joinedFacts;rw[b9, a2, a3, a4, fH, fI, dO, e1, mM, r2, Fm];kernel_rfl
theorem acz : Tryz.f3.isInstance lJ Rows.topTrialsRow.origin Rows.topTrialsRow.targs := of_decide_eq_true (by kernel_rfl)
theorem acA : Tryz.f3.isWrapper lJ Rows.topTrialsRow.wrapper Rows.topTrialsRow.mainSum := by unfold Func.isWrapper; first | (rw[if_pos (by decide +kernel)]; kernel_rfl) | (rw[if_neg (by decide +kernel)]; exact⟨rfl, rfl⟩)
end Go.Proofs.YtplfnoecifjgeaaGreatDoor.TopTrialsProof
