/- TopTrials returns true for every input, and leaves its arguments as they were; the row lists variables, tied by the card. No condition. -/
import Derived.Test.YtplfnoecifjgeaaGreatDoorTopTrialsG
import Derived.Test.YtplfnoecifjgeaaGreatDoorRows
import Derived.Test.YtplfnoecifjgeaaGreatDoorTie
import Derived.Test.YtplfnoecifjgeaaGreatDoorCards
import Derived.WalkKit
import Derived.ProofKit
import Derived.OpenShut
import Derived.LaidMore
import Derived.Lay
import Derived.SevenTiedAt
import Derived.Stop.Joined
import Derived.Test.YtplfnoecifjgeaaGreatDoorTopTrialsx
set_option linter.unusedVariables false
set_option linter.unusedSimpArgs false
namespace Go.Proofs.YtplfnoecifjgeaaGreatDoor.TopTrialsProof
open Go.ChangeShapes Go.WideShapes Go.ChangeAt Go.RowKit Go.Fer Go.Fer.oe
set_option maxRecDepth 100000
theorem a9 : true = lH.looks [] := by kernel_rfl
theorem hz : Rows.topTrialsRow.wfByText (OpenSpec.ofChange Rows.topTrialsSpec) = true := by kernel_rfl
theorem acs : false = Rows.topTrialsRow.goesBy lH := by kernel_rfl
theorem a12 : lH.funcNamed Rows.topTrialsRow.func = some 3 := by kernel_rfl
theorem dN : (Tryz.f3.params.toList ++ Rows.topTrialsSpec.plain.varTypes lH).any (lH.loopsFrom ·) = Rows.topTrialsRow.loops := by kernel_rfl
theorem e0 : lH.stopsHeard = true := by kernel_rfl
theorem mJ : lH.mayEnter = true := by kernel_rfl
theorem rY : lH.liftsFinal = Rows.topTrialsRow.lifted := by kernel_rfl
theorem Fi : lH.make = some Rows.topTrialsRow.make := by kernel_rfl
theorem acu : joinedFacts lH 3 Tryz.f3 Rows.topTrialsSpec Rows.topTrialsRow = true := by
  unfold joinedFacts;rw[b8, a2, a3, a4, fG, fH, dN, e0, mJ, rY, Fi];kernel_rfl
theorem acv : Tryz.f3.isInstance lH Rows.topTrialsRow.origin Rows.topTrialsRow.targs := of_decide_eq_true (by kernel_rfl)
theorem acw : Tryz.f3.isWrapper lH Rows.topTrialsRow.wrapper Rows.topTrialsRow.mainSum := by unfold Func.isWrapper; first | (rw[if_pos (by decide +kernel)]; kernel_rfl) | (rw[if_neg (by decide +kernel)]; exact⟨rfl, rfl⟩)
end Go.Proofs.YtplfnoecifjgeaaGreatDoor.TopTrialsProof
