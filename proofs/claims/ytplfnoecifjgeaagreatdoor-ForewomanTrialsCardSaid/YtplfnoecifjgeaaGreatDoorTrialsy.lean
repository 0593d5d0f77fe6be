/- ForewomanTrials returns true for every input, and leaves its arguments as they were; the row lists variables, tied by the card. No condition. -/
import Derived.Test.YtplfnoecifjgeaaGreatDoorTrialsG
import Derived.Test.YtplfnoecifjgeaaGreatDoorRows
import Derived.Test.YtplfnoecifjgeaaGreatDoorTie
import Derived.Test.YtplfnoecifjgeaaGreatDoorCards
import Derived.WalkKit
import Derived.ProofKit
import Derived.OpenShut
import Derived.LaidMore
import Derived.Lay
import Derived.SevenTiedAt
import Derived.Stop.Joined
import Derived.Test.YtplfnoecifjgeaaGreatDoorTrialsx
set_option linter.unusedVariables false
set_option linter.unusedSimpArgs false
namespace Go.Proofs.YtplfnoecifjgeaaGreatDoor.ForewomanTrialsProof
open Go.ChangeShapes Go.WideShapes Go.ChangeAt Go.RowKit Go.Fer Go.Fer.nZ
set_option maxRecDepth 100000
theorem a9 : true = lk.looks [] := by kernel_rfl
theorem hh : Rows.forewomanTrialsRow.wfByText (OpenSpec.ofChange Rows.forewomanTrialsSpec) = true := by kernel_rfl
theorem abY : false = Rows.forewomanTrialsRow.goesBy lk := by kernel_rfl
theorem QL : lk.funcNamed Rows.forewomanTrialsRow.func = some 9 := by kernel_rfl
theorem dt : (Tryz.f9.params.toList ++ Rows.forewomanTrialsSpec.plain.varTypes lk).any (lk.loopsFrom ·) = Rows.forewomanTrialsRow.loops := by kernel_rfl
theorem eG : lk.stopsHeard = true := by kernel_rfl
theorem mr : lk.mayEnter = true := by kernel_rfl
theorem rE : lk.liftsFinal = Rows.forewomanTrialsRow.lifted := by kernel_rfl
theorem EP : lk.make = some Rows.forewomanTrialsRow.make := by kernel_rfl
theorem abZ : joinedFacts lk 9 Tryz.f9 Rows.forewomanTrialsSpec Rows.forewomanTrialsRow = true := by
  unfold joinedFacts;rw[bV, a2, a3, a4, f', ga, dt, eG, mr, rE, EP];kernel_rfl
theorem ab0 : Tryz.f9.isInstance lk Rows.forewomanTrialsRow.origin Rows.forewomanTrialsRow.targs := of_decide_eq_true (by kernel_rfl)
theorem ab1 : Tryz.f9.isWrapper lk Rows.forewomanTrialsRow.wrapper Rows.forewomanTrialsRow.mainSum := by unfold Func.isWrapper; first | (rw[if_pos (by decide +kernel)]; kernel_rfl) | (rw[if_neg (by decide +kernel)]; exact⟨rfl, rfl⟩)
end Go.Proofs.YtplfnoecifjgeaaGreatDoor.ForewomanTrialsProof
