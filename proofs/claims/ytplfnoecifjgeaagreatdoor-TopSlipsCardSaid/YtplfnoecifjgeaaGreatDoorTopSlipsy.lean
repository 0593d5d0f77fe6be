/- TopSlips returns true for every input, and leaves its arguments as they were; the row lists variables, tied by the card. No condition. -/
import Derived.Test.YtplfnoecifjgeaaGreatDoorTopSlipsG
import Derived.Test.YtplfnoecifjgeaaGreatDoorRows
import Derived.Test.YtplfnoecifjgeaaGreatDoorTie
import Derived.Test.YtplfnoecifjgeaaGreatDoorCards
import Derived.WalkKit
import Derived.ProofKit
import Derived.OpenShut
import Derived.LaidMore
import Derived.Lay
import Derived.SevenTiedAt
import Derived.Stop.Joined
import Derived.Test.YtplfnoecifjgeaaGreatDoorTopSlipsx
set_option linter.unusedVariables false
set_option linter.unusedSimpArgs false
namespace Go.Proofs.YtplfnoecifjgeaaGreatDoor.TopSlipsProof
open Go.ChangeShapes Go.WideShapes Go.ChangeAt Go.RowKit Go.Fer Go.Fer.ox
set_option maxRecDepth 100000
theorem a9 : true = lP.looks [] := by kernel_rfl
theorem hD : Rows.topSlipsRow.wfByText (OpenSpec.ofChange Rows.topSlipsSpec) = true := by kernel_rfl
theorem acG : false = Rows.topSlipsRow.goesBy lP := by kernel_rfl
theorem a12 : lP.funcNamed Rows.topSlipsRow.func = some 4 := by kernel_rfl
theorem dO : (Tryz.f4.params.toList ++ Rows.topSlipsSpec.plain.varTypes lP).any (lP.loopsFrom ·) = Rows.topSlipsRow.loops := by kernel_rfl
theorem e3 : lP.stopsHeard = true := by kernel_rfl
theorem mS : lP.mayEnter = true := by kernel_rfl
theorem r5 : lP.liftsFinal = Rows.topSlipsRow.lifted := by kernel_rfl
theorem Fu : lP.make = some Rows.topSlipsRow.make := by kernel_rfl
theorem acH : joinedFacts lP 4 Tryz.f4 Rows.topSlipsSpec Rows.topSlipsRow = true := by
  unfold joinedFacts;rw[b6, a2, a3, a4, gA, gB, dO, e3, mS, r5, Fu];kernel_rfl
theorem acI : Tryz.f4.isInstance lP Rows.topSlipsRow.origin Rows.topSlipsRow.targs := of_decide_eq_true (by kernel_rfl)
theorem acJ : Tryz.f4.isWrapper lP Rows.topSlipsRow.wrapper Rows.topSlipsRow.mainSum := by unfold Func.isWrapper; first | (rw[if_pos (by decide +kernel)]; kernel_rfl) | (rw[if_neg (by decide +kernel)]; exact⟨rfl, rfl⟩)
end Go.Proofs.YtplfnoecifjgeaaGreatDoor.TopSlipsProof
