/- ForewomanReplayed returns true for every input, and leaves its arguments as they were; the row lists variables, tied by the card. No condition. -/
import Derived.Test.YtplfnoecifjgeaaGreatDoorReplayedG
import Derived.Test.YtplfnoecifjgeaaGreatDoorRows
import Derived.Test.YtplfnoecifjgeaaGreatDoorTie
import Derived.Test.YtplfnoecifjgeaaGreatDoorCards
import Derived.WalkKit
import Derived.ProofKit
import Derived.OpenShut
import Derived.LaidMore
import Derived.Lay
import Derived.SevenTiedAt
import Derived.Stop.Joined
import Derived.Test.YtplfnoecifjgeaaGreatDoorReplayedx
set_option linter.unusedVariables false
set_option linter.unusedSimpArgs false
namespace Go.Proofs.YtplfnoecifjgeaaGreatDoor.ForewomanReplayedProof
open Go.ChangeShapes Go.WideShapes Go.ChangeAt Go.RowKit Go.Fer Go.Fer.nV
set_option maxRecDepth 100000
theorem a9 : true = lf.looks [] := by kernel_rfl
theorem hb : Rows.forewomanReplayedRow.wfByText (OpenSpec.ofChange Rows.forewomanReplayedSpec) = true := by kernel_rfl
theorem abA : false = Rows.forewomanReplayedRow.goesBy lf := by kernel_rfl
theorem Qy : lf.funcNamed Rows.forewomanReplayedRow.func = some 11 := by kernel_rfl
theorem dd : (Tryz.f11.params.toList ++ Rows.forewomanReplayedSpec.plain.varTypes lf).any (lf.loopsFrom ·) = Rows.forewomanReplayedRow.loops := by kernel_rfl
theorem dV : lf.stopsHeard = true := by kernel_rfl
theorem j8 : lf.mayEnter = true := by kernel_rfl
theorem nh : lf.liftsFinal = Rows.forewomanReplayedRow.lifted := by kernel_rfl
theorem sQ : lf.make = some Rows.forewomanReplayedRow.make := by kernel_rfl
theorem abB : joinedFacts lf 11 Tryz.f11 Rows.forewomanReplayedSpec Rows.forewomanReplayedRow = true := by
  unfold joinedFacts;rw[bT, a2, a3, a4, fW, fX, dd, dV, j8, nh, sQ];kernel_rfl
theorem abC : Tryz.f11.isInstance lf Rows.forewomanReplayedRow.origin Rows.forewomanReplayedRow.targs := of_decide_eq_true (by kernel_rfl)
theorem abD : Tryz.f11.isWrapper lf Rows.forewomanReplayedRow.wrapper Rows.forewomanReplayedRow.mainSum := by unfold Func.isWrapper; first | (rw[if_pos (by decide +kernel)]; kernel_rfl) | (rw[if_neg (by decide +kernel)]; exact⟨rfl, rfl⟩)
end Go.Proofs.YtplfnoecifjgeaaGreatDoor.ForewomanReplayedProof
