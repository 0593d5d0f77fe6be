/- ForewomanDropped returns true for every input of bulk at most 1048576, and leaves its arguments as they were; the row lists variables, tied by the card. Condition: the bound on the bulk of what is read (the statement's own). -/
import Derived.Test.YtplfnoecifjgeaaGreatDoorDroppedG
import Derived.Test.YtplfnoecifjgeaaGreatDoorRows
import Derived.Test.YtplfnoecifjgeaaGreatDoorTie
import Derived.Test.YtplfnoecifjgeaaGreatDoorCards
import Derived.WalkKit
import Derived.ProofKit
import Derived.OpenShut
import Derived.LaidMore
import Derived.Lay
import Derived.SevenTiedAt
import Derived.Stop.Joined
import Derived.JoinedCond
import Derived.Test.YtplfnoecifjgeaaGreatDoorDroppedx
set_option linter.unusedVariables false
set_option linter.unusedSimpArgs false
namespace Go.Proofs.YtplfnoecifjgeaaGreatDoor.ForewomanDroppedProof
open Go.ChangeShapes Go.WideShapes Go.ChangeAt Go.RowKit Go.Fer Go.Fer.og
set_option maxRecDepth 100000
theorem a9 : true = lD.looks [] := by kernel_rfl
theorem hB : Rows.forewomanDroppedUptoRow.wfByText (Rows.OpenSpec.upto Rows.forewomanDroppedSpec) = true := by kernel_rfl
theorem aco : false = Rows.forewomanDroppedUptoRow.goesBy lD := by kernel_rfl
theorem Re : lD.funcNamed Rows.forewomanDroppedUptoRow.func = some 10 := by kernel_rfl
theorem dP : (Tryz.f10.params.toList ++ Rows.forewomanDroppedSpec.plain.varTypes lD).any (lD.loopsFrom ·) = Rows.forewomanDroppedUptoRow.loops := by kernel_rfl
theorem e2 : lD.stopsHeard = true := by kernel_rfl
theorem mH : lD.mayEnter = true := by kernel_rfl
theorem rW : lD.liftsFinal = Rows.forewomanDroppedUptoRow.lifted := by kernel_rfl
theorem Fb : lD.make = some Rows.forewomanDroppedUptoRow.make := by kernel_rfl
theorem acp : joinedFacts lD 10 Tryz.f10 Rows.forewomanDroppedSpec Rows.forewomanDroppedUptoRow = true := by
  unfold joinedFacts;rw[b9, a2, a3, a4, gw, gx, dP, e2, mH, rW, Fb];kernel_rfl
theorem acq : Tryz.f10.isInstance lD Rows.forewomanDroppedUptoRow.origin Rows.forewomanDroppedUptoRow.targs := of_decide_eq_true (by kernel_rfl)
theorem acr : Tryz.f10.isWrapper lD Rows.forewomanDroppedUptoRow.wrapper Rows.forewomanDroppedUptoRow.mainSum := by unfold Func.isWrapper; first | (rw[if_pos (by decide +kernel)]; kernel_rfl) | (rw[if_neg (by decide +kernel)]; exact⟨rfl, rfl⟩)
end Go.Proofs.YtplfnoecifjgeaaGreatDoor.ForewomanDroppedProof
