/- ForewomanHalves returns true for every input, and leaves its arguments as they were; the row lists variables, tied by the card. No condition. -/
import Derived.Test.YtplfnoecifjgeaaGreatDoorHalvesG
import Derived.Test.YtplfnoecifjgeaaGreatDoorRows
import Derived.Test.YtplfnoecifjgeaaGreatDoorTie
import Derived.Test.YtplfnoecifjgeaaGreatDoorCards
import Derived.WalkKit
import Derived.ProofKit
import Derived.OpenShut
import Derived.LaidMore
import Derived.Lay
import Derived.SevenTiedAt
import Derived.Stop.Joined
import Derived.Test.YtplfnoecifjgeaaGreatDoorHalvesx
set_option linter.unusedVariables false
set_option linter.unusedSimpArgs false
namespace Go.Proofs.YtplfnoecifjgeaaGreatDoor.ForewomanHalvesProof
open Go.ChangeShapes Go.WideShapes Go.ChangeAt Go.RowKit Go.Fer Go.Fer.nT
set_option maxRecDepth 100000
theorem a9 : true = la.looks [] := by kernel_rfl
theorem ha : Rows.forewomanHalvesRow.wfByText (OpenSpec.ofChange Rows.forewomanHalvesSpec) = true := by kernel_rfl
theorem abq : false = Rows.forewomanHalvesRow.goesBy la := by kernel_rfl
theorem Qv : la.funcNamed Rows.forewomanHalvesRow.func = some 5 := by kernel_rfl
theorem dr : (Tryz.f5.params.toList ++ Rows.forewomanHalvesSpec.plain.varTypes la).any (la.loopsFrom ·) = Rows.forewomanHalvesRow.loops := by kernel_rfl
theorem eC : la.stopsHeard = true := by kernel_rfl
theorem mi : la.mayEnter = true := by kernel_rfl
theorem rs : la.liftsFinal = Rows.forewomanHalvesRow.lifted := by kernel_rfl
theorem EA : la.make = some Rows.forewomanHalvesRow.make := by kernel_rfl
theorem abr : joinedFacts la 5 Tryz.f5 Rows.forewomanHalvesSpec Rows.forewomanHalvesRow = true := by
  unfold joinedFacts;rw[bT, a2, a3, a4, fV, fW, dr, eC, mi, rs, EA];kernel_rfl
theorem abt : Tryz.f5.isInstance la Rows.forewomanHalvesRow.origin Rows.forewomanHalvesRow.targs := of_decide_eq_true (by kernel_rfl)
theorem abu : Tryz.f5.isWrapper la Rows.forewomanHalvesRow.wrapper Rows.forewomanHalvesRow.mainSum := by unfold Func.isWrapper; first | (rw[if_pos (by decide +kernel)]; kernel_rfl) | (rw[if_neg (by decide +kernel)]; exact⟨rfl, rfl⟩)
end Go.Proofs.YtplfnoecifjgeaaGreatDoor.ForewomanHalvesProof
