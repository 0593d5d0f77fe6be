/- ForewomanSlips returns true for every input, and leaves its arguments as they were; the row lists variables, tied by the card. No condition. -/
import Derived.Test.YtplfnoecifjgeaaGreatDoorSlipsG
import Derived.Test.YtplfnoecifjgeaaGreatDoorRows
import Derived.Test.YtplfnoecifjgeaaGreatDoorTie
import Derived.Test.YtplfnoecifjgeaaGreatDoorCards
import Derived.WalkKit
import Derived.ProofKit
import Derived.OpenShut
import Derived.LaidMore
import Derived.Lay
import Derived.SevenTiedAt
import Derived.Stop.Joined
import Derived.Test.YtplfnoecifjgeaaGreatDoorSlipsx
set_option linter.unusedVariables false
set_option linter.unusedSimpArgs false
namespace Go.Proofs.YtplfnoecifjgeaaGreatDoor.ForewomanSlipsProof
open Go.ChangeShapes Go.WideShapes Go.ChangeAt Go.RowKit Go.Fer Go.Fer.n3
set_option maxRecDepth 100000
theorem a9 : true = ls.looks [] := by kernel_rfl
theorem hh : Rows.forewomanSlipsRow.wfByText (OpenSpec.ofChange Rows.forewomanSlipsSpec) = true := by kernel_rfl
theorem ab3 : false = Rows.forewomanSlipsRow.goesBy ls := by kernel_rfl
theorem QW : ls.funcNamed Rows.forewomanSlipsRow.func = some 6 := by kernel_rfl
theorem dd : (Tryz.f6.params.toList ++ Rows.forewomanSlipsSpec.plain.varTypes ls).any (ls.loopsFrom ·) = Rows.forewomanSlipsRow.loops := by kernel_rfl
theorem dN : ls.stopsHeard = true := by kernel_rfl
theorem kf : ls.mayEnter = true := by kernel_rfl
theorem np : ls.liftsFinal = Rows.forewomanSlipsRow.lifted := by kernel_rfl
theorem sY : ls.make = some Rows.forewomanSlipsRow.make := by kernel_rfl
theorem ab4 : joinedFacts ls 6 Tryz.f6 Rows.forewomanSlipsSpec Rows.forewomanSlipsRow = true := by
  unfold joinedFacts;rw[bR, a2, a3, a4, fY, fZ, dd, dN, kf, np, sY];kernel_rfl
theorem ab5 : Tryz.f6.isInstance ls Rows.forewomanSlipsRow.origin Rows.forewomanSlipsRow.targs := of_decide_eq_true (by kernel_rfl)
theorem ab6 : Tryz.f6.isWrapper ls Rows.forewomanSlipsRow.wrapper Rows.forewomanSlipsRow.mainSum := by unfold Func.isWrapper; first | (rw[if_pos (by decide +kernel)]; kernel_rfl) | (rw[if_neg (by decide +kernel)]; exact⟨rfl, rfl⟩)
end Go.Proofs.YtplfnoecifjgeaaGreatDoor.ForewomanSlipsProof
