/- ForewomanLines returns true for every input, and leaves its arguments as they were; the row lists variables, tied by the card. No condition. -/
import Derived.Test.YtplfnoecifjgeaaGreatDoorRows
import Derived.Test.YtplfnoecifjgeaaGreatDoorTie
import Derived.Test.YtplfnoecifjgeaaGreatDoorCards
import Derived.WalkKit
import Derived.ProofKit
import Derived.OpenShut
import Derived.LaidMore
import Derived.Lay
import Derived.SevenTiedAt
import Derived.Stop.Joined
import Derived.Test.YtplfnoecifjgeaaGreatDoorLinesx
import Derived.Test.YtplfnoecifjgeaaGreatDoorLinesy
import Derived.Test.YtplfnoecifjgeaaGreatDoorLinesz
import Derived.Test.YtplfnoecifjgeaaGreatDoorLinesu
import Derived.Test.YtplfnoecifjgeaaGreatDoorLinesv
set_option linter.unusedVariables false
set_option linter.unusedSimpArgs false
namespace Go.Proofs.YtplfnoecifjgeaaGreatDoor.ForewomanLinesProof
open Go.ChangeShapes Go.WideShapes Go.ChangeAt Go.RowKit
set_option maxRecDepth 100000
theorem Be : ni.make = some Rows.forewomanLinesRow.make := by kernel_rfl
theorem aji : joinedFacts ni 12 Tryz.f12 Rows.forewomanLinesSpec Rows.forewomanLinesRow = true := by
  unfold joinedFacts;rw[cd, a2, a3, a4, hF, hG, cm, eX, kx, tO, Be];kernel_rfl
theorem ajj : Tryz.f12.isInstance ni Rows.forewomanLinesRow.origin Rows.forewomanLinesRow.targs := of_decide_eq_true (by kernel_rfl)
theorem ajk : Tryz.f12.isWrapper ni Rows.forewomanLinesRow.wrapper Rows.forewomanLinesRow.mainSum := by unfold Func.isWrapper; first | (rw[if_pos (by decide +kernel)]; kernel_rfl) | (rw[if_neg (by decide +kernel)]; exact⟨rfl, rfl⟩)
end Go.Proofs.YtplfnoecifjgeaaGreatDoor.ForewomanLinesProof
