/- ForewomanLines returns true for every input, and leaves its arguments as they were; the row lists variables, tied by the card. No condition. -/
import Derived.Test.YtplfnoecifjgeaaGreatDoorRows
import Derived.Test.YtplfnoecifjgeaaGreatDoorTie
import Derived.Test.YtplfnoecifjgeaaGreatDoorCards
import Derived.WalkKit
import Derived.ProofKit
import Derived.OpenShut
import Derived.LaidMore
import Derived.Lay
import Derived.SevenTiedAt
import Derived.Stop.Joined
import Derived.Test.YtplfnoecifjgeaaGreatDoorLinesx
import Derived.Test.YtplfnoecifjgeaaGreatDoorLinesy
import Derived.Test.YtplfnoecifjgeaaGreatDoorLinesz
import Derived.Test.YtplfnoecifjgeaaGreatDoorLinesu
set_option linter.unusedVariables false
set_option linter.unusedSimpArgs false
namespace Go.Proofs.YtplfnoecifjgeaaGreatDoor.ForewomanLinesProof
open Go.ChangeShapes Go.WideShapes Go.ChangeAt Go.RowKit
set_option maxRecDepth 100000
theorem cm : (Tryz.f12.params.toList ++ Rows.forewomanLinesSpec.plain.varTypes ni).any (ni.loopsFrom ·) = Rows.forewomanLinesRow.loops := by kernel_rfl
theorem eX : ni.stopsHeard = true := by kernel_rfl
theorem kx : ni.mayEnter = true := by kernel_rfl
theorem tO : ni.liftsFinal = Rows.forewomanLinesRow.lifted := by kernel_rfl
end Go.Proofs.YtplfnoecifjgeaaGreatDoor.ForewomanLinesProof
