/- ForewomanLines returns true for every input, and leaves its arguments as they were; the row lists variables, tied by the card. No condition. -/
import Derived.Test.YtplfnoecifjgeaaGreatDoorRows
import Derived.Test.YtplfnoecifjgeaaGreatDoorTie
import Derived.Test.YtplfnoecifjgeaaGreatDoorCards
import Derived.WalkKit
import Derived.ProofKit
import Derived.OpenShut
import Derived.LaidMore
import Derived.Lay
import Derived.SevenTiedAt
import Derived.Stop.Joined
set_option linter.unusedVariables false
set_option linter.unusedSimpArgs false
namespace Go.Proofs.YtplfnoecifjgeaaGreatDoor.ForewomanLinesProof
open Go.ChangeShapes Go.WideShapes Go.ChangeAt Go.RowKit
set_option maxRecDepth 100000
noncomputable abbrev ni : Program := Tryz.pinned.checked.prog
theorem cd : ni.inPlace 12 = Rows.forewomanLinesRow.inPlace := by kernel_rfl
theorem a2 : ni.unfollowed 12 = Rows.forewomanLinesRow.unfollowed := by kernel_rfl
theorem a3 : ni.recurses 12 = Rows.forewomanLinesRow.recurses := by kernel_rfl
end Go.Proofs.YtplfnoecifjgeaaGreatDoor.ForewomanLinesProof
