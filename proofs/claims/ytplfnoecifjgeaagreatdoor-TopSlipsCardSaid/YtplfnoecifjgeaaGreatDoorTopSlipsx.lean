/- TopSlips returns true for every input, and leaves its arguments as they were; the row lists variables, tied by the card. No condition. -/
import Derived.Test.YtplfnoecifjgeaaGreatDoorTopSlipsG
import Derived.Test.YtplfnoecifjgeaaGreatDoorRows
import Derived.Test.YtplfnoecifjgeaaGreatDoorTie
import Derived.Test.YtplfnoecifjgeaaGreatDoorCards
import Derived.WalkKit
import Derived.ProofKit
import Derived.OpenShut
import Derived.LaidMore
import Derived.Lay
import Derived.SevenTiedAt
import Derived.Stop.Joined
set_option linter.unusedVariables false
set_option linter.unusedSimpArgs false
namespace Go.Proofs.YtplfnoecifjgeaaGreatDoor.TopSlipsProof
open Go.ChangeShapes Go.WideShapes Go.ChangeAt Go.RowKit Go.Fer Go.Fer.ox
set_option maxRecDepth 100000
noncomputable abbrev lP : Program := Tryz.pinned.checked.prog
theorem b6 : lP.inPlace 4 = Rows.topSlipsRow.inPlace := by kernel_rfl
theorem a2 : lP.unfollowed 4 = Rows.topSlipsRow.unfollowed := by kernel_rfl
theorem a3 : lP.recurses 4 = Rows.topSlipsRow.recurses := by kernel_rfl
theorem a4 : lP.varsNamed 4 = Rows.topSlipsRow.named := by kernel_rfl
theorem gA : laidOutB lP = true := by kernel_rfl
theorem gB : mapsRowed lP = true := by kernel_rfl
end Go.Proofs.YtplfnoecifjgeaaGreatDoor.TopSlipsProof
