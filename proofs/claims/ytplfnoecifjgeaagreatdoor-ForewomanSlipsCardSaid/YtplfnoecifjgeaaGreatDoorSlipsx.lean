/- ForewomanSlips returns true for every input, and leaves its arguments as they were; the row lists variables, tied by the card. No condition. -/
import Derived.Test.YtplfnoecifjgeaaGreatDoorSlipsG
import Derived.Test.YtplfnoecifjgeaaGreatDoorRows
import Derived.Test.YtplfnoecifjgeaaGreatDoorTie
import Derived.Test.YtplfnoecifjgeaaGreatDoorCards
import Derived.WalkKit
import Derived.ProofKit
import Derived.OpenShut
import Derived.LaidMore
import Derived.Lay
import Derived.SevenTiedAt
import Derived.Stop.Joined
set_option linter.unusedVariables false
set_option linter.unusedSimpArgs false
namespace Go.Proofs.YtplfnoecifjgeaaGreatDoor.ForewomanSlipsProof
open Go.ChangeShapes Go.WideShapes Go.ChangeAt Go.RowKit Go.Fer Go.Fer.n3
set_option maxRecDepth 100000
noncomputable abbrev ls : Program := Tryz.pinned.checked.prog
theorem bR : ls.inPlace 6 = Rows.forewomanSlipsRow.inPlace := by kernel_rfl
theorem a2 : ls.unfollowed 6 = Rows.forewomanSlipsRow.unfollowed := by kernel_rfl
theorem a3 : ls.recurses 6 = Rows.forewomanSlipsRow.recurses := by kernel_rfl
theorem a4 : ls.varsNamed 6 = Rows.forewomanSlipsRow.named := by kernel_rfl
theorem fY : laidOutB ls = true := by kernel_rfl
theorem fZ : mapsRowed ls = true := by kernel_rfl
end Go.Proofs.YtplfnoecifjgeaaGreatDoor.ForewomanSlipsProof
