/- TopShop returns true for every input, and leaves its arguments as they were; the row lists variables, tied by the card. No condition. -/
import Derived.Test.YtplfnoecifjgeaaGreatDoorTopShopG
import Derived.Test.YtplfnoecifjgeaaGreatDoorRows
import Derived.Test.YtplfnoecifjgeaaGreatDoorTie
import Derived.Test.YtplfnoecifjgeaaGreatDoorCards
import Derived.WalkKit
import Derived.ProofKit
import Derived.OpenShut
import Derived.LaidMore
import Derived.Lay
import Derived.SevenTiedAt
import Derived.Stop.Joined
set_option linter.unusedVariables false
set_option linter.unusedSimpArgs false
namespace Go.Proofs.YtplfnoecifjgeaaGreatDoor.TopShopProof
open Go.ChangeShapes Go.WideShapes Go.ChangeAt Go.RowKit Go.Fer Go.Fer.om
set_option maxRecDepth 100000
noncomputable abbrev lF : Program := Tryz.pinned.checked.prog
theorem b8 : lF.inPlace 13 = Rows.topShopRow.inPlace := by kernel_rfl
theorem a2 : lF.unfollowed 13 = Rows.topShopRow.unfollowed := by kernel_rfl
theorem a3 : lF.recurses 13 = Rows.topShopRow.recurses := by kernel_rfl
theorem a4 : lF.varsNamed 13 = Rows.topShopRow.named := by kernel_rfl
theorem gv : laidOutB lF = true := by kernel_rfl
theorem gw : mapsRowed lF = true := by kernel_rfl
end Go.Proofs.YtplfnoecifjgeaaGreatDoor.TopShopProof
