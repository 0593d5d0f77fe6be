/- TopShop returns true for every input, and leaves its arguments as they were; the row lists variables, tied by the card. No condition. -/
import Derived.Test.YtplfnoecifjgeaaGreatDoorTopShopG
import Derived.Test.YtplfnoecifjgeaaGreatDoorRows
import Derived.Test.YtplfnoecifjgeaaGreatDoorTie
import Derived.Test.YtplfnoecifjgeaaGreatDoorCards
import Derived.WalkKit
import Derived.ProofKit
import Derived.OpenShut
import Derived.LaidMore
import Derived.Lay
import Derived.SevenTiedAt
import Derived.Stop.Joined
import Derived.Test.YtplfnoecifjgeaaGreatDoorTopShopx
set_option linter.unusedVariables false
set_option linter.unusedSimpArgs false
namespace Go.Proofs.YtplfnoecifjgeaaGreatDoor.TopShopProof
open Go.ChangeShapes Go.WideShapes Go.ChangeAt Go.RowKit Go.Fer Go.Fer.om
set_option maxRecDepth 100000
theorem a9 : true = lF.looks [] := by kernel_rfl
theorem hA : Rows.topShopRow.wfByText (OpenSpec.ofChange Rows.topShopSpec) = true := by kernel_rfl
theorem acF : false = Rows.topShopRow.goesBy lF := by kernel_rfl
theorem a12 : lF.funcNamed Rows.topShopRow.func = some 13 := by kernel_rfl
theorem dL : (Tryz.f13.params.toList ++ Rows.topShopSpec.plain.varTypes lF).any (lF.loopsFrom ·) = Rows.topShopRow.loops := by kernel_rfl
theorem eA : lF.stopsHeard = true := by kernel_rfl
theorem mG : lF.mayEnter = true := by kernel_rfl
theorem rR : lF.liftsFinal = Rows.topShopRow.lifted := by kernel_rfl
theorem Fp : lF.make = some Rows.topShopRow.make := by kernel_rfl
theorem acG : joinedFacts lF 13 Tryz.f13 Rows.topShopSpec Rows.topShopRow = true := by
  unfold joinedFacts;rw[b8, a2, a3, a4, gv, gw, dL, eA, mG, rR, Fp];kernel_rfl
theorem acH : Tryz.f13.isInstance lF Rows.topShopRow.origin Rows.topShopRow.targs := of_decide_eq_true (by kernel_rfl)
theorem acI : Tryz.f13.isWrapper lF Rows.topShopRow.wrapper Rows.topShopRow.mainSum := by unfold Func.isWrapper; first | (rw[if_pos (by decide +kernel)]; kernel_rfl) | (rw[if_neg (by decide +kernel)]; exact⟨rfl, rfl⟩)
end Go.Proofs.YtplfnoecifjgeaaGreatDoor.TopShopProof
