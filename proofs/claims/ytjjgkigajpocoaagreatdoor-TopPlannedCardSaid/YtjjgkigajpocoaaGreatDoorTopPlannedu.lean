/- TopPlanned returns true for every input, and leaves its arguments as they were; the row lists variables, tied by the card. No condition. -/
import Derived.Test.YtjjgkigajpocoaaGreatDoorRows
import Derived.Test.YtjjgkigajpocoaaGreatDoorTie
import Derived.Test.YtjjgkigajpocoaaGreatDoorCards
import Derived.WalkKit
import Derived.ProofKit
import Derived.OpenShut
import Derived.LaidMore
import Derived.Lay
import Derived.SevenTiedAt
import Derived.Stop.Joined
import Derived.Test.YtjjgkigajpocoaaGreatDoorTopPlannedx
import Derived.Test.YtjjgkigajpocoaaGreatDoorTopPlannedy
import Derived.Test.YtjjgkigajpocoaaGreatDoorTopPlannedz
set_option linter.unusedVariables false
set_option linter.unusedSimpArgs false
namespace Go.Proofs.YtjjgkigajpocoaaGreatDoor.TopPlannedProof
open Go.ChangeShapes Go.WideShapes Go.ChangeAt Go.RowKit
set_option maxRecDepth 100000
theorem amj{P : Program}(h : P.funcs.any Func.goes = false)(c : OpenClaim) : false = c.goesBy P := by
  have aD : ∀ f, P.goes f = false := λf => by
    unfold Program.goes;rw[h, Bool.and_false, Bool.or_false, List.any_eq_false];intro g _;cases ay : P.funcs[g]? with
    | none => simp
    | some fn =>
      have := Array.any_eq_false.1 h;obtain⟨G, e⟩ := Array.getElem?_eq_some_iff.1 ay;simpa [e]using this g G
  have bp : ∀ s, P.goesFrom s = false := λs => by
    unfold Program.goesFrom;cases P.funcNamed s <;> simp[aD]
  have fk : P.inits.toList.any P.goes = false := List.any_eq_false.2 λf _ => by simp[aD]
  unfold OpenClaim.goesBy Program.goesAt;rw[bp, fk];cases c.start <;> rfl
theorem amk : false = Rows.topPlannedRow.goesBy nV := amj (by kernel_rfl) _
theorem XY : nV.funcNamed Rows.topPlannedRow.func = some 5 := by kernel_rfl
end Go.Proofs.YtjjgkigajpocoaaGreatDoor.TopPlannedProof
