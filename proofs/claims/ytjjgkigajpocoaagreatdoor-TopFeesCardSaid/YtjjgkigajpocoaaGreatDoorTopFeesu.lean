/- TopFees returns true for every input, and leaves its arguments as they were; the row lists variables, tied by the card. No condition. -/
import Derived.Test.YtjjgkigajpocoaaGreatDoorRows
import Derived.Test.YtjjgkigajpocoaaGreatDoorTie
import Derived.Test.YtjjgkigajpocoaaGreatDoorCards
import Derived.WalkKit
import Derived.ProofKit
import Derived.OpenShut
import Derived.LaidMore
import Derived.Lay
import Derived.SevenTiedAt
import Derived.Stop.Joined
import Derived.Test.YtjjgkigajpocoaaGreatDoorTopFeesx
import Derived.Test.YtjjgkigajpocoaaGreatDoorTopFeesy
import Derived.Test.YtjjgkigajpocoaaGreatDoorTopFeesz
set_option linter.unusedVariables false
set_option linter.unusedSimpArgs false
namespace Go.Proofs.YtjjgkigajpocoaaGreatDoor.TopFeesProof
open Go.ChangeShapes Go.WideShapes Go.ChangeAt Go.RowKit
set_option maxRecDepth 100000
theorem amU{P : Program}(h : P.funcs.any Func.goes = false)(c : OpenClaim) : false = c.goesBy P := by
  have aB : ∀ f, P.goes f = false := λf => by
    unfold Program.goes;rw[h, Bool.and_false, Bool.or_false, List.any_eq_false];intro g _;cases aC : P.funcs[g]? with
    | none => simp
    | some fn =>
      have := Array.any_eq_false.1 h;obtain⟨G, e⟩ := Array.getElem?_eq_some_iff.1 aC;simpa [e]using this g G
  have bq : ∀ s, P.goesFrom s = false := λs => by
    unfold Program.goesFrom;cases P.funcNamed s <;> simp[aB]
  have fk : P.inits.toList.any P.goes = false := List.any_eq_false.2 λf _ => by simp[aB]
  unfold OpenClaim.goesBy Program.goesAt;rw[bq, fk];cases c.start <;> rfl
theorem amV : false = Rows.topFeesRow.goesBy n6 := amU (by kernel_rfl) _
theorem Yv : n6.funcNamed Rows.topFeesRow.func = some 4 := by kernel_rfl
end Go.Proofs.YtjjgkigajpocoaaGreatDoor.TopFeesProof
