/-
  No cell of these rows narrows 'for every input' (looked for: loops, veiled, ifaces, maps, wideKeys, modest, calm, conditions, laid).
  DERIVED. THE GIVEN ROWS OF THIS SEAT. 8 by the template 'for every input the law returns true; each argument reads behind the call as it read before'; 0 by the template 'total and deterministic' (their statements: YtjacmbbmcjdphaaGreatTotals.lean).
  GIVEN WITH THE SEED: the statements are not yours to turn. If you find one false, say at which input.
  Laid BY PROGRAM, IN A SANDBOX (cutbox-rows.mjs): the forced cells as the released guide's own fill.sh prints them over the translation cd884cb26493568b… (all of the seat's roots in one cut). By AI agents, Wed Nov 11 2026. No macro, syntax, notation, axiom, sorry.
-/
import Derived.Test.YtjacmbbmcjdphaaGreatChecked
import GoSem.Claim
import GoSem.ClaimJoined
import GoSem.ClaimMapViews
import Derived.JoinedTies
import Derived.KernelRfl
namespace Go.Proofs.YtjacmbbmcjdphaaGreat
/- THE CELL 'sum', in the pinned program and in every row, IS THE sha256 OF THE DUMP (.gsa) THAT YtjacmbbmcjdphaaGreatProg.lean LOADS. Nothing in Lean hashes anything: it is a label: what it is worth is what the hold of that sum in a sandbox is worth. -/
noncomputable def Tryz.pinned : Pinned := { name := "ytjacmbbmcjdphaagreat", sum := "cd884cb26493568bcaf843403c42d21158fe6d673b7a96c79ebd34faa2f0d9af", checked := Tryz.checked }
namespace Rows
def none {H : Type} : Left H := { results := [], args := [] }

/-- 'ferrulelaw09.HireAlone': WHATEVER THE INPUT: true; the input reads as it did. -/
def hireAloneSpec : ChangeSpec := { name := "hireAlone", fn := fun _ => fun
  | [d1, d2] => { results := [.lit (.bool true)], args := [d1, d2] }
  | _ => none }
def hireAloneRow : OpenClaim := { program := "ytjacmbbmcjdphaagreat", sum := "cd884cb26493568bcaf843403c42d21158fe6d673b7a96c79ebd34faa2f0d9af", func := "ferrule/ferrulelaw09.HireAlone", spec := "hireAlone", unfollowed := true, recurses := true, apart := false }
def HireAloneSaid : Prop := hireAloneRow.holds Tryz.pinned (OpenSpec.ofChange hireAloneSpec)

/-- ITS FALSE NEIGHBOUR: 'it returns false'. Refute it at one input. -/
def hireAloneWrong : ChangeSpec := { name := "hireAlone", fn := fun _ => fun
  | [d1, d2] => { results := [.lit (.bool false)], args := [d1, d2] }
  | _ => none }
def HireAloneWrongFalsely : Prop := hireAloneRow.holds Tryz.pinned (OpenSpec.ofChange hireAloneWrong)

/-- 'ferrulelaw09.HireTariff': WHATEVER THE INPUT: true; the input reads as it did. -/
def hireTariffSpec : ChangeSpec := { name := "hireTariff", fn := fun _ => fun
  | [d1, d2, d3] => { results := [.lit (.bool true)], args := [d1, d2, d3] }
  | _ => none }
def hireTariffRow : OpenClaim := { program := "ytjacmbbmcjdphaagreat", sum := "cd884cb26493568bcaf843403c42d21158fe6d673b7a96c79ebd34faa2f0d9af", func := "ferrule/ferrulelaw09.HireTariff", spec := "hireTariff", unfollowed := true, recurses := true, apart := false }
def HireTariffSaid : Prop := hireTariffRow.holds Tryz.pinned (OpenSpec.ofChange hireTariffSpec)

/-- ITS FALSE NEIGHBOUR: 'it returns false'. Refute it at one input. -/
def hireTariffWrong : ChangeSpec := { name := "hireTariff", fn := fun _ => fun
  | [d1, d2, d3] => { results := [.lit (.bool false)], args := [d1, d2, d3] }
  | _ => none }
def HireTariffWrongFalsely : Prop := hireTariffRow.holds Tryz.pinned (OpenSpec.ofChange hireTariffWrong)

/-- 'ferrulelaw09.HireCent': WHATEVER THE INPUT: true; the input reads as it did. -/
def hireCentSpec : ChangeSpec := { name := "hireCent", fn := fun _ => fun
  | [d1, d2] => { results := [.lit (.bool true)], args := [d1, d2] }
  | _ => none }
def hireCentRow : OpenClaim := { program := "ytjacmbbmcjdphaagreat", sum := "cd884cb26493568bcaf843403c42d21158fe6d673b7a96c79ebd34faa2f0d9af", func := "ferrule/ferrulelaw09.HireCent", spec := "hireCent", unfollowed := true, recurses := true, apart := false }
def HireCentSaid : Prop := hireCentRow.holds Tryz.pinned (OpenSpec.ofChange hireCentSpec)

/-- ITS FALSE NEIGHBOUR: 'it returns false'. Refute it at one input. -/
def hireCentWrong : ChangeSpec := { name := "hireCent", fn := fun _ => fun
  | [d1, d2] => { results := [.lit (.bool false)], args := [d1, d2] }
  | _ => none }
def HireCentWrongFalsely : Prop := hireCentRow.holds Tryz.pinned (OpenSpec.ofChange hireCentWrong)

/-- 'ferrulelaw09.HireFees': WHATEVER THE INPUT: true; the input reads as it did. -/
def hireFeesSpec : ChangeSpec := { name := "hireFees", fn := fun _ => fun
  | [d1, d2] => { results := [.lit (.bool true)], args := [d1, d2] }
  | _ => none }
def hireFeesRow : OpenClaim := { program := "ytjacmbbmcjdphaagreat", sum := "cd884cb26493568bcaf843403c42d21158fe6d673b7a96c79ebd34faa2f0d9af", func := "ferrule/ferrulelaw09.HireFees", spec := "hireFees", unfollowed := true, recurses := true, apart := false }
def HireFeesSaid : Prop := hireFeesRow.holds Tryz.pinned (OpenSpec.ofChange hireFeesSpec)

/-- ITS FALSE NEIGHBOUR: 'it returns false'. Refute it at one input. -/
def hireFeesWrong : ChangeSpec := { name := "hireFees", fn := fun _ => fun
  | [d1, d2] => { results := [.lit (.bool false)], args := [d1, d2] }
  | _ => none }
def HireFeesWrongFalsely : Prop := hireFeesRow.holds Tryz.pinned (OpenSpec.ofChange hireFeesWrong)

/-- 'ferrulelaw09.HireWhere': WHATEVER THE INPUT: true; the input reads as it did. -/
def hireWhereSpec : ChangeSpec := { name := "hireWhere", fn := fun _ => fun
  | [d1, d2] => { results := [.lit (.bool true)], args := [d1, d2] }
  | _ => none }
def hireWhereRow : OpenClaim := { program := "ytjacmbbmcjdphaagreat", sum := "cd884cb26493568bcaf843403c42d21158fe6d673b7a96c79ebd34faa2f0d9af", func := "ferrule/ferrulelaw09.HireWhere", spec := "hireWhere", unfollowed := true, recurses := true, apart := false }
def HireWhereSaid : Prop := hireWhereRow.holds Tryz.pinned (OpenSpec.ofChange hireWhereSpec)

/-- ITS FALSE NEIGHBOUR: 'it returns false'. Refute it at one input. -/
def hireWhereWrong : ChangeSpec := { name := "hireWhere", fn := fun _ => fun
  | [d1, d2] => { results := [.lit (.bool false)], args := [d1, d2] }
  | _ => none }
def HireWhereWrongFalsely : Prop := hireWhereRow.holds Tryz.pinned (OpenSpec.ofChange hireWhereWrong)

/-- 'ferrulelaw09.HireBetter': WHATEVER THE INPUT: true; the input reads as it did. -/
def hireBetterSpec : ChangeSpec := { name := "hireBetter", fn := fun _ => fun
  | [d1, d2, d3] => { results := [.lit (.bool true)], args := [d1, d2, d3] }
  | _ => none }
def hireBetterRow : OpenClaim := { program := "ytjacmbbmcjdphaagreat", sum := "cd884cb26493568bcaf843403c42d21158fe6d673b7a96c79ebd34faa2f0d9af", func := "ferrule/ferrulelaw09.HireBetter", spec := "hireBetter", unfollowed := true, recurses := true, apart := false }
def HireBetterSaid : Prop := hireBetterRow.holds Tryz.pinned (OpenSpec.ofChange hireBetterSpec)

/-- ITS FALSE NEIGHBOUR: 'it returns false'. Refute it at one input. -/
def hireBetterWrong : ChangeSpec := { name := "hireBetter", fn := fun _ => fun
  | [d1, d2, d3] => { results := [.lit (.bool false)], args := [d1, d2, d3] }
  | _ => none }
def HireBetterWrongFalsely : Prop := hireBetterRow.holds Tryz.pinned (OpenSpec.ofChange hireBetterWrong)

/-- 'ferrulelaw09.HireMerge': WHATEVER THE INPUT: true; the input reads as it did. -/
def hireMergeSpec : ChangeSpec := { name := "hireMerge", fn := fun _ => fun
  | [d1, d2] => { results := [.lit (.bool true)], args := [d1, d2] }
  | _ => none }
def hireMergeRow : OpenClaim := { program := "ytjacmbbmcjdphaagreat", sum := "cd884cb26493568bcaf843403c42d21158fe6d673b7a96c79ebd34faa2f0d9af", func := "ferrule/ferrulelaw09.HireMerge", spec := "hireMerge", unfollowed := true, recurses := true, apart := false }
def HireMergeSaid : Prop := hireMergeRow.holds Tryz.pinned (OpenSpec.ofChange hireMergeSpec)

/-- ITS FALSE NEIGHBOUR: 'it returns false'. Refute it at one input. -/
def hireMergeWrong : ChangeSpec := { name := "hireMerge", fn := fun _ => fun
  | [d1, d2] => { results := [.lit (.bool false)], args := [d1, d2] }
  | _ => none }
def HireMergeWrongFalsely : Prop := hireMergeRow.holds Tryz.pinned (OpenSpec.ofChange hireMergeWrong)

/-- 'ferrulelaw09.HireOrder': WHATEVER THE INPUT: true; the input reads as it did. -/
def hireOrderSpec : ChangeSpec := { name := "hireOrder", fn := fun _ => fun
  | [d1, d2, d3] => { results := [.lit (.bool true)], args := [d1, d2, d3] }
  | _ => none }
def hireOrderRow : OpenClaim := { program := "ytjacmbbmcjdphaagreat", sum := "cd884cb26493568bcaf843403c42d21158fe6d673b7a96c79ebd34faa2f0d9af", func := "ferrule/ferrulelaw09.HireOrder", spec := "hireOrder", unfollowed := true, recurses := true, apart := false }
def HireOrderSaid : Prop := hireOrderRow.holds Tryz.pinned (OpenSpec.ofChange hireOrderSpec)

/-- ITS FALSE NEIGHBOUR: 'it returns false'. Refute it at one input. -/
def hireOrderWrong : ChangeSpec := { name := "hireOrder", fn := fun _ => fun
  | [d1, d2, d3] => { results := [.lit (.bool false)], args := [d1, d2, d3] }
  | _ => none }
def HireOrderWrongFalsely : Prop := hireOrderRow.holds Tryz.pinned (OpenSpec.ofChange hireOrderWrong)

/- THE SECOND FORM. 'bulk': how many values and letters a reading holds, each counted each time it is reached (what is shared counts as often as it is met; a slice's spare places count too). A statement '..UptoSaid' is the law's where the arguments, and the package variables that the reading takes, are together of bulk at most 1048576: NARROWER than '..Said'. Prove '..Said' where nothing that the law and all that it calls make is longer than what came in: it says more and counts as full. Else prove '..UptoSaid'. A law counts once. -/
mutual
def uptoBulk {H : Type} : DataW H → Nat
  | .lit (.string bytes) => bytes.length + 1
  | .lit _ => 1
  | .nil => 1
  | .ptr d => uptoBulk d + 1
  | .slice elems spare => uptoBulkAll elems + uptoBulkAll spare + 1
  | .agg parts => uptoBulkAll parts + 1
  | .iface _ d => uptoBulk d + 1
  | .map entries => uptoBulkEntries entries + 1
  | .held _ => 1
def uptoBulkAll {H : Type} : List (DataW H) → Nat
  | [] => 0
  | d :: r => uptoBulk d + uptoBulkAll r
def uptoBulkEntries {H : Type} : List (Lit × DataW H) → Nat
  | [] => 0
  | x :: r => uptoBulkEntry x + uptoBulkEntries r
def uptoBulkEntry {H : Type} : Lit × DataW H → Nat
  | (.string bytes, d) => bytes.length + uptoBulk d + 1
  | (_, d) => uptoBulk d + 1
 end
def uptoSmall : (H : Type) → List (DataW H) → Bool := fun _ ds => decide (uptoBulkAll ds ≤ 1048576)
def OpenSpec.upto (s : _root_.Go.ChangeSpec) : _root_.Go.OpenSpec := { _root_.Go.OpenSpec.ofChange s with cond := some uptoSmall }

/-- 'ferrulelaw09.HireAlone', WHERE WHAT IT READS IS OF BULK AT MOST 1048576: true; the input reads as it did. -/
def hireAloneUptoRow : OpenClaim := { program := "ytjacmbbmcjdphaagreat", sum := "cd884cb26493568bcaf843403c42d21158fe6d673b7a96c79ebd34faa2f0d9af", func := "ferrule/ferrulelaw09.HireAlone", spec := "hireAlone", unfollowed := true, recurses := true, apart := false, narrowed := true }
def HireAloneUptoSaid : Prop := hireAloneUptoRow.holds Tryz.pinned (OpenSpec.upto hireAloneSpec)

/-- 'ferrulelaw09.HireTariff', WHERE WHAT IT READS IS OF BULK AT MOST 1048576: true; the input reads as it did. -/
def hireTariffUptoRow : OpenClaim := { program := "ytjacmbbmcjdphaagreat", sum := "cd884cb26493568bcaf843403c42d21158fe6d673b7a96c79ebd34faa2f0d9af", func := "ferrule/ferrulelaw09.HireTariff", spec := "hireTariff", unfollowed := true, recurses := true, apart := false, narrowed := true }
def HireTariffUptoSaid : Prop := hireTariffUptoRow.holds Tryz.pinned (OpenSpec.upto hireTariffSpec)

/-- 'ferrulelaw09.HireCent', WHERE WHAT IT READS IS OF BULK AT MOST 1048576: true; the input reads as it did. -/
def hireCentUptoRow : OpenClaim := { program := "ytjacmbbmcjdphaagreat", sum := "cd884cb26493568bcaf843403c42d21158fe6d673b7a96c79ebd34faa2f0d9af", func := "ferrule/ferrulelaw09.HireCent", spec := "hireCent", unfollowed := true, recurses := true, apart := false, narrowed := true }
def HireCentUptoSaid : Prop := hireCentUptoRow.holds Tryz.pinned (OpenSpec.upto hireCentSpec)

/-- 'ferrulelaw09.HireFees', WHERE WHAT IT READS IS OF BULK AT MOST 1048576: true; the input reads as it did. -/
def hireFeesUptoRow : OpenClaim := { program := "ytjacmbbmcjdphaagreat", sum := "cd884cb26493568bcaf843403c42d21158fe6d673b7a96c79ebd34faa2f0d9af", func := "ferrule/ferrulelaw09.HireFees", spec := "hireFees", unfollowed := true, recurses := true, apart := false, narrowed := true }
def HireFeesUptoSaid : Prop := hireFeesUptoRow.holds Tryz.pinned (OpenSpec.upto hireFeesSpec)

/-- 'ferrulelaw09.HireWhere', WHERE WHAT IT READS IS OF BULK AT MOST 1048576: true; the input reads as it did. -/
def hireWhereUptoRow : OpenClaim := { program := "ytjacmbbmcjdphaagreat", sum := "cd884cb26493568bcaf843403c42d21158fe6d673b7a96c79ebd34faa2f0d9af", func := "ferrule/ferrulelaw09.HireWhere", spec := "hireWhere", unfollowed := true, recurses := true, apart := false, narrowed := true }
def HireWhereUptoSaid : Prop := hireWhereUptoRow.holds Tryz.pinned (OpenSpec.upto hireWhereSpec)

/-- 'ferrulelaw09.HireBetter', WHERE WHAT IT READS IS OF BULK AT MOST 1048576: true; the input reads as it did. -/
def hireBetterUptoRow : OpenClaim := { program := "ytjacmbbmcjdphaagreat", sum := "cd884cb26493568bcaf843403c42d21158fe6d673b7a96c79ebd34faa2f0d9af", func := "ferrule/ferrulelaw09.HireBetter", spec := "hireBetter", unfollowed := true, recurses := true, apart := false, narrowed := true }
def HireBetterUptoSaid : Prop := hireBetterUptoRow.holds Tryz.pinned (OpenSpec.upto hireBetterSpec)

/-- 'ferrulelaw09.HireMerge', WHERE WHAT IT READS IS OF BULK AT MOST 1048576: true; the input reads as it did. -/
def hireMergeUptoRow : OpenClaim := { program := "ytjacmbbmcjdphaagreat", sum := "cd884cb26493568bcaf843403c42d21158fe6d673b7a96c79ebd34faa2f0d9af", func := "ferrule/ferrulelaw09.HireMerge", spec := "hireMerge", unfollowed := true, recurses := true, apart := false, narrowed := true }
def HireMergeUptoSaid : Prop := hireMergeUptoRow.holds Tryz.pinned (OpenSpec.upto hireMergeSpec)

/-- 'ferrulelaw09.HireOrder', WHERE WHAT IT READS IS OF BULK AT MOST 1048576: true; the input reads as it did. -/
def hireOrderUptoRow : OpenClaim := { program := "ytjacmbbmcjdphaagreat", sum := "cd884cb26493568bcaf843403c42d21158fe6d673b7a96c79ebd34faa2f0d9af", func := "ferrule/ferrulelaw09.HireOrder", spec := "hireOrder", unfollowed := true, recurses := true, apart := false, narrowed := true }
def HireOrderUptoSaid : Prop := hireOrderUptoRow.holds Tryz.pinned (OpenSpec.upto hireOrderSpec)

end Rows
end Go.Proofs.YtjacmbbmcjdphaaGreat
