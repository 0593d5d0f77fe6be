/-
  NARROWER THAN 'FOR EVERY INPUT', by the rows' own cells (each row's printed sentence says how): FilesMended: laid · FilesTwo: laid · FilesWritten: laid · FilesRead: laid · FilesBack: laid · FilesCopies: laid · FilesJoined: laid.
  DERIVED. THE GIVEN ROWS OF THIS SEAT. 7 by the template 'for every input the law returns true; each argument reads behind the call as it read before'; 0 by the template 'total and deterministic' (their statements: YtgjjjhfempihkaaDoorTotals.lean).
  GIVEN WITH THE SEED: the statements are not yours to turn. If you find one false, say at which input.
  Laid BY PROGRAM, IN A SANDBOX (cutbox-rows.mjs): the forced cells as the released guide's own fill.sh prints them over the translation 2076a58f6fe8ff3f… (all of the seat's roots in one cut). By AI agents, Wed Nov 11 2026. No macro, syntax, notation, axiom, sorry.
-/
import Derived.Test.YtgjjjhfempihkaaDoorChecked
import GoSem.PinnedTables
import GoSem.Claim
import GoSem.ClaimJoined
import GoSem.ClaimMapViews
import Derived.JoinedTies
import Derived.KernelRfl
namespace Go.Proofs.YtgjjjhfempihkaaDoor
/- THE CELL 'sum', in the pinned program and in every row, IS THE sha256 OF THE DUMP (.gsa) THAT YtgjjjhfempihkaaDoorProg.lean LOADS. Nothing in Lean hashes anything: it is a label: what it is worth is what the hold of that sum in a sandbox is worth. -/
noncomputable def Tryd.pinned : Pinned := { name := "ytgjjjhfempihkaadoor", sum := "2076a58f6fe8ff3feb54abbb730dc20acde58d8ec9f566b9f82191f64855964e", checked := Tryd.checked }
namespace Rows
def none {H : Type} : Left H := { results := [], args := [] }

/- WHAT THE LISTED PACKAGE-LEVEL VARIABLES READ AS WHEN THE CALL BEGINS. Each datum BY PROGRAM (the guide's laid-datum.mjs) off the statement by which the dump's own 'gosem.cut.vars' lays the variable. In a bare row this is a premise. The card (YtgjjjhfempihkaaDoorCards.lean) ties it to the program's text. -/
def laid_unicode_utf8_acceptRanges {H : Type} : DataW H := .agg [.agg [.lit (.int .u8 128), .lit (.int .u8 191)], .agg [.lit (.int .u8 160), .lit (.int .u8 191)], .agg [.lit (.int .u8 128), .lit (.int .u8 159)], .agg [.lit (.int .u8 144), .lit (.int .u8 191)], .agg [.lit (.int .u8 128), .lit (.int .u8 143)], .agg [.lit (.int .u8 0), .lit (.int .u8 0)], .agg [.lit (.int .u8 0), .lit (.int .u8 0)], .agg [.lit (.int .u8 0), .lit (.int .u8 0)], .agg [.lit (.int .u8 0), .lit (.int .u8 0)], .agg [.lit (.int .u8 0), .lit (.int .u8 0)], .agg [.lit (.int .u8 0), .lit (.int .u8 0)], .agg [.lit (.int .u8 0), .lit (.int .u8 0)], .agg [.lit (.int .u8 0), .lit (.int .u8 0)], .agg [.lit (.int .u8 0), .lit (.int .u8 0)], .agg [.lit (.int .u8 0), .lit (.int .u8 0)], .agg [.lit (.int .u8 0), .lit (.int .u8 0)]]
/-- One of Go's own tables, pinned by name: the form's constant. -/
def laid_unicode_utf8_first : DataW Unit := Go.Pinned.utf8First

/-- 'ferrulelaw14.FilesMended': WHATEVER THE INPUT: true; the input reads as it did. -/
def filesMendedSpec : ChangeSpec := { name := "filesMended", fn := fun _ => fun
  | [d1, d2] => { results := [.lit (.bool true)], args := [d1, d2] }
  | _ => none }
def filesMendedRow : OpenClaim := { program := "ytgjjjhfempihkaadoor", sum := "2076a58f6fe8ff3feb54abbb730dc20acde58d8ec9f566b9f82191f64855964e", func := "ferrule/ferrulelaw14.FilesMended", spec := "filesMended", inPlace := ["internal/abi.NoEscape", "internal/bytealg.MakeNoZero", "internal/bytealg.IndexByteString", "internal/bytealg.IndexString", "internal/bytealg.CountString"], unfollowed := true, recurses := true, named := ["internal/bytealg.MaxLen", "unicode/utf8.first", "unicode/utf8.acceptRanges"], apart := false, laid := [("unicode/utf8.acceptRanges", laid_unicode_utf8_acceptRanges), ("unicode/utf8.first", laid_unicode_utf8_first)] }
def FilesMendedSaid : Prop := filesMendedRow.holds Tryd.pinned (OpenSpec.ofChange filesMendedSpec)

/-- ITS FALSE NEIGHBOUR: 'it returns false'. Refute it at one input. -/
def filesMendedWrong : ChangeSpec := { name := "filesMended", fn := fun _ => fun
  | [d1, d2] => { results := [.lit (.bool false)], args := [d1, d2] }
  | _ => none }
def FilesMendedWrongFalsely : Prop := filesMendedRow.holds Tryd.pinned (OpenSpec.ofChange filesMendedWrong)

/-- 'ferrulelaw14.FilesTwo': WHATEVER THE INPUT: true; the input reads as it did. -/
def filesTwoSpec : ChangeSpec := { name := "filesTwo", fn := fun _ => fun
  | [d1, d2] => { results := [.lit (.bool true)], args := [d1, d2] }
  | _ => none }
def filesTwoRow : OpenClaim := { program := "ytgjjjhfempihkaadoor", sum := "2076a58f6fe8ff3feb54abbb730dc20acde58d8ec9f566b9f82191f64855964e", func := "ferrule/ferrulelaw14.FilesTwo", spec := "filesTwo", inPlace := ["internal/abi.NoEscape", "internal/bytealg.MakeNoZero", "internal/bytealg.IndexByteString", "internal/bytealg.IndexString", "internal/bytealg.CountString"], unfollowed := true, recurses := true, named := ["internal/bytealg.MaxLen", "unicode/utf8.first", "unicode/utf8.acceptRanges"], apart := false, laid := [("unicode/utf8.acceptRanges", laid_unicode_utf8_acceptRanges), ("unicode/utf8.first", laid_unicode_utf8_first)] }
def FilesTwoSaid : Prop := filesTwoRow.holds Tryd.pinned (OpenSpec.ofChange filesTwoSpec)

/-- ITS FALSE NEIGHBOUR: 'it returns false'. Refute it at one input. -/
def filesTwoWrong : ChangeSpec := { name := "filesTwo", fn := fun _ => fun
  | [d1, d2] => { results := [.lit (.bool false)], args := [d1, d2] }
  | _ => none }
def FilesTwoWrongFalsely : Prop := filesTwoRow.holds Tryd.pinned (OpenSpec.ofChange filesTwoWrong)

/-- 'ferrulelaw14.FilesWritten': WHATEVER THE INPUT: true; the input reads as it did. -/
def filesWrittenSpec : ChangeSpec := { name := "filesWritten", fn := fun _ => fun
  | [d] => { results := [.lit (.bool true)], args := [d] }
  | _ => none }
def filesWrittenRow : OpenClaim := { program := "ytgjjjhfempihkaadoor", sum := "2076a58f6fe8ff3feb54abbb730dc20acde58d8ec9f566b9f82191f64855964e", func := "ferrule/ferrulelaw14.FilesWritten", spec := "filesWritten", inPlace := ["internal/abi.NoEscape", "internal/bytealg.MakeNoZero", "internal/bytealg.IndexByteString", "internal/bytealg.IndexString", "internal/bytealg.CountString"], unfollowed := true, recurses := true, named := ["internal/bytealg.MaxLen", "unicode/utf8.first", "unicode/utf8.acceptRanges"], apart := false, laid := [("unicode/utf8.acceptRanges", laid_unicode_utf8_acceptRanges), ("unicode/utf8.first", laid_unicode_utf8_first)] }
def FilesWrittenSaid : Prop := filesWrittenRow.holds Tryd.pinned (OpenSpec.ofChange filesWrittenSpec)

/-- ITS FALSE NEIGHBOUR: 'it returns false'. Refute it at one input. -/
def filesWrittenWrong : ChangeSpec := { name := "filesWritten", fn := fun _ => fun
  | [d] => { results := [.lit (.bool false)], args := [d] }
  | _ => none }
def FilesWrittenWrongFalsely : Prop := filesWrittenRow.holds Tryd.pinned (OpenSpec.ofChange filesWrittenWrong)

/-- 'ferrulelaw14.FilesRead': WHATEVER THE INPUT: true; the input reads as it did. -/
def filesReadSpec : ChangeSpec := { name := "filesRead", fn := fun _ => fun
  | [d] => { results := [.lit (.bool true)], args := [d] }
  | _ => none }
def filesReadRow : OpenClaim := { program := "ytgjjjhfempihkaadoor", sum := "2076a58f6fe8ff3feb54abbb730dc20acde58d8ec9f566b9f82191f64855964e", func := "ferrule/ferrulelaw14.FilesRead", spec := "filesRead", inPlace := ["internal/abi.NoEscape", "internal/bytealg.MakeNoZero", "internal/bytealg.IndexByteString", "internal/bytealg.IndexString", "internal/bytealg.CountString"], unfollowed := true, recurses := true, named := ["internal/bytealg.MaxLen", "unicode/utf8.first", "unicode/utf8.acceptRanges"], apart := false, laid := [("unicode/utf8.acceptRanges", laid_unicode_utf8_acceptRanges), ("unicode/utf8.first", laid_unicode_utf8_first)] }
def FilesReadSaid : Prop := filesReadRow.holds Tryd.pinned (OpenSpec.ofChange filesReadSpec)

/-- ITS FALSE NEIGHBOUR: 'it returns false'. Refute it at one input. -/
def filesReadWrong : ChangeSpec := { name := "filesRead", fn := fun _ => fun
  | [d] => { results := [.lit (.bool false)], args := [d] }
  | _ => none }
def FilesReadWrongFalsely : Prop := filesReadRow.holds Tryd.pinned (OpenSpec.ofChange filesReadWrong)

/-- 'ferrulelaw14.FilesBack': WHATEVER THE INPUT: true; the input reads as it did. -/
def filesBackSpec : ChangeSpec := { name := "filesBack", fn := fun _ => fun
  | [d] => { results := [.lit (.bool true)], args := [d] }
  | _ => none }
def filesBackRow : OpenClaim := { program := "ytgjjjhfempihkaadoor", sum := "2076a58f6fe8ff3feb54abbb730dc20acde58d8ec9f566b9f82191f64855964e", func := "ferrule/ferrulelaw14.FilesBack", spec := "filesBack", inPlace := ["internal/abi.NoEscape", "internal/bytealg.MakeNoZero", "internal/bytealg.IndexByteString", "internal/bytealg.IndexString", "internal/bytealg.CountString"], unfollowed := true, recurses := true, named := ["internal/bytealg.MaxLen", "unicode/utf8.first", "unicode/utf8.acceptRanges"], apart := false, laid := [("unicode/utf8.acceptRanges", laid_unicode_utf8_acceptRanges), ("unicode/utf8.first", laid_unicode_utf8_first)] }
def FilesBackSaid : Prop := filesBackRow.holds Tryd.pinned (OpenSpec.ofChange filesBackSpec)

/-- ITS FALSE NEIGHBOUR: 'it returns false'. Refute it at one input. -/
def filesBackWrong : ChangeSpec := { name := "filesBack", fn := fun _ => fun
  | [d] => { results := [.lit (.bool false)], args := [d] }
  | _ => none }
def FilesBackWrongFalsely : Prop := filesBackRow.holds Tryd.pinned (OpenSpec.ofChange filesBackWrong)

/-- 'ferrulelaw14.FilesCopies': WHATEVER THE INPUT: true; the input reads as it did. -/
def filesCopiesSpec : ChangeSpec := { name := "filesCopies", fn := fun _ => fun
  | [d1, d2] => { results := [.lit (.bool true)], args := [d1, d2] }
  | _ => none }
def filesCopiesRow : OpenClaim := { program := "ytgjjjhfempihkaadoor", sum := "2076a58f6fe8ff3feb54abbb730dc20acde58d8ec9f566b9f82191f64855964e", func := "ferrule/ferrulelaw14.FilesCopies", spec := "filesCopies", inPlace := ["internal/abi.NoEscape", "internal/bytealg.MakeNoZero", "internal/bytealg.IndexByteString", "internal/bytealg.IndexString", "internal/bytealg.CountString"], unfollowed := true, recurses := true, named := ["internal/bytealg.MaxLen", "unicode/utf8.first", "unicode/utf8.acceptRanges"], apart := false, laid := [("unicode/utf8.acceptRanges", laid_unicode_utf8_acceptRanges), ("unicode/utf8.first", laid_unicode_utf8_first)] }
def FilesCopiesSaid : Prop := filesCopiesRow.holds Tryd.pinned (OpenSpec.ofChange filesCopiesSpec)

/-- ITS FALSE NEIGHBOUR: 'it returns false'. Refute it at one input. -/
def filesCopiesWrong : ChangeSpec := { name := "filesCopies", fn := fun _ => fun
  | [d1, d2] => { results := [.lit (.bool false)], args := [d1, d2] }
  | _ => none }
def FilesCopiesWrongFalsely : Prop := filesCopiesRow.holds Tryd.pinned (OpenSpec.ofChange filesCopiesWrong)

/-- 'ferrulelaw14.FilesJoined': WHATEVER THE INPUT: true; the input reads as it did. -/
def filesJoinedSpec : ChangeSpec := { name := "filesJoined", fn := fun _ => fun
  | [d1, d2] => { results := [.lit (.bool true)], args := [d1, d2] }
  | _ => none }
def filesJoinedRow : OpenClaim := { program := "ytgjjjhfempihkaadoor", sum := "2076a58f6fe8ff3feb54abbb730dc20acde58d8ec9f566b9f82191f64855964e", func := "ferrule/ferrulelaw14.FilesJoined", spec := "filesJoined", inPlace := ["internal/abi.NoEscape", "internal/bytealg.MakeNoZero", "internal/bytealg.IndexByteString", "internal/bytealg.IndexString", "internal/bytealg.CountString"], unfollowed := true, recurses := true, named := ["internal/bytealg.MaxLen", "unicode/utf8.first", "unicode/utf8.acceptRanges"], apart := false, laid := [("unicode/utf8.acceptRanges", laid_unicode_utf8_acceptRanges), ("unicode/utf8.first", laid_unicode_utf8_first)] }
def FilesJoinedSaid : Prop := filesJoinedRow.holds Tryd.pinned (OpenSpec.ofChange filesJoinedSpec)

/-- ITS FALSE NEIGHBOUR: 'it returns false'. Refute it at one input. -/
def filesJoinedWrong : ChangeSpec := { name := "filesJoined", fn := fun _ => fun
  | [d1, d2] => { results := [.lit (.bool false)], args := [d1, d2] }
  | _ => none }
def FilesJoinedWrongFalsely : Prop := filesJoinedRow.holds Tryd.pinned (OpenSpec.ofChange filesJoinedWrong)

/- THE SECOND FORM. 'bulk': how many values and letters a reading holds, each counted each time it is reached (what is shared counts as often as it is met; a slice's spare places count too). A statement '..UptoSaid' is the law's where the arguments, and the package variables that the reading takes, are together of bulk at most 1048576: NARROWER than '..Said'. Prove '..Said' where nothing that the law and all that it calls make is longer than what came in: it says more and counts as full. Else prove '..UptoSaid'. A law counts once. -/
mutual
def uptoBulk {H : Type} : DataW H → Nat
  | .lit (.string bytes) => bytes.length + 1
  | .lit _ => 1
  | .nil => 1
  | .ptr d => uptoBulk d + 1
  | .slice elems spare => uptoBulkAll elems + uptoBulkAll spare + 1
  | .agg parts => uptoBulkAll parts + 1
  | .iface _ d => uptoBulk d + 1
  | .map entries => uptoBulkEntries entries + 1
  | .held _ => 1
def uptoBulkAll {H : Type} : List (DataW H) → Nat
  | [] => 0
  | d :: r => uptoBulk d + uptoBulkAll r
def uptoBulkEntries {H : Type} : List (Lit × DataW H) → Nat
  | [] => 0
  | x :: r => uptoBulkEntry x + uptoBulkEntries r
def uptoBulkEntry {H : Type} : Lit × DataW H → Nat
  | (.string bytes, d) => bytes.length + uptoBulk d + 1
  | (_, d) => uptoBulk d + 1
 end
def uptoSmall : (H : Type) → List (DataW H) → Bool := fun _ ds => decide (uptoBulkAll ds ≤ 1048576)
def OpenSpec.upto (s : _root_.Go.ChangeSpec) : _root_.Go.OpenSpec := { _root_.Go.OpenSpec.ofChange s with cond := some uptoSmall }

/-- 'ferrulelaw14.FilesMended', WHERE WHAT IT READS IS OF BULK AT MOST 1048576: true; the input reads as it did. -/
def filesMendedUptoRow : OpenClaim := { program := "ytgjjjhfempihkaadoor", sum := "2076a58f6fe8ff3feb54abbb730dc20acde58d8ec9f566b9f82191f64855964e", func := "ferrule/ferrulelaw14.FilesMended", spec := "filesMended", inPlace := ["internal/abi.NoEscape", "internal/bytealg.MakeNoZero", "internal/bytealg.IndexByteString", "internal/bytealg.IndexString", "internal/bytealg.CountString"], unfollowed := true, recurses := true, named := ["internal/bytealg.MaxLen", "unicode/utf8.first", "unicode/utf8.acceptRanges"], apart := false, laid := [("unicode/utf8.acceptRanges", laid_unicode_utf8_acceptRanges), ("unicode/utf8.first", laid_unicode_utf8_first)], narrowed := true }
def FilesMendedUptoSaid : Prop := filesMendedUptoRow.holds Tryd.pinned (OpenSpec.upto filesMendedSpec)

/-- 'ferrulelaw14.FilesTwo', WHERE WHAT IT READS IS OF BULK AT MOST 1048576: true; the input reads as it did. -/
def filesTwoUptoRow : OpenClaim := { program := "ytgjjjhfempihkaadoor", sum := "2076a58f6fe8ff3feb54abbb730dc20acde58d8ec9f566b9f82191f64855964e", func := "ferrule/ferrulelaw14.FilesTwo", spec := "filesTwo", inPlace := ["internal/abi.NoEscape", "internal/bytealg.MakeNoZero", "internal/bytealg.IndexByteString", "internal/bytealg.IndexString", "internal/bytealg.CountString"], unfollowed := true, recurses := true, named := ["internal/bytealg.MaxLen", "unicode/utf8.first", "unicode/utf8.acceptRanges"], apart := false, laid := [("unicode/utf8.acceptRanges", laid_unicode_utf8_acceptRanges), ("unicode/utf8.first", laid_unicode_utf8_first)], narrowed := true }
def FilesTwoUptoSaid : Prop := filesTwoUptoRow.holds Tryd.pinned (OpenSpec.upto filesTwoSpec)

/-- 'ferrulelaw14.FilesWritten', WHERE WHAT IT READS IS OF BULK AT MOST 1048576: true; the input reads as it did. -/
def filesWrittenUptoRow : OpenClaim := { program := "ytgjjjhfempihkaadoor", sum := "2076a58f6fe8ff3feb54abbb730dc20acde58d8ec9f566b9f82191f64855964e", func := "ferrule/ferrulelaw14.FilesWritten", spec := "filesWritten", inPlace := ["internal/abi.NoEscape", "internal/bytealg.MakeNoZero", "internal/bytealg.IndexByteString", "internal/bytealg.IndexString", "internal/bytealg.CountString"], unfollowed := true, recurses := true, named := ["internal/bytealg.MaxLen", "unicode/utf8.first", "unicode/utf8.acceptRanges"], apart := false, laid := [("unicode/utf8.acceptRanges", laid_unicode_utf8_acceptRanges), ("unicode/utf8.first", laid_unicode_utf8_first)], narrowed := true }
def FilesWrittenUptoSaid : Prop := filesWrittenUptoRow.holds Tryd.pinned (OpenSpec.upto filesWrittenSpec)

/-- 'ferrulelaw14.FilesRead', WHERE WHAT IT READS IS OF BULK AT MOST 1048576: true; the input reads as it did. -/
def filesReadUptoRow : OpenClaim := { program := "ytgjjjhfempihkaadoor", sum := "2076a58f6fe8ff3feb54abbb730dc20acde58d8ec9f566b9f82191f64855964e", func := "ferrule/ferrulelaw14.FilesRead", spec := "filesRead", inPlace := ["internal/abi.NoEscape", "internal/bytealg.MakeNoZero", "internal/bytealg.IndexByteString", "internal/bytealg.IndexString", "internal/bytealg.CountString"], unfollowed := true, recurses := true, named := ["internal/bytealg.MaxLen", "unicode/utf8.first", "unicode/utf8.acceptRanges"], apart := false, laid := [("unicode/utf8.acceptRanges", laid_unicode_utf8_acceptRanges), ("unicode/utf8.first", laid_unicode_utf8_first)], narrowed := true }
def FilesReadUptoSaid : Prop := filesReadUptoRow.holds Tryd.pinned (OpenSpec.upto filesReadSpec)

/-- 'ferrulelaw14.FilesBack', WHERE WHAT IT READS IS OF BULK AT MOST 1048576: true; the input reads as it did. -/
def filesBackUptoRow : OpenClaim := { program := "ytgjjjhfempihkaadoor", sum := "2076a58f6fe8ff3feb54abbb730dc20acde58d8ec9f566b9f82191f64855964e", func := "ferrule/ferrulelaw14.FilesBack", spec := "filesBack", inPlace := ["internal/abi.NoEscape", "internal/bytealg.MakeNoZero", "internal/bytealg.IndexByteString", "internal/bytealg.IndexString", "internal/bytealg.CountString"], unfollowed := true, recurses := true, named := ["internal/bytealg.MaxLen", "unicode/utf8.first", "unicode/utf8.acceptRanges"], apart := false, laid := [("unicode/utf8.acceptRanges", laid_unicode_utf8_acceptRanges), ("unicode/utf8.first", laid_unicode_utf8_first)], narrowed := true }
def FilesBackUptoSaid : Prop := filesBackUptoRow.holds Tryd.pinned (OpenSpec.upto filesBackSpec)

/-- 'ferrulelaw14.FilesCopies', WHERE WHAT IT READS IS OF BULK AT MOST 1048576: true; the input reads as it did. -/
def filesCopiesUptoRow : OpenClaim := { program := "ytgjjjhfempihkaadoor", sum := "2076a58f6fe8ff3feb54abbb730dc20acde58d8ec9f566b9f82191f64855964e", func := "ferrule/ferrulelaw14.FilesCopies", spec := "filesCopies", inPlace := ["internal/abi.NoEscape", "internal/bytealg.MakeNoZero", "internal/bytealg.IndexByteString", "internal/bytealg.IndexString", "internal/bytealg.CountString"], unfollowed := true, recurses := true, named := ["internal/bytealg.MaxLen", "unicode/utf8.first", "unicode/utf8.acceptRanges"], apart := false, laid := [("unicode/utf8.acceptRanges", laid_unicode_utf8_acceptRanges), ("unicode/utf8.first", laid_unicode_utf8_first)], narrowed := true }
def FilesCopiesUptoSaid : Prop := filesCopiesUptoRow.holds Tryd.pinned (OpenSpec.upto filesCopiesSpec)

/-- 'ferrulelaw14.FilesJoined', WHERE WHAT IT READS IS OF BULK AT MOST 1048576: true; the input reads as it did. -/
def filesJoinedUptoRow : OpenClaim := { program := "ytgjjjhfempihkaadoor", sum := "2076a58f6fe8ff3feb54abbb730dc20acde58d8ec9f566b9f82191f64855964e", func := "ferrule/ferrulelaw14.FilesJoined", spec := "filesJoined", inPlace := ["internal/abi.NoEscape", "internal/bytealg.MakeNoZero", "internal/bytealg.IndexByteString", "internal/bytealg.IndexString", "internal/bytealg.CountString"], unfollowed := true, recurses := true, named := ["internal/bytealg.MaxLen", "unicode/utf8.first", "unicode/utf8.acceptRanges"], apart := false, laid := [("unicode/utf8.acceptRanges", laid_unicode_utf8_acceptRanges), ("unicode/utf8.first", laid_unicode_utf8_first)], narrowed := true }
def FilesJoinedUptoSaid : Prop := filesJoinedUptoRow.holds Tryd.pinned (OpenSpec.upto filesJoinedSpec)

end Rows
end Go.Proofs.YtgjjjhfempihkaaDoor
