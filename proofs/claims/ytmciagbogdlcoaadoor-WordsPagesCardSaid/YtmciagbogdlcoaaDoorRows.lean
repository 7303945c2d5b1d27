/-
  NARROWER THAN 'FOR EVERY INPUT', by the rows' own cells (each row's printed sentence says how): PrintTexts: loops, laid · PrintLines: loops, laid · PrintJoins: loops, laid · PrintApart: loops, laid · PrintVoid: loops, laid · WordsPages: loops, laid.
  DERIVED. THE GIVEN ROWS OF THIS SEAT. 6 by the template 'for every input the law returns true; each argument reads behind the call as it read before'; 0 by the template 'total and deterministic' (their statements: YtmciagbogdlcoaaDoorTotals.lean).
  GIVEN WITH THE SEED: the statements are not yours to turn. If you find one false, say at which input.
  Laid BY PROGRAM, IN A SANDBOX (cutbox-rows.mjs): the forced cells as the released guide's own fill.sh prints them over the translation 27731b8388646ab5… (all of the seat's roots in one cut). By AI agents, Wed Nov 11 2026. No macro, syntax, notation, axiom, sorry.
-/
import Derived.Test.YtmciagbogdlcoaaDoorChecked
import GoSem.PinnedTables
import GoSem.Claim
import GoSem.ClaimJoined
import GoSem.ClaimMapViews
import Derived.JoinedTies
import Derived.KernelRfl
namespace Go.Proofs.YtmciagbogdlcoaaDoor
/- THE CELL 'sum', in the pinned program and in every row, IS THE sha256 OF THE DUMP (.gsa) THAT YtmciagbogdlcoaaDoorProg.lean LOADS. Nothing in Lean hashes anything: it is a label: what it is worth is what the hold of that sum in a sandbox is worth. -/
noncomputable def Tryd.pinned : Pinned := { name := "ytmciagbogdlcoaadoor", sum := "27731b8388646ab51d688c3b0008e5af0be05a3acf4ebab75ec844b3da773768", checked := Tryd.checked }
namespace Rows
def none {H : Type} : Left H := { results := [], args := [] }

/- WHAT THE LISTED PACKAGE-LEVEL VARIABLES READ AS WHEN THE CALL BEGINS. Each datum BY PROGRAM (the guide's laid-datum.mjs) off the statement by which the dump's own 'gosem.cut.vars' lays the variable. In a bare row this is a premise. The card (YtmciagbogdlcoaaDoorCards.lean) ties it to the program's text. -/
def laid_unicode_utf8_acceptRanges {H : Type} : DataW H := .agg [.agg [.lit (.int .u8 128), .lit (.int .u8 191)], .agg [.lit (.int .u8 160), .lit (.int .u8 191)], .agg [.lit (.int .u8 128), .lit (.int .u8 159)], .agg [.lit (.int .u8 144), .lit (.int .u8 191)], .agg [.lit (.int .u8 128), .lit (.int .u8 143)], .agg [.lit (.int .u8 0), .lit (.int .u8 0)], .agg [.lit (.int .u8 0), .lit (.int .u8 0)], .agg [.lit (.int .u8 0), .lit (.int .u8 0)], .agg [.lit (.int .u8 0), .lit (.int .u8 0)], .agg [.lit (.int .u8 0), .lit (.int .u8 0)], .agg [.lit (.int .u8 0), .lit (.int .u8 0)], .agg [.lit (.int .u8 0), .lit (.int .u8 0)], .agg [.lit (.int .u8 0), .lit (.int .u8 0)], .agg [.lit (.int .u8 0), .lit (.int .u8 0)], .agg [.lit (.int .u8 0), .lit (.int .u8 0)], .agg [.lit (.int .u8 0), .lit (.int .u8 0)]]
def laid_recto_utf_rows {H : Type} : DataW H := .agg [.agg [.lit (.int .i64 0), .lit (.int .i64 0)], .agg [.lit (.int .i64 0), .lit (.int .i64 0)], .agg [.lit (.int .i64 192), .lit (.int .i64 128)], .agg [.lit (.int .i64 224), .lit (.int .i64 2048)], .agg [.lit (.int .i64 240), .lit (.int .i64 65536)]]
/-- One of Go's own tables, pinned by name: the form's constant. -/
def laid_unicode_utf8_first : DataW Unit := Go.Pinned.utf8First

/-- 'rectolaw13.PrintTexts': WHATEVER THE INPUT: true; the input reads as it did. -/
def printTextsSpec : ChangeSpec := { name := "printTexts", fn := fun _ => fun
  | [d1, d2] => { results := [.lit (.bool true)], args := [d1, d2] }
  | _ => none }
def printTextsRow : OpenClaim := { program := "ytmciagbogdlcoaadoor", sum := "27731b8388646ab51d688c3b0008e5af0be05a3acf4ebab75ec844b3da773768", func := "recto/rectolaw13.PrintTexts", spec := "printTexts", inPlace := ["internal/abi.NoEscape", "internal/bytealg.CountString", "internal/bytealg.IndexByteString", "internal/bytealg.IndexString", "internal/bytealg.MakeNoZero"], unfollowed := true, recurses := true, named := ["internal/bytealg.MaxLen", "unicode/utf8.first", "unicode/utf8.acceptRanges", "recto/utf.rows"], loops := true, apart := false, laid := [("unicode/utf8.acceptRanges", laid_unicode_utf8_acceptRanges), ("recto/utf.rows", laid_recto_utf_rows), ("unicode/utf8.first", laid_unicode_utf8_first)] }
def PrintTextsSaid : Prop := printTextsRow.holds Tryd.pinned (OpenSpec.ofChange printTextsSpec)

/-- ITS FALSE NEIGHBOUR: 'it returns false'. Refute it at one input. -/
def printTextsWrong : ChangeSpec := { name := "printTexts", fn := fun _ => fun
  | [d1, d2] => { results := [.lit (.bool false)], args := [d1, d2] }
  | _ => none }
def PrintTextsWrongFalsely : Prop := printTextsRow.holds Tryd.pinned (OpenSpec.ofChange printTextsWrong)

/-- 'rectolaw13.PrintLines': WHATEVER THE INPUT: true; the input reads as it did. -/
def printLinesSpec : ChangeSpec := { name := "printLines", fn := fun _ => fun
  | [d] => { results := [.lit (.bool true)], args := [d] }
  | _ => none }
def printLinesRow : OpenClaim := { program := "ytmciagbogdlcoaadoor", sum := "27731b8388646ab51d688c3b0008e5af0be05a3acf4ebab75ec844b3da773768", func := "recto/rectolaw13.PrintLines", spec := "printLines", inPlace := ["internal/abi.NoEscape", "internal/bytealg.CountString", "internal/bytealg.IndexByteString", "internal/bytealg.IndexString", "internal/bytealg.MakeNoZero"], unfollowed := true, recurses := true, named := ["internal/bytealg.MaxLen", "unicode/utf8.first", "unicode/utf8.acceptRanges", "recto/utf.rows"], loops := true, apart := false, laid := [("unicode/utf8.acceptRanges", laid_unicode_utf8_acceptRanges), ("recto/utf.rows", laid_recto_utf_rows), ("unicode/utf8.first", laid_unicode_utf8_first)] }
def PrintLinesSaid : Prop := printLinesRow.holds Tryd.pinned (OpenSpec.ofChange printLinesSpec)

/-- ITS FALSE NEIGHBOUR: 'it returns false'. Refute it at one input. -/
def printLinesWrong : ChangeSpec := { name := "printLines", fn := fun _ => fun
  | [d] => { results := [.lit (.bool false)], args := [d] }
  | _ => none }
def PrintLinesWrongFalsely : Prop := printLinesRow.holds Tryd.pinned (OpenSpec.ofChange printLinesWrong)

/-- 'rectolaw13.PrintJoins': WHATEVER THE INPUT: true; the input reads as it did. -/
def printJoinsSpec : ChangeSpec := { name := "printJoins", fn := fun _ => fun
  | [d1, d2] => { results := [.lit (.bool true)], args := [d1, d2] }
  | _ => none }
def printJoinsRow : OpenClaim := { program := "ytmciagbogdlcoaadoor", sum := "27731b8388646ab51d688c3b0008e5af0be05a3acf4ebab75ec844b3da773768", func := "recto/rectolaw13.PrintJoins", spec := "printJoins", inPlace := ["internal/abi.NoEscape", "internal/bytealg.CountString", "internal/bytealg.IndexByteString", "internal/bytealg.IndexString", "internal/bytealg.MakeNoZero"], unfollowed := true, recurses := true, named := ["internal/bytealg.MaxLen", "unicode/utf8.first", "unicode/utf8.acceptRanges", "recto/utf.rows"], loops := true, apart := false, laid := [("unicode/utf8.acceptRanges", laid_unicode_utf8_acceptRanges), ("recto/utf.rows", laid_recto_utf_rows), ("unicode/utf8.first", laid_unicode_utf8_first)] }
def PrintJoinsSaid : Prop := printJoinsRow.holds Tryd.pinned (OpenSpec.ofChange printJoinsSpec)

/-- ITS FALSE NEIGHBOUR: 'it returns false'. Refute it at one input. -/
def printJoinsWrong : ChangeSpec := { name := "printJoins", fn := fun _ => fun
  | [d1, d2] => { results := [.lit (.bool false)], args := [d1, d2] }
  | _ => none }
def PrintJoinsWrongFalsely : Prop := printJoinsRow.holds Tryd.pinned (OpenSpec.ofChange printJoinsWrong)

/-- 'rectolaw13.PrintApart': WHATEVER THE INPUT: true; the input reads as it did. -/
def printApartSpec : ChangeSpec := { name := "printApart", fn := fun _ => fun
  | [d1, d2, d3] => { results := [.lit (.bool true)], args := [d1, d2, d3] }
  | _ => none }
def printApartRow : OpenClaim := { program := "ytmciagbogdlcoaadoor", sum := "27731b8388646ab51d688c3b0008e5af0be05a3acf4ebab75ec844b3da773768", func := "recto/rectolaw13.PrintApart", spec := "printApart", inPlace := ["internal/abi.NoEscape", "internal/bytealg.CountString", "internal/bytealg.IndexByteString", "internal/bytealg.IndexString", "internal/bytealg.MakeNoZero"], unfollowed := true, recurses := true, named := ["internal/bytealg.MaxLen", "unicode/utf8.first", "unicode/utf8.acceptRanges", "recto/utf.rows"], loops := true, apart := false, laid := [("unicode/utf8.acceptRanges", laid_unicode_utf8_acceptRanges), ("recto/utf.rows", laid_recto_utf_rows), ("unicode/utf8.first", laid_unicode_utf8_first)] }
def PrintApartSaid : Prop := printApartRow.holds Tryd.pinned (OpenSpec.ofChange printApartSpec)

/-- ITS FALSE NEIGHBOUR: 'it returns false'. Refute it at one input. -/
def printApartWrong : ChangeSpec := { name := "printApart", fn := fun _ => fun
  | [d1, d2, d3] => { results := [.lit (.bool false)], args := [d1, d2, d3] }
  | _ => none }
def PrintApartWrongFalsely : Prop := printApartRow.holds Tryd.pinned (OpenSpec.ofChange printApartWrong)

/-- 'rectolaw13.PrintVoid': WHATEVER THE INPUT: true; the input reads as it did. -/
def printVoidSpec : ChangeSpec := { name := "printVoid", fn := fun _ => fun
  | [d1, d2, d3] => { results := [.lit (.bool true)], args := [d1, d2, d3] }
  | _ => none }
def printVoidRow : OpenClaim := { program := "ytmciagbogdlcoaadoor", sum := "27731b8388646ab51d688c3b0008e5af0be05a3acf4ebab75ec844b3da773768", func := "recto/rectolaw13.PrintVoid", spec := "printVoid", inPlace := ["internal/abi.NoEscape", "internal/bytealg.CountString", "internal/bytealg.IndexByteString", "internal/bytealg.IndexString", "internal/bytealg.MakeNoZero"], unfollowed := true, recurses := true, named := ["internal/bytealg.MaxLen", "unicode/utf8.first", "unicode/utf8.acceptRanges", "recto/utf.rows"], loops := true, apart := false, laid := [("unicode/utf8.acceptRanges", laid_unicode_utf8_acceptRanges), ("recto/utf.rows", laid_recto_utf_rows), ("unicode/utf8.first", laid_unicode_utf8_first)] }
def PrintVoidSaid : Prop := printVoidRow.holds Tryd.pinned (OpenSpec.ofChange printVoidSpec)

/-- ITS FALSE NEIGHBOUR: 'it returns false'. Refute it at one input. -/
def printVoidWrong : ChangeSpec := { name := "printVoid", fn := fun _ => fun
  | [d1, d2, d3] => { results := [.lit (.bool false)], args := [d1, d2, d3] }
  | _ => none }
def PrintVoidWrongFalsely : Prop := printVoidRow.holds Tryd.pinned (OpenSpec.ofChange printVoidWrong)

/-- 'rectolaw24.WordsPages': WHATEVER THE INPUT: true; the input reads as it did. -/
def wordsPagesSpec : ChangeSpec := { name := "wordsPages", fn := fun _ => fun
  | [d1, d2] => { results := [.lit (.bool true)], args := [d1, d2] }
  | _ => none }
def wordsPagesRow : OpenClaim := { program := "ytmciagbogdlcoaadoor", sum := "27731b8388646ab51d688c3b0008e5af0be05a3acf4ebab75ec844b3da773768", func := "recto/rectolaw24.WordsPages", spec := "wordsPages", inPlace := ["internal/abi.NoEscape", "internal/bytealg.MakeNoZero", "internal/bytealg.CountString", "internal/bytealg.IndexByteString", "internal/bytealg.IndexString"], unfollowed := true, recurses := true, named := ["internal/bytealg.MaxLen", "unicode/utf8.first", "unicode/utf8.acceptRanges", "recto/utf.rows"], loops := true, apart := false, laid := [("unicode/utf8.acceptRanges", laid_unicode_utf8_acceptRanges), ("recto/utf.rows", laid_recto_utf_rows), ("unicode/utf8.first", laid_unicode_utf8_first)] }
def WordsPagesSaid : Prop := wordsPagesRow.holds Tryd.pinned (OpenSpec.ofChange wordsPagesSpec)

/-- ITS FALSE NEIGHBOUR: 'it returns false'. Refute it at one input. -/
def wordsPagesWrong : ChangeSpec := { name := "wordsPages", fn := fun _ => fun
  | [d1, d2] => { results := [.lit (.bool false)], args := [d1, d2] }
  | _ => none }
def WordsPagesWrongFalsely : Prop := wordsPagesRow.holds Tryd.pinned (OpenSpec.ofChange wordsPagesWrong)

/- THE SECOND FORM. 'bulk': how many values and letters a reading holds, each counted each time it is reached (what is shared counts as often as it is met; a slice's spare places count too). A statement '..UptoSaid' is the law's where the arguments, and the package variables that the reading takes, are together of bulk at most 1048576: NARROWER than '..Said'. Prove '..Said' where nothing that the law and all that it calls make is longer than what came in: it says more and counts as full. Else prove '..UptoSaid'. A law counts once. -/
mutual
def uptoBulk {H : Type} : DataW H → Nat
  | .lit (.string bytes) => bytes.length + 1
  | .lit _ => 1
  | .nil => 1
  | .ptr d => uptoBulk d + 1
  | .slice elems spare => uptoBulkAll elems + uptoBulkAll spare + 1
  | .agg parts => uptoBulkAll parts + 1
  | .iface _ d => uptoBulk d + 1
  | .map entries => uptoBulkEntries entries + 1
  | .held _ => 1
def uptoBulkAll {H : Type} : List (DataW H) → Nat
  | [] => 0
  | d :: r => uptoBulk d + uptoBulkAll r
def uptoBulkEntries {H : Type} : List (Lit × DataW H) → Nat
  | [] => 0
  | x :: r => uptoBulkEntry x + uptoBulkEntries r
def uptoBulkEntry {H : Type} : Lit × DataW H → Nat
  | (.string bytes, d) => bytes.length + uptoBulk d + 1
  | (_, d) => uptoBulk d + 1
 end
def uptoSmall : (H : Type) → List (DataW H) → Bool := fun _ ds => decide (uptoBulkAll ds ≤ 1048576)
def OpenSpec.upto (s : _root_.Go.ChangeSpec) : _root_.Go.OpenSpec := { _root_.Go.OpenSpec.ofChange s with cond := some uptoSmall }

/-- 'rectolaw13.PrintTexts', WHERE WHAT IT READS IS OF BULK AT MOST 1048576: true; the input reads as it did. -/
def printTextsUptoRow : OpenClaim := { program := "ytmciagbogdlcoaadoor", sum := "27731b8388646ab51d688c3b0008e5af0be05a3acf4ebab75ec844b3da773768", func := "recto/rectolaw13.PrintTexts", spec := "printTexts", inPlace := ["internal/abi.NoEscape", "internal/bytealg.CountString", "internal/bytealg.IndexByteString", "internal/bytealg.IndexString", "internal/bytealg.MakeNoZero"], unfollowed := true, recurses := true, named := ["internal/bytealg.MaxLen", "unicode/utf8.first", "unicode/utf8.acceptRanges", "recto/utf.rows"], loops := true, apart := false, laid := [("unicode/utf8.acceptRanges", laid_unicode_utf8_acceptRanges), ("recto/utf.rows", laid_recto_utf_rows), ("unicode/utf8.first", laid_unicode_utf8_first)], narrowed := true }
def PrintTextsUptoSaid : Prop := printTextsUptoRow.holds Tryd.pinned (OpenSpec.upto printTextsSpec)

/-- 'rectolaw13.PrintLines', WHERE WHAT IT READS IS OF BULK AT MOST 1048576: true; the input reads as it did. -/
def printLinesUptoRow : OpenClaim := { program := "ytmciagbogdlcoaadoor", sum := "27731b8388646ab51d688c3b0008e5af0be05a3acf4ebab75ec844b3da773768", func := "recto/rectolaw13.PrintLines", spec := "printLines", inPlace := ["internal/abi.NoEscape", "internal/bytealg.CountString", "internal/bytealg.IndexByteString", "internal/bytealg.IndexString", "internal/bytealg.MakeNoZero"], unfollowed := true, recurses := true, named := ["internal/bytealg.MaxLen", "unicode/utf8.first", "unicode/utf8.acceptRanges", "recto/utf.rows"], loops := true, apart := false, laid := [("unicode/utf8.acceptRanges", laid_unicode_utf8_acceptRanges), ("recto/utf.rows", laid_recto_utf_rows), ("unicode/utf8.first", laid_unicode_utf8_first)], narrowed := true }
def PrintLinesUptoSaid : Prop := printLinesUptoRow.holds Tryd.pinned (OpenSpec.upto printLinesSpec)

/-- 'rectolaw13.PrintJoins', WHERE WHAT IT READS IS OF BULK AT MOST 1048576: true; the input reads as it did. -/
def printJoinsUptoRow : OpenClaim := { program := "ytmciagbogdlcoaadoor", sum := "27731b8388646ab51d688c3b0008e5af0be05a3acf4ebab75ec844b3da773768", func := "recto/rectolaw13.PrintJoins", spec := "printJoins", inPlace := ["internal/abi.NoEscape", "internal/bytealg.CountString", "internal/bytealg.IndexByteString", "internal/bytealg.IndexString", "internal/bytealg.MakeNoZero"], unfollowed := true, recurses := true, named := ["internal/bytealg.MaxLen", "unicode/utf8.first", "unicode/utf8.acceptRanges", "recto/utf.rows"], loops := true, apart := false, laid := [("unicode/utf8.acceptRanges", laid_unicode_utf8_acceptRanges), ("recto/utf.rows", laid_recto_utf_rows), ("unicode/utf8.first", laid_unicode_utf8_first)], narrowed := true }
def PrintJoinsUptoSaid : Prop := printJoinsUptoRow.holds Tryd.pinned (OpenSpec.upto printJoinsSpec)

/-- 'rectolaw13.PrintApart', WHERE WHAT IT READS IS OF BULK AT MOST 1048576: true; the input reads as it did. -/
def printApartUptoRow : OpenClaim := { program := "ytmciagbogdlcoaadoor", sum := "27731b8388646ab51d688c3b0008e5af0be05a3acf4ebab75ec844b3da773768", func := "recto/rectolaw13.PrintApart", spec := "printApart", inPlace := ["internal/abi.NoEscape", "internal/bytealg.CountString", "internal/bytealg.IndexByteString", "internal/bytealg.IndexString", "internal/bytealg.MakeNoZero"], unfollowed := true, recurses := true, named := ["internal/bytealg.MaxLen", "unicode/utf8.first", "unicode/utf8.acceptRanges", "recto/utf.rows"], loops := true, apart := false, laid := [("unicode/utf8.acceptRanges", laid_unicode_utf8_acceptRanges), ("recto/utf.rows", laid_recto_utf_rows), ("unicode/utf8.first", laid_unicode_utf8_first)], narrowed := true }
def PrintApartUptoSaid : Prop := printApartUptoRow.holds Tryd.pinned (OpenSpec.upto printApartSpec)

/-- 'rectolaw13.PrintVoid', WHERE WHAT IT READS IS OF BULK AT MOST 1048576: true; the input reads as it did. -/
def printVoidUptoRow : OpenClaim := { program := "ytmciagbogdlcoaadoor", sum := "27731b8388646ab51d688c3b0008e5af0be05a3acf4ebab75ec844b3da773768", func := "recto/rectolaw13.PrintVoid", spec := "printVoid", inPlace := ["internal/abi.NoEscape", "internal/bytealg.CountString", "internal/bytealg.IndexByteString", "internal/bytealg.IndexString", "internal/bytealg.MakeNoZero"], unfollowed := true, recurses := true, named := ["internal/bytealg.MaxLen", "unicode/utf8.first", "unicode/utf8.acceptRanges", "recto/utf.rows"], loops := true, apart := false, laid := [("unicode/utf8.acceptRanges", laid_unicode_utf8_acceptRanges), ("recto/utf.rows", laid_recto_utf_rows), ("unicode/utf8.first", laid_unicode_utf8_first)], narrowed := true }
def PrintVoidUptoSaid : Prop := printVoidUptoRow.holds Tryd.pinned (OpenSpec.upto printVoidSpec)

/-- 'rectolaw24.WordsPages', WHERE WHAT IT READS IS OF BULK AT MOST 1048576: true; the input reads as it did. -/
def wordsPagesUptoRow : OpenClaim := { program := "ytmciagbogdlcoaadoor", sum := "27731b8388646ab51d688c3b0008e5af0be05a3acf4ebab75ec844b3da773768", func := "recto/rectolaw24.WordsPages", spec := "wordsPages", inPlace := ["internal/abi.NoEscape", "internal/bytealg.MakeNoZero", "internal/bytealg.CountString", "internal/bytealg.IndexByteString", "internal/bytealg.IndexString"], unfollowed := true, recurses := true, named := ["internal/bytealg.MaxLen", "unicode/utf8.first", "unicode/utf8.acceptRanges", "recto/utf.rows"], loops := true, apart := false, laid := [("unicode/utf8.acceptRanges", laid_unicode_utf8_acceptRanges), ("recto/utf.rows", laid_recto_utf_rows), ("unicode/utf8.first", laid_unicode_utf8_first)], narrowed := true }
def WordsPagesUptoSaid : Prop := wordsPagesUptoRow.holds Tryd.pinned (OpenSpec.upto wordsPagesSpec)

end Rows
end Go.Proofs.YtmciagbogdlcoaaDoor
