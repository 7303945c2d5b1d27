/-
  No cell of these rows narrows 'for every input' (looked for: loops, veiled, ifaces, maps, wideKeys, modest, calm, conditions, laid).
  DERIVED. THE GIVEN ROWS OF THIS SEAT. 6 by the template 'for every input the law returns true; each argument reads behind the call as it read before'; 0 by the template 'total and deterministic' (their statements: YtdfkbjfohffniaaTotals.lean).
  GIVEN WITH THE SEED: the statements are not yours to turn. If you find one false, say at which input.
  Laid BY PROGRAM, IN A SANDBOX (cutbox-rows.mjs): the forced cells as the released guide's own fill.sh prints them over the translation 5ecd4981adbbb3b4… (all of the seat's roots in one cut). By AI agents, Wed Nov 11 2026. No macro, syntax, notation, axiom, sorry.
-/
import Derived.Test.YtdfkbjfohffniaaChecked
import GoSem.Claim
import GoSem.ClaimJoined
import GoSem.ClaimMapViews
import Derived.JoinedTies
import Derived.KernelRfl
namespace Go.Proofs.Ytdfkbjfohffniaa
/- THE CELL 'sum', in the pinned program and in every row, IS THE sha256 OF THE DUMP (.gsa) THAT YtdfkbjfohffniaaProg.lean LOADS. Nothing in Lean hashes anything: it is a label: what it is worth is what the hold of that sum in a sandbox is worth. -/
noncomputable def Try.pinned : Pinned := { name := "ytdfkbjfohffniaa", sum := "5ecd4981adbbb3b4323cfe1e7350c8220910018e939bd069b5e1382891ffe370", checked := Try.checked }
namespace Rows
def none {H : Type} : Left H := { results := [], args := [] }

/-- 'rectolaw01.QuillNums': WHATEVER THE INPUT: true; the input reads as it did. -/
def quillNumsSpec : ChangeSpec := { name := "quillNums", fn := fun _ => fun
  | [d] => { results := [.lit (.bool true)], args := [d] }
  | _ => none }
def quillNumsRow : OpenClaim := { program := "ytdfkbjfohffniaa", sum := "5ecd4981adbbb3b4323cfe1e7350c8220910018e939bd069b5e1382891ffe370", func := "recto/rectolaw01.QuillNums", spec := "quillNums", inPlace := ["internal/abi.NoEscape"], recurses := true, apart := false }
def QuillNumsSaid : Prop := quillNumsRow.holds Try.pinned (OpenSpec.ofChange quillNumsSpec)

/-- ITS FALSE NEIGHBOUR: 'it returns false'. Refute it at one input. -/
def quillNumsWrong : ChangeSpec := { name := "quillNums", fn := fun _ => fun
  | [d] => { results := [.lit (.bool false)], args := [d] }
  | _ => none }
def QuillNumsWrongFalsely : Prop := quillNumsRow.holds Try.pinned (OpenSpec.ofChange quillNumsWrong)

/-- 'rectolaw01.QuillSizes': WHATEVER THE INPUT: true; the input reads as it did. -/
def quillSizesSpec : ChangeSpec := { name := "quillSizes", fn := fun _ => fun
  | [d1, d2] => { results := [.lit (.bool true)], args := [d1, d2] }
  | _ => none }
def quillSizesRow : OpenClaim := { program := "ytdfkbjfohffniaa", sum := "5ecd4981adbbb3b4323cfe1e7350c8220910018e939bd069b5e1382891ffe370", func := "recto/rectolaw01.QuillSizes", spec := "quillSizes", inPlace := ["internal/abi.NoEscape"], recurses := true, apart := false }
def QuillSizesSaid : Prop := quillSizesRow.holds Try.pinned (OpenSpec.ofChange quillSizesSpec)

/-- ITS FALSE NEIGHBOUR: 'it returns false'. Refute it at one input. -/
def quillSizesWrong : ChangeSpec := { name := "quillSizes", fn := fun _ => fun
  | [d1, d2] => { results := [.lit (.bool false)], args := [d1, d2] }
  | _ => none }
def QuillSizesWrongFalsely : Prop := quillSizesRow.holds Try.pinned (OpenSpec.ofChange quillSizesWrong)

/-- 'rectolaw01.QuillPuts': WHATEVER THE INPUT: true; the input reads as it did. -/
def quillPutsSpec : ChangeSpec := { name := "quillPuts", fn := fun _ => fun
  | [d1, d2, d3] => { results := [.lit (.bool true)], args := [d1, d2, d3] }
  | _ => none }
def quillPutsRow : OpenClaim := { program := "ytdfkbjfohffniaa", sum := "5ecd4981adbbb3b4323cfe1e7350c8220910018e939bd069b5e1382891ffe370", func := "recto/rectolaw01.QuillPuts", spec := "quillPuts", inPlace := ["internal/abi.NoEscape"], recurses := true, apart := false }
def QuillPutsSaid : Prop := quillPutsRow.holds Try.pinned (OpenSpec.ofChange quillPutsSpec)

/-- ITS FALSE NEIGHBOUR: 'it returns false'. Refute it at one input. -/
def quillPutsWrong : ChangeSpec := { name := "quillPuts", fn := fun _ => fun
  | [d1, d2, d3] => { results := [.lit (.bool false)], args := [d1, d2, d3] }
  | _ => none }
def QuillPutsWrongFalsely : Prop := quillPutsRow.holds Try.pinned (OpenSpec.ofChange quillPutsWrong)

/-- 'rectolaw01.QuillApart': WHATEVER THE INPUT: true; the input reads as it did. -/
def quillApartSpec : ChangeSpec := { name := "quillApart", fn := fun _ => fun
  | [d1, d2] => { results := [.lit (.bool true)], args := [d1, d2] }
  | _ => none }
def quillApartRow : OpenClaim := { program := "ytdfkbjfohffniaa", sum := "5ecd4981adbbb3b4323cfe1e7350c8220910018e939bd069b5e1382891ffe370", func := "recto/rectolaw01.QuillApart", spec := "quillApart", inPlace := ["internal/abi.NoEscape"], recurses := true, apart := false }
def QuillApartSaid : Prop := quillApartRow.holds Try.pinned (OpenSpec.ofChange quillApartSpec)

/-- ITS FALSE NEIGHBOUR: 'it returns false'. Refute it at one input. -/
def quillApartWrong : ChangeSpec := { name := "quillApart", fn := fun _ => fun
  | [d1, d2] => { results := [.lit (.bool false)], args := [d1, d2] }
  | _ => none }
def QuillApartWrongFalsely : Prop := quillApartRow.holds Try.pinned (OpenSpec.ofChange quillApartWrong)

/-- 'rectolaw01.QuillTexts': WHATEVER THE INPUT: true; the input reads as it did. -/
def quillTextsSpec : ChangeSpec := { name := "quillTexts", fn := fun _ => fun
  | [d] => { results := [.lit (.bool true)], args := [d] }
  | _ => none }
def quillTextsRow : OpenClaim := { program := "ytdfkbjfohffniaa", sum := "5ecd4981adbbb3b4323cfe1e7350c8220910018e939bd069b5e1382891ffe370", func := "recto/rectolaw01.QuillTexts", spec := "quillTexts", inPlace := ["internal/abi.NoEscape"], recurses := true, apart := false }
def QuillTextsSaid : Prop := quillTextsRow.holds Try.pinned (OpenSpec.ofChange quillTextsSpec)

/-- ITS FALSE NEIGHBOUR: 'it returns false'. Refute it at one input. -/
def quillTextsWrong : ChangeSpec := { name := "quillTexts", fn := fun _ => fun
  | [d] => { results := [.lit (.bool false)], args := [d] }
  | _ => none }
def QuillTextsWrongFalsely : Prop := quillTextsRow.holds Try.pinned (OpenSpec.ofChange quillTextsWrong)

/-- 'rectolaw01.QuillBack': WHATEVER THE INPUT: true; the input reads as it did. -/
def quillBackSpec : ChangeSpec := { name := "quillBack", fn := fun _ => fun
  | [d1, d2, d3] => { results := [.lit (.bool true)], args := [d1, d2, d3] }
  | _ => none }
def quillBackRow : OpenClaim := { program := "ytdfkbjfohffniaa", sum := "5ecd4981adbbb3b4323cfe1e7350c8220910018e939bd069b5e1382891ffe370", func := "recto/rectolaw01.QuillBack", spec := "quillBack", inPlace := ["internal/abi.NoEscape"], recurses := true, apart := false }
def QuillBackSaid : Prop := quillBackRow.holds Try.pinned (OpenSpec.ofChange quillBackSpec)

/-- ITS FALSE NEIGHBOUR: 'it returns false'. Refute it at one input. -/
def quillBackWrong : ChangeSpec := { name := "quillBack", fn := fun _ => fun
  | [d1, d2, d3] => { results := [.lit (.bool false)], args := [d1, d2, d3] }
  | _ => none }
def QuillBackWrongFalsely : Prop := quillBackRow.holds Try.pinned (OpenSpec.ofChange quillBackWrong)

/- THE SECOND FORM. 'bulk': how many values and letters a reading holds, each counted each time it is reached (what is shared counts as often as it is met; a slice's spare places count too). A statement '..UptoSaid' is the law's where the arguments, and the package variables that the reading takes, are together of bulk at most 1048576: NARROWER than '..Said'. Prove '..Said' where nothing that the law and all that it calls make is longer than what came in: it says more and counts as full. Else prove '..UptoSaid'. A law counts once. -/
mutual
def uptoBulk {H : Type} : DataW H → Nat
  | .lit (.string bytes) => bytes.length + 1
  | .lit _ => 1
  | .nil => 1
  | .ptr d => uptoBulk d + 1
  | .slice elems spare => uptoBulkAll elems + uptoBulkAll spare + 1
  | .agg parts => uptoBulkAll parts + 1
  | .iface _ d => uptoBulk d + 1
  | .map entries => uptoBulkEntries entries + 1
  | .held _ => 1
def uptoBulkAll {H : Type} : List (DataW H) → Nat
  | [] => 0
  | d :: r => uptoBulk d + uptoBulkAll r
def uptoBulkEntries {H : Type} : List (Lit × DataW H) → Nat
  | [] => 0
  | x :: r => uptoBulkEntry x + uptoBulkEntries r
def uptoBulkEntry {H : Type} : Lit × DataW H → Nat
  | (.string bytes, d) => bytes.length + uptoBulk d + 1
  | (_, d) => uptoBulk d + 1
 end
def uptoSmall : (H : Type) → List (DataW H) → Bool := fun _ ds => decide (uptoBulkAll ds ≤ 1048576)
def OpenSpec.upto (s : _root_.Go.ChangeSpec) : _root_.Go.OpenSpec := { _root_.Go.OpenSpec.ofChange s with cond := some uptoSmall }

/-- 'rectolaw01.QuillNums', WHERE WHAT IT READS IS OF BULK AT MOST 1048576: true; the input reads as it did. -/
def quillNumsUptoRow : OpenClaim := { program := "ytdfkbjfohffniaa", sum := "5ecd4981adbbb3b4323cfe1e7350c8220910018e939bd069b5e1382891ffe370", func := "recto/rectolaw01.QuillNums", spec := "quillNums", inPlace := ["internal/abi.NoEscape"], recurses := true, apart := false, narrowed := true }
def QuillNumsUptoSaid : Prop := quillNumsUptoRow.holds Try.pinned (OpenSpec.upto quillNumsSpec)

/-- 'rectolaw01.QuillSizes', WHERE WHAT IT READS IS OF BULK AT MOST 1048576: true; the input reads as it did. -/
def quillSizesUptoRow : OpenClaim := { program := "ytdfkbjfohffniaa", sum := "5ecd4981adbbb3b4323cfe1e7350c8220910018e939bd069b5e1382891ffe370", func := "recto/rectolaw01.QuillSizes", spec := "quillSizes", inPlace := ["internal/abi.NoEscape"], recurses := true, apart := false, narrowed := true }
def QuillSizesUptoSaid : Prop := quillSizesUptoRow.holds Try.pinned (OpenSpec.upto quillSizesSpec)

/-- 'rectolaw01.QuillPuts', WHERE WHAT IT READS IS OF BULK AT MOST 1048576: true; the input reads as it did. -/
def quillPutsUptoRow : OpenClaim := { program := "ytdfkbjfohffniaa", sum := "5ecd4981adbbb3b4323cfe1e7350c8220910018e939bd069b5e1382891ffe370", func := "recto/rectolaw01.QuillPuts", spec := "quillPuts", inPlace := ["internal/abi.NoEscape"], recurses := true, apart := false, narrowed := true }
def QuillPutsUptoSaid : Prop := quillPutsUptoRow.holds Try.pinned (OpenSpec.upto quillPutsSpec)

/-- 'rectolaw01.QuillApart', WHERE WHAT IT READS IS OF BULK AT MOST 1048576: true; the input reads as it did. -/
def quillApartUptoRow : OpenClaim := { program := "ytdfkbjfohffniaa", sum := "5ecd4981adbbb3b4323cfe1e7350c8220910018e939bd069b5e1382891ffe370", func := "recto/rectolaw01.QuillApart", spec := "quillApart", inPlace := ["internal/abi.NoEscape"], recurses := true, apart := false, narrowed := true }
def QuillApartUptoSaid : Prop := quillApartUptoRow.holds Try.pinned (OpenSpec.upto quillApartSpec)

/-- 'rectolaw01.QuillTexts', WHERE WHAT IT READS IS OF BULK AT MOST 1048576: true; the input reads as it did. -/
def quillTextsUptoRow : OpenClaim := { program := "ytdfkbjfohffniaa", sum := "5ecd4981adbbb3b4323cfe1e7350c8220910018e939bd069b5e1382891ffe370", func := "recto/rectolaw01.QuillTexts", spec := "quillTexts", inPlace := ["internal/abi.NoEscape"], recurses := true, apart := false, narrowed := true }
def QuillTextsUptoSaid : Prop := quillTextsUptoRow.holds Try.pinned (OpenSpec.upto quillTextsSpec)

/-- 'rectolaw01.QuillBack', WHERE WHAT IT READS IS OF BULK AT MOST 1048576: true; the input reads as it did. -/
def quillBackUptoRow : OpenClaim := { program := "ytdfkbjfohffniaa", sum := "5ecd4981adbbb3b4323cfe1e7350c8220910018e939bd069b5e1382891ffe370", func := "recto/rectolaw01.QuillBack", spec := "quillBack", inPlace := ["internal/abi.NoEscape"], recurses := true, apart := false, narrowed := true }
def QuillBackUptoSaid : Prop := quillBackUptoRow.holds Try.pinned (OpenSpec.upto quillBackSpec)

end Rows
end Go.Proofs.Ytdfkbjfohffniaa
