/-
  No cell of these rows narrows 'for every input' (looked for: loops, veiled, ifaces, maps, wideKeys, modest, calm, conditions, laid).
  DERIVED. THE GIVEN ROWS OF THIS SEAT. 5 by the template 'for every input the law returns true; each argument reads behind the call as it read before'; 0 by the template 'total and deterministic' (their statements: YtpgpmcgilbcijaaTotals.lean).
  GIVEN WITH THE SEED: the statements are not yours to turn. If you find one false, say at which input.
  Laid BY PROGRAM, IN A SANDBOX (cutbox-rows.mjs): the forced cells as the released guide's own fill.sh prints them over the translation bcad2cca750e5b88… (all of the seat's roots in one cut). By AI agents, Wed Nov 11 2026. No macro, syntax, notation, axiom, sorry.
-/
import Derived.Test.YtpgpmcgilbcijaaChecked
import GoSem.Claim
import GoSem.ClaimJoined
import GoSem.ClaimMapViews
import Derived.JoinedTies
import Derived.KernelRfl
namespace Go.Proofs.Ytpgpmcgilbcijaa
/- THE CELL 'sum', in the pinned program and in every row, IS THE sha256 OF THE DUMP (.gsa) THAT YtpgpmcgilbcijaaProg.lean LOADS. Nothing in Lean hashes anything: it is a label: what it is worth is what the hold of that sum in a sandbox is worth. -/
noncomputable def Try.pinned : Pinned := { name := "ytpgpmcgilbcijaa", sum := "bcad2cca750e5b886a5e7a28fce5f1404e92d3edf2b251efa6d0b84ce17edef9", checked := Try.checked }
namespace Rows
def none {H : Type} : Left H := { results := [], args := [] }

/-- 'rectolaw15.UrlsSplits': WHATEVER THE INPUT: true; the input reads as it did. -/
def urlsSplitsSpec : ChangeSpec := { name := "urlsSplits", fn := fun _ => fun
  | [d] => { results := [.lit (.bool true)], args := [d] }
  | _ => none }
def urlsSplitsRow : OpenClaim := { program := "ytpgpmcgilbcijaa", sum := "bcad2cca750e5b886a5e7a28fce5f1404e92d3edf2b251efa6d0b84ce17edef9", func := "recto/rectolaw15.UrlsSplits", spec := "urlsSplits", inPlace := ["internal/abi.NoEscape", "internal/bytealg.IndexByteString", "internal/bytealg.IndexString"], unfollowed := true, recurses := true, named := ["internal/bytealg.MaxLen"], apart := false }
def UrlsSplitsSaid : Prop := urlsSplitsRow.holds Try.pinned (OpenSpec.ofChange urlsSplitsSpec)

/-- ITS FALSE NEIGHBOUR: 'it returns false'. Refute it at one input. -/
def urlsSplitsWrong : ChangeSpec := { name := "urlsSplits", fn := fun _ => fun
  | [d] => { results := [.lit (.bool false)], args := [d] }
  | _ => none }
def UrlsSplitsWrongFalsely : Prop := urlsSplitsRow.holds Try.pinned (OpenSpec.ofChange urlsSplitsWrong)

/-- 'rectolaw15.UrlsSafe': WHATEVER THE INPUT: true; the input reads as it did. -/
def urlsSafeSpec : ChangeSpec := { name := "urlsSafe", fn := fun _ => fun
  | [d1, d2] => { results := [.lit (.bool true)], args := [d1, d2] }
  | _ => none }
def urlsSafeRow : OpenClaim := { program := "ytpgpmcgilbcijaa", sum := "bcad2cca750e5b886a5e7a28fce5f1404e92d3edf2b251efa6d0b84ce17edef9", func := "recto/rectolaw15.UrlsSafe", spec := "urlsSafe", inPlace := ["internal/abi.NoEscape", "internal/bytealg.IndexByteString", "internal/bytealg.IndexString"], unfollowed := true, recurses := true, named := ["internal/bytealg.MaxLen"], apart := false }
def UrlsSafeSaid : Prop := urlsSafeRow.holds Try.pinned (OpenSpec.ofChange urlsSafeSpec)

/-- ITS FALSE NEIGHBOUR: 'it returns false'. Refute it at one input. -/
def urlsSafeWrong : ChangeSpec := { name := "urlsSafe", fn := fun _ => fun
  | [d1, d2] => { results := [.lit (.bool false)], args := [d1, d2] }
  | _ => none }
def UrlsSafeWrongFalsely : Prop := urlsSafeRow.holds Try.pinned (OpenSpec.ofChange urlsSafeWrong)

/-- 'rectolaw15.UrlsHidden': WHATEVER THE INPUT: true; the input reads as it did. -/
def urlsHiddenSpec : ChangeSpec := { name := "urlsHidden", fn := fun _ => fun
  | [d1, d2, d3] => { results := [.lit (.bool true)], args := [d1, d2, d3] }
  | _ => none }
def urlsHiddenRow : OpenClaim := { program := "ytpgpmcgilbcijaa", sum := "bcad2cca750e5b886a5e7a28fce5f1404e92d3edf2b251efa6d0b84ce17edef9", func := "recto/rectolaw15.UrlsHidden", spec := "urlsHidden", inPlace := ["internal/abi.NoEscape", "internal/bytealg.IndexByteString", "internal/bytealg.IndexString"], unfollowed := true, recurses := true, named := ["internal/bytealg.MaxLen"], apart := false }
def UrlsHiddenSaid : Prop := urlsHiddenRow.holds Try.pinned (OpenSpec.ofChange urlsHiddenSpec)

/-- ITS FALSE NEIGHBOUR: 'it returns false'. Refute it at one input. -/
def urlsHiddenWrong : ChangeSpec := { name := "urlsHidden", fn := fun _ => fun
  | [d1, d2, d3] => { results := [.lit (.bool false)], args := [d1, d2, d3] }
  | _ => none }
def UrlsHiddenWrongFalsely : Prop := urlsHiddenRow.holds Try.pinned (OpenSpec.ofChange urlsHiddenWrong)

/-- 'rectolaw15.UrlsJoins': WHATEVER THE INPUT: true; the input reads as it did. -/
def urlsJoinsSpec : ChangeSpec := { name := "urlsJoins", fn := fun _ => fun
  | [d] => { results := [.lit (.bool true)], args := [d] }
  | _ => none }
def urlsJoinsRow : OpenClaim := { program := "ytpgpmcgilbcijaa", sum := "bcad2cca750e5b886a5e7a28fce5f1404e92d3edf2b251efa6d0b84ce17edef9", func := "recto/rectolaw15.UrlsJoins", spec := "urlsJoins", inPlace := ["internal/abi.NoEscape", "internal/bytealg.IndexByteString", "internal/bytealg.IndexString"], unfollowed := true, recurses := true, named := ["internal/bytealg.MaxLen"], apart := false }
def UrlsJoinsSaid : Prop := urlsJoinsRow.holds Try.pinned (OpenSpec.ofChange urlsJoinsSpec)

/-- ITS FALSE NEIGHBOUR: 'it returns false'. Refute it at one input. -/
def urlsJoinsWrong : ChangeSpec := { name := "urlsJoins", fn := fun _ => fun
  | [d] => { results := [.lit (.bool false)], args := [d] }
  | _ => none }
def UrlsJoinsWrongFalsely : Prop := urlsJoinsRow.holds Try.pinned (OpenSpec.ofChange urlsJoinsWrong)

/-- 'rectolaw15.UrlsBack': WHATEVER THE INPUT: true; the input reads as it did. -/
def urlsBackSpec : ChangeSpec := { name := "urlsBack", fn := fun _ => fun
  | [d] => { results := [.lit (.bool true)], args := [d] }
  | _ => none }
def urlsBackRow : OpenClaim := { program := "ytpgpmcgilbcijaa", sum := "bcad2cca750e5b886a5e7a28fce5f1404e92d3edf2b251efa6d0b84ce17edef9", func := "recto/rectolaw15.UrlsBack", spec := "urlsBack", inPlace := ["internal/abi.NoEscape", "internal/bytealg.IndexByteString", "internal/bytealg.IndexString"], unfollowed := true, recurses := true, named := ["internal/bytealg.MaxLen"], apart := false }
def UrlsBackSaid : Prop := urlsBackRow.holds Try.pinned (OpenSpec.ofChange urlsBackSpec)

/-- ITS FALSE NEIGHBOUR: 'it returns false'. Refute it at one input. -/
def urlsBackWrong : ChangeSpec := { name := "urlsBack", fn := fun _ => fun
  | [d] => { results := [.lit (.bool false)], args := [d] }
  | _ => none }
def UrlsBackWrongFalsely : Prop := urlsBackRow.holds Try.pinned (OpenSpec.ofChange urlsBackWrong)

/- THE SECOND FORM. 'bulk': how many values and letters a reading holds, each counted each time it is reached (what is shared counts as often as it is met; a slice's spare places count too). A statement '..UptoSaid' is the law's where the arguments, and the package variables that the reading takes, are together of bulk at most 1048576: NARROWER than '..Said'. Prove '..Said' where nothing that the law and all that it calls make is longer than what came in: it says more and counts as full. Else prove '..UptoSaid'. A law counts once. -/
mutual
def uptoBulk {H : Type} : DataW H → Nat
  | .lit (.string bytes) => bytes.length + 1
  | .lit _ => 1
  | .nil => 1
  | .ptr d => uptoBulk d + 1
  | .slice elems spare => uptoBulkAll elems + uptoBulkAll spare + 1
  | .agg parts => uptoBulkAll parts + 1
  | .iface _ d => uptoBulk d + 1
  | .map entries => uptoBulkEntries entries + 1
  | .held _ => 1
def uptoBulkAll {H : Type} : List (DataW H) → Nat
  | [] => 0
  | d :: r => uptoBulk d + uptoBulkAll r
def uptoBulkEntries {H : Type} : List (Lit × DataW H) → Nat
  | [] => 0
  | x :: r => uptoBulkEntry x + uptoBulkEntries r
def uptoBulkEntry {H : Type} : Lit × DataW H → Nat
  | (.string bytes, d) => bytes.length + uptoBulk d + 1
  | (_, d) => uptoBulk d + 1
 end
def uptoSmall : (H : Type) → List (DataW H) → Bool := fun _ ds => decide (uptoBulkAll ds ≤ 1048576)
def OpenSpec.upto (s : _root_.Go.ChangeSpec) : _root_.Go.OpenSpec := { _root_.Go.OpenSpec.ofChange s with cond := some uptoSmall }

/-- 'rectolaw15.UrlsSplits', WHERE WHAT IT READS IS OF BULK AT MOST 1048576: true; the input reads as it did. -/
def urlsSplitsUptoRow : OpenClaim := { program := "ytpgpmcgilbcijaa", sum := "bcad2cca750e5b886a5e7a28fce5f1404e92d3edf2b251efa6d0b84ce17edef9", func := "recto/rectolaw15.UrlsSplits", spec := "urlsSplits", inPlace := ["internal/abi.NoEscape", "internal/bytealg.IndexByteString", "internal/bytealg.IndexString"], unfollowed := true, recurses := true, named := ["internal/bytealg.MaxLen"], apart := false, narrowed := true }
def UrlsSplitsUptoSaid : Prop := urlsSplitsUptoRow.holds Try.pinned (OpenSpec.upto urlsSplitsSpec)

/-- 'rectolaw15.UrlsSafe', WHERE WHAT IT READS IS OF BULK AT MOST 1048576: true; the input reads as it did. -/
def urlsSafeUptoRow : OpenClaim := { program := "ytpgpmcgilbcijaa", sum := "bcad2cca750e5b886a5e7a28fce5f1404e92d3edf2b251efa6d0b84ce17edef9", func := "recto/rectolaw15.UrlsSafe", spec := "urlsSafe", inPlace := ["internal/abi.NoEscape", "internal/bytealg.IndexByteString", "internal/bytealg.IndexString"], unfollowed := true, recurses := true, named := ["internal/bytealg.MaxLen"], apart := false, narrowed := true }
def UrlsSafeUptoSaid : Prop := urlsSafeUptoRow.holds Try.pinned (OpenSpec.upto urlsSafeSpec)

/-- 'rectolaw15.UrlsHidden', WHERE WHAT IT READS IS OF BULK AT MOST 1048576: true; the input reads as it did. -/
def urlsHiddenUptoRow : OpenClaim := { program := "ytpgpmcgilbcijaa", sum := "bcad2cca750e5b886a5e7a28fce5f1404e92d3edf2b251efa6d0b84ce17edef9", func := "recto/rectolaw15.UrlsHidden", spec := "urlsHidden", inPlace := ["internal/abi.NoEscape", "internal/bytealg.IndexByteString", "internal/bytealg.IndexString"], unfollowed := true, recurses := true, named := ["internal/bytealg.MaxLen"], apart := false, narrowed := true }
def UrlsHiddenUptoSaid : Prop := urlsHiddenUptoRow.holds Try.pinned (OpenSpec.upto urlsHiddenSpec)

/-- 'rectolaw15.UrlsJoins', WHERE WHAT IT READS IS OF BULK AT MOST 1048576: true; the input reads as it did. -/
def urlsJoinsUptoRow : OpenClaim := { program := "ytpgpmcgilbcijaa", sum := "bcad2cca750e5b886a5e7a28fce5f1404e92d3edf2b251efa6d0b84ce17edef9", func := "recto/rectolaw15.UrlsJoins", spec := "urlsJoins", inPlace := ["internal/abi.NoEscape", "internal/bytealg.IndexByteString", "internal/bytealg.IndexString"], unfollowed := true, recurses := true, named := ["internal/bytealg.MaxLen"], apart := false, narrowed := true }
def UrlsJoinsUptoSaid : Prop := urlsJoinsUptoRow.holds Try.pinned (OpenSpec.upto urlsJoinsSpec)

/-- 'rectolaw15.UrlsBack', WHERE WHAT IT READS IS OF BULK AT MOST 1048576: true; the input reads as it did. -/
def urlsBackUptoRow : OpenClaim := { program := "ytpgpmcgilbcijaa", sum := "bcad2cca750e5b886a5e7a28fce5f1404e92d3edf2b251efa6d0b84ce17edef9", func := "recto/rectolaw15.UrlsBack", spec := "urlsBack", inPlace := ["internal/abi.NoEscape", "internal/bytealg.IndexByteString", "internal/bytealg.IndexString"], unfollowed := true, recurses := true, named := ["internal/bytealg.MaxLen"], apart := false, narrowed := true }
def UrlsBackUptoSaid : Prop := urlsBackUptoRow.holds Try.pinned (OpenSpec.upto urlsBackSpec)

end Rows
end Go.Proofs.Ytpgpmcgilbcijaa
