/-
  No cell of these rows narrows 'for every input' (looked for: loops, veiled, ifaces, maps, wideKeys, modest, calm, conditions, laid).
  DERIVED. THE GIVEN ROWS OF THIS SEAT. 4 by the template 'for every input the law returns true; each argument reads behind the call as it read before'; 0 by the template 'total and deterministic' (their statements: YtniobmaoangdmaaTotals.lean).
  GIVEN WITH THE SEED: the statements are not yours to turn. If you find one false, say at which input.
  Laid BY PROGRAM, IN A SANDBOX (cutbox-rows.mjs): the forced cells as the released guide's own fill.sh prints them over the translation b2f36761d22c0c67… (all of the seat's roots in one cut). By AI agents, Wed Nov 11 2026. No macro, syntax, notation, axiom, sorry.
-/
import Derived.Test.YtniobmaoangdmaaChecked
import GoSem.Claim
import GoSem.ClaimJoined
import GoSem.ClaimMapViews
import Derived.JoinedTies
import Derived.KernelRfl
namespace Go.Proofs.Ytniobmaoangdmaa
/- THE CELL 'sum', in the pinned program and in every row, IS THE sha256 OF THE DUMP (.gsa) THAT YtniobmaoangdmaaProg.lean LOADS. Nothing in Lean hashes anything: it is a label: what it is worth is what the hold of that sum in a sandbox is worth. -/
noncomputable def Try.pinned : Pinned := { name := "ytniobmaoangdmaa", sum := "b2f36761d22c0c67d56bdc6e642f2b76d536ac7e103c13baaadcb96910dcf611", checked := Try.checked }
namespace Rows
def none {H : Type} : Left H := { results := [], args := [] }

/-- 'rectolaw24.WordsLists': WHATEVER THE INPUT: true; the input reads as it did. -/
def wordsListsSpec : ChangeSpec := { name := "wordsLists", fn := fun _ => fun
  | [d1, d2] => { results := [.lit (.bool true)], args := [d1, d2] }
  | _ => none }
def wordsListsRow : OpenClaim := { program := "ytniobmaoangdmaa", sum := "b2f36761d22c0c67d56bdc6e642f2b76d536ac7e103c13baaadcb96910dcf611", func := "recto/rectolaw24.WordsLists", spec := "wordsLists", inPlace := ["internal/abi.NoEscape"], unfollowed := true, recurses := true, apart := false }
def WordsListsSaid : Prop := wordsListsRow.holds Try.pinned (OpenSpec.ofChange wordsListsSpec)

/-- ITS FALSE NEIGHBOUR: 'it returns false'. Refute it at one input. -/
def wordsListsWrong : ChangeSpec := { name := "wordsLists", fn := fun _ => fun
  | [d1, d2] => { results := [.lit (.bool false)], args := [d1, d2] }
  | _ => none }
def WordsListsWrongFalsely : Prop := wordsListsRow.holds Try.pinned (OpenSpec.ofChange wordsListsWrong)

/-- 'rectolaw24.WordsSplit': WHATEVER THE INPUT: true; the input reads as it did. -/
def wordsSplitSpec : ChangeSpec := { name := "wordsSplit", fn := fun _ => fun
  | [d] => { results := [.lit (.bool true)], args := [d] }
  | _ => none }
def wordsSplitRow : OpenClaim := { program := "ytniobmaoangdmaa", sum := "b2f36761d22c0c67d56bdc6e642f2b76d536ac7e103c13baaadcb96910dcf611", func := "recto/rectolaw24.WordsSplit", spec := "wordsSplit", inPlace := ["internal/abi.NoEscape"], unfollowed := true, recurses := true, apart := false }
def WordsSplitSaid : Prop := wordsSplitRow.holds Try.pinned (OpenSpec.ofChange wordsSplitSpec)

/-- ITS FALSE NEIGHBOUR: 'it returns false'. Refute it at one input. -/
def wordsSplitWrong : ChangeSpec := { name := "wordsSplit", fn := fun _ => fun
  | [d] => { results := [.lit (.bool false)], args := [d] }
  | _ => none }
def WordsSplitWrongFalsely : Prop := wordsSplitRow.holds Try.pinned (OpenSpec.ofChange wordsSplitWrong)

/-- 'rectolaw24.WordsTold': WHATEVER THE INPUT: true; the input reads as it did. -/
def wordsToldSpec : ChangeSpec := { name := "wordsTold", fn := fun _ => fun
  | [d] => { results := [.lit (.bool true)], args := [d] }
  | _ => none }
def wordsToldRow : OpenClaim := { program := "ytniobmaoangdmaa", sum := "b2f36761d22c0c67d56bdc6e642f2b76d536ac7e103c13baaadcb96910dcf611", func := "recto/rectolaw24.WordsTold", spec := "wordsTold", inPlace := ["internal/abi.NoEscape"], unfollowed := true, recurses := true, apart := false }
def WordsToldSaid : Prop := wordsToldRow.holds Try.pinned (OpenSpec.ofChange wordsToldSpec)

/-- ITS FALSE NEIGHBOUR: 'it returns false'. Refute it at one input. -/
def wordsToldWrong : ChangeSpec := { name := "wordsTold", fn := fun _ => fun
  | [d] => { results := [.lit (.bool false)], args := [d] }
  | _ => none }
def WordsToldWrongFalsely : Prop := wordsToldRow.holds Try.pinned (OpenSpec.ofChange wordsToldWrong)

/-- 'rectolaw24.WordsBack': WHATEVER THE INPUT: true; the input reads as it did. -/
def wordsBackSpec : ChangeSpec := { name := "wordsBack", fn := fun _ => fun
  | [d1, d2] => { results := [.lit (.bool true)], args := [d1, d2] }
  | _ => none }
def wordsBackRow : OpenClaim := { program := "ytniobmaoangdmaa", sum := "b2f36761d22c0c67d56bdc6e642f2b76d536ac7e103c13baaadcb96910dcf611", func := "recto/rectolaw24.WordsBack", spec := "wordsBack", inPlace := ["internal/abi.NoEscape"], unfollowed := true, recurses := true, apart := false }
def WordsBackSaid : Prop := wordsBackRow.holds Try.pinned (OpenSpec.ofChange wordsBackSpec)

/-- ITS FALSE NEIGHBOUR: 'it returns false'. Refute it at one input. -/
def wordsBackWrong : ChangeSpec := { name := "wordsBack", fn := fun _ => fun
  | [d1, d2] => { results := [.lit (.bool false)], args := [d1, d2] }
  | _ => none }
def WordsBackWrongFalsely : Prop := wordsBackRow.holds Try.pinned (OpenSpec.ofChange wordsBackWrong)

/- THE SECOND FORM. 'bulk': how many values and letters a reading holds, each counted each time it is reached (what is shared counts as often as it is met; a slice's spare places count too). A statement '..UptoSaid' is the law's where the arguments, and the package variables that the reading takes, are together of bulk at most 1048576: NARROWER than '..Said'. Prove '..Said' where nothing that the law and all that it calls make is longer than what came in: it says more and counts as full. Else prove '..UptoSaid'. A law counts once. -/
mutual
def uptoBulk {H : Type} : DataW H → Nat
  | .lit (.string bytes) => bytes.length + 1
  | .lit _ => 1
  | .nil => 1
  | .ptr d => uptoBulk d + 1
  | .slice elems spare => uptoBulkAll elems + uptoBulkAll spare + 1
  | .agg parts => uptoBulkAll parts + 1
  | .iface _ d => uptoBulk d + 1
  | .map entries => uptoBulkEntries entries + 1
  | .held _ => 1
def uptoBulkAll {H : Type} : List (DataW H) → Nat
  | [] => 0
  | d :: r => uptoBulk d + uptoBulkAll r
def uptoBulkEntries {H : Type} : List (Lit × DataW H) → Nat
  | [] => 0
  | x :: r => uptoBulkEntry x + uptoBulkEntries r
def uptoBulkEntry {H : Type} : Lit × DataW H → Nat
  | (.string bytes, d) => bytes.length + uptoBulk d + 1
  | (_, d) => uptoBulk d + 1
 end
def uptoSmall : (H : Type) → List (DataW H) → Bool := fun _ ds => decide (uptoBulkAll ds ≤ 1048576)
def OpenSpec.upto (s : _root_.Go.ChangeSpec) : _root_.Go.OpenSpec := { _root_.Go.OpenSpec.ofChange s with cond := some uptoSmall }

/-- 'rectolaw24.WordsLists', WHERE WHAT IT READS IS OF BULK AT MOST 1048576: true; the input reads as it did. -/
def wordsListsUptoRow : OpenClaim := { program := "ytniobmaoangdmaa", sum := "b2f36761d22c0c67d56bdc6e642f2b76d536ac7e103c13baaadcb96910dcf611", func := "recto/rectolaw24.WordsLists", spec := "wordsLists", inPlace := ["internal/abi.NoEscape"], unfollowed := true, recurses := true, apart := false, narrowed := true }
def WordsListsUptoSaid : Prop := wordsListsUptoRow.holds Try.pinned (OpenSpec.upto wordsListsSpec)

/-- 'rectolaw24.WordsSplit', WHERE WHAT IT READS IS OF BULK AT MOST 1048576: true; the input reads as it did. -/
def wordsSplitUptoRow : OpenClaim := { program := "ytniobmaoangdmaa", sum := "b2f36761d22c0c67d56bdc6e642f2b76d536ac7e103c13baaadcb96910dcf611", func := "recto/rectolaw24.WordsSplit", spec := "wordsSplit", inPlace := ["internal/abi.NoEscape"], unfollowed := true, recurses := true, apart := false, narrowed := true }
def WordsSplitUptoSaid : Prop := wordsSplitUptoRow.holds Try.pinned (OpenSpec.upto wordsSplitSpec)

/-- 'rectolaw24.WordsTold', WHERE WHAT IT READS IS OF BULK AT MOST 1048576: true; the input reads as it did. -/
def wordsToldUptoRow : OpenClaim := { program := "ytniobmaoangdmaa", sum := "b2f36761d22c0c67d56bdc6e642f2b76d536ac7e103c13baaadcb96910dcf611", func := "recto/rectolaw24.WordsTold", spec := "wordsTold", inPlace := ["internal/abi.NoEscape"], unfollowed := true, recurses := true, apart := false, narrowed := true }
def WordsToldUptoSaid : Prop := wordsToldUptoRow.holds Try.pinned (OpenSpec.upto wordsToldSpec)

/-- 'rectolaw24.WordsBack', WHERE WHAT IT READS IS OF BULK AT MOST 1048576: true; the input reads as it did. -/
def wordsBackUptoRow : OpenClaim := { program := "ytniobmaoangdmaa", sum := "b2f36761d22c0c67d56bdc6e642f2b76d536ac7e103c13baaadcb96910dcf611", func := "recto/rectolaw24.WordsBack", spec := "wordsBack", inPlace := ["internal/abi.NoEscape"], unfollowed := true, recurses := true, apart := false, narrowed := true }
def WordsBackUptoSaid : Prop := wordsBackUptoRow.holds Try.pinned (OpenSpec.upto wordsBackSpec)

end Rows
end Go.Proofs.Ytniobmaoangdmaa
