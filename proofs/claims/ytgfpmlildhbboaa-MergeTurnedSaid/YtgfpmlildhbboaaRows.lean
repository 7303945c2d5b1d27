/-
  NARROWER THAN 'FOR EVERY INPUT', by the rows' own cells (each row's printed sentence says how): MatchLists: loops · BlendNodes: loops · MergeOne: loops · MergeTurned: loops.
  DERIVED. THE GIVEN ROWS OF THIS SEAT. 10 by the template 'for every input the law returns true; each argument reads behind the call as it read before'; 0 by the template 'total and deterministic' (their statements: YtgfpmlildhbboaaTotals.lean).
  GIVEN WITH THE SEED: the statements are not yours to turn. If you find one false, say at which input.
  Laid BY PROGRAM, IN A SANDBOX (cutbox-rows.mjs): the forced cells as the released guide's own fill.sh prints them over the translation 668c4041b97ef4aa… (all of the seat's roots in one cut). By AI agents, Wed Nov 11 2026. No macro, syntax, notation, axiom, sorry.
-/
import Derived.Test.YtgfpmlildhbboaaChecked
import GoSem.Claim
import GoSem.ClaimJoined
import GoSem.ClaimMapViews
import Derived.JoinedTies
import Derived.KernelRfl
namespace Go.Proofs.Ytgfpmlildhbboaa
/- THE CELL 'sum', in the pinned program and in every row, IS THE sha256 OF THE DUMP (.gsa) THAT YtgfpmlildhbboaaProg.lean LOADS. Nothing in Lean hashes anything: it is a label: what it is worth is what the hold of that sum in a sandbox is worth. -/
noncomputable def Try.pinned : Pinned := { name := "ytgfpmlildhbboaa", sum := "668c4041b97ef4aad1cb4c32d9f1978263c04f9b8aab841d5973915bca65fce5", checked := Try.checked }
namespace Rows
def none {H : Type} : Left H := { results := [], args := [] }

/-- 'rectolaw20.MatchLines': WHATEVER THE INPUT: true; the input reads as it did. -/
def matchLinesSpec : ChangeSpec := { name := "matchLines", fn := fun _ => fun
  | [d1, d2] => { results := [.lit (.bool true)], args := [d1, d2] }
  | _ => none }
def matchLinesRow : OpenClaim := { program := "ytgfpmlildhbboaa", sum := "668c4041b97ef4aad1cb4c32d9f1978263c04f9b8aab841d5973915bca65fce5", func := "recto/rectolaw20.MatchLines", spec := "matchLines", apart := false }
def MatchLinesSaid : Prop := matchLinesRow.holds Try.pinned (OpenSpec.ofChange matchLinesSpec)

/-- ITS FALSE NEIGHBOUR: 'it returns false'. Refute it at one input. -/
def matchLinesWrong : ChangeSpec := { name := "matchLines", fn := fun _ => fun
  | [d1, d2] => { results := [.lit (.bool false)], args := [d1, d2] }
  | _ => none }
def MatchLinesWrongFalsely : Prop := matchLinesRow.holds Try.pinned (OpenSpec.ofChange matchLinesWrong)

/-- 'rectolaw20.MatchMost': WHATEVER THE INPUT: true; the input reads as it did. -/
def matchMostSpec : ChangeSpec := { name := "matchMost", fn := fun _ => fun
  | [d1, d2, d3] => { results := [.lit (.bool true)], args := [d1, d2, d3] }
  | _ => none }
def matchMostRow : OpenClaim := { program := "ytgfpmlildhbboaa", sum := "668c4041b97ef4aad1cb4c32d9f1978263c04f9b8aab841d5973915bca65fce5", func := "recto/rectolaw20.MatchMost", spec := "matchMost", apart := false }
def MatchMostSaid : Prop := matchMostRow.holds Try.pinned (OpenSpec.ofChange matchMostSpec)

/-- ITS FALSE NEIGHBOUR: 'it returns false'. Refute it at one input. -/
def matchMostWrong : ChangeSpec := { name := "matchMost", fn := fun _ => fun
  | [d1, d2, d3] => { results := [.lit (.bool false)], args := [d1, d2, d3] }
  | _ => none }
def MatchMostWrongFalsely : Prop := matchMostRow.holds Try.pinned (OpenSpec.ofChange matchMostWrong)

/-- 'rectolaw20.MatchLists': WHATEVER THE INPUT: true; the input reads as it did. -/
def matchListsSpec : ChangeSpec := { name := "matchLists", fn := fun _ => fun
  | [d1, d2] => { results := [.lit (.bool true)], args := [d1, d2] }
  | _ => none }
def matchListsRow : OpenClaim := { program := "ytgfpmlildhbboaa", sum := "668c4041b97ef4aad1cb4c32d9f1978263c04f9b8aab841d5973915bca65fce5", func := "recto/rectolaw20.MatchLists", spec := "matchLists", inPlace := ["internal/abi.NoEscape"], unfollowed := true, recurses := true, loops := true, apart := false }
def MatchListsSaid : Prop := matchListsRow.holds Try.pinned (OpenSpec.ofChange matchListsSpec)

/-- ITS FALSE NEIGHBOUR: 'it returns false'. Refute it at one input. -/
def matchListsWrong : ChangeSpec := { name := "matchLists", fn := fun _ => fun
  | [d1, d2] => { results := [.lit (.bool false)], args := [d1, d2] }
  | _ => none }
def MatchListsWrongFalsely : Prop := matchListsRow.holds Try.pinned (OpenSpec.ofChange matchListsWrong)

/-- 'rectolaw25.BlendTexts': WHATEVER THE INPUT: true; the input reads as it did. -/
def blendTextsSpec : ChangeSpec := { name := "blendTexts", fn := fun _ => fun
  | [d1, d2, d3] => { results := [.lit (.bool true)], args := [d1, d2, d3] }
  | _ => none }
def blendTextsRow : OpenClaim := { program := "ytgfpmlildhbboaa", sum := "668c4041b97ef4aad1cb4c32d9f1978263c04f9b8aab841d5973915bca65fce5", func := "recto/rectolaw25.BlendTexts", spec := "blendTexts", unfollowed := true, recurses := true, apart := false }
def BlendTextsSaid : Prop := blendTextsRow.holds Try.pinned (OpenSpec.ofChange blendTextsSpec)

/-- ITS FALSE NEIGHBOUR: 'it returns false'. Refute it at one input. -/
def blendTextsWrong : ChangeSpec := { name := "blendTexts", fn := fun _ => fun
  | [d1, d2, d3] => { results := [.lit (.bool false)], args := [d1, d2, d3] }
  | _ => none }
def BlendTextsWrongFalsely : Prop := blendTextsRow.holds Try.pinned (OpenSpec.ofChange blendTextsWrong)

/-- 'rectolaw25.BlendGoes': WHATEVER THE INPUT: true; the input reads as it did. -/
def blendGoesSpec : ChangeSpec := { name := "blendGoes", fn := fun _ => fun
  | [d1, d2, d3] => { results := [.lit (.bool true)], args := [d1, d2, d3] }
  | _ => none }
def blendGoesRow : OpenClaim := { program := "ytgfpmlildhbboaa", sum := "668c4041b97ef4aad1cb4c32d9f1978263c04f9b8aab841d5973915bca65fce5", func := "recto/rectolaw25.BlendGoes", spec := "blendGoes", unfollowed := true, recurses := true, apart := false }
def BlendGoesSaid : Prop := blendGoesRow.holds Try.pinned (OpenSpec.ofChange blendGoesSpec)

/-- ITS FALSE NEIGHBOUR: 'it returns false'. Refute it at one input. -/
def blendGoesWrong : ChangeSpec := { name := "blendGoes", fn := fun _ => fun
  | [d1, d2, d3] => { results := [.lit (.bool false)], args := [d1, d2, d3] }
  | _ => none }
def BlendGoesWrongFalsely : Prop := blendGoesRow.holds Try.pinned (OpenSpec.ofChange blendGoesWrong)

/-- 'rectolaw25.BlendOne': WHATEVER THE INPUT: true; the input reads as it did. -/
def blendOneSpec : ChangeSpec := { name := "blendOne", fn := fun _ => fun
  | [d1, d2] => { results := [.lit (.bool true)], args := [d1, d2] }
  | _ => none }
def blendOneRow : OpenClaim := { program := "ytgfpmlildhbboaa", sum := "668c4041b97ef4aad1cb4c32d9f1978263c04f9b8aab841d5973915bca65fce5", func := "recto/rectolaw25.BlendOne", spec := "blendOne", unfollowed := true, recurses := true, apart := false }
def BlendOneSaid : Prop := blendOneRow.holds Try.pinned (OpenSpec.ofChange blendOneSpec)

/-- ITS FALSE NEIGHBOUR: 'it returns false'. Refute it at one input. -/
def blendOneWrong : ChangeSpec := { name := "blendOne", fn := fun _ => fun
  | [d1, d2] => { results := [.lit (.bool false)], args := [d1, d2] }
  | _ => none }
def BlendOneWrongFalsely : Prop := blendOneRow.holds Try.pinned (OpenSpec.ofChange blendOneWrong)

/-- 'rectolaw25.BlendTurned': WHATEVER THE INPUT: true; the input reads as it did. -/
def blendTurnedSpec : ChangeSpec := { name := "blendTurned", fn := fun _ => fun
  | [d1, d2, d3] => { results := [.lit (.bool true)], args := [d1, d2, d3] }
  | _ => none }
def blendTurnedRow : OpenClaim := { program := "ytgfpmlildhbboaa", sum := "668c4041b97ef4aad1cb4c32d9f1978263c04f9b8aab841d5973915bca65fce5", func := "recto/rectolaw25.BlendTurned", spec := "blendTurned", unfollowed := true, recurses := true, apart := false }
def BlendTurnedSaid : Prop := blendTurnedRow.holds Try.pinned (OpenSpec.ofChange blendTurnedSpec)

/-- ITS FALSE NEIGHBOUR: 'it returns false'. Refute it at one input. -/
def blendTurnedWrong : ChangeSpec := { name := "blendTurned", fn := fun _ => fun
  | [d1, d2, d3] => { results := [.lit (.bool false)], args := [d1, d2, d3] }
  | _ => none }
def BlendTurnedWrongFalsely : Prop := blendTurnedRow.holds Try.pinned (OpenSpec.ofChange blendTurnedWrong)

/-- 'rectolaw25.BlendNodes': WHATEVER THE INPUT: true; the input reads as it did. -/
def blendNodesSpec : ChangeSpec := { name := "blendNodes", fn := fun _ => fun
  | [d1, d2, d3] => { results := [.lit (.bool true)], args := [d1, d2, d3] }
  | _ => none }
def blendNodesRow : OpenClaim := { program := "ytgfpmlildhbboaa", sum := "668c4041b97ef4aad1cb4c32d9f1978263c04f9b8aab841d5973915bca65fce5", func := "recto/rectolaw25.BlendNodes", spec := "blendNodes", inPlace := ["internal/abi.NoEscape"], unfollowed := true, recurses := true, loops := true, apart := false }
def BlendNodesSaid : Prop := blendNodesRow.holds Try.pinned (OpenSpec.ofChange blendNodesSpec)

/-- ITS FALSE NEIGHBOUR: 'it returns false'. Refute it at one input. -/
def blendNodesWrong : ChangeSpec := { name := "blendNodes", fn := fun _ => fun
  | [d1, d2, d3] => { results := [.lit (.bool false)], args := [d1, d2, d3] }
  | _ => none }
def BlendNodesWrongFalsely : Prop := blendNodesRow.holds Try.pinned (OpenSpec.ofChange blendNodesWrong)

/-- 'rectolaw26.MergeOne': WHATEVER THE INPUT: true; the input reads as it did. -/
def mergeOneSpec : ChangeSpec := { name := "mergeOne", fn := fun _ => fun
  | [d1, d2] => { results := [.lit (.bool true)], args := [d1, d2] }
  | _ => none }
def mergeOneRow : OpenClaim := { program := "ytgfpmlildhbboaa", sum := "668c4041b97ef4aad1cb4c32d9f1978263c04f9b8aab841d5973915bca65fce5", func := "recto/rectolaw26.MergeOne", spec := "mergeOne", inPlace := ["internal/abi.NoEscape"], unfollowed := true, recurses := true, loops := true, apart := false }
def MergeOneSaid : Prop := mergeOneRow.holds Try.pinned (OpenSpec.ofChange mergeOneSpec)

/-- ITS FALSE NEIGHBOUR: 'it returns false'. Refute it at one input. -/
def mergeOneWrong : ChangeSpec := { name := "mergeOne", fn := fun _ => fun
  | [d1, d2] => { results := [.lit (.bool false)], args := [d1, d2] }
  | _ => none }
def MergeOneWrongFalsely : Prop := mergeOneRow.holds Try.pinned (OpenSpec.ofChange mergeOneWrong)

/-- 'rectolaw26.MergeTurned': WHATEVER THE INPUT: true; the input reads as it did. -/
def mergeTurnedSpec : ChangeSpec := { name := "mergeTurned", fn := fun _ => fun
  | [d1, d2, d3] => { results := [.lit (.bool true)], args := [d1, d2, d3] }
  | _ => none }
def mergeTurnedRow : OpenClaim := { program := "ytgfpmlildhbboaa", sum := "668c4041b97ef4aad1cb4c32d9f1978263c04f9b8aab841d5973915bca65fce5", func := "recto/rectolaw26.MergeTurned", spec := "mergeTurned", inPlace := ["internal/abi.NoEscape"], unfollowed := true, recurses := true, loops := true, apart := false }
def MergeTurnedSaid : Prop := mergeTurnedRow.holds Try.pinned (OpenSpec.ofChange mergeTurnedSpec)

/-- ITS FALSE NEIGHBOUR: 'it returns false'. Refute it at one input. -/
def mergeTurnedWrong : ChangeSpec := { name := "mergeTurned", fn := fun _ => fun
  | [d1, d2, d3] => { results := [.lit (.bool false)], args := [d1, d2, d3] }
  | _ => none }
def MergeTurnedWrongFalsely : Prop := mergeTurnedRow.holds Try.pinned (OpenSpec.ofChange mergeTurnedWrong)

/- THE SECOND FORM. 'bulk': how many values and letters a reading holds, each counted each time it is reached (what is shared counts as often as it is met; a slice's spare places count too). A statement '..UptoSaid' is the law's where the arguments, and the package variables that the reading takes, are together of bulk at most 1048576: NARROWER than '..Said'. Prove '..Said' where nothing that the law and all that it calls make is longer than what came in: it says more and counts as full. Else prove '..UptoSaid'. A law counts once. -/
mutual
def uptoBulk {H : Type} : DataW H → Nat
  | .lit (.string bytes) => bytes.length + 1
  | .lit _ => 1
  | .nil => 1
  | .ptr d => uptoBulk d + 1
  | .slice elems spare => uptoBulkAll elems + uptoBulkAll spare + 1
  | .agg parts => uptoBulkAll parts + 1
  | .iface _ d => uptoBulk d + 1
  | .map entries => uptoBulkEntries entries + 1
  | .held _ => 1
def uptoBulkAll {H : Type} : List (DataW H) → Nat
  | [] => 0
  | d :: r => uptoBulk d + uptoBulkAll r
def uptoBulkEntries {H : Type} : List (Lit × DataW H) → Nat
  | [] => 0
  | x :: r => uptoBulkEntry x + uptoBulkEntries r
def uptoBulkEntry {H : Type} : Lit × DataW H → Nat
  | (.string bytes, d) => bytes.length + uptoBulk d + 1
  | (_, d) => uptoBulk d + 1
 end
def uptoSmall : (H : Type) → List (DataW H) → Bool := fun _ ds => decide (uptoBulkAll ds ≤ 1048576)
def OpenSpec.upto (s : _root_.Go.ChangeSpec) : _root_.Go.OpenSpec := { _root_.Go.OpenSpec.ofChange s with cond := some uptoSmall }

/-- 'rectolaw20.MatchLines', WHERE WHAT IT READS IS OF BULK AT MOST 1048576: true; the input reads as it did. -/
def matchLinesUptoRow : OpenClaim := { program := "ytgfpmlildhbboaa", sum := "668c4041b97ef4aad1cb4c32d9f1978263c04f9b8aab841d5973915bca65fce5", func := "recto/rectolaw20.MatchLines", spec := "matchLines", apart := false, narrowed := true }
def MatchLinesUptoSaid : Prop := matchLinesUptoRow.holds Try.pinned (OpenSpec.upto matchLinesSpec)

/-- 'rectolaw20.MatchMost', WHERE WHAT IT READS IS OF BULK AT MOST 1048576: true; the input reads as it did. -/
def matchMostUptoRow : OpenClaim := { program := "ytgfpmlildhbboaa", sum := "668c4041b97ef4aad1cb4c32d9f1978263c04f9b8aab841d5973915bca65fce5", func := "recto/rectolaw20.MatchMost", spec := "matchMost", apart := false, narrowed := true }
def MatchMostUptoSaid : Prop := matchMostUptoRow.holds Try.pinned (OpenSpec.upto matchMostSpec)

/-- 'rectolaw20.MatchLists', WHERE WHAT IT READS IS OF BULK AT MOST 1048576: true; the input reads as it did. -/
def matchListsUptoRow : OpenClaim := { program := "ytgfpmlildhbboaa", sum := "668c4041b97ef4aad1cb4c32d9f1978263c04f9b8aab841d5973915bca65fce5", func := "recto/rectolaw20.MatchLists", spec := "matchLists", inPlace := ["internal/abi.NoEscape"], unfollowed := true, recurses := true, loops := true, apart := false, narrowed := true }
def MatchListsUptoSaid : Prop := matchListsUptoRow.holds Try.pinned (OpenSpec.upto matchListsSpec)

/-- 'rectolaw25.BlendTexts', WHERE WHAT IT READS IS OF BULK AT MOST 1048576: true; the input reads as it did. -/
def blendTextsUptoRow : OpenClaim := { program := "ytgfpmlildhbboaa", sum := "668c4041b97ef4aad1cb4c32d9f1978263c04f9b8aab841d5973915bca65fce5", func := "recto/rectolaw25.BlendTexts", spec := "blendTexts", unfollowed := true, recurses := true, apart := false, narrowed := true }
def BlendTextsUptoSaid : Prop := blendTextsUptoRow.holds Try.pinned (OpenSpec.upto blendTextsSpec)

/-- 'rectolaw25.BlendGoes', WHERE WHAT IT READS IS OF BULK AT MOST 1048576: true; the input reads as it did. -/
def blendGoesUptoRow : OpenClaim := { program := "ytgfpmlildhbboaa", sum := "668c4041b97ef4aad1cb4c32d9f1978263c04f9b8aab841d5973915bca65fce5", func := "recto/rectolaw25.BlendGoes", spec := "blendGoes", unfollowed := true, recurses := true, apart := false, narrowed := true }
def BlendGoesUptoSaid : Prop := blendGoesUptoRow.holds Try.pinned (OpenSpec.upto blendGoesSpec)

/-- 'rectolaw25.BlendOne', WHERE WHAT IT READS IS OF BULK AT MOST 1048576: true; the input reads as it did. -/
def blendOneUptoRow : OpenClaim := { program := "ytgfpmlildhbboaa", sum := "668c4041b97ef4aad1cb4c32d9f1978263c04f9b8aab841d5973915bca65fce5", func := "recto/rectolaw25.BlendOne", spec := "blendOne", unfollowed := true, recurses := true, apart := false, narrowed := true }
def BlendOneUptoSaid : Prop := blendOneUptoRow.holds Try.pinned (OpenSpec.upto blendOneSpec)

/-- 'rectolaw25.BlendTurned', WHERE WHAT IT READS IS OF BULK AT MOST 1048576: true; the input reads as it did. -/
def blendTurnedUptoRow : OpenClaim := { program := "ytgfpmlildhbboaa", sum := "668c4041b97ef4aad1cb4c32d9f1978263c04f9b8aab841d5973915bca65fce5", func := "recto/rectolaw25.BlendTurned", spec := "blendTurned", unfollowed := true, recurses := true, apart := false, narrowed := true }
def BlendTurnedUptoSaid : Prop := blendTurnedUptoRow.holds Try.pinned (OpenSpec.upto blendTurnedSpec)

/-- 'rectolaw25.BlendNodes', WHERE WHAT IT READS IS OF BULK AT MOST 1048576: true; the input reads as it did. -/
def blendNodesUptoRow : OpenClaim := { program := "ytgfpmlildhbboaa", sum := "668c4041b97ef4aad1cb4c32d9f1978263c04f9b8aab841d5973915bca65fce5", func := "recto/rectolaw25.BlendNodes", spec := "blendNodes", inPlace := ["internal/abi.NoEscape"], unfollowed := true, recurses := true, loops := true, apart := false, narrowed := true }
def BlendNodesUptoSaid : Prop := blendNodesUptoRow.holds Try.pinned (OpenSpec.upto blendNodesSpec)

/-- 'rectolaw26.MergeOne', WHERE WHAT IT READS IS OF BULK AT MOST 1048576: true; the input reads as it did. -/
def mergeOneUptoRow : OpenClaim := { program := "ytgfpmlildhbboaa", sum := "668c4041b97ef4aad1cb4c32d9f1978263c04f9b8aab841d5973915bca65fce5", func := "recto/rectolaw26.MergeOne", spec := "mergeOne", inPlace := ["internal/abi.NoEscape"], unfollowed := true, recurses := true, loops := true, apart := false, narrowed := true }
def MergeOneUptoSaid : Prop := mergeOneUptoRow.holds Try.pinned (OpenSpec.upto mergeOneSpec)

/-- 'rectolaw26.MergeTurned', WHERE WHAT IT READS IS OF BULK AT MOST 1048576: true; the input reads as it did. -/
def mergeTurnedUptoRow : OpenClaim := { program := "ytgfpmlildhbboaa", sum := "668c4041b97ef4aad1cb4c32d9f1978263c04f9b8aab841d5973915bca65fce5", func := "recto/rectolaw26.MergeTurned", spec := "mergeTurned", inPlace := ["internal/abi.NoEscape"], unfollowed := true, recurses := true, loops := true, apart := false, narrowed := true }
def MergeTurnedUptoSaid : Prop := mergeTurnedUptoRow.holds Try.pinned (OpenSpec.upto mergeTurnedSpec)

end Rows
end Go.Proofs.Ytgfpmlildhbboaa
