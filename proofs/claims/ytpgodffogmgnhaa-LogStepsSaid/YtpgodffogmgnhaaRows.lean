/-
  No cell of these rows narrows 'for every input' (looked for: loops, veiled, ifaces, maps, wideKeys, modest, calm, conditions, laid).
  DERIVED. THE GIVEN ROWS OF THIS SEAT. 8 by the template 'for every input the law returns true; each argument reads behind the call as it read before'; 0 by the template 'total and deterministic' (their statements: YtpgodffogmgnhaaTotals.lean).
  GIVEN WITH THE SEED: the statements are not yours to turn. If you find one false, say at which input.
  Laid BY PROGRAM, IN A SANDBOX (cutbox-rows.mjs): the forced cells as the released guide's own fill.sh prints them over the translation 8983b8681584f344… (all of the seat's roots in one cut). By AI agents, Wed Nov 11 2026. No macro, syntax, notation, axiom, sorry.
-/
import Derived.Test.YtpgodffogmgnhaaChecked
import GoSem.Claim
import GoSem.ClaimJoined
import GoSem.ClaimMapViews
import Derived.JoinedTies
import Derived.KernelRfl
namespace Go.Proofs.Ytpgodffogmgnhaa
/- THE CELL 'sum', in the pinned program and in every row, IS THE sha256 OF THE DUMP (.gsa) THAT YtpgodffogmgnhaaProg.lean LOADS. Nothing in Lean hashes anything: it is a label: what it is worth is what the hold of that sum in a sandbox is worth. -/
noncomputable def Try.pinned : Pinned := { name := "ytpgodffogmgnhaa", sum := "8983b8681584f344549b99033d9305206e636261cfc03bcae99b1f64b321a4e9", checked := Try.checked }
namespace Rows
def none {H : Type} : Left H := { results := [], args := [] }

/-- 'rectolaw29.LogOpens': WHATEVER THE INPUT: true; the input reads as it did. -/
def logOpensSpec : ChangeSpec := { name := "logOpens", fn := fun _ => fun
  | [d1, d2, d3] => { results := [.lit (.bool true)], args := [d1, d2, d3] }
  | _ => none }
def logOpensRow : OpenClaim := { program := "ytpgodffogmgnhaa", sum := "8983b8681584f344549b99033d9305206e636261cfc03bcae99b1f64b321a4e9", func := "recto/rectolaw29.LogOpens", spec := "logOpens", inPlace := ["internal/abi.NoEscape", "internal/bytealg.MakeNoZero"], unfollowed := true, recurses := true, apart := false }
def LogOpensSaid : Prop := logOpensRow.holds Try.pinned (OpenSpec.ofChange logOpensSpec)

/-- ITS FALSE NEIGHBOUR: 'it returns false'. Refute it at one input. -/
def logOpensWrong : ChangeSpec := { name := "logOpens", fn := fun _ => fun
  | [d1, d2, d3] => { results := [.lit (.bool false)], args := [d1, d2, d3] }
  | _ => none }
def LogOpensWrongFalsely : Prop := logOpensRow.holds Try.pinned (OpenSpec.ofChange logOpensWrong)

/-- 'rectolaw29.LogRoom': WHATEVER THE INPUT: true; the input reads as it did. -/
def logRoomSpec : ChangeSpec := { name := "logRoom", fn := fun _ => fun
  | [d1, d2] => { results := [.lit (.bool true)], args := [d1, d2] }
  | _ => none }
def logRoomRow : OpenClaim := { program := "ytpgodffogmgnhaa", sum := "8983b8681584f344549b99033d9305206e636261cfc03bcae99b1f64b321a4e9", func := "recto/rectolaw29.LogRoom", spec := "logRoom", inPlace := ["internal/abi.NoEscape", "internal/bytealg.MakeNoZero"], unfollowed := true, recurses := true, apart := false }
def LogRoomSaid : Prop := logRoomRow.holds Try.pinned (OpenSpec.ofChange logRoomSpec)

/-- ITS FALSE NEIGHBOUR: 'it returns false'. Refute it at one input. -/
def logRoomWrong : ChangeSpec := { name := "logRoom", fn := fun _ => fun
  | [d1, d2] => { results := [.lit (.bool false)], args := [d1, d2] }
  | _ => none }
def LogRoomWrongFalsely : Prop := logRoomRow.holds Try.pinned (OpenSpec.ofChange logRoomWrong)

/-- 'rectolaw29.LogNil': WHATEVER THE INPUT: true; the input reads as it did. -/
def logNilSpec : ChangeSpec := { name := "logNil", fn := fun _ => fun
  | [d] => { results := [.lit (.bool true)], args := [d] }
  | _ => none }
def logNilRow : OpenClaim := { program := "ytpgodffogmgnhaa", sum := "8983b8681584f344549b99033d9305206e636261cfc03bcae99b1f64b321a4e9", func := "recto/rectolaw29.LogNil", spec := "logNil", inPlace := ["internal/abi.NoEscape", "internal/bytealg.MakeNoZero"], unfollowed := true, recurses := true, apart := false }
def LogNilSaid : Prop := logNilRow.holds Try.pinned (OpenSpec.ofChange logNilSpec)

/-- ITS FALSE NEIGHBOUR: 'it returns false'. Refute it at one input. -/
def logNilWrong : ChangeSpec := { name := "logNil", fn := fun _ => fun
  | [d] => { results := [.lit (.bool false)], args := [d] }
  | _ => none }
def LogNilWrongFalsely : Prop := logNilRow.holds Try.pinned (OpenSpec.ofChange logNilWrong)

/-- 'rectolaw29.LogLasts': WHATEVER THE INPUT: true; the input reads as it did. -/
def logLastsSpec : ChangeSpec := { name := "logLasts", fn := fun _ => fun
  | [d1, d2, d3] => { results := [.lit (.bool true)], args := [d1, d2, d3] }
  | _ => none }
def logLastsRow : OpenClaim := { program := "ytpgodffogmgnhaa", sum := "8983b8681584f344549b99033d9305206e636261cfc03bcae99b1f64b321a4e9", func := "recto/rectolaw29.LogLasts", spec := "logLasts", inPlace := ["internal/abi.NoEscape", "internal/bytealg.MakeNoZero"], unfollowed := true, recurses := true, apart := false }
def LogLastsSaid : Prop := logLastsRow.holds Try.pinned (OpenSpec.ofChange logLastsSpec)

/-- ITS FALSE NEIGHBOUR: 'it returns false'. Refute it at one input. -/
def logLastsWrong : ChangeSpec := { name := "logLasts", fn := fun _ => fun
  | [d1, d2, d3] => { results := [.lit (.bool false)], args := [d1, d2, d3] }
  | _ => none }
def LogLastsWrongFalsely : Prop := logLastsRow.holds Try.pinned (OpenSpec.ofChange logLastsWrong)

/-- 'rectolaw29.LogSteps': WHATEVER THE INPUT: true; the input reads as it did. -/
def logStepsSpec : ChangeSpec := { name := "logSteps", fn := fun _ => fun
  | [d1, d2, d3] => { results := [.lit (.bool true)], args := [d1, d2, d3] }
  | _ => none }
def logStepsRow : OpenClaim := { program := "ytpgodffogmgnhaa", sum := "8983b8681584f344549b99033d9305206e636261cfc03bcae99b1f64b321a4e9", func := "recto/rectolaw29.LogSteps", spec := "logSteps", inPlace := ["internal/abi.NoEscape", "internal/bytealg.MakeNoZero"], unfollowed := true, recurses := true, apart := false }
def LogStepsSaid : Prop := logStepsRow.holds Try.pinned (OpenSpec.ofChange logStepsSpec)

/-- ITS FALSE NEIGHBOUR: 'it returns false'. Refute it at one input. -/
def logStepsWrong : ChangeSpec := { name := "logSteps", fn := fun _ => fun
  | [d1, d2, d3] => { results := [.lit (.bool false)], args := [d1, d2, d3] }
  | _ => none }
def LogStepsWrongFalsely : Prop := logStepsRow.holds Try.pinned (OpenSpec.ofChange logStepsWrong)

/-- 'rectolaw30.RegionNeeds': WHATEVER THE INPUT: true; the input reads as it did. -/
def regionNeedsSpec : ChangeSpec := { name := "regionNeeds", fn := fun _ => fun
  | [d1, d2] => { results := [.lit (.bool true)], args := [d1, d2] }
  | _ => none }
def regionNeedsRow : OpenClaim := { program := "ytpgodffogmgnhaa", sum := "8983b8681584f344549b99033d9305206e636261cfc03bcae99b1f64b321a4e9", func := "recto/rectolaw30.RegionNeeds", spec := "regionNeeds", inPlace := ["internal/abi.NoEscape", "internal/bytealg.MakeNoZero"], unfollowed := true, recurses := true, apart := false }
def RegionNeedsSaid : Prop := regionNeedsRow.holds Try.pinned (OpenSpec.ofChange regionNeedsSpec)

/-- ITS FALSE NEIGHBOUR: 'it returns false'. Refute it at one input. -/
def regionNeedsWrong : ChangeSpec := { name := "regionNeeds", fn := fun _ => fun
  | [d1, d2] => { results := [.lit (.bool false)], args := [d1, d2] }
  | _ => none }
def RegionNeedsWrongFalsely : Prop := regionNeedsRow.holds Try.pinned (OpenSpec.ofChange regionNeedsWrong)

/-- 'rectolaw30.RegionNil': WHATEVER THE INPUT: true; the input reads as it did. -/
def regionNilSpec : ChangeSpec := { name := "regionNil", fn := fun _ => fun
  | [d] => { results := [.lit (.bool true)], args := [d] }
  | _ => none }
def regionNilRow : OpenClaim := { program := "ytpgodffogmgnhaa", sum := "8983b8681584f344549b99033d9305206e636261cfc03bcae99b1f64b321a4e9", func := "recto/rectolaw30.RegionNil", spec := "regionNil", inPlace := ["internal/abi.NoEscape", "internal/bytealg.MakeNoZero"], unfollowed := true, recurses := true, apart := false }
def RegionNilSaid : Prop := regionNilRow.holds Try.pinned (OpenSpec.ofChange regionNilSpec)

/-- ITS FALSE NEIGHBOUR: 'it returns false'. Refute it at one input. -/
def regionNilWrong : ChangeSpec := { name := "regionNil", fn := fun _ => fun
  | [d] => { results := [.lit (.bool false)], args := [d] }
  | _ => none }
def RegionNilWrongFalsely : Prop := regionNilRow.holds Try.pinned (OpenSpec.ofChange regionNilWrong)

/-- 'rectolaw30.RegionStays': WHATEVER THE INPUT: true; the input reads as it did. -/
def regionStaysSpec : ChangeSpec := { name := "regionStays", fn := fun _ => fun
  | [d1, d2, d3] => { results := [.lit (.bool true)], args := [d1, d2, d3] }
  | _ => none }
def regionStaysRow : OpenClaim := { program := "ytpgodffogmgnhaa", sum := "8983b8681584f344549b99033d9305206e636261cfc03bcae99b1f64b321a4e9", func := "recto/rectolaw30.RegionStays", spec := "regionStays", inPlace := ["internal/abi.NoEscape", "internal/bytealg.MakeNoZero"], unfollowed := true, recurses := true, apart := false }
def RegionStaysSaid : Prop := regionStaysRow.holds Try.pinned (OpenSpec.ofChange regionStaysSpec)

/-- ITS FALSE NEIGHBOUR: 'it returns false'. Refute it at one input. -/
def regionStaysWrong : ChangeSpec := { name := "regionStays", fn := fun _ => fun
  | [d1, d2, d3] => { results := [.lit (.bool false)], args := [d1, d2, d3] }
  | _ => none }
def RegionStaysWrongFalsely : Prop := regionStaysRow.holds Try.pinned (OpenSpec.ofChange regionStaysWrong)

/- THE SECOND FORM. 'bulk': how many values and letters a reading holds, each counted each time it is reached (what is shared counts as often as it is met; a slice's spare places count too). A statement '..UptoSaid' is the law's where the arguments, and the package variables that the reading takes, are together of bulk at most 1048576: NARROWER than '..Said'. Prove '..Said' where nothing that the law and all that it calls make is longer than what came in: it says more and counts as full. Else prove '..UptoSaid'. A law counts once. -/
mutual
def uptoBulk {H : Type} : DataW H → Nat
  | .lit (.string bytes) => bytes.length + 1
  | .lit _ => 1
  | .nil => 1
  | .ptr d => uptoBulk d + 1
  | .slice elems spare => uptoBulkAll elems + uptoBulkAll spare + 1
  | .agg parts => uptoBulkAll parts + 1
  | .iface _ d => uptoBulk d + 1
  | .map entries => uptoBulkEntries entries + 1
  | .held _ => 1
def uptoBulkAll {H : Type} : List (DataW H) → Nat
  | [] => 0
  | d :: r => uptoBulk d + uptoBulkAll r
def uptoBulkEntries {H : Type} : List (Lit × DataW H) → Nat
  | [] => 0
  | x :: r => uptoBulkEntry x + uptoBulkEntries r
def uptoBulkEntry {H : Type} : Lit × DataW H → Nat
  | (.string bytes, d) => bytes.length + uptoBulk d + 1
  | (_, d) => uptoBulk d + 1
 end
def uptoSmall : (H : Type) → List (DataW H) → Bool := fun _ ds => decide (uptoBulkAll ds ≤ 1048576)
def OpenSpec.upto (s : _root_.Go.ChangeSpec) : _root_.Go.OpenSpec := { _root_.Go.OpenSpec.ofChange s with cond := some uptoSmall }

/-- 'rectolaw29.LogOpens', WHERE WHAT IT READS IS OF BULK AT MOST 1048576: true; the input reads as it did. -/
def logOpensUptoRow : OpenClaim := { program := "ytpgodffogmgnhaa", sum := "8983b8681584f344549b99033d9305206e636261cfc03bcae99b1f64b321a4e9", func := "recto/rectolaw29.LogOpens", spec := "logOpens", inPlace := ["internal/abi.NoEscape", "internal/bytealg.MakeNoZero"], unfollowed := true, recurses := true, apart := false, narrowed := true }
def LogOpensUptoSaid : Prop := logOpensUptoRow.holds Try.pinned (OpenSpec.upto logOpensSpec)

/-- 'rectolaw29.LogRoom', WHERE WHAT IT READS IS OF BULK AT MOST 1048576: true; the input reads as it did. -/
def logRoomUptoRow : OpenClaim := { program := "ytpgodffogmgnhaa", sum := "8983b8681584f344549b99033d9305206e636261cfc03bcae99b1f64b321a4e9", func := "recto/rectolaw29.LogRoom", spec := "logRoom", inPlace := ["internal/abi.NoEscape", "internal/bytealg.MakeNoZero"], unfollowed := true, recurses := true, apart := false, narrowed := true }
def LogRoomUptoSaid : Prop := logRoomUptoRow.holds Try.pinned (OpenSpec.upto logRoomSpec)

/-- 'rectolaw29.LogNil', WHERE WHAT IT READS IS OF BULK AT MOST 1048576: true; the input reads as it did. -/
def logNilUptoRow : OpenClaim := { program := "ytpgodffogmgnhaa", sum := "8983b8681584f344549b99033d9305206e636261cfc03bcae99b1f64b321a4e9", func := "recto/rectolaw29.LogNil", spec := "logNil", inPlace := ["internal/abi.NoEscape", "internal/bytealg.MakeNoZero"], unfollowed := true, recurses := true, apart := false, narrowed := true }
def LogNilUptoSaid : Prop := logNilUptoRow.holds Try.pinned (OpenSpec.upto logNilSpec)

/-- 'rectolaw29.LogLasts', WHERE WHAT IT READS IS OF BULK AT MOST 1048576: true; the input reads as it did. -/
def logLastsUptoRow : OpenClaim := { program := "ytpgodffogmgnhaa", sum := "8983b8681584f344549b99033d9305206e636261cfc03bcae99b1f64b321a4e9", func := "recto/rectolaw29.LogLasts", spec := "logLasts", inPlace := ["internal/abi.NoEscape", "internal/bytealg.MakeNoZero"], unfollowed := true, recurses := true, apart := false, narrowed := true }
def LogLastsUptoSaid : Prop := logLastsUptoRow.holds Try.pinned (OpenSpec.upto logLastsSpec)

/-- 'rectolaw29.LogSteps', WHERE WHAT IT READS IS OF BULK AT MOST 1048576: true; the input reads as it did. -/
def logStepsUptoRow : OpenClaim := { program := "ytpgodffogmgnhaa", sum := "8983b8681584f344549b99033d9305206e636261cfc03bcae99b1f64b321a4e9", func := "recto/rectolaw29.LogSteps", spec := "logSteps", inPlace := ["internal/abi.NoEscape", "internal/bytealg.MakeNoZero"], unfollowed := true, recurses := true, apart := false, narrowed := true }
def LogStepsUptoSaid : Prop := logStepsUptoRow.holds Try.pinned (OpenSpec.upto logStepsSpec)

/-- 'rectolaw30.RegionNeeds', WHERE WHAT IT READS IS OF BULK AT MOST 1048576: true; the input reads as it did. -/
def regionNeedsUptoRow : OpenClaim := { program := "ytpgodffogmgnhaa", sum := "8983b8681584f344549b99033d9305206e636261cfc03bcae99b1f64b321a4e9", func := "recto/rectolaw30.RegionNeeds", spec := "regionNeeds", inPlace := ["internal/abi.NoEscape", "internal/bytealg.MakeNoZero"], unfollowed := true, recurses := true, apart := false, narrowed := true }
def RegionNeedsUptoSaid : Prop := regionNeedsUptoRow.holds Try.pinned (OpenSpec.upto regionNeedsSpec)

/-- 'rectolaw30.RegionNil', WHERE WHAT IT READS IS OF BULK AT MOST 1048576: true; the input reads as it did. -/
def regionNilUptoRow : OpenClaim := { program := "ytpgodffogmgnhaa", sum := "8983b8681584f344549b99033d9305206e636261cfc03bcae99b1f64b321a4e9", func := "recto/rectolaw30.RegionNil", spec := "regionNil", inPlace := ["internal/abi.NoEscape", "internal/bytealg.MakeNoZero"], unfollowed := true, recurses := true, apart := false, narrowed := true }
def RegionNilUptoSaid : Prop := regionNilUptoRow.holds Try.pinned (OpenSpec.upto regionNilSpec)

/-- 'rectolaw30.RegionStays', WHERE WHAT IT READS IS OF BULK AT MOST 1048576: true; the input reads as it did. -/
def regionStaysUptoRow : OpenClaim := { program := "ytpgodffogmgnhaa", sum := "8983b8681584f344549b99033d9305206e636261cfc03bcae99b1f64b321a4e9", func := "recto/rectolaw30.RegionStays", spec := "regionStays", inPlace := ["internal/abi.NoEscape", "internal/bytealg.MakeNoZero"], unfollowed := true, recurses := true, apart := false, narrowed := true }
def RegionStaysUptoSaid : Prop := regionStaysUptoRow.holds Try.pinned (OpenSpec.upto regionStaysSpec)

end Rows
end Go.Proofs.Ytpgodffogmgnhaa
