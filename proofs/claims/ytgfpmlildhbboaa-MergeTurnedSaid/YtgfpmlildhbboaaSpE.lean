/- What functions tell: three lists of nodes lined up. Plain definitions. -/
import Derived.Test.YtgfpmlildhbboaaSpM
set_option linter.unnecessarySimpa false
set_option linter.unusedVariables false
set_option linter.unusedSectionVars false
set_option linter.unusedSimpArgs false
set_option autoImplicit false
open Vi

namespace Sp
def eqA1 (p q : Str × Str) : Bool := decide (p = q)
def mSame (a _ : List Node) : Nat := 3 * szL a + 2
def mEqF (a _ : List Node) : Nat := 3 * szL a + 1
def mSm1 (a _ : Node) : Nat := 3 * szN a
def ofN (l : List Node) (r : Int × Int) : List Node := sub l r.1 r.2
def ofN.pre (l : List Node) (r : Int × Int) : Prop := 0 ≤ r.1 ∧ r.1 ≤ r.2 ∧ r.2 ≤ (l.length : Int)
def kindN (o a b : List Node) (p : Part) : Int := kindT (keysOf o) (keysOf a) (keysOf b) p
def kindN.pre (o a b : List Node) (p : Part) : Prop := kindT.pre (keysOf o) (keysOf a) (keysOf b) p ∧ okL o ∧ okL a ∧ okL b
def upToN (x y z f1 f3 f5 : Int) (o a b : List Node) (out : List Part) : List Part := upTo x y z f1 f3 f5 (keysOf o) (keysOf a) (keysOf b) out
def upToN.pre (x y z f1 f3 f5 : Int) (o a b : List Node) (out : List Part) : Prop := upTo.pre x y z f1 f3 f5 (keysOf o) (keysOf a) (keysOf b) out ∧ okL o ∧ okL a ∧ okL b
def partsN (o a b : List Node) (ours theirs : List Pair) : List Part := parts (keysOf o) (keysOf a) (keysOf b) ours theirs
def partsN.pre (o a b : List Node) (ours theirs : List Pair) : Prop := parts.pre (keysOf o) (keysOf a) (keysOf b) ours theirs ∧ okL o ∧ okL a ∧ okL b
def blendNA (o a b : List Node) : List PartA := partsA (keysOf o) (keysOf a) (keysOf b) (lists o a) (lists o b)
def blendN (o a b : List Node) : List Part := (blendNA o a b).map toP
def blendN.pre (o a b : List Node) : Prop := lists.pre o a ∧ lists.pre o b
end Sp
