/- What functions tell: logs as the document has them. Plain definitions. -/
import Derived.Test.YtpgodffogmgnhaaSpL
set_option linter.unnecessarySimpa false
set_option linter.unusedVariables false
set_option linter.unusedSectionVars false
set_option linter.unusedSimpArgs false
set_option autoImplicit false
open Vi

namespace Sp
def ofB (b : Str) : List Str × Bool := if wholeB b = true then (recsB b, true) else ([], false)
def ofB.pre (b : Str) : Prop := b.length ≤ 1000000
abbrev RowQ := Int × Int × Int
def roBad (q : RowQ) (w : RSt) : Bool := decide (q.1 < 0 ∨ q.2.1 < 1 ∨ w.bs.length < q.2.1 ∨ w.bs.length - q.2.1 < q.1 ∨ q.2.2 < 0 ∨ 256 * q.2.1 < q.2.2)
/-- So many blocks are read, one behind the other. -/
def rrF (w : RSt) : Nat → Int → Str × Int
  | 0, _ => ([], 0)
  | k + 1, i => if (rRead i w).2 ≠ 0 then ([], (rRead i w).2) else if (rrF w k (i + 1)).2 ≠ 0 then ([], (rrF w k (i + 1)).2) else ((rRead i w).1 ++ (rrF w k (i + 1)).1, 0)
def roRd (q : RowQ) (w : RSt) : Str × Int := rrF w (blocksOf q.2.2).toNat q.1
def roErr (q : RowQ) (w : RSt) : Int :=
  if roBad q w = true then 1 else if (roRd q w).2 ≠ 0 then (roRd q w).2 else if wholeB ((roRd q w).1.take q.2.2.toNat) = false then 290 else 0
def roNil (q : RowQ) (w : RSt) : Bool := !decide (roErr q w = 0)
def roL (q : RowQ) (w : RSt) : List Str := recsB ((roRd q w).1.take q.2.2.toNat)
def roPre (_ : RowQ) (w : RSt) : Prop := rOk 90000 w
end Sp
