/- What functions tell: lining up lists of texts. Plain definitions. -/
import Derived.Test.YtmciagbogdlcoaaDoorSpH
set_option linter.unnecessarySimpa false
set_option linter.unusedVariables false
set_option linter.unusedSectionVars false
set_option linter.unusedSimpArgs false
set_option autoImplicit false
open Vi

namespace Sp


/-- How many pairs can be had of two lists. -/
def cnt : List Str → List Str → Int
  | [], _ => 0
  | _ :: _, [] => 0
  | x :: a, y :: b => if x = y then 1 + cnt a b else max (cnt a (y :: b)) (cnt (x :: a) b)
termination_by a b => a.length + b.length

def row (a b : List Str) : List Int := (List.range (b.length + 1)).map fun j => cnt a (b.drop j)
def table (a b : List Str) : List (List Int) := (List.range (a.length + 1)).map fun i => row (a.drop i) b
def table.pre (a b : List Str) : Prop := a.length ≤ 1000000 ∧ b.length ≤ 1000000

/-- The pairs, from two places on. -/
def linesAt : Int → Int → List Str → List Str → List (Int × Int × Bool)
  | _, _, [], _ => []
  | _, _, _ :: _, [] => []
  | i, j, x :: a, y :: b => if x = y then (i, j, true) :: linesAt (i + 1) (j + 1) a b
    else if cnt (x :: a) b ≤ cnt a (y :: b) then linesAt (i + 1) j a (y :: b) else linesAt i (j + 1) (x :: a) b
termination_by _ _ a b => a.length + b.length
def lines (a b : List Str) : List (Int × Int × Bool) := linesAt 0 0 a b
def lines.pre (a b : List Str) : Prop := a.length ≤ 1000000 ∧ b.length ≤ 1000000

end Sp
