/- What functions tell: three lists lined up. Plain definitions. -/
import Derived.Test.YtgfpmlildhbboaaSpA
set_option linter.unnecessarySimpa false
set_option linter.unusedVariables false
set_option linter.unusedSectionVars false
set_option linter.unusedSimpArgs false
set_option autoImplicit false
open Vi

namespace Sp
abbrev Pair := Int × Int × Bool
abbrev Tri := Int × Int × Int
abbrev PartA := Int × Tri × Tri

def eqL (a b : List Str) : Bool := decide (a = b)
def kindOf {α : Type} (same : List α → List α → Bool) (x y z : List α) : Int := bif same x y then 2 else bif same x z then 3 else bif same y z then 4 else 5
def kind0 {α : Type} (same : List α → List α → Bool) (x y z : List α) : Int := bif x.isEmpty && (y.isEmpty && z.isEmpty) then 0 else kindOf same x y z
def next (t : Tri) : Tri := (t.1 + 1, t.2.1 + 1, t.2.2 + 1)

def kdT (o a b : List Str) (f t : Tri) : Int := kind0 eqL (sub o f.1 t.1) (sub a f.2.1 t.2.1) (sub b f.2.2 t.2.2)
/-- Pairs that rise, in bounds. -/
def Rises (n m : Nat) : Nat → Nat → List Pair → Prop
  | _, _, [] => True
  | i, j, x :: l => (i : Int) ≤ x.1 ∧ x.1 < n ∧ (j : Int) ≤ x.2.1 ∧ x.2.1 < m ∧ Rises n m (x.1.toNat + 1) (x.2.1.toNat + 1) l
def turned (k : Int) : Int := if k = 3 then 2 else if k = 2 then 3 else k
end Sp
