/- What functions tell: three lists lined up. Plain definitions. -/
import Derived.Test.YtgfpmlildhbboaaSpA
set_option linter.unnecessarySimpa false
set_option linter.unusedVariables false
set_option linter.unusedSectionVars false
set_option linter.unusedSimpArgs false
set_option autoImplicit false
open Vi

namespace Sp
abbrev Pair := Int × Int × Bool
abbrev Part := Int × (Int × Int) × (Int × Int) × (Int × Int)
abbrev Tri := Int × Int × Int
abbrev PartA := Int × Tri × Tri

def ofS (l : List Str) (r : Int × Int) : List Str := sub l r.1 r.2
def ofS.pre (l : List Str) (r : Int × Int) : Prop := 0 ≤ r.1 ∧ r.1 ≤ r.2 ∧ r.2 ≤ (l.length : Int)
def eqL (a b : List Str) : Bool := decide (a = b)
def kindOf {α : Type} (same : List α → List α → Bool) (x y z : List α) : Int := bif same x y then 2 else bif same x z then 3 else bif same y z then 4 else 5
def kind0 {α : Type} (same : List α → List α → Bool) (x y z : List α) : Int := bif x.isEmpty && (y.isEmpty && z.isEmpty) then 0 else kindOf same x y z
def kindT (o a b : List Str) (p : Part) : Int := kind0 eqL (sub o p.2.1.1 p.2.1.2) (sub a p.2.2.1.1 p.2.2.1.2) (sub b p.2.2.2.1 p.2.2.2.2)
def kindT.pre (o a b : List Str) (p : Part) : Prop := ofS.pre o p.2.1 ∧ ofS.pre a p.2.2.1 ∧ ofS.pre b p.2.2.2 ∧ o.length ≤ 1000000 ∧ a.length ≤ 1000000 ∧ b.length ≤ 1000000

def isA (p : Pair) (x : Int) : Bool := decide (p.1 = x)
def idxFrom {α : Type} (f : α → Bool) : Int → List α → Int
  | _, [] => -1
  | i, x :: l => bif f x then i else idxFrom f (i + 1) l
def idxA (l : List Pair) (x : Int) : Int := idxFrom (fun p => isA p x) 0 l
def idxA.pre (l : List Pair) : Prop := l.length ≤ 1000000000
def fellow : List Pair → Int → Int
  | [], _ => -1
  | p :: l, x => if p.1 = x then p.2.1 else fellow l x
def fellow.pre (l : List Pair) (_ : Int) : Prop := l.length ≤ 1000000000

def toP (p : PartA) : Part := (p.1, (p.2.1.1, p.2.2.1), (p.2.1.2.1, p.2.2.2.1), (p.2.1.2.2, p.2.2.2.2))
def next (t : Tri) : Tri := (t.1 + 1, t.2.1 + 1, t.2.2 + 1)

def kdT (o a b : List Str) (f t : Tri) : Int := kind0 eqL (sub o f.1 t.1) (sub a f.2.1 t.2.1) (sub b f.2.2 t.2.2)
def segA (kd : Tri → Tri → Int) (f t : Tri) : List PartA := if kd f t = 0 then [] else [(kd f t, f, t)]
def upTo (x y z f1 f3 f5 : Int) (o a b : List Str) (out : List Part) : List Part := out ++ (segA (kdT o a b) (f1, f3, f5) (x, y, z)).map toP
def upTo.pre (x y z f1 f3 f5 : Int) (o a b : List Str) (out : List Part) : Prop :=
  ofS.pre o (f1, x) ∧ ofS.pre a (f3, y) ∧ ofS.pre b (f5, z) ∧ o.length ≤ 1000000 ∧ a.length ≤ 1000000 ∧ b.length ≤ 1000000 ∧ out.length ≤ 100000000

def triAt (ours theirs : List Pair) : Nat → Int → List Tri
  | 0, _ => []
  | n + 1, i => if 0 ≤ fellow ours i ∧ 0 ≤ fellow theirs i then (i, fellow ours i, fellow theirs i) :: triAt ours theirs n (i + 1) else triAt ours theirs n (i + 1)
def pts (kd : Tri → Tri → Int) : Tri → List Tri → Tri → List PartA
  | f, [], e => segA kd f e
  | f, t :: r, e => segA kd f t ++ (1, t, next t) :: pts kd (next t) r e
def ends (o a b : List Str) : Tri := (o.length, a.length, b.length)
def partsA (o a b : List Str) (ours theirs : List Pair) : List PartA := pts (kdT o a b) (0, 0, 0) (triAt ours theirs o.length 0) (ends o a b)
def parts (o a b : List Str) (ours theirs : List Pair) : List Part := (partsA o a b ours theirs).map toP
/-- Pairs that rise, in bounds. -/
def Rises (n m : Nat) : Nat → Nat → List Pair → Prop
  | _, _, [] => True
  | i, j, x :: l => (i : Int) ≤ x.1 ∧ x.1 < n ∧ (j : Int) ≤ x.2.1 ∧ x.2.1 < m ∧ Rises n m (x.1.toNat + 1) (x.2.1.toNat + 1) l
def parts.pre (o a b : List Str) (ours theirs : List Pair) : Prop :=
  o.length ≤ 1000000 ∧ a.length ≤ 1000000 ∧ b.length ≤ 1000000 ∧ ours.length ≤ 1000000 ∧ theirs.length ≤ 1000000 ∧ Rises o.length a.length 0 0 ours ∧ Rises o.length b.length 0 0 theirs

def turned (k : Int) : Int := if k = 3 then 2 else if k = 2 then 3 else k
end Sp
