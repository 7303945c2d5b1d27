/- What functions tell: three lists lined up. Plain definitions. -/
import Derived.Test.YtgfpmlildhbboaaSpA
set_option linter.unnecessarySimpa false
set_option linter.unusedVariables false
set_option linter.unusedSectionVars false
set_option linter.unusedSimpArgs false
set_option autoImplicit false
open Vi

namespace Sp
abbrev Pair := Int × Int × Bool
abbrev Part := Int × (Int × Int) × (Int × Int) × (Int × Int)
abbrev PartR := Int × List Int × List Int
abbrev Tri := Int × Int × Int
abbrev PartA := Int × Tri × Tri

def ofS (l : List Str) (r : Int × Int) : List Str := sub l r.1 r.2
def ofS.pre (l : List Str) (r : Int × Int) : Prop := 0 ≤ r.1 ∧ r.1 ≤ r.2 ∧ r.2 ≤ (l.length : Int)
def eqL (a b : List Str) : Bool := decide (a = b)
def eqL.pre (a _ : List Str) : Prop := a.length ≤ 1000000000

def kindOf {α : Type} (same : List α → List α → Bool) (x y z : List α) : Int := bif same x y then 2 else bif same x z then 3 else bif same y z then 4 else 5
def kind0 {α : Type} (same : List α → List α → Bool) (x y z : List α) : Int := bif x.isEmpty && (y.isEmpty && z.isEmpty) then 0 else kindOf same x y z
def kindT (o a b : List Str) (p : Part) : Int := kind0 eqL (sub o p.2.1.1 p.2.1.2) (sub a p.2.2.1.1 p.2.2.1.2) (sub b p.2.2.2.1 p.2.2.2.2)
def kindT.pre (o a b : List Str) (p : Part) : Prop := ofS.pre o p.2.1 ∧ ofS.pre a p.2.2.1 ∧ ofS.pre b p.2.2.2 ∧ o.length ≤ 1000000 ∧ a.length ≤ 1000000 ∧ b.length ≤ 1000000

def isA (p : Pair) (x : Int) : Bool := decide (p.1 = x)
def idxFrom {α : Type} (f : α → Bool) : Int → List α → Int
  | _, [] => -1
  | i, x :: l => bif f x then i else idxFrom f (i + 1) l
def idxA (l : List Pair) (x : Int) : Int := idxFrom (fun p => isA p x) 0 l
def idxA.pre (l : List Pair) : Prop := l.length ≤ 1000000000
def fellow : List Pair → Int → Int
  | [], _ => -1
  | p :: l, x => if p.1 = x then p.2.1 else fellow l x
def fellow.pre (l : List Pair) (_ : Int) : Prop := l.length ≤ 1000000000

def toP (p : PartA) : Part := (p.1, (p.2.1.1, p.2.2.1), (p.2.1.2.1, p.2.2.2.1), (p.2.1.2.2, p.2.2.2.2))
def toR (p : PartA) : PartR := (p.1, [p.2.1.1, p.2.1.2.1, p.2.1.2.2], [p.2.2.1, p.2.2.2.1, p.2.2.2.2])
def triL (t : Tri) : List Int := [t.1, t.2.1, t.2.2]
def next (t : Tri) : Tri := (t.1 + 1, t.2.1 + 1, t.2.2 + 1)

def kdT (o a b : List Str) (f t : Tri) : Int := kind0 eqL (sub o f.1 t.1) (sub a f.2.1 t.2.1) (sub b f.2.2 t.2.2)
def segA (kd : Tri → Tri → Int) (f t : Tri) : List PartA := if kd f t = 0 then [] else [(kd f t, f, t)]
def upTo (x y z f1 f3 f5 : Int) (o a b : List Str) (out : List Part) : List Part := out ++ (segA (kdT o a b) (f1, f3, f5) (x, y, z)).map toP
def upTo.pre (x y z f1 f3 f5 : Int) (o a b : List Str) (out : List Part) : Prop :=
  ofS.pre o (f1, x) ∧ ofS.pre a (f3, y) ∧ ofS.pre b (f5, z) ∧ o.length ≤ 1000000 ∧ a.length ≤ 1000000 ∧ b.length ≤ 1000000 ∧ out.length ≤ 100000000

def triAt (ours theirs : List Pair) : Nat → Int → List Tri
  | 0, _ => []
  | n + 1, i => if 0 ≤ fellow ours i ∧ 0 ≤ fellow theirs i then (i, fellow ours i, fellow theirs i) :: triAt ours theirs n (i + 1) else triAt ours theirs n (i + 1)
def pts (kd : Tri → Tri → Int) : Tri → List Tri → Tri → List PartA
  | f, [], e => segA kd f e
  | f, t :: r, e => segA kd f t ++ (1, t, next t) :: pts kd (next t) r e
def ends (o a b : List Str) : Tri := (o.length, a.length, b.length)
def partsA (o a b : List Str) (ours theirs : List Pair) : List PartA := pts (kdT o a b) (0, 0, 0) (triAt ours theirs o.length 0) (ends o a b)
def parts (o a b : List Str) (ours theirs : List Pair) : List Part := (partsA o a b ours theirs).map toP
/-- Pairs that rise, in bounds. -/
def Rises (n m : Nat) : Nat → Nat → List Pair → Prop
  | _, _, [] => True
  | i, j, x :: l => (i : Int) ≤ x.1 ∧ x.1 < n ∧ (j : Int) ≤ x.2.1 ∧ x.2.1 < m ∧ Rises n m (x.1.toNat + 1) (x.2.1.toNat + 1) l
def parts.pre (o a b : List Str) (ours theirs : List Pair) : Prop :=
  o.length ≤ 1000000 ∧ a.length ≤ 1000000 ∧ b.length ≤ 1000000 ∧ ours.length ≤ 1000000 ∧ theirs.length ≤ 1000000 ∧ Rises o.length a.length 0 0 ours ∧ Rises o.length b.length 0 0 theirs

def blendA (o a b : List Str) : List PartA := partsA o a b (lines o a) (lines o b)
def blendT (o a b : List Str) : List Part := (blendA o a b).map toP
def blendT.pre (o a b : List Str) : Prop := o.length ≤ 1000000 ∧ a.length ≤ 1000000 ∧ b.length ≤ 1000000
def triplesR (ours theirs : List Pair) (e : List Int) : List (List Int) := (triAt ours theirs (nth e 0 0).toNat 0).map triL ++ [e]
def triplesR.pre (ours theirs : List Pair) (e : List Int) : Prop := e.length = 3 ∧ 0 ≤ nth e 0 0 ∧ nth e 0 0 ≤ 1000000 ∧ ours.length ≤ 1000000 ∧ theirs.length ≤ 1000000
def kindR (oa ob ab : Bool) : Int := bif oa then 2 else bif ob then 3 else bif ab then 4 else 5
def emptyR (p : PartR) : Bool := eqI (p.2.1.headD 0) (p.2.2.headD 0) && (eqI (p.2.1.tail.headD 0) (p.2.2.tail.headD 0) && (eqI (p.2.1.tail.tail.headD 0) (p.2.2.tail.tail.headD 0) && true))

def joinOne (o a b : List Str) (p : PartA) : List Str :=
  if p.1 = 1 then sub o p.2.1.1 p.2.2.1 else if p.1 = 2 then sub b p.2.1.2.2 p.2.2.2.2
  else if p.1 = 5 then sub a p.2.1.2.1 p.2.2.2.1 ++ sub b p.2.1.2.2 p.2.2.2.2 else sub a p.2.1.2.1 p.2.2.2.1
def joinL (o a b : List Str) : List PartA → List Str
  | [] => []
  | p :: r => joinOne o a b p ++ joinL o a b r
def clashes : List PartA → Int
  | [] => 0
  | p :: r => (if p.1 = 5 then 1 else 0) + clashes r
def joinP (o a b : List Str) : List Str × Int := (joinL o a b (blendA o a b), clashes (blendA o a b))
def joinP.pre (o a b : List Str) : Prop := o.length ≤ 1000000 ∧ a.length ≤ 1000000 ∧ b.length ≤ 1000000
def isClash (p : Part) : Bool := decide (p.1 = 5)
def idxClash (l : List Part) : Int := idxFrom isClash 0 l
def idxClash.pre (l : List Part) : Prop := l.length ≤ 1000000000
def hasClash (l : List Part) : Bool := l.any isClash
def cleanP (l : List Part) : Bool := !l.any isClash
def cleanP.pre (l : List Part) : Prop := l.length ≤ 1000000000

def samePR (p : Part) (q : PartR) : Bool := eqI p.1 q.1 && ((List.zipWith eqI [p.2.1.1, p.2.2.1.1, p.2.2.2.1] q.2.1).all id && (List.zipWith eqI [p.2.1.2, p.2.2.1.2, p.2.2.2.2] q.2.2).all id)
def same25 : List Part → List PartR → Bool
  | [], [] => true
  | p :: l, q :: m => samePR p q && same25 l m
  | _, _ => false
def same25.pre (l : List Part) (_ : List PartR) : Prop := l.length ≤ 1000000000
def turned (k : Int) : Int := if k = 3 then 2 else if k = 2 then 3 else k
end Sp
