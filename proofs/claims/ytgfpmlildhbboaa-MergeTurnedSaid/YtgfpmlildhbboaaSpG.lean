/- What functions tell: one page of three. Plain definitions. -/
import Derived.Test.YtgfpmlildhbboaaSpE
set_option linter.unnecessarySimpa false
set_option linter.unusedVariables false
set_option linter.unusedSectionVars false
set_option linter.unusedSimpArgs false
set_option autoImplicit false
open Vi

namespace Sp
def pls (a b : Int) : Int := a + b
abbrev nz : Node := Node.mk 0 0 [] [] [] []
/-- Nodes that are gone through: all that is in them is short. -/
def mg (l : List Node) : Prop := okL l ∧ (keys l).length ≤ 1000000
def mgN (n : Node) : Prop := okN n ∧ (key n).length ≤ 1000000
def idA (a : List (Str × Str)) : List (Str × Str) := a
def idA.pre (a : List (Str × Str)) : Prop := a.length ≤ 1000000
def idN (l : List Node) : List Node := l
def idN.pre (l : List Node) : Prop := l.length ≤ 1000000
def copyN (l : List Node) : List Node := l
def copyN.pre (l : List Node) : Prop := mg l
def mCp (l : List Node) : Nat := szL l

def withText (n : Node) (t : Str) : Node := Node.mk n.kind n.space n.name n.attrs t n.kids
def withKids (n : Node) (c : List Node) : Node := Node.mk n.kind n.space n.name n.attrs n.text c
/-- A node behind others, a text behind a text being one with it. -/
def addOne (out : List Node) (n : Node) : List Node :=
  if 0 < out.length ∧ n.kind = 2 ∧ (nth out ((out.length : Int) - 1) nz).kind = 2 then out.set (out.length - 1) (withText (nth out ((out.length : Int) - 1) nz) ((nth out ((out.length : Int) - 1) nz).text ++ n.text))
  else out ++ [n]
def addN (out l : List Node) : List Node := l.foldl addOne out
/-- How many there are, and how long their texts are. -/
def wt : List Node → Nat
  | [] => 0
  | n :: l => 1 + n.text.length + wt l
def addN.pre (out l : List Node) : Prop := wt out + wt l ≤ 1000000000
def joinedN (l : List Node) : List Node := addN [] l
def joinedN.pre (l : List Node) : Prop := mg l
def boxN (name : Str) (kids : List Node) : Node := Node.mk 1 0 [115, 101, 99, 116, 105, 111, 110] [([99, 108, 97, 115, 115], name)] [] kids
def tClash : Str := [99, 108, 97, 115, 104]
def tOurs : Str := [111, 117, 114, 115]
def tTheirs : Str := [116, 104, 101, 105, 114, 115]
def markN (a b : List Node) : Node := boxN tClash [boxN tOurs (joinedN a), boxN tTheirs (joinedN b)]
def markN.pre (a b : List Node) : Prop := mg a ∧ mg b
def isBoxN (n : Node) (name : Str) : Bool := eqNd (withKids n []) (boxN name [])
def isBoxN.pre (n : Node) (_ : Str) : Prop := okN n
def isMarkN (n : Node) : Bool := isBoxN n tClash && (decide (n.kids.length = 2) && (isBoxN (nth n.kids 0 nz) tOurs && isBoxN (nth n.kids 1 nz) tTheirs))
def isMarkN.pre (n : Node) : Prop := okN n
mutual
def mkN : Node → Int
  | .mk k s n a t c => bif isMarkN (.mk k s n a t c) then 1 else mkL c
def mkL : List Node → Int
  | [] => 0
  | n :: l => mkN n + mkL l
end
def mkL.pre (l : List Node) : Prop := mg l
mutual
def pickN : Node → Bool → List Node
  | .mk k s n a t c, b => bif isMarkN (.mk k s n a t c) then (nth c (bif b then 1 else 0) nz).kids else [.mk k s n a t (pickF c b [])]
def pickF : List Node → Bool → List Node → List Node
  | [], _, out => out
  | n :: l, b, out => pickF l b (addN out (pickN n b))
end
def pickL (l : List Node) (b : Bool) : List Node := pickF l b []
def pickL.pre (l : List Node) (_ : Bool) : Prop := mg l
def mPk (l : List Node) (_ : Bool) : Nat := szL l

def oneA (o a b : List (Str × Str)) : List (Str × Str) × Bool := bif eqAt o a then (b, true) else bif eqAt o b || eqAt a b then (a, true) else ([], false)
def oneA.pre (o a _ : List (Str × Str)) : Prop := o.length ≤ 1000000 ∧ a.length ≤ 1000000
def oneS (o a b : Str) : Str × Bool := bif eqS o a then (b, true) else bif eqS o b || eqS a b then (a, true) else ([], false)
def eqTx (a b : Str) : Bool := decide (a = b)

section
variable (rec : List Node → List Node → List Node → List Node × Int)
def keptN (o a b : Node) : List Node × Int :=
  bif (oneA o.attrs a.attrs b.attrs).2 && (oneS o.text a.text b.text).2 then
    ([.mk o.kind o.space o.name (oneA o.attrs a.attrs b.attrs).1 (oneS o.text a.text b.text).1 (rec o.kids a.kids b.kids).1], (rec o.kids a.kids b.kids).2)
  else ([markN [a] [b]], 1)
def mrgP (o a b : List Node) (p : PartA) : List Node × Int :=
  if p.1 = 1 then keptN rec (nth o p.2.1.1 nz) (nth a p.2.1.2.1 nz) (nth b p.2.1.2.2 nz)
  else if p.1 = 2 then (sub b p.2.1.2.2 p.2.2.2.2, 0)
  else if p.1 = 5 then ([markN (sub a p.2.1.2.1 p.2.2.2.1) (sub b p.2.1.2.2 p.2.2.2.2)], 1)
  else (sub a p.2.1.2.1 p.2.2.2.1, 0)
def mrgF (o a b : List Node) : List PartA → List Node → List Node × Int
  | [], out => (out, 0)
  | p :: r, out => ((mrgF o a b r (addN out (mrgP rec o a b p).1)).1, (mrgP rec o a b p).2 + (mrgF o a b r (addN out (mrgP rec o a b p).1)).2)
end
def mrgL : Nat → List Node → List Node → List Node → List Node × Int
  | 0, _, _, _ => ([], 0)
  | k + 1, o, a, b => mrgF (mrgL k) o a b (blendNA o a b) []
def mrg (o a b : List Node) : List Node × Int := mrgL (szL o + 1) o a b
def kept (o a b : Node) : List Node × Int := keptN mrg o a b
def ku (o a b : List Node) : Int := ((keys o).length : Int) + (keys a).length + (keys b).length
def kuN (o a b : Node) : Int := ((key o).length : Int) + (key a).length + (key b).length
def mrg.pre (o a b : List Node) (m : Int) : Prop := mg o ∧ mg a ∧ mg b ∧ 0 ≤ m ∧ m + ku o a b ≤ 1000000000
def kept.pre (o a b : Node) (m : Int) : Prop := mgN o ∧ mgN a ∧ mgN b ∧ 0 ≤ m ∧ m + kuN o a b ≤ 1000000000
def mMrg (o _ _ : List Node) (_ : Int) : Nat := 2 * szL o + 1
def mKept (o _ _ : Node) (_ : Int) : Nat := 2 * szN o
def mark1.pre (a b : List Node) (m : Int) : Prop := mg a ∧ mg b ∧ 0 ≤ m ∧ m ≤ 1000000000
def mrg3.pre (o a b : List Node) : Prop := mg o ∧ mg a ∧ mg b
def mrg3 (o a b : List Node) : List Node × Int := mrg o a b
def wordN (s : Str) : List Node := [.mk 1 0 [112] [] [] [.mk 2 0 [] [] s []]]
mutual
/-- Do texts stand side by side? -/
def jnN : Node → Bool
  | .mk _ _ _ _ _ c => jnL 0 c
def jnL : Int → List Node → Bool
  | _, [] => false
  | k, n :: l => (decide (k = 2) && decide (n.kind = 2) || jnN n) || jnL n.kind l
end
def joinedT (l : List Node) : Bool := jnL 0 l
def joinedT.pre (l : List Node) : Prop := okL l ∧ l.length ≤ 140737488351232
def mJn (l : List Node) : Nat := szL l
def large160 (l : List Node) : Bool := (lg l 1 160).1
end Sp
