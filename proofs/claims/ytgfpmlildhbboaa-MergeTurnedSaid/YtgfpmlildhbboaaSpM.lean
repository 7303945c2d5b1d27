/- What functions tell: lists of nodes lined up. Plain definitions. -/
import Derived.Test.YtgfpmlildhbboaaSpB
set_option linter.unnecessarySimpa false
set_option linter.unusedVariables false
set_option linter.unusedSectionVars false
set_option linter.unusedSimpArgs false
set_option autoImplicit false
open Vi

namespace Sp
abbrev NPair := Int × Int × Bool
abbrev Nd := Vi.Node
/-- A text's bytes behind others. -/
def wr (x : List Int) (s : Str) : List Int := x ++ ints s
def wr.pre (x : List Int) (s : Str) : Prop := x.length + s.length ≤ 140737488351232

/-- A number's digits. -/
def dg (n : Nat) : Str := if n < 10 then [UInt8.ofNat (48 + n)] else dg (n / 10) ++ [UInt8.ofNat (48 + n % 10)]
/-- A number's digits, and a mark behind them. -/
def dgs (n : Int) : Str := (if n < 0 then 45 :: dg (-1 - n).toNat else dg n.toNat) ++ [46]
def dgs.pre (n : Int) : Prop := -9223372036854775808 ≤ n ∧ n ≤ 9223372036854775807
def dgm (n : Int) : Nat := if n < 0 then (-1 - n).toNat + 1 else n.toNat
/-- A text behind its length. -/
def tx (s : Str) : Str := dgs s.length ++ s
def tx.pre (s : Str) : Prop := s.length ≤ 1000000000
def label (n : Node) : Str := dgs n.kind ++ dgs n.space ++ n.name
def label.pre (n : Node) : Prop := dgs.pre n.kind ∧ dgs.pre n.space ∧ n.name.length ≤ 1000000000
def atx (a : List (Str × Str)) : Str := (a.map fun x => tx x.1 ++ tx x.2).flatten
mutual
def key : Node → Str
  | .mk k s n a t c => (dgs k ++ dgs s ++ tx n ++ tx t ++ dgs a.length) ++ atx a ++ dgs c.length ++ keys c
def keys : List Node → Str
  | [] => []
  | n :: l => key n ++ keys l
end
mutual
/-- A node that can stand somewhere: its numbers and its lists are no longer than there is room for. -/
def okN : Node → Prop
  | .mk k s _ a _ c => dgs.pre k ∧ dgs.pre s ∧ a.length ≤ 140737488351232 ∧ c.length ≤ 140737488351232 ∧ okL c
def okL : List Node → Prop
  | [] => True
  | n :: l => okN n ∧ okL l
end
mutual
/-- How many nodes. -/
def szN : Node → Nat
  | .mk _ _ _ _ _ c => 1 + szL c
def szL : List Node → Nat
  | [] => 0
  | n :: l => szN n + szL l
end
def key.pre (n : Node) : Prop := okN n ∧ (key n).length ≤ 1000000000
def keysOf (l : List Node) : List Str := l.map key
def keysOf.pre (l : List Node) : Prop := okL l ∧ l.length ≤ 1000000 ∧ (keys l).length ≤ 1000000000
def labelsOf (l : List Node) : List Str := l.map label
def labelsOf.pre (l : List Node) : Prop := okL l ∧ l.length ≤ 1000000 ∧ (keys l).length ≤ 1000000000

/-- Equal attributes, nodes, lists of nodes. -/
def eqAt (a b : List (Str × Str)) : Bool := decide (a = b)
def eqAt.pre (a _ : List (Str × Str)) : Prop := a.length ≤ 140737488351232
def eqNd (a b : Node) : Bool := decide (key a = key b)
def eqNd.pre (a _ : Node) : Prop := okN a
def eqNs (a b : List Node) : Bool := decide (keysOf a = keysOf b)
def eqNs.pre (a _ : List Node) : Prop := okL a ∧ a.length ≤ 140737488351232
def mNd (a _ : Node) : Nat := 2 * szN a
def mNs (a _ : List Node) : Nat := 2 * szL a + 1

/-- The first place of a text, from one on, among so many. -/
def firstAt (s : Str) (y : List Str) : Nat → Int → Int
  | 0, _ => -1
  | n + 1, j => if s = nth y j [] then j else firstAt s y n (j + 1)
/-- The pairs with the same label, from two places on. -/
def alikeAt (x y : List Str) (to : Int) : Nat → Int → Int → List NPair
  | 0, _, _ => []
  | n + 1, i, f => if firstAt (nth x i []) y (to - f).toNat f < 0 then alikeAt x y to n (i + 1) f
    else (i, firstAt (nth x i []) y (to - f).toNat f, false) :: alikeAt x y to n (i + 1) (firstAt (nth x i []) y (to - f).toNat f + 1)
def alike (g : Int × Int × Int × Int) (x y : List Str) : List NPair := alikeAt x y g.2.2.2 (g.2.2.1 - g.1).toNat g.1 g.2.1
def alike.pre (g : Int × Int × Int × Int) (x y : List Str) : Prop :=
  0 ≤ g.1 ∧ g.2.2.1 ≤ (x.length : Int) ∧ 0 ≤ g.2.1 ∧ g.2.2.2 ≤ (y.length : Int) ∧ x.length ≤ 1000000 ∧ y.length ≤ 1000000
/-- The pairs of two lists, from two places on, by their labels and the pairs that are whole. -/
def listsAt (x y : List Str) (ea eb : Int) : Int → Int → List NPair → List NPair
  | i, j, [] => alikeAt x y eb (ea - i).toNat i j
  | i, j, p :: r => alikeAt x y p.2.1 (p.1 - i).toNat i j ++ p :: listsAt x y ea eb (p.1 + 1) (p.2.1 + 1) r
def lists (a b : List Node) : List NPair := listsAt (labelsOf a) (labelsOf b) a.length b.length 0 0 (lines (keysOf a) (keysOf b))
def lists.pre (a b : List Node) : Prop := keysOf.pre a ∧ keysOf.pre b
mutual
/-- Is a node, with all that is below, more than there is room for? And how much room is left. -/
def lgN : Node → Int → Int → Bool × Int
  | .mk _ _ n a t c, r, d =>
    if r - 1 < 0 ∨ 40 < (a.length : Int) ∨ 5000 < (t.length : Int) ∨ 100 < (n.length : Int) then (true, r - 1)
    else if a.any (fun x => decide (100 < (x.1.length : Int) ∨ 2000 < (x.2.length : Int))) = true ∨ 60 < d + 1 ∨ 500 < (c.length : Int) then (true, r - 1 - t.length / 16 - a.length)
    else if (lgL c (r - 1 - t.length / 16 - a.length) (d + 1)).1 = true ∨ (lgL c (r - 1 - t.length / 16 - a.length) (d + 1)).2 < 0 then (true, (lgL c (r - 1 - t.length / 16 - a.length) (d + 1)).2)
    else (false, (lgL c (r - 1 - t.length / 16 - a.length) (d + 1)).2)
def lgL : List Node → Int → Int → Bool × Int
  | [], r, _ => (false, r)
  | n :: l, r, d => if (lgN n r d).1 = true then lgN n r d else lgL l (lgN n r d).2 d
end
/-- Large: more than there is room for, and the room that is left. -/
def lg (l : List Node) (d r : Int) : Bool × Int :=
  if 60 < d ∨ 500 < (l.length : Int) then (true, r) else if (lgL l r d).1 = true then lgL l r d else (decide ((lgL l r d).2 < 0), (lgL l r d).2)
def lg.pre (_ : List Node) (d r : Int) : Prop := 0 ≤ d ∧ d ≤ 61 ∧ -1000 ≤ r ∧ r ≤ 1000000
def mLg (l : List Node) (_ _ : Int) : Nat := szL l
end Sp
