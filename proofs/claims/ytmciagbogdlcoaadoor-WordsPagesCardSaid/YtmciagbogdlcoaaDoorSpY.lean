/- What functions tell: words, and what was changed of them. Plain definitions. -/
import Derived.Test.YtmciagbogdlcoaaDoorSpC
set_option linter.unnecessarySimpa false
set_option linter.unusedVariables false
set_option linter.unusedSectionVars false
set_option linter.unusedSimpArgs false
set_option autoImplicit false
open Vi

namespace Sp
abbrev Piece := Int × Str

def spB (x : Int) : Bool := decide (x = 9) || (decide (x = 10) || (decide (x = 12) || decide (x = 32)))
def cls (b : UInt8) : Bool := spB b.toNat
/-- How many bytes ahead are of one sort. -/
def runN (c : Bool) : Str → Nat
  | [] => 0
  | x :: t => bif cls x == c then 1 + runN c t else 0
def splitF : Nat → Str → List Str
  | 0, _ => []
  | _ + 1, [] => []
  | k + 1, x :: t => (x :: t.take (runN (cls x) t)) :: splitF k (t.drop (runN (cls x) t))
def wordsOf (s : Str) : List Str := splitF s.length s
def wordsOf.pre (s : Str) : Prop := s.length ≤ 1000000

def gone (l : List Str) : List Piece := l.map fun s => (2, s)
def come (l : List Str) : List Piece := l.map fun s => (3, s)
def mkLists (a b : List Str) : Int → Int → List (Int × Int × Bool) → List Piece
  | i, j, [] => gone (sub a i a.length) ++ come (sub b j b.length)
  | i, j, p :: l => gone (sub a i p.1) ++ come (sub b j p.2.1) ++ (1, nth a p.1 []) :: mkLists a b (p.1 + 1) (p.2.1 + 1) l
def listsP (a b : List Str) : List Piece := mkLists a b 0 0 (lines a b)
def listsP.pre (a b : List Str) : Prop := a.length ≤ 1000000 ∧ b.length ≤ 1000000
/-- What a step up to two places lays. -/
def up (toA toB i : Int) (out : List Piece) (a : List Str) (j : Int) (b : List Str) : List Piece := out ++ (gone (sub a i toA) ++ come (sub b j toB))
def up.pre (toA toB i : Int) (out : List Piece) (a : List Str) (j : Int) (b : List Str) : Prop :=
  0 ≤ i ∧ i ≤ toA ∧ toA ≤ a.length ∧ 0 ≤ j ∧ j ≤ toB ∧ toB ≤ b.length ∧ a.length ≤ 1000000 ∧ b.length ≤ 1000000 ∧ out.length ≤ 4000000

def meltStep (out : List Piece) (p : Piece) : List Piece :=
  if p.2 = [] then out else
  match out.getLast? with
  | some q => if q.1 = p.1 then out.dropLast ++ [(q.1, q.2 ++ p.2)] else out ++ [p]
  | none => [p]
def meltF : List Piece → List Piece → List Piece
  | out, [] => out
  | out, p :: l => meltF (meltStep out p) l
def total : List Piece → Nat
  | [] => 0
  | p :: l => p.2.length + total l
def melted (l : List Piece) : List Piece := meltF [] l
def melted.pre (l : List Piece) : Prop := l.length ≤ 1000000000 ∧ total l ≤ 1000000000
def textsP (a b : Str) : List Piece := if 400 < ((wordsOf a).length : Int) ∨ 400 < ((wordsOf b).length : Int) then melted [(2, a), (3, b)] else melted (listsP (wordsOf a) (wordsOf b))
def textsP.pre (a b : Str) : Prop := a.length ≤ 100000 ∧ b.length ≤ 100000

def catF (f : Piece → Str) : List Piece → Str
  | [] => []
  | p :: l => f p ++ catF f l
def butF (k : Int) (p : Piece) : Str := bif decide (p.1 = 1) || decide (p.1 = k) then p.2 else []
def markF (p : Piece) : Str := if p.1 = 1 then p.2 else if p.1 = 2 then ([91, 45] ++ p.2) ++ [45, 93] else if p.1 = 3 then ([91, 43] ++ p.2) ++ [43, 93] else []
def markF.pre (p : Piece) : Prop := p.2.length ≤ 140737488351232
def toldK (l : List Piece) (k : Int) : Str := catF (butF k) l
def toldK.pre (l : List Piece) (k : Int) : Prop := l.length ≤ 9223372036854775807 ∧ (catF (butF k) l).length ≤ 140737488351232
def marks (l : List Piece) : Str := catF markF l
def marks.pre (l : List Piece) : Prop := l.length ≤ 9223372036854775807 ∧ (catF markF l).length ≤ 140737488351232 ∧ ∀ p, p ∈ l → p.2.length ≤ 140737488351232
def oldP (l : List Piece) : Str := toldK l 2
def oldP.pre (l : List Piece) : Prop := toldK.pre l 2
/-! Pages. -/
def signK (k : Int) : Str := if k = 1 then [32] else if k = 2 then [45] else [43]
def tellP (p : Piece) : Str := signK p.1 ++ [32] ++ p.2
def pagesP (a b : List Vi.Node) : List Str := (listsP (linesP a) (linesP b)).map tellP
def pagesP.pre (a b : List Vi.Node) : Prop := (prOk a ∧ szL a ≤ 400) ∧ prOk b ∧ szL b ≤ 400
def large2 (l : List Vi.Node) : Bool := (lg l 1 200).1
end Sp
