/- What functions tell: numbers, texts and lists as bytes. Plain definitions. -/
import Derived.Test.YtpgodffogmgnhaaViThree
set_option linter.unnecessarySimpa false
set_option linter.unusedVariables false
set_option linter.unusedSectionVars false
set_option linter.unusedSimpArgs false
set_option autoImplicit false
open Vi

namespace Sp
/-- A text's bytes behind others. -/
def wr (x : List Int) (s : Str) : List Int := x ++ ints s
def wr.pre (x : List Int) (s : Str) : Prop := x.length + s.length ≤ 140737488351232

def maxInt : Int := 1099511627776
def maxBytes : Int := 65536
def byte (n : Int) : UInt8 := UInt8.ofNat n.toNat

/-- Digits to the base 256: as many as there are, if there are no more than so many. -/
def digF : Nat → Int → Str
  | 0, _ => []
  | k + 1, n => if n ≤ 0 then [] else digF k (n / 256) ++ [byte (n % 256)]
def digs (n : Int) : Str := digF 8 n
def digs.pre (n : Int) : Prop := 0 ≤ n ∧ n ≤ maxInt
def digm (n : Int) : Nat := n.toNat
def plain (n : Int) : Str := byte (digs n).length :: digs n
def plain.pre (n : Int) : Prop := 0 ≤ n ∧ n ≤ maxInt
def sizeN (n : Int) : Int := (digs n).length
def sizeN.pre (n : Int) : Prop := n ≤ maxInt
def numP (n : Int) : Str × Int := if n < 0 ∨ maxInt < n then ([], 1) else (plain n, 0)

def textB (s : Str) : Str := plain s.length ++ s
def catB : List Str → Str
  | [] => []
  | s :: l => textB s ++ catB l
def anyLong : List Str → Bool
  | [] => false
  | s :: l => decide (maxBytes < (s.length : Int)) || anyLong l
def joinedP (l : List Str) : Str × Int := bif anyLong l then ([], 2) else (catB l, 0)
def joinedP.pre (l : List Str) : Prop := l.length ≤ 1000
def textP (s : Str) : Str × Int := if maxBytes < (s.length : Int) then ([], 2) else (textB s, 0)
def val : Int → Str → Int
  | n, [] => n
  | n, x :: l => val (n * 256 + x.toNat) l
def takeNum : Str → Int × Str × Int
  | [] => (0, [], 4)
  | k :: t => if 6 < k.toNat ∨ t.length < k.toNat then (0, [], 4) else bif (t.take k.toNat).head? == some 0 then (0, [], 4) else
    if maxInt < val 0 (t.take k.toNat) then (0, [], 4) else (val 0 (t.take k.toNat), t.drop k.toNat, 0)
def takeNum.pre (b : Str) : Prop := b.length ≤ 9223372036854775807
/-- The number at a place, and where it ends. -/
def numAt (b : Str) (i : Int) : Int × Int := if (takeNum (b.drop i.toNat)).2.2 = 0 then ((takeNum (b.drop i.toNat)).1, (b.length : Int) - (takeNum (b.drop i.toNat)).2.1.length) else (0, -1)
def numAt.pre (b : Str) (i : Int) : Prop := i = 0 ∧ b.length ≤ 9223372036854775807
def takeText (b : Str) : Str × Str × Int :=
  if (takeNum b).2.2 ≠ 0 ∨ maxBytes < (takeNum b).1 ∨ ((takeNum b).2.1.length : Int) < (takeNum b).1 then ([], [], 4)
  else ((takeNum b).2.1.take (takeNum b).1.toNat, (takeNum b).2.1.drop (takeNum b).1.toNat, 0)
def takeText.pre (b : Str) : Prop := b.length ≤ 9223372036854775807
abbrev Taken := Int × Str × List Str × Str × Int
def takenT (b : Str) : Taken := (0, (takeText b).1, [], (takeText b).2.1, (takeText b).2.2)
def takenT.pre (b : Str) : Prop := b.length ≤ 9223372036854775807
def eqL (a b : List Str) : Bool := decide (a = b)
def eqL.pre (a _ : List Str) : Prop := a.length ≤ 9223372036854775807
end Sp
