/- What functions tell: a log and the document's, step by step. Plain definitions. -/
import Derived.Test.YtpgodffogmgnhaaSpL
set_option linter.unnecessarySimpa false
set_option linter.unusedVariables false
set_option linter.unusedSectionVars false
set_option linter.unusedSimpArgs false
set_option autoImplicit false
open Vi

namespace Sp
def ofB (b : Str) : List Str × Bool := if wholeB b = true then (recsB b, true) else ([], false)
def ofB.pre (b : Str) : Prop := b.length ≤ 1000000
abbrev RowQ := Int × Int × Int
def roBad (q : RowQ) (w : RSt) : Bool := decide (q.1 < 0 ∨ q.2.1 < 1 ∨ w.bs.length < q.2.1 ∨ w.bs.length - q.2.1 < q.1 ∨ q.2.2 < 0 ∨ 256 * q.2.1 < q.2.2)
/-- So many blocks are read, one behind the other. -/
def rrF (w : RSt) : Nat → Int → Str × Int
  | 0, _ => ([], 0)
  | k + 1, i => if (rRead i w).2 ≠ 0 then ([], (rRead i w).2) else if (rrF w k (i + 1)).2 ≠ 0 then ([], (rrF w k (i + 1)).2) else ((rRead i w).1 ++ (rrF w k (i + 1)).1, 0)
def roRd (q : RowQ) (w : RSt) : Str × Int := rrF w (blocksOf q.2.2).toNat q.1
def roErr (q : RowQ) (w : RSt) : Int :=
  if roBad q w = true then 1 else if (roRd q w).2 ≠ 0 then (roRd q w).2 else if wholeB ((roRd q w).1.take q.2.2.toNat) = false then 290 else 0
def roNil (q : RowQ) (w : RSt) : Bool := !decide (roErr q w = 0)
def roL (q : RowQ) (w : RSt) : List Str := recsB ((roRd q w).1.take q.2.2.toNat)
def roPre (_ : RowQ) (w : RSt) : Prop := rOk 90000 w
def catB.pre (l : List Str) : Prop := l.length ≤ 1000000 ∧ (catB l).length ≤ 1000000
/-- Where its blocks are, how many, how many records are sealed, its records. -/
abbrev MSt := Int × Int × Int × List Str
def mOk (m : MSt) : Prop := 0 ≤ m.1 ∧ m.1 ≤ 1000 ∧ 1 ≤ m.2.1 ∧ m.2.1 ≤ 1000 ∧ 0 ≤ m.2.2.1 ∧ m.2.2.1 ≤ m.2.2.2.length ∧ ((catB m.2.2.2).length : Int) ≤ 256 * m.2.1
def mAdd (s : Str) (m : MSt) : MSt × Int :=
  if (textP s).2 ≠ 0 then (m, (textP s).2) else if 256 * m.2.1 < (catB m.2.2.2).length + (textP s).1.length then (m, 5) else ((m.1, m.2.1, m.2.2.1, m.2.2.2 ++ [s]), 0)
def mDrop (m : MSt) : MSt := (m.1, m.2.1, m.2.2.1, m.2.2.2.take m.2.2.1.toNat)
def mSeal (m : MSt) : MSt := (m.1, m.2.1, (m.2.2.2.length : Int), m.2.2.2)
def mSealed (m : MSt) : Int := (catB (m.2.2.2.take m.2.2.1.toNat)).length
def mwF (m : MSt) : Nat → Int → RSt → RSt × Int
  | 0, _, w => (w, 0)
  | k + 1, i, w =>
    if 256 * i + 256 ≤ mSealed m ∨ ((catB m.2.2.2).length : Int) ≤ 256 * i ∨ mSealed m = (catB m.2.2.2).length then mwF m k (i + 1) w else
    if (rWrite (m.1 + i) (pageB (catB m.2.2.2) i) w).2 ≠ 0 then rWrite (m.1 + i) (pageB (catB m.2.2.2) i) w else mwF m k (i + 1) (rWrite (m.1 + i) (pageB (catB m.2.2.2) i) w).1
def mWrite (m : MSt) (w : RSt) : RSt × Int := mwF m m.2.1.toNat 0 w
def mWrite.pre (m : MSt) (w : RSt) : Prop := mOk m ∧ ∃ d, dOk 90000 d ∧ w = (d.down, d.armed, d.after, d.acut, d.keep, d.bs.map List.flatten, d.ws.map fun w => (w.1, w.2.flatten))
/-- What it does, a number, a text, numbers. -/
abbrev Step9 := Int × Int × Str × List Int
def d9 (s : Step9) (d : DSt) (l : LSt) : DSt :=
  if s.1 = 3 then (lWrite l d).1 else if s.1 = 4 then (dFlush d).1 else if s.1 = 8 then (dStart (dCrash s.2.2.2 d).1).1 else if s.1 = 9 then (dSet (s.2.1, false, s.2.2.2) d).1 else d
def w9 (s : Step9) (w : RSt) (m : MSt) : RSt :=
  if s.1 = 3 then (mWrite m w).1 else if s.1 = 4 then (rFlush w).1 else if s.1 = 8 then (rStart (rCrash s.2.2.2 w).1).1 else if s.1 = 9 then (rSet (s.2.1, false, s.2.2.2) w).1 else w
def l9 (s : Step9) (d : DSt) (l : LSt) : LSt :=
  if s.1 = 0 ∨ s.1 = 1 ∨ s.1 = 2 then (lAdd s.2.2.1 l).1 else if s.1 = 5 then lSeal l else if s.1 = 6 then lDrop l else
  if s.1 = 7 ∧ opErr l.1 l.2.1 s.2.1 d = 0 then (l.1, l.2.1, opS l.1 s.2.1 d, s.2.1) else l
def m9 (s : Step9) (w : RSt) (m : MSt) : MSt :=
  if s.1 = 0 ∨ s.1 = 1 ∨ s.1 = 2 then (mAdd s.2.2.1 m).1 else if s.1 = 5 then mSeal m else if s.1 = 6 then mDrop m else
  if s.1 = 7 ∧ roErr (m.1, m.2.1, s.2.1) w = 0 then (m.1, m.2.1, ((roL (m.1, m.2.1, s.2.1) w).length : Int), roL (m.1, m.2.1, s.2.1) w) else m
/-- A log is as the document's. -/
def Rel (l : LSt) (m : MSt) : Prop :=
  l.1 = m.1 ∧ l.2.1 = m.2.1 ∧ anyLong m.2.2.2 = false ∧ l.2.2.1 = catB m.2.2.2 ∧ 0 ≤ m.2.2.1 ∧ m.2.2.1 ≤ m.2.2.2.length ∧ l.2.2.2 = mSealed m
def absR (d : DSt) : RSt := (d.down, d.armed, d.after, d.acut, d.keep, d.bs.map List.flatten, d.ws.map fun w => (w.1, w.2.flatten))
def does9.pre (s : Step9) (d : DSt) (w : RSt) (l : LSt) (m : MSt) : Prop := dOk 80000 d ∧ w = absR d ∧ lOk l ∧ Rel l m ∧ s.2.2.2.length ≤ 1000000 ∧ -9223372036854775808 ≤ s.2.1 ∧ s.2.1 ≤ 9223372036854775807
def longF9 : Int → Int → List Step9 → Bool
  | _, _, [] => false
  | i, n, s :: l => if 40 < i ∨ 40 < (s.2.2.2.length : Int) ∨ 70000 < (s.2.2.1.length : Int) ∨ 140000 < n + s.2.2.1.length then true else longF9 (i + 1) (n + s.2.2.1.length) l
def long29 (l : List Step9) : Bool := longF9 0 0 l
def long29.pre (l : List Step9) : Prop := l.length ≤ 9223372036854775807
end Sp
