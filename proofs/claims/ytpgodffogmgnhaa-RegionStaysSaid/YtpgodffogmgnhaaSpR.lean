/- What functions tell: a journal that lasts. Plain definitions. -/
import Derived.Test.YtpgodffogmgnhaaSpL
import Derived.Test.YtpgodffogmgnhaaSpS
set_option linter.unnecessarySimpa false
set_option linter.unusedVariables false
set_option linter.unusedSectionVars false
set_option linter.unusedSimpArgs false
set_option autoImplicit false
open Vi

namespace Sp
/-- A disk with two regions. -/
def gOk (n : Nat) (d : DSt) : Prop := dOk n d ∧ 4 ≤ d.bs.length ∧ d.bs.length ≤ 128
def sub1 (r : Int) : Int := 1 - r
def gPre (d : DSt) : Prop := gOk 80000 d
def halfD (d : DSt) : Int := mx 0 (((d.bs.length : Int) - 2) / 2)
def rgF (r : Int) (d : DSt) : Int := 2 + r * halfD d
def rgPre (r s : Int) (d : DSt) : Prop := gPre d ∧ 0 ≤ r ∧ r ≤ 1 ∧ 0 ≤ s ∧ s ≤ 65536
def rgErr (r s : Int) (d : DSt) : Int := opErr (rgF r d) (halfD d) s d
def rgNil (r s : Int) (d : DSt) : Bool := opNil (rgF r d) (halfD d) s d
def rgS (r s : Int) (d : DSt) : Str := opS (rgF r d) s d
/-- What is wrong with a disk as a journal. -/
def joErr (d : DSt) : Int :=
  if (chooseS d).2.2 ≠ 0 then (chooseS d).2.2 else
  if rgErr (chooseS d).1.2.1 (chooseS d).1.2.2.1 d = 1 then 290 else if rgErr (chooseS d).1.2.1 (chooseS d).1.2.2.1 d ≠ 0 then rgErr (chooseS d).1.2.1 (chooseS d).1.2.2.1 d else
  if ((recsB (rgS (chooseS d).1.2.1 (chooseS d).1.2.2.1 d)).length : Int) ≠ (chooseS d).1.2.2.2 then 290 else 0
def joNil (d : DSt) : Bool := !decide (joErr d = 0)
def joL (d : DSt) : LSt := (rgF (chooseS d).1.2.1 d, halfD d, rgS (chooseS d).1.2.1 (chooseS d).1.2.2.1 d, (chooseS d).1.2.2.1)
def joR (d : DSt) : Int := (chooseS d).1.2.1
def jfErr (d : DSt) : Int := if (formatS d).2 ≠ 0 then (formatS d).2 else joErr (formatS d).1
def jfNil (d : DSt) : Bool := !decide (jfErr d = 0)
def jfPre (d : DSt) : Prop := gOk 70000 d
def lFill : List Str → LSt → LSt × Int
  | [], l => (l, 0)
  | s :: r, l => if (lAdd s l).2 ≠ 0 then lAdd s l else lFill r (lAdd s l).1
def flPre (recs : List Str) (l : LSt) : Prop := lOk l ∧ recs.length ≤ 1000000
def jlSlot (l : LSt) (region : Int) : Slot := (0, region, lBytes l, (lRecs l).length)
def jLast (l : LSt) (region : Int) (d : DSt) : DSt × Int :=
  if (lWrite l d).2 ≠ 0 then lWrite l d else if (dFlush (lWrite l d).1).2 ≠ 0 then dFlush (lWrite l d).1 else putS (jlSlot l region) (dFlush (lWrite l d).1).1
def jOk (l : LSt) (r : Int) (d : DSt) : Prop := lOk l ∧ gPre d ∧ 0 ≤ r ∧ r ≤ 1
def jcPre (recs : List Str) (l : LSt) (r : Int) (d : DSt) : Prop := jOk l r d ∧ recs.length ≤ 1000000
def jcL (recs : List Str) (l : LSt) (r : Int) (d : DSt) : LSt := if (lFill recs l).2 = 0 ∧ (jLast (lFill recs l).1 r d).2 = 0 then lSeal (lFill recs l).1 else lDrop (lFill recs l).1
def jcD (recs : List Str) (l : LSt) (r : Int) (d : DSt) : DSt := if (lFill recs l).2 = 0 then (jLast (lFill recs l).1 r d).1 else d
def jcE (recs : List Str) (l : LSt) (r : Int) (d : DSt) : Int := if (lFill recs l).2 = 0 then (jLast (lFill recs l).1 r d).2 else (lFill recs l).2
/-! Rewriting. -/
def rw0 (r : Int) (d : DSt) : LSt := (rgF (1 - r) d, halfD d, rgS (1 - r) 0 d, 0)
def rwE (recs : List Str) (r : Int) (d : DSt) : Int :=
  if rgErr (1 - r) 0 d ≠ 0 then rgErr (1 - r) 0 d else if (lFill recs (rw0 r d)).2 ≠ 0 then (lFill recs (rw0 r d)).2 else (jLast (lFill recs (rw0 r d)).1 (1 - r) d).2
def rwD (recs : List Str) (r : Int) (d : DSt) : DSt := if rgErr (1 - r) 0 d = 0 ∧ (lFill recs (rw0 r d)).2 = 0 then (jLast (lFill recs (rw0 r d)).1 (1 - r) d).1 else d
def rwL (recs : List Str) (r : Int) (d : DSt) : LSt := lSeal (lFill recs (rw0 r d)).1
def rwPre (recs : List Str) (l : LSt) (r : Int) (d : DSt) : Prop := jcPre recs l r d ∧ rwE recs r d = 0
/-! The laws'. -/
def needF : Int → List Str → Int × Int
  | n, [] => (n, 0)
  | n, s :: l => if (textP s).2 ≠ 0 then (0, (textP s).2) else needF (n + (textP s).1.length) l
def needP (l : List Str) : Int × Int := needF 0 l
def needP.pre (l : List Str) : Prop := l.length ≤ 1000000
def putL (a b : List Str) : List Str := a ++ b
def putL.pre (a b : List Str) : Prop := a.length ≤ 1000000000 ∧ b.length ≤ 1000000000
abbrev RStep := Int × Int × List Str × Bool × List Int
def longT : Int → List Str → Option Int
  | n, [] => some n
  | n, x :: l => if 70000 < (x.length : Int) ∨ 140000 < n + x.length then none else longT (n + x.length) l
def longR : Int → Int → List RStep → Bool
  | _, _, [] => false
  | i, n, s :: l => if 30 < i ∨ 60 < (s.2.2.2.2.length : Int) ∨ 20 < (s.2.2.1.length : Int) then true else match longT n s.2.2.1 with
    | none => true
    | some m => longR (i + 1) m l
def long30 (l : List RStep) : Bool := longR 0 0 l
def long30.pre (l : List RStep) : Prop := l.length ≤ 9223372036854775807
end Sp
