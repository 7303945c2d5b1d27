/- What functions tell: what says how much of a disk counts. Plain definitions. -/
import Derived.Test.YtdeajocokfhklaaSpD
import Derived.Test.YtdeajocokfhklaaSpN
set_option linter.unnecessarySimpa false
set_option linter.unusedVariables false
set_option linter.unusedSectionVars false
set_option linter.unusedSimpArgs false
set_option autoImplicit false
open Vi

namespace Sp
def preB (s p : Str) : Bool := decide (s.take p.length = p)
def preB.pre (s p : Str) : Prop := s.length ≤ 1000000 ∧ p.length ≤ 1000000
def cutP (s p : Str) : Str × Bool := bif preB s p then (s.drop p.length, true) else (s, false)

abbrev Slot := Int × Int × Int × Int
def countS (n : Int) : Bool := decide (0 ≤ n) && decide (n ≤ 65536)
def rightS (s : Slot) : Bool := decide (1 ≤ s.1) && decide (s.1 ≤ 1099511627776) && (decide (s.2.1 = 0) || decide (s.2.1 = 1)) && countS s.2.2.1 && countS s.2.2.2
def partsS (s : Slot) : List Int := [s.1, s.2.1, s.2.2.1, s.2.2.2]
def padS (s : Str) : Str := s ++ List.replicate (256 - s.length) 0
def padS.pre (s : Str) : Prop := s.length ≤ 256
def magic : Str := [114, 99, 116, 111]
def headS (s : Slot) : Str := magic ++ plain s.1 ++ plain s.2.1 ++ plain s.2.2.1 ++ plain s.2.2.2
def plainS (s : Slot) : Str := padS (headS s)
def plainS.pre (s : Slot) : Prop := rightS s = true
def blockS (s : Slot) : Str × Int := if rightS s = true then (plainS s, 0) else ([], 1)
def read4 (b : Str) : Slot × Bool :=
  if (takeNum b).2.2 ≠ 0 ∨ (takeNum (takeNum b).2.1).2.2 ≠ 0 ∨ (takeNum (takeNum (takeNum b).2.1).2.1).2.2 ≠ 0 ∨ (takeNum (takeNum (takeNum (takeNum b).2.1).2.1).2.1).2.2 ≠ 0 then ((0, 0, 0, 0), false) else
  (((takeNum b).1, (takeNum (takeNum b).2.1).1, (takeNum (takeNum (takeNum b).2.1).2.1).1, (takeNum (takeNum (takeNum (takeNum b).2.1).2.1).2.1).1), true)
def readS (b : Str) : Slot × Bool :=
  if b.length ≠ 256 ∨ b.take 4 ≠ magic then ((0, 0, 0, 0), false) else if (read4 (b.drop 4)).2 = false then ((0, 0, 0, 0), false) else
  if rightS (read4 (b.drop 4)).1 = true ∧ (plainS (read4 (b.drop 4)).1).take 64 = b.take 64 then ((read4 (b.drop 4)).1, true) else ((0, 0, 0, 0), false)
def readS.pre (b : Str) : Prop := b.length ≤ 9223372036854775807
def choose2 (a b : Slot × Bool) : Slot × Int × Int :=
  if a.2 = false ∧ b.2 = false then ((0, 0, 0, 0), 0, 290) else if a.2 = false ∨ (b.2 = true ∧ a.1.1 < b.1.1) then (b.1, 1, 0) else (a.1, 0, 0)
def chooseS (d : DSt) : Slot × Int × Int :=
  if (dRead 0 d).2 ≠ 0 then ((0, 0, 0, 0), 0, (dRead 0 d).2) else if (dRead 1 d).2 ≠ 0 then ((0, 0, 0, 0), 0, (dRead 1 d).2) else choose2 (readS (dRead 0 d).1) (readS (dRead 1 d).1)
def rChoose (d : RSt) : Slot × Int × Int :=
  if (rRead 0 d).2 ≠ 0 then ((0, 0, 0, 0), 0, (rRead 0 d).2) else if (rRead 1 d).2 ≠ 0 then ((0, 0, 0, 0), 0, (rRead 1 d).2) else choose2 (readS (rRead 0 d).1) (readS (rRead 1 d).1)
def nextS (c : Slot) (s : Slot) : Slot := (c.1 + 1, s.2.1, s.2.2.1, s.2.2.2)
def putS (s : Slot) (d : DSt) : DSt × Int :=
  if (chooseS d).2.2 ≠ 0 then (d, (chooseS d).2.2) else if rightS (nextS (chooseS d).1 s) = false then (d, 1) else
  if (dWrite (1 - (chooseS d).2.1) (plainS (nextS (chooseS d).1 s)) d).2 ≠ 0 then dWrite (1 - (chooseS d).2.1) (plainS (nextS (chooseS d).1 s)) d else
  dFlush (dWrite (1 - (chooseS d).2.1) (plainS (nextS (chooseS d).1 s)) d).1
def rPut (s : Slot) (d : RSt) : RSt × Int :=
  if (rChoose d).2.2 ≠ 0 then (d, (rChoose d).2.2) else if rightS (nextS (rChoose d).1 s) = false then (d, 1) else
  if (rWrite (1 - (rChoose d).2.1) (plainS (nextS (rChoose d).1 s)) d).2 ≠ 0 then rWrite (1 - (rChoose d).2.1) (plainS (nextS (rChoose d).1 s)) d else
  rFlush (rWrite (1 - (rChoose d).2.1) (plainS (nextS (rChoose d).1 s)) d).1
def dPre9 (d : DSt) : Prop := dOk 90000 d
def rPre9 (d : RSt) : Prop := rOk 90000 d
def putS.pre (_ : Slot) (d : DSt) : Prop := dOk 90000 d
def rPut.pre (_ : Slot) (d : RSt) : Prop := rOk 90000 d
def firstS : Str := plainS (1, 0, 0, 0)
def formatS (d : DSt) : DSt × Int :=
  if (dWrite 0 firstS d).2 ≠ 0 then dWrite 0 firstS d else if (dWrite 1 (padS []) (dWrite 0 firstS d).1).2 ≠ 0 then dWrite 1 (padS []) (dWrite 0 firstS d).1 else
  dFlush (dWrite 1 (padS []) (dWrite 0 firstS d).1).1
def rFormat (d : RSt) : RSt × Int :=
  if (rWrite 0 firstS d).2 ≠ 0 then rWrite 0 firstS d else if (rWrite 1 (padS []) (rWrite 0 firstS d).1).2 ≠ 0 then rWrite 1 (padS []) (rWrite 0 firstS d).1 else
  rFlush (rWrite 1 (padS []) (rWrite 0 firstS d).1).1

/-! The laws'. -/
def refS (s : Slot) : Slot := s
abbrev SStep := Int × Int × Slot × Int × Bool × List Int
def longF8 : Int → List SStep → Bool
  | _, [] => false
  | i, s :: l => if 40 < i ∨ 60 < (s.2.2.2.2.2.length : Int) then true else longF8 (i + 1) l
def longS8 (l : List SStep) : Bool := longF8 0 l
def longS8.pre (l : List SStep) : Prop := l.length ≤ 9223372036854775807
def sStep (s : SStep) (d : DSt) : DSt × Int :=
  if s.1 = 0 ∨ s.1 = 1 then putS s.2.2.1 d else if s.1 = 3 then formatS d else if s.1 = 4 then dWrite s.2.1 (fillB s.2.2.2.1) d else if s.1 = 5 then dFlush d else
  if s.1 = 6 then dCrash s.2.2.2.2.2 d else if s.1 = 7 then dStart d else if s.1 = 8 then dSet (s.2.1, s.2.2.2.2.1, s.2.2.2.2.2) d else (d, 0)
def tStep (s : SStep) (d : RSt) : RSt × Int :=
  if s.1 = 0 ∨ s.1 = 1 then rPut s.2.2.1 d else if s.1 = 3 then rFormat d else if s.1 = 4 then rWrite s.2.1 (fillB s.2.2.2.1) d else if s.1 = 5 then rFlush d else
  if s.1 = 6 then rCrash s.2.2.2.2.2 d else if s.1 = 7 then rStart d else if s.1 = 8 then rSet (s.2.1, s.2.2.2.2.1, s.2.2.2.2.2) d else (d, 0)
def does8 (s : SStep) (d : DSt) (w : RSt) : Bool := decide ((sStep s d).2 = (tStep s w).2)
def does8.pre (s : SStep) (d : DSt) (w : RSt) : Prop := dPre9 d ∧ rPre9 w ∧ 0 ≤ s.2.2.2.1 ∧ s.2.2.2.1 ≤ 255 ∧ -9223372036854775808 ≤ s.2.1 ∧ s.2.1 ≤ 9223372036854775807 ∧ s.2.2.2.2.2.length ≤ 1000000
end Sp
