/- What functions tell: what says how much of a disk counts. Plain definitions. -/
import Derived.Test.YtpgodffogmgnhaaSpD
import Derived.Test.YtpgodffogmgnhaaSpN
set_option linter.unnecessarySimpa false
set_option linter.unusedVariables false
set_option linter.unusedSectionVars false
set_option linter.unusedSimpArgs false
set_option autoImplicit false
open Vi

namespace Sp
def preB (s p : Str) : Bool := decide (s.take p.length = p)
def preB.pre (s p : Str) : Prop := s.length ≤ 1000000 ∧ p.length ≤ 1000000
def cutP (s p : Str) : Str × Bool := bif preB s p then (s.drop p.length, true) else (s, false)

abbrev Slot := Int × Int × Int × Int
def countS (n : Int) : Bool := decide (0 ≤ n) && decide (n ≤ 65536)
def rightS (s : Slot) : Bool := decide (1 ≤ s.1) && decide (s.1 ≤ 1099511627776) && (decide (s.2.1 = 0) || decide (s.2.1 = 1)) && countS s.2.2.1 && countS s.2.2.2
def partsS (s : Slot) : List Int := [s.1, s.2.1, s.2.2.1, s.2.2.2]
def padS (s : Str) : Str := s ++ List.replicate (256 - s.length) 0
def padS.pre (s : Str) : Prop := s.length ≤ 256
def magic : Str := [114, 99, 116, 111]
def headS (s : Slot) : Str := magic ++ plain s.1 ++ plain s.2.1 ++ plain s.2.2.1 ++ plain s.2.2.2
def plainS (s : Slot) : Str := padS (headS s)
def blockS (s : Slot) : Str × Int := if rightS s = true then (plainS s, 0) else ([], 1)
def read4 (b : Str) : Slot × Bool :=
  if (takeNum b).2.2 ≠ 0 ∨ (takeNum (takeNum b).2.1).2.2 ≠ 0 ∨ (takeNum (takeNum (takeNum b).2.1).2.1).2.2 ≠ 0 ∨ (takeNum (takeNum (takeNum (takeNum b).2.1).2.1).2.1).2.2 ≠ 0 then ((0, 0, 0, 0), false) else
  (((takeNum b).1, (takeNum (takeNum b).2.1).1, (takeNum (takeNum (takeNum b).2.1).2.1).1, (takeNum (takeNum (takeNum (takeNum b).2.1).2.1).2.1).1), true)
def readS (b : Str) : Slot × Bool :=
  if b.length ≠ 256 ∨ b.take 4 ≠ magic then ((0, 0, 0, 0), false) else if (read4 (b.drop 4)).2 = false then ((0, 0, 0, 0), false) else
  if rightS (read4 (b.drop 4)).1 = true ∧ (plainS (read4 (b.drop 4)).1).take 64 = b.take 64 then ((read4 (b.drop 4)).1, true) else ((0, 0, 0, 0), false)
def readS.pre (b : Str) : Prop := b.length ≤ 9223372036854775807
def choose2 (a b : Slot × Bool) : Slot × Int × Int :=
  if a.2 = false ∧ b.2 = false then ((0, 0, 0, 0), 0, 290) else if a.2 = false ∨ (b.2 = true ∧ a.1.1 < b.1.1) then (b.1, 1, 0) else (a.1, 0, 0)
def chooseS (d : DSt) : Slot × Int × Int :=
  if (dRead 0 d).2 ≠ 0 then ((0, 0, 0, 0), 0, (dRead 0 d).2) else if (dRead 1 d).2 ≠ 0 then ((0, 0, 0, 0), 0, (dRead 1 d).2) else choose2 (readS (dRead 0 d).1) (readS (dRead 1 d).1)
def nextS (c : Slot) (s : Slot) : Slot := (c.1 + 1, s.2.1, s.2.2.1, s.2.2.2)
def putS (s : Slot) (d : DSt) : DSt × Int :=
  if (chooseS d).2.2 ≠ 0 then (d, (chooseS d).2.2) else if rightS (nextS (chooseS d).1 s) = false then (d, 1) else
  if (dWrite (1 - (chooseS d).2.1) (plainS (nextS (chooseS d).1 s)) d).2 ≠ 0 then dWrite (1 - (chooseS d).2.1) (plainS (nextS (chooseS d).1 s)) d else
  dFlush (dWrite (1 - (chooseS d).2.1) (plainS (nextS (chooseS d).1 s)) d).1
def dPre9s (d : DSt) : Prop := dOk 90000 d
def putS.pre (_ : Slot) (d : DSt) : Prop := dOk 90000 d
def firstS : Str := plainS (1, 0, 0, 0)
def formatS (d : DSt) : DSt × Int :=
  if (dWrite 0 firstS d).2 ≠ 0 then dWrite 0 firstS d else if (dWrite 1 (padS []) (dWrite 0 firstS d).1).2 ≠ 0 then dWrite 1 (padS []) (dWrite 0 firstS d).1 else
  dFlush (dWrite 1 (padS []) (dWrite 0 firstS d).1).1
/-! The laws'. -/
end Sp
