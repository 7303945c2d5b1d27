/- What functions tell: records in a row of a disk's blocks. Plain definitions. -/
import Derived.Test.YtpgodffogmgnhaaSpD
import Derived.Test.YtpgodffogmgnhaaSpN
set_option linter.unnecessarySimpa false
set_option linter.unusedVariables false
set_option linter.unusedSectionVars false
set_option linter.unusedSimpArgs false
set_option autoImplicit false
open Vi

namespace Sp
/-- The records that bytes begin with, each with what is left behind it. -/
def eachF : Nat → Str → List (Str × Str)
  | 0, _ => []
  | k + 1, b => if b = [] then [] else if (takeText b).2.2 = 0 then ((takeText b).1, (takeText b).2.1) :: eachF k (takeText b).2.1 else []
def eachL (b : Str) : List (Str × Str) := eachF b.length b
def leftP (b : Str) (pre : List (Str × Str)) : Str := match pre.getLast? with
  | none => b
  | some x => x.2
def wholeB (b : Str) : Bool := (leftP b (eachL b)).isEmpty
def wholeB.pre (b : Str) : Prop := b.length ≤ 1000000
def recsB (b : Str) : List Str := (eachL b).map (·.1)
/-- Where its blocks are, its bytes, how many are sealed. -/
abbrev LSt := Int × Int × Str × Int
abbrev LSt.frm (l : LSt) : Int := l.1
abbrev LSt.blocks (l : LSt) : Int := l.2.1
abbrev LSt.b (l : LSt) : Str := l.2.2.1
abbrev LSt.sealed (l : LSt) : Int := l.2.2.2
def lOk (l : LSt) : Prop := 0 ≤ l.frm ∧ l.frm ≤ 1000 ∧ 1 ≤ l.blocks ∧ l.blocks ≤ 1000 ∧ 0 ≤ l.sealed ∧ l.sealed ≤ l.b.length ∧ (l.b.length : Int) ≤ 256 * l.blocks
def blocksOf (n : Int) : Int := (n + 255) / 256
def blocksOf.pre (n : Int) : Prop := 0 ≤ n ∧ n ≤ 1000000
def pageB (b : Str) (i : Int) : Str := (b.drop (256 * i.toNat)).take 256 ++ List.replicate (256 - ((b.drop (256 * i.toNat)).take 256).length) 0
def lBytes (l : LSt) : Int := l.b.length
def lSealed (l : LSt) : Int := l.sealed
def lRoom (l : LSt) : Int := l.blocks * 256 - l.b.length
def lAdd (s : Str) (l : LSt) : LSt × Int :=
  if (textP s).2 ≠ 0 then (l, (textP s).2) else if lRoom l < (textP s).1.length then (l, 5) else ((l.frm, l.blocks, l.b ++ (textP s).1, l.sealed), 0)
def wrF (l : LSt) : Nat → Int → DSt → DSt × Int
  | 0, _, d => (d, 0)
  | k + 1, i, d => if (dWrite (l.frm + i) (pageB l.b i) d).2 ≠ 0 then dWrite (l.frm + i) (pageB l.b i) d else wrF l k (i + 1) (dWrite (l.frm + i) (pageB l.b i) d).1
def lWrite (l : LSt) (d : DSt) : DSt × Int := if l.sealed < l.b.length then wrF l (blocksOf l.b.length - l.sealed / 256).toNat (l.sealed / 256) d else (d, 0)
def lPre (l : LSt) (d : DSt) : Prop := lOk l ∧ dOk 90000 d
def lSeal (l : LSt) : LSt := (l.frm, l.blocks, l.b, l.b.length)
def lDrop (l : LSt) : LSt := (l.frm, l.blocks, l.b.take l.sealed.toNat, l.sealed)
def lRecs (l : LSt) : List Str := recsB l.b
/-- So many blocks are read, one behind the other. -/
def rdF (d : DSt) : Nat → Int → Str × Int
  | 0, _ => ([], 0)
  | k + 1, i => if (dRead i d).2 ≠ 0 then ([], (dRead i d).2) else if (rdF d k (i + 1)).2 ≠ 0 then ([], (rdF d k (i + 1)).2) else ((dRead i d).1 ++ (rdF d k (i + 1)).1, 0)
def opBad (f n s : Int) (d : DSt) : Bool := decide (f < 0 ∨ n < 1 ∨ d.bs.length < n ∨ d.bs.length - n < f ∨ s < 0 ∨ n * 256 < s)
def opRd (f s : Int) (d : DSt) : Str × Int := rdF d (blocksOf s).toNat f
def opErr (f n s : Int) (d : DSt) : Int :=
  if opBad f n s d = true then 1 else if (opRd f s d).2 ≠ 0 then (opRd f s d).2 else if wholeB ((opRd f s d).1.take s.toNat) = false then 290 else 0
def opNil (f n s : Int) (d : DSt) : Bool := !decide (opErr f n s d = 0)
def opS (f s : Int) (d : DSt) : Str := (opRd f s d).1.take s.toNat
def dPre9 (d : DSt) : Prop := dOk 90000 d

/-! The laws'. -/
end Sp
