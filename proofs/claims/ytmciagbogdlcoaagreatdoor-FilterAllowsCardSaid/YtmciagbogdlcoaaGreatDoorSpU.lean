/- What functions tell: addresses. Plain definitions. -/
import Derived.Test.YtmciagbogdlcoaaGreatDoorViThree
set_option linter.unnecessarySimpa false
set_option linter.unusedVariables false
set_option linter.unusedSectionVars false
set_option linter.unusedSimpArgs false
set_option autoImplicit false
open Vi

namespace Sp
/-- A law's answer. -/
def tt : Bool := true

/-- A text's bytes behind others. -/
def wr (x : List Int) (s : Str) : List Int := x ++ ints s
def wr.pre (x : List Int) (s : Str) : Prop := x.length + s.length ≤ 140737488351232
def wb (x : List Int) (b : Int) : List Int := x ++ [b]
def wb.pre (x : List Int) (_ : Int) : Prop := x.length ≤ 140737488351231

def letB (x : Int) : Bool := decide ((65 ≤ x ∧ x ≤ 90) ∨ (97 ≤ x ∧ x ≤ 122))
def digB (x : Int) : Bool := decide (48 ≤ x ∧ x ≤ 57)
def lowB (b : UInt8) : UInt8 := if 65 ≤ b.toNat ∧ b.toNat ≤ 90 then b + 32 else b
def lower (s : Str) : Str := s.map lowB
def lower.pre (s : Str) : Prop := s.length ≤ 140737488351232
def keepB (b : UInt8) : Bool := !(b == 9 || b == 10 || b == 13)
def lowC (b : UInt8) : Bool := decide (b.toNat ≤ 32)
def trimR (s : Str) : Str := (s.reverse.dropWhile lowC).reverse
def plainU (s : Str) : Str := (trimR (s.dropWhile lowC)).filter keepB
def plainU.pre (s : Str) : Prop := s.length ≤ 1000000
def moreB (b : UInt8) : Bool := digB b.toNat || b == 43 || b == 45 || b == 46
def schF : Bool → Str → Option Nat
  | _, [] => none
  | f, x :: t => if x = 58 then some 0 else if (letB x.toNat || (!f && moreB x)) = true then (schF false t).map (· + 1) else none
/-- How long a scheme is. -/
def schN (s : Str) : Int := ((schF true s).getD 0 : Nat)
def upTo1 (a b : Int) (s : Str) : Str := s.takeWhile fun x => !(decide ((x.toNat : Int) = a) || decide ((x.toNat : Int) = b))
def idxB (s : Str) (c : Int) : Int := if (upTo1 c c s).length = s.length then -1 else (upTo1 c c s).length
def idx1 (s sep : Str) : Int := idxB s (sep.headD 0).toNat
def idx1.pre (s sep : Str) : Prop := s.length ≤ 1000000 ∧ sep.length = 1
def cutC (s : Str) (c : Int) : Str × Str × Bool := if idxB s c < 0 then (s, [], false) else (s.take (idxB s c).toNat, s.drop (idxB s c + 1).toNat, true)
def cut1 (s sep : Str) : Str × Str × Bool := cutC s (sep.headD 0).toNat
def cut1.pre (s sep : Str) : Prop := s.length ≤ 1000000 ∧ sep.length = 1
def preB (s p : Str) : Bool := decide (s.take p.length = p)
def preB.pre (s p : Str) : Prop := s.length ≤ 1000000 ∧ p.length ≤ 1000000
def cutP (s p : Str) : Str × Bool := bif preB s p then (s.drop p.length, true) else (s, false)

def schRest (r : Str) : Str := if schN r = 0 then r else r.drop (schN r + 1).toNat
def schName (r old : Str) : Str := if schN r = 0 then old else lower (r.take (schN r).toNat)
def schHas (r : Str) (old : Bool) : Bool := if schN r = 0 then old else true
def hosts (r : Str) : Bool := preB r [47, 47]
def hostRest (r : Str) : Str := bif hosts r then (r.drop 2).drop (upTo1 47 92 (r.drop 2)).length else r
def hostName (r old : Str) : Str := bif hosts r then upTo1 47 92 (r.drop 2) else old
def hostHas (r : Str) (old : Bool) : Bool := bif hosts r then true else old
def small (r : Str) : Prop := r.length ≤ 1000000

abbrev Parts := Str × Str × Str × Str × Str × Bool × Bool × Bool × Bool
/-- The parts of what is plain. -/
def splitX (x : Str) : Parts :=
  let a := schRest x
  let m := cutC a 35
  let q := cutC m.1 63
  (schName x [], hostName q.1 [], hostRest q.1, q.2.1, m.2.1, schHas x false, hostHas q.1 false, q.2.2, m.2.2)
def splitP (s : Str) : Parts := splitX (plainU s)
def splitP.pre (s : Str) : Prop := s.length ≤ 1000000
def schemeP (s : Str) : Str × Bool := ((splitP s).1, (splitP s).2.2.2.2.2.1)
def schemeP.pre (s : Str) : Prop := s.length ≤ 1000000
def safeP (s : Str) (l : List Str) : Bool := !(schemeP s).2 || decide ((schemeP s).1 ∈ l)
def safeP.pre (s : Str) (l : List Str) : Prop := s.length ≤ 1000000 ∧ l.length ≤ 9223372036854775807
def idxS (l : List Str) (x : Str) : Int := if x ∈ l then ((l.takeWhile fun y => !decide (y = x)).length : Nat) else -1
def idxS.pre (l : List Str) (_ : Str) : Prop := l.length ≤ 9223372036854775807
def hasS (l : List Str) (x : Str) : Bool := decide (x ∈ l)
end Sp
