/- What functions tell: what may stand in a page. Plain definitions. -/
import Derived.Test.YtmciagbogdlcoaaGreatDoorSpU
set_option linter.unnecessarySimpa false
set_option linter.unusedVariables false
set_option linter.unusedSectionVars false
set_option linter.unusedSimpArgs false
set_option autoImplicit false
open Vi

namespace Sp
/-! Names. -/
def tagT : List (Str × Int) := [
  ([104, 116, 109, 108], 1), ([104, 101, 97, 100], 1), ([98, 111, 100, 121], 1), ([102, 114, 97, 109, 101], 1), ([102, 114, 97, 109, 101, 115, 101, 116], 1),
  ([99, 97, 112, 116, 105, 111, 110], 2), ([116, 98, 111, 100, 121], 2), ([116, 104, 101, 97, 100], 2), ([116, 114], 2), ([116, 100], 2), ([116, 104], 2),
  ([116, 97, 98, 108, 101], 3),
  ([98, 108, 111, 99, 107, 113, 117, 111, 116, 101], 4), ([100, 105, 118], 4), ([111, 108], 4), ([115, 101, 99, 116, 105, 111, 110], 4), ([117, 108], 4),
  ([112], 5),
  ([104, 49], 6), ([104, 50], 6), ([104, 51], 6),
  ([112, 114, 101], 7),
  ([108, 105], 8),
  ([97], 9),
  ([98], 10), ([99, 111, 100, 101], 10), ([101, 109], 10), ([105], 10), ([115, 116, 114, 111, 110, 103], 10), ([117], 10),
  ([98, 114], 11), ([105, 109, 103], 11), ([105, 110, 112, 117, 116], 11), ([119, 98, 114], 11),
  ([104, 114], 12),
  ([116, 105, 116, 108, 101], 13),
  ([116, 101, 120, 116, 97, 114, 101, 97], 14),
  ([115, 99, 114, 105, 112, 116], 15), ([115, 116, 121, 108, 101], 15),
  ([120, 109, 112], 16),
  ([109, 97, 116, 104], 17), ([115, 118, 103], 17)]
def lkT : List (Str × Int) → Str → Int
  | [], _ => 0
  | (k, v) :: r, s => if s = k then v else lkT r s
/-- A name's group. -/
def groupN (s : Str) : Int := lkT tagT s
def smallB (x : Int) : Bool := decide (97 ≤ x ∧ x ≤ 122)
def nameB (x : Int) : Bool := smallB x || digB x || decide (x = 45) || decide (x = 58)
def allN (s : Str) : Bool := s.all fun x => nameB x.toNat
def allN.pre (s : Str) : Prop := s.length ≤ 9223372036854775807
def nameS (s : Str) : Bool := match s with
  | [] => false
  | x :: r => decide ((x :: r).length ≤ 24) && smallB x.toNat && allN (x :: r)
def nameS.pre (s : Str) : Prop := s.length ≤ 9223372036854775807
def goneN (s : Str) : Bool := decide (groupN s = 15) || decide (groupN s = 13) || decide (groupN s = 14) || decide (groupN s = 16) || decide (groupN s = 1) || decide (groupN s = 17) || decide (s = [105, 109, 97, 103, 101])

/-! Policies. -/
/-- A name, an act, attributes, links. -/
abbrev Rule := Str × Int × List Str × List Str
/-- Rules, schemes, what is done with others, with strange ones. -/
abbrev Pol := List Rule × List Str × Int × Int
abbrev big : Nat := 140737488351232
def strOk (l : List Str) : Prop := ∀ s, s ∈ l → s.length ≤ big
def ruleOk (r : Rule) : Prop := r.1.length ≤ big ∧ r.2.2.1.length ≤ 1000 ∧ r.2.2.2.length ≤ 1000 ∧ strOk r.2.2.1 ∧ strOk r.2.2.2
def polOk (p : Pol) : Prop := p.1.length ≤ 1000 ∧ p.2.1.length ≤ 1000 ∧ strOk p.2.1 ∧ ∀ r, r ∈ p.1 → ruleOk r
def idxG {α : Type} (f : α → Bool) : List α → Int
  | [] => -1
  | x :: l => if f x = true then 0 else if idxG f l = -1 then -1 else idxG f l + 1
def wideR (r : Rule) : Bool := decide (20 < (r.2.2.1.length : Int)) || decide (20 < (r.2.2.2.length : Int))
def idxWide (l : List Rule) : Int := idxG wideR l
def anyWide (l : List Rule) : Bool := l.any wideR
def rules.pre (l : List Rule) : Prop := l.length ≤ 1000
def shortP (p : Pol) : Bool := decide ((p.1.length : Int) ≤ 60) && decide ((p.2.1.length : Int) ≤ 20) && !anyWide p.1
def growP (n : Int) : Prop := 0 ≤ n ∧ n ≤ 1000000000
def concatS (l : List (List Str)) : List Str := l.flatten
def concatS.pre (l : List (List Str)) : Prop := l.length ≤ 1000 ∧ ∀ x, x ∈ l → x.length ≤ 1000
def namesR (r : Rule) : List Str := r.2.2.1 ++ r.2.2.2
def ruleOkk (r : Rule) : Prop := ruleOk r
def twF : List Str → List Str → Bool
  | _, [] => false
  | pre, x :: l => if x ∈ pre then true else twF (pre ++ [x]) l
def twiceL (l : List Str) : Bool := twF [] l
def twiceL.pre (l : List Str) : Prop := l.length ≤ 1000000
def apartP (p : Pol) : Bool := !(p.1.any fun r => twiceL (namesR r)) && !twiceL (p.1.map (·.1))
def notName (s : Str) : Bool := !nameS s
def idxNN (l : List Str) : Int := idxG notName l
def anyNN (l : List Str) : Bool := l.any notName
def strs.pre (l : List Str) : Prop := l.length ≤ 1000000 ∧ strOk l
def oddS (s : Str) : Bool := decide (s = []) || !decide (lower s = s)
def oddS.pre (s : Str) : Prop := s.length ≤ big
def idxOdd (l : List Str) : Int := idxG oddS l
def anyOdd (l : List Str) : Bool := l.any oddS
def rightR (r : Rule) : Bool := nameS r.1 && !anyNN (namesR r) && decide (1 ≤ r.2.1) && decide (r.2.1 ≤ 3) && (!decide (r.2.1 = 1) || !goneN r.1)
def notRight (r : Rule) : Bool := !rightR r
def idxNR (l : List Rule) : Int := idxG notRight l
def anyNR (l : List Rule) : Bool := l.any notRight
def rulesOk (l : List Rule) : Prop := l.length ≤ 1000 ∧ ∀ r, r ∈ l → ruleOk r
def awayB (x : Int) : Bool := decide (x = 2) || decide (x = 3)
def formedP (p : Pol) : Bool := awayB p.2.2.1 && awayB p.2.2.2 && !anyOdd p.2.1 && !anyNR p.1
/-- What is wrong with a policy. -/
def checkP (p : Pol) : Int := if shortP p = false then 2 else if apartP p = false then 8 else if formedP p = false then 4 else 0
def plainP : Pol := ([([112], 1, [], []),
  ([100, 105, 118], 1, [], []),
  ([104, 49], 1, [], []),
  ([104, 50], 1, [], []),
  ([104, 51], 1, [], []),
  ([117, 108], 1, [], []),
  ([111, 108], 1, [], []),
  ([108, 105], 1, [], []),
  ([98, 108, 111, 99, 107, 113, 117, 111, 116, 101], 1, [], []),
  ([112, 114, 101], 1, [], []),
  ([98], 1, [], []),
  ([105], 1, [], []),
  ([101, 109], 1, [], []),
  ([115, 116, 114, 111, 110, 103], 1, [], []),
  ([117], 1, [], []),
  ([99, 111, 100, 101], 1, [], []),
  ([98, 114], 1, [], []),
  ([104, 114], 1, [], []),
  ([115, 112, 97, 110], 1, [], []),
  ([116, 97, 98, 108, 101], 1, [], []),
  ([99, 97, 112, 116, 105, 111, 110], 1, [], []),
  ([116, 98, 111, 100, 121], 1, [], []),
  ([116, 104, 101, 97, 100], 1, [], []),
  ([116, 114], 1, [], []),
  ([116, 100], 1, [], []),
  ([116, 104], 1, [], []),
  ([115, 101, 99, 116, 105, 111, 110], 1, [[99, 108, 97, 115, 115]], []),
  ([97], 1, [[116, 105, 116, 108, 101]], [[104, 114, 101, 102]]),
  ([105, 109, 103], 1, [[97, 108, 116]], [[115, 114, 99]]),
  ([115, 99, 114, 105, 112, 116], 3, [], []),
  ([115, 116, 121, 108, 101], 3, [], [])], [[104, 116, 116, 112], [104, 116, 116, 112, 115], [109, 97, 105, 108, 116, 111]], 2, 3)
def hasN (r : Rule) (n : Str) : Bool := decide (r.1 = n)
def idxR (l : List Rule) (n : Str) : Int := idxG (fun r => hasN r n) l
def ruleP (p : Pol) (n : Str) : Rule := match p.1.find? (fun r => hasN r n) with
  | some r => r
  | none => ([], p.2.2.1, [], [])
def actP (p : Pol) (s : Int) (n : Str) : Int := if s ≠ 0 then p.2.2.2 else (ruleP p n).2.1
def staysP (p : Pol) (n : Str) (a : Str × Str) : Bool := decide ((ruleP p n).2.1 = 1) && (hasS (ruleP p n).2.2.1 a.1 || (hasS (ruleP p n).2.2.2 a.1 && safeP a.2 p.2.1))
def staysP.pre (p : Pol) (_ : Str) (a : Str × Str) : Prop := polOk p ∧ a.2.length ≤ 1000000
def actC (p : Pol) (s : Int) (n : Str) : Int := if checkP p ≠ 0 then 3 else actP p s n
def actC.pre (p : Pol) (_ : Int) (_ : Str) : Prop := polOk p
def actP.pre (p : Pol) (_ : Int) (_ : Str) : Prop := polOk p
def ruleP.pre (p : Pol) (_ : Str) : Prop := polOk p
def staysC (p : Pol) (n : Str) (a : Str × Str) : Bool := decide (checkP p = 0) && staysP p n a
def staysC.pre (p : Pol) (_ : Str) (a : Str × Str) : Prop := polOk p ∧ a.2.length ≤ 1000000
def notStays (a : Str × Str) (p : Pol) (n : Vi.Node) : Bool := !staysP p n.name a
def attrsOk (l : List (Str × Str)) : Prop := l.length ≤ 1000000 ∧ ∀ a, a ∈ l → a.2.length ≤ 1000000
def idxAt (l : List (Str × Str)) (p : Pol) (n : Vi.Node) : Int := idxG (fun a => notStays a p n) l
def anyAt (l : List (Str × Str)) (p : Pol) (n : Vi.Node) : Bool := l.any fun a => notStays a p n
def allowsN (p : Pol) (n : Vi.Node) : Bool := if n.kind = 2 then true else if n.kind = 1 then decide (actP p n.space n.name = 1) && !anyAt n.attrs p n else false
def allowsN.pre (p : Pol) (n : Vi.Node) : Prop := polOk p ∧ attrsOk n.attrs
def zeroN : Vi.Node := .mk 0 0 [] [] [] []
mutual
def fiN (p : Pol) : Vi.Node → Vi.Node × Bool
  | .mk k s n a t c => if allowsN p (.mk k s n a t c) = false then (.mk k s n a t c, true) else fiL p c
/-- What is not allowed. -/
def fiL (p : Pol) : List Vi.Node → Vi.Node × Bool
  | [] => (zeroN, false)
  | n :: l => if (fiN p n).2 = true then fiN p n else fiL p l
end
mutual
def szN : Vi.Node → Nat
  | .mk _ _ _ _ _ c => szL c + 1
def szL : List Vi.Node → Nat
  | [] => 0
  | n :: l => szN n + szL l + 1
end
mutual
def okN : Vi.Node → Prop
  | .mk _ _ _ a _ c => attrsOk a ∧ c.length ≤ 1000000 ∧ okL c
/-- Nodes that can be gone through. -/
def okL : List Vi.Node → Prop
  | [] => True
  | n :: l => okN n ∧ okL l
end
def nodesOk (l : List Vi.Node) : Prop := l.length ≤ 1000000 ∧ okL l
def fiL.pre (p : Pol) (l : List Vi.Node) : Prop := polOk p ∧ nodesOk l
def mFi (_ : Pol) (l : List Vi.Node) : Nat := szL l
def allowsP (p : Pol) (l : List Vi.Node) : Bool := decide (checkP p = 0) && !(fiL p l).2
def allowsP.pre (p : Pol) (l : List Vi.Node) : Prop := polOk p ∧ nodesOk l

/-! The document's. -/
def polOkk (p : Pol) : Prop := polOk p

/-! The laws'. -/
def largeR (r : Rule) : Bool := decide (30 < (r.2.2.1.length : Int)) || decide (30 < (r.2.2.2.length : Int)) || decide (200 < (r.1.length : Int))
def largeP (p : Pol) : Bool := decide (80 < (p.1.length : Int)) || decide (60 < (p.2.1.length : Int)) || p.1.any largeR
def largeP.pre (p : Pol) : Prop := p.1.length ≤ 9223372036854775807 ∧ p.2.1.length ≤ 9223372036854775807
mutual
def lgN : Vi.Node → Int → Int → Bool × Int
  | .mk _ _ n a t c, r, d =>
    if r - 1 < 0 ∨ 40 < (a.length : Int) ∨ 5000 < (t.length : Int) ∨ 100 < (n.length : Int) then (true, r - 1)
    else if a.any (fun x => decide (100 < (x.1.length : Int) ∨ 2000 < (x.2.length : Int))) = true ∨ 60 < d + 1 ∨ 500 < (c.length : Int) then (true, r - 1 - t.length / 16 - a.length)
    else if (lgL c (r - 1 - t.length / 16 - a.length) (d + 1)).1 = true ∨ (lgL c (r - 1 - t.length / 16 - a.length) (d + 1)).2 < 0 then (true, (lgL c (r - 1 - t.length / 16 - a.length) (d + 1)).2)
    else (false, (lgL c (r - 1 - t.length / 16 - a.length) (d + 1)).2)
def lgL : List Vi.Node → Int → Int → Bool × Int
  | [], r, _ => (false, r)
  | n :: l, r, d => if (lgN n r d).1 = true then lgN n r d else lgL l (lgN n r d).2 d
end
/-- Large: more than there is room for, and the room that is left. -/
def lg (l : List Vi.Node) (d r : Int) : Bool × Int :=
  if 60 < d ∨ 500 < (l.length : Int) then (true, r) else if (lgL l r d).1 = true then lgL l r d else (decide ((lgL l r d).2 < 0), (lgL l r d).2)
def lg.pre (_ : List Vi.Node) (d r : Int) : Prop := 0 ≤ d ∧ d ≤ 61 ∧ -1000 ≤ r ∧ r ≤ 1000000
def mLg (l : List Vi.Node) (_ _ : Int) : Nat := szL l
mutual
def lfN : Vi.Node → Bool
  | .mk k _ _ a _ c => (!decide (k = 1) && (decide (0 < (a.length : Int)) || decide (0 < (c.length : Int)))) || lfL c
def lfL : List Vi.Node → Bool
  | [] => false
  | n :: l => lfN n || lfL l
end
def badA (a : Str × Str) : Bool :=
  ((decide (a.1 = [104, 114, 101, 102]) || decide (a.1 = [115, 114, 99])) && (schemeP a.2).2 && !decide ((schemeP a.2).1 = [104, 116, 116, 112]) && !decide ((schemeP a.2).1 = [104, 116, 116, 112, 115]) && !decide ((schemeP a.2).1 = [109, 97, 105, 108, 116, 111])) || (decide (1 < (a.1.length : Int)) && decide (a.1.take 2 = [111, 110]))
mutual
def hmN : Vi.Node → Bool
  | .mk k s n a _ c => !(decide (k = 1) && (!decide (s = 0) || decide (n = [115, 99, 114, 105, 112, 116]) || decide (n = [115, 116, 121, 108, 101]))) && !(a.any badA) && hmL c
def hmL : List Vi.Node → Bool
  | [] => true
  | n :: l => hmN n && hmL l
end
end Sp
