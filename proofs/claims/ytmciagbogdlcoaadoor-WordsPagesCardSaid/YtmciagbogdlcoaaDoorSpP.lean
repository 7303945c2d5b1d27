/- What functions tell: what may stand in a page. Plain definitions. -/
import Derived.Test.YtmciagbogdlcoaaDoorSpU
set_option linter.unnecessarySimpa false
set_option linter.unusedVariables false
set_option linter.unusedSectionVars false
set_option linter.unusedSimpArgs false
set_option autoImplicit false
open Vi

namespace Sp
def eqL (a b : List Str) : Bool := decide (a = b)
def eqL.pre (a _ : List Str) : Prop := a.length ≤ 9223372036854775807
/-! Names. -/
def tagT : List (Str × Int) := [
  ([104, 116, 109, 108], 1), ([104, 101, 97, 100], 1), ([98, 111, 100, 121], 1), ([102, 114, 97, 109, 101], 1), ([102, 114, 97, 109, 101, 115, 101, 116], 1),
  ([99, 97, 112, 116, 105, 111, 110], 2), ([116, 98, 111, 100, 121], 2), ([116, 104, 101, 97, 100], 2), ([116, 114], 2), ([116, 100], 2), ([116, 104], 2),
  ([116, 97, 98, 108, 101], 3),
  ([98, 108, 111, 99, 107, 113, 117, 111, 116, 101], 4), ([100, 105, 118], 4), ([111, 108], 4), ([115, 101, 99, 116, 105, 111, 110], 4), ([117, 108], 4),
  ([112], 5),
  ([104, 49], 6), ([104, 50], 6), ([104, 51], 6),
  ([112, 114, 101], 7),
  ([108, 105], 8),
  ([97], 9),
  ([98], 10), ([99, 111, 100, 101], 10), ([101, 109], 10), ([105], 10), ([115, 116, 114, 111, 110, 103], 10), ([117], 10),
  ([98, 114], 11), ([105, 109, 103], 11), ([105, 110, 112, 117, 116], 11), ([119, 98, 114], 11),
  ([104, 114], 12),
  ([116, 105, 116, 108, 101], 13),
  ([116, 101, 120, 116, 97, 114, 101, 97], 14),
  ([115, 99, 114, 105, 112, 116], 15), ([115, 116, 121, 108, 101], 15),
  ([120, 109, 112], 16),
  ([109, 97, 116, 104], 17), ([115, 118, 103], 17)]
def lkT : List (Str × Int) → Str → Int
  | [], _ => 0
  | (k, v) :: r, s => if s = k then v else lkT r s
/-- A name's group. -/
def groupN (s : Str) : Int := lkT tagT s
def smallB (x : Int) : Bool := decide (97 ≤ x ∧ x ≤ 122)
def nameB (x : Int) : Bool := smallB x || digB x || decide (x = 45) || decide (x = 58)
def allN (s : Str) : Bool := s.all fun x => nameB x.toNat
def nameS (s : Str) : Bool := match s with
  | [] => false
  | x :: r => decide ((x :: r).length ≤ 24) && smallB x.toNat && allN (x :: r)
/-! Policies. -/
/-- A name, an act, attributes, links. -/
abbrev Rule := Str × Int × List Str × List Str
/-- Rules, schemes, what is done with others, with strange ones. -/
abbrev Pol := List Rule × List Str × Int × Int
def plainP : Pol := ([([112], 1, [], []),
  ([100, 105, 118], 1, [], []),
  ([104, 49], 1, [], []),
  ([104, 50], 1, [], []),
  ([104, 51], 1, [], []),
  ([117, 108], 1, [], []),
  ([111, 108], 1, [], []),
  ([108, 105], 1, [], []),
  ([98, 108, 111, 99, 107, 113, 117, 111, 116, 101], 1, [], []),
  ([112, 114, 101], 1, [], []),
  ([98], 1, [], []),
  ([105], 1, [], []),
  ([101, 109], 1, [], []),
  ([115, 116, 114, 111, 110, 103], 1, [], []),
  ([117], 1, [], []),
  ([99, 111, 100, 101], 1, [], []),
  ([98, 114], 1, [], []),
  ([104, 114], 1, [], []),
  ([115, 112, 97, 110], 1, [], []),
  ([116, 97, 98, 108, 101], 1, [], []),
  ([99, 97, 112, 116, 105, 111, 110], 1, [], []),
  ([116, 98, 111, 100, 121], 1, [], []),
  ([116, 104, 101, 97, 100], 1, [], []),
  ([116, 114], 1, [], []),
  ([116, 100], 1, [], []),
  ([116, 104], 1, [], []),
  ([115, 101, 99, 116, 105, 111, 110], 1, [[99, 108, 97, 115, 115]], []),
  ([97], 1, [[116, 105, 116, 108, 101]], [[104, 114, 101, 102]]),
  ([105, 109, 103], 1, [[97, 108, 116]], [[115, 114, 99]]),
  ([115, 99, 114, 105, 112, 116], 3, [], []),
  ([115, 116, 121, 108, 101], 3, [], [])], [[104, 116, 116, 112], [104, 116, 116, 112, 115], [109, 97, 105, 108, 116, 111]], 2, 3)
def hasN (r : Rule) (n : Str) : Bool := decide (r.1 = n)
def ruleP (p : Pol) (n : Str) : Rule := match p.1.find? (fun r => hasN r n) with
  | some r => r
  | none => ([], p.2.2.1, [], [])
def actP (p : Pol) (s : Int) (n : Str) : Int := if s ≠ 0 then p.2.2.2 else (ruleP p n).2.1
def staysP (p : Pol) (n : Str) (a : Str × Str) : Bool := decide ((ruleP p n).2.1 = 1) && (hasS (ruleP p n).2.2.1 a.1 || (hasS (ruleP p n).2.2.2 a.1 && safeP a.2 p.2.1))
def notStays (a : Str × Str) (p : Pol) (n : Vi.Node) : Bool := !staysP p n.name a
def attrsOk (l : List (Str × Str)) : Prop := l.length ≤ 1000000 ∧ ∀ a, a ∈ l → a.2.length ≤ 1000000
def anyAt (l : List (Str × Str)) (p : Pol) (n : Vi.Node) : Bool := l.any fun a => notStays a p n
def allowsN (p : Pol) (n : Vi.Node) : Bool := if n.kind = 2 then true else if n.kind = 1 then decide (actP p n.space n.name = 1) && !anyAt n.attrs p n else false
def zeroN : Vi.Node := .mk 0 0 [] [] [] []
mutual
def fiN (p : Pol) : Vi.Node → Vi.Node × Bool
  | .mk k s n a t c => if allowsN p (.mk k s n a t c) = false then (.mk k s n a t c, true) else fiL p c
/-- What is not allowed. -/
def fiL (p : Pol) : List Vi.Node → Vi.Node × Bool
  | [] => (zeroN, false)
  | n :: l => if (fiN p n).2 = true then fiN p n else fiL p l
end
mutual
def szN : Vi.Node → Nat
  | .mk _ _ _ _ _ c => szL c + 1
def szL : List Vi.Node → Nat
  | [] => 0
  | n :: l => szN n + szL l + 1
end
mutual
def okN : Vi.Node → Prop
  | .mk _ _ _ a _ c => attrsOk a ∧ c.length ≤ 1000000 ∧ okL c
/-- Nodes that can be gone through. -/
def okL : List Vi.Node → Prop
  | [] => True
  | n :: l => okN n ∧ okL l
end
/-! The document's. -/
/-! The laws'. -/
mutual
def lgN : Vi.Node → Int → Int → Bool × Int
  | .mk _ _ n a t c, r, d =>
    if r - 1 < 0 ∨ 40 < (a.length : Int) ∨ 5000 < (t.length : Int) ∨ 100 < (n.length : Int) then (true, r - 1)
    else if a.any (fun x => decide (100 < (x.1.length : Int) ∨ 2000 < (x.2.length : Int))) = true ∨ 60 < d + 1 ∨ 500 < (c.length : Int) then (true, r - 1 - t.length / 16 - a.length)
    else if (lgL c (r - 1 - t.length / 16 - a.length) (d + 1)).1 = true ∨ (lgL c (r - 1 - t.length / 16 - a.length) (d + 1)).2 < 0 then (true, (lgL c (r - 1 - t.length / 16 - a.length) (d + 1)).2)
    else (false, (lgL c (r - 1 - t.length / 16 - a.length) (d + 1)).2)
def lgL : List Vi.Node → Int → Int → Bool × Int
  | [], r, _ => (false, r)
  | n :: l, r, d => if (lgN n r d).1 = true then lgN n r d else lgL l (lgN n r d).2 d
end
/-- Large: more than there is room for, and the room that is left. -/
def lg (l : List Vi.Node) (d r : Int) : Bool × Int :=
  if 60 < d ∨ 500 < (l.length : Int) then (true, r) else if (lgL l r d).1 = true then lgL l r d else (decide ((lgL l r d).2 < 0), (lgL l r d).2)
def lg.pre (_ : List Vi.Node) (d r : Int) : Prop := 0 ≤ d ∧ d ≤ 61 ∧ -1000 ≤ r ∧ r ≤ 1000000
def mLg (l : List Vi.Node) (_ _ : Int) : Nat := szL l
mutual
def lfN : Vi.Node → Bool
  | .mk k _ _ a _ c => (!decide (k = 1) && (decide (0 < (a.length : Int)) || decide (0 < (c.length : Int)))) || lfL c
def lfL : List Vi.Node → Bool
  | [] => false
  | n :: l => lfN n || lfL l
end
def badA (a : Str × Str) : Bool :=
  ((decide (a.1 = [104, 114, 101, 102]) || decide (a.1 = [115, 114, 99])) && (schemeP a.2).2 && !decide ((schemeP a.2).1 = [104, 116, 116, 112]) && !decide ((schemeP a.2).1 = [104, 116, 116, 112, 115]) && !decide ((schemeP a.2).1 = [109, 97, 105, 108, 116, 111])) || (decide (1 < (a.1.length : Int)) && decide (a.1.take 2 = [111, 110]))
mutual
def hmN : Vi.Node → Bool
  | .mk k s n a _ c => !(decide (k = 1) && (!decide (s = 0) || decide (n = [115, 99, 114, 105, 112, 116]) || decide (n = [115, 116, 121, 108, 101]))) && !(a.any badA) && hmL c
def hmL : List Vi.Node → Bool
  | [] => true
  | n :: l => hmN n && hmL l
end
end Sp
