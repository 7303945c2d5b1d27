/- What functions tell: what may stand of nodes. Plain definitions. -/
import Derived.Test.YtmciagbogdlcoaaGreatDoorSpK
set_option linter.unnecessarySimpa false
set_option linter.unusedVariables false
set_option linter.unusedSectionVars false
set_option linter.unusedSimpArgs false
set_option autoImplicit false
open Vi

namespace Sp
/-! Characters. -/
def longB (b : Int) : Int := if b < 128 then 1 else if b < 192 ∨ 248 ≤ b then 0 else if b < 224 then 2 else if b < 240 then 3 else 4
def headN (n : Int) : Int := if n = 2 then 192 else if n = 3 then 224 else if n = 4 then 240 else 0
def leastN (n : Int) : Int := if n = 2 then 128 else if n = 3 then 2048 else if n = 4 then 65536 else 0
def contB (b : UInt8) : Bool := decide (128 ≤ b.toNat ∧ b.toNat < 192)
def addC (c : Int) (b : UInt8) : Int := c * 64 + (b.toNat : Int) % 64
def fcT (b : UInt8) (t : Str) : Int × Int :=
  if longB b.toNat = 0 ∨ (t.length : Int) + 1 < longB b.toNat then (65533, 1)
  else if ((t.take (longB b.toNat - 1).toNat).any fun x => !contB x) = true then (65533, 1)
  else if isC ((t.take (longB b.toNat - 1).toNat).foldl addC ((b.toNat : Int) - headN (longB b.toNat))) = false ∨ (t.take (longB b.toNat - 1).toNat).foldl addC ((b.toNat : Int) - headN (longB b.toNat)) < leastN (longB b.toNat) then (65533, 1)
  else ((t.take (longB b.toNat - 1).toNat).foldl addC ((b.toNat : Int) - headN (longB b.toNat)), longB b.toNat)
/-- The first character, and how many bytes it has. -/
def firstC (s : Str) : Int × Int := match s with
  | [] => (0, 0)
  | b :: t => fcT b t
def firstC.pre (s : Str) : Prop := s.length ≤ 10000000
def cleanF : Nat → Str → Str
  | 0, _ => []
  | k + 1, s => if s = [] then [] else bytesC (firstC s).1 ++ cleanF k (s.drop (firstC s).2.toNat)
def cleanS (s : Str) : Str := cleanF s.length s
def cleanS.pre (s : Str) : Prop := s.length ≤ 1000000
/-- A text made right. -/
def madeS (s : Str) : Str := cleanS (repA (repA s [13] [10]) [0] (bytesC 65533))
def madeS.pre (s : Str) : Prop := s.length ≤ 200000

/-! Attributes. -/
def sameN (x : Str × Str) (n : Str) : Bool := decide (x.1 = n)
def idxSame (l : List (Str × Str)) (n : Str) : Int := idxG (fun x => sameN x n) l
def anySame (l : List (Str × Str)) (n : Str) : Bool := l.any fun x => sameN x n
def attrs6 (l : List (Str × Str)) : Prop := l.length ≤ 1000000
def atF (p : Pol) (nm : Str) : List (Str × Str) → List (Str × Str) → Int → List (Str × Str) × Int
  | out, [], k => (out, k)
  | out, a :: l, k => if anySame out a.1 = true ∨ (out.length : Int) = 12 ∨ staysC p nm a = false then atF p nm out l (k + 1) else atF p nm (out ++ [(a.1, madeS a.2)]) l k
/-- The attributes that stay, and how many do not. -/
def attrsF (p : Pol) (n : Vi.Node) : List (Str × Str) × Int := atF p n.name [] n.attrs 0

/-! Nodes. -/
def textF (n : Vi.Node) : List Vi.Node := if n.text = [] then [] else [.mk 2 0 [] [] (madeS n.text) []]
def textF.pre (n : Vi.Node) : Prop := n.text.length ≤ 200000
def putT (n : Vi.Node) (t : Str) : Vi.Node := .mk n.kind n.space n.name n.attrs (n.text ++ t) n.kids
/-- A node behind others, texts side by side one. -/
def join1 (out : List Vi.Node) (x : Vi.Node) : List Vi.Node :=
  if out ≠ [] ∧ x.kind = 2 ∧ (nth out ((out.length : Int) - 1) (Vi.Node.mk 0 0 [] [] [] [])).kind = 2 then out.set (out.length - 1) (putT (nth out ((out.length : Int) - 1) (Vi.Node.mk 0 0 [] [] [] [])) x.text) else out ++ [x]
def joinL : List Vi.Node → List Vi.Node → List Vi.Node
  | out, [] => out
  | out, x :: l => joinL (join1 out x) l
mutual
def elF (p : Pol) : Vi.Node → List Vi.Node
  | .mk k s n a t c =>
    if actC p s n = 3 then [] else if actC p s n = 2 then nsG p [] c
    else [.mk 1 0 n (attrsF p (.mk k s n a t c)).1 [] (if voidN n = true then [] else nsG p [] c)]
def nsG (p : Pol) : List Vi.Node → List Vi.Node → List Vi.Node
  | out, [] => out
  | out, n :: l => nsG p (joinL out (if n.kind = 1 then elF p n else if n.kind = 2 then textF n else [])) l
end
/-- What is left of nodes. -/
def nsF (p : Pol) (l : List Vi.Node) : List Vi.Node := nsG p [] l
abbrev L4 := Int × Int × Int × Int
mutual
def lostN (p : Pol) (lo : L4) : Vi.Node → L4
  | .mk k s n a t c =>
    if actC p s n = 3 then (lo.1 + 1, lo.2.1, lo.2.2.1, lo.2.2.2) else if actC p s n = 2 then lostL p (lo.1, lo.2.1 + 1, lo.2.2.1, lo.2.2.2) c
    else lostL p (lo.1, lo.2.1, lo.2.2.1 + (attrsF p (.mk k s n a t c)).2, lo.2.2.2) c
/-- What is lost. -/
def lostL (p : Pol) (lo : L4) : List Vi.Node → L4
  | [] => lo
  | n :: l => lostL p (if n.kind = 1 then lostN p lo n else if n.kind = 2 then lo else (lo.1, lo.2.1, lo.2.2.1, lo.2.2.2 + 1)) l
end
mutual
def txN : Vi.Node → Nat
  | .mk _ _ _ _ t c => t.length + txL c
def txL : List Vi.Node → Nat
  | [] => 0
  | n :: l => txN n + txL l
end
mutual
def avN (K : Nat) : Vi.Node → Prop
  | .mk _ _ _ a _ c => (∀ x, x ∈ a → x.2.length ≤ K) ∧ avL K c
def avL (K : Nat) : List Vi.Node → Prop
  | [] => True
  | n :: l => avN K n ∧ avL K l
end
def lb (lo : L4) (k : Int) : Prop := (0 ≤ lo.1 ∧ lo.1 + 200 * k ≤ 1000000000000000) ∧ (0 ≤ lo.2.1 ∧ lo.2.1 + 200 * k ≤ 1000000000000000) ∧ (0 ≤ lo.2.2.1 ∧ lo.2.2.1 + 200 * k ≤ 1000000000000000) ∧ (0 ≤ lo.2.2.2 ∧ lo.2.2.2 + 200 * k ≤ 1000000000000000)
def lostOk (lo : L4) : Prop := lb lo 1
def fOkN (p : Pol) (lo : L4) (n : Vi.Node) : Prop := polOk p ∧ pkN n ∧ lb lo 1
def fOkE (p : Pol) (lo : L4) (n : Vi.Node) : Prop := polOk p ∧ prOkN n ∧ txN n ≤ 30000 ∧ lb lo (szN n)
def fOkL (p : Pol) (lo : L4) (l : List Vi.Node) : Prop := polOk p ∧ prOk l ∧ txL l ≤ 30000 ∧ lb lo (szL l)
def mEl (n : Vi.Node) (_ : List Rule) (_ : List Str) (_ _ _ _ _ _ : Int) : Nat := 2 * szN n
def mNs2 (l : List Vi.Node) (_ : List Rule) (_ : List Str) (_ _ _ _ _ _ : Int) : Nat := 2 * szL l
def runOk (p : Pol) (l : List Vi.Node) : Prop := polOk p ∧ prOk l ∧ txL l ≤ 30000
def runF (p : Pol) (l : List Vi.Node) : List Vi.Node × L4 × Int := if checkP p ≠ 0 then ([], (0, 0, 0, 0), checkP p) else (nsF p l, lostL p (0, 0, 0, 0) l, 0)

/-! Words. -/
mutual
def wordsN : Vi.Node → Str
  | .mk k _ _ _ t c => (if k = 2 then t else []) ++ wordsL c
def wordsL : List Vi.Node → Str
  | [] => []
  | n :: l => wordsN n ++ wordsL l
end
def wordX (n : Vi.Node) (x : List Int) : List Int := if n.kind = 2 then wr x n.text else x
def wordX.pre (n : Vi.Node) (x : List Int) : Prop := wr.pre x n.text
def eaOk (l : List Vi.Node) (d : Int) (x : List Int) : Prop := prOk l ∧ (0 ≤ d ∧ d + szL l ≤ 1000000000) ∧ x.length + 200000 * szL l ≤ 100000000000000
def mEa (l : List Vi.Node) (_ : Int) (_ : List Int) : Nat := szL l
def woOk (l : List Vi.Node) : Prop := prOk l
def runOkW (p : Pol) (l : List Vi.Node) : Prop := runOk p l ∧ avL 3000 l

/-! The laws'. -/
def large17 (p : Pol) (l : List Vi.Node) : Bool := largeP p || (lg l 1 400).1
def large17.pre (p : Pol) (_ : List Vi.Node) : Prop := largeP.pre p
mutual
def bareN : Vi.Node → Bool
  | .mk k _ n _ _ c => !(decide (k = 1) && voidN n && !decide (c = [])) && bareL c
/-- Is there nothing below void elements? -/
def bareL : List Vi.Node → Bool
  | [] => true
  | n :: l => bareN n && bareL l
end
end Sp
