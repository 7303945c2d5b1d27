/- What functions tell: right nodes, and equal ones. Plain definitions. -/
import Derived.Test.YtmciagbogdlcoaaGreatDoorSpH
set_option linter.unnecessarySimpa false
set_option linter.unusedVariables false
set_option linter.unusedSectionVars false
set_option linter.unusedSimpArgs false
set_option autoImplicit false
open Vi

namespace Sp
mutual
def ndB : Vi.Node → Vi.Node → Bool
  | .mk k s n a t c, .mk k' s' n' a' t' c' => decide (k = k') && decide (s = s') && decide (n = n') && decide (t = t') && decide (a = a') && nlB c c'
/-- Are nodes the same? -/
def nlB : List Vi.Node → List Vi.Node → Bool
  | [], [] => true
  | x :: l, y :: m => ndB x y && nlB l m
  | _, _ => false
end
def eqAt (a b : List (Str × Str)) : Bool := decide (a = b)
def eqAt.pre (a _ : List (Str × Str)) : Prop := a.length ≤ 1000000
def eqNd (a b : Vi.Node) : Bool := ndB a b
def eqNd.pre (a _ : Vi.Node) : Prop := pkN a
def eqNs (a b : List Vi.Node) : Bool := nlB a b
def eqNs.pre (a _ : List Vi.Node) : Prop := pkL a ∧ a.length ≤ 1000000
def mNd (a _ : Vi.Node) : Nat := 2 * szN a
def mNs (a _ : List Vi.Node) : Nat := 2 * szL a + 1

def lowS (s : Str) (i : Int) : Int := if (s.length : Int) ≤ i ∨ ((nth s i 0).toNat : Int) < 128 ∨ 191 < ((nth s i 0).toNat : Int) then -1 else ((nth s i 0).toNat : Int) - 128
def lowS.pre (_ : Str) (i : Int) : Prop := 0 ≤ i
def mBy (c : Int) : Nat := if isC c = true then 0 else 1
def any (_ : Int) : Prop := True
/-- The character that bytes would tell. -/
def codeS (s : Str) (i : Int) : Int :=
  if ((nth s i 0).toNat : Int) < 128 then ((nth s i 0).toNat : Int)
  else if 192 ≤ ((nth s i 0).toNat : Int) ∧ ((nth s i 0).toNat : Int) < 224 ∧ 0 ≤ lowS s (i + 1) then 64 * (((nth s i 0).toNat : Int) - 192) + lowS s (i + 1)
  else if 224 ≤ ((nth s i 0).toNat : Int) ∧ ((nth s i 0).toNat : Int) < 240 ∧ 0 ≤ lowS s (i + 1) ∧ 0 ≤ lowS s (i + 2) then 4096 * (((nth s i 0).toNat : Int) - 224) + 64 * lowS s (i + 1) + lowS s (i + 2)
  else if 240 ≤ ((nth s i 0).toNat : Int) ∧ ((nth s i 0).toNat : Int) < 248 ∧ 0 ≤ lowS s (i + 1) ∧ 0 ≤ lowS s (i + 2) ∧ 0 ≤ lowS s (i + 3) then
    262144 * (((nth s i 0).toNat : Int) - 240) + 4096 * lowS s (i + 1) + 64 * lowS s (i + 2) + lowS s (i + 3)
  else -1
def atG (s : Str) (i : Int) : Int × Int × Bool :=
  if isC (codeS s i) = false then (65533, 1, false)
  else if (s.length : Int) - i < ((bytesC (codeS s i)).length : Int) ∨ sub s i (i + ((bytesC (codeS s i)).length : Int)) ≠ bytesC (codeS s i) then (65533, 1, false)
  else (codeS s i, ((bytesC (codeS s i)).length : Int), true)
def atG.pre (s : Str) (i : Int) : Prop := 0 ≤ i ∧ i < (s.length : Int) ∧ s.length ≤ 1000000
def ofFu (s : Str) : Nat → Int → List Int → Bool → List Int × Bool
  | 0, _, L, r => (L, r)
  | k + 1, i, L, r => if i < (s.length : Int) then ofFu s k (i + (atG s i).2.1) (L ++ [(atG s i).1]) (r && (atG s i).2.2) else (L, r)
/-- All characters, and whether all is right. -/
def ofS (s : Str) : List Int × Bool := ofFu s s.length 0 [] true
def ofS.pre (s : Str) : Prop := s.length ≤ 1000000
def goodS (s : Str) : Bool := !(s.any fun b => b == 0 || b == 13) && (ofS s).2
def dupB (a : List (Str × Str)) : Bool := decide (∃ i, i < a.length ∧ ∃ k, k < i ∧ (a.getD i ([], [])).1 = (a.getD k ([], [])).1)
def wrongT (n : Str) (a : List (Str × Str)) : Int :=
  if nameS n = false then 4 else if (a.any fun x => !nameS x.1 || !goodS x.2) = true then 4 else if dupB a = true then 8 else if 12 < (a.length : Int) then 2 else 0
def wrongT.pre (n : Str) (a : List (Str × Str)) : Prop := n.length ≤ 1000000 ∧ okA a
def leafN (n : Vi.Node) : Bool := decide (n.kind = 2) || decide (n.kind = 3)
mutual
def dpN : Vi.Node → Int
  | .mk k _ _ _ _ c => if 0 < dpL c ∨ ¬ (k = 2 ∨ k = 3) then dpL c + 1 else dpL c
/-- How deep. -/
def dpL : List Vi.Node → Int
  | [] => 0
  | n :: l => if dpL l < dpN n then dpN n else dpL l
end
mutual
def riN : Vi.Node → Bool
  | .mk k s n a t c =>
    if k = 2 ∨ k = 3 then decide (s = 0) && decide (n = []) && decide (a = []) && decide (c = []) && goodS t && (decide (k = 3) || !decide (t = []))
    else decide (k = 1) && decide (0 ≤ s) && decide (s ≤ 2) && decide (t = []) && decide (wrongT n a = 0) && riL false c
/-- Are nodes right; behind a text? -/
def riL : Bool → List Vi.Node → Bool
  | _, [] => true
  | p, n :: l => !(decide (n.kind = 2) && p) && riN n && riL (decide (n.kind = 2)) l
end
def rightP (l : List Vi.Node) : Bool := riL false l
def chkP (l : List Vi.Node) : Int := if 300 < countP l ∨ 40 < dpL l then 2 else if rightP l = false then 4 else 0
mutual
def smN (sp : Int) : Vi.Node → Bool
  | .mk k s n _ _ c => !(decide (k = 3) || (decide (k = 1) && (!decide (s = sp) || decide (groupN n = 15) || decide (groupN n = 16) || voidN n))) && smL sp c
/-- Are nodes of a space, none of them Raw, Listing, void, or a comment? -/
def smL (sp : Int) : List Vi.Node → Bool
  | [] => true
  | n :: l => smN sp n && smL sp l
end
end Sp
