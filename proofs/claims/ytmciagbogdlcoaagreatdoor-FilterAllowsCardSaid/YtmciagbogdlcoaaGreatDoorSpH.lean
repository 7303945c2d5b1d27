/- What functions tell: nodes as texts. Plain definitions. -/
import Derived.Test.YtmciagbogdlcoaaGreatDoorSpP
import Derived.Lib.Replace
set_option linter.unnecessarySimpa false
set_option linter.unusedVariables false
set_option linter.unusedSectionVars false
set_option linter.unusedSimpArgs false
set_option autoImplicit false
open Vi

namespace Sp
def repA (s old new : Str) : Str := Go.Lib.replaceAll s old new
def repA.pre (s old new : Str) : Prop := s.length ≤ 1000000000 ∧ 1 ≤ old.length ∧ new.length ≤ 1000
def repS (s : Str) (n : Int) : Str := (List.replicate n.toNat s).flatten
/-- Is it a character? (Small numbers, so that the kernel's reckoning stays short.) -/
def isC (c : Int) : Bool := decide (0 ≤ c ∧ c / 4096 < 272 ∧ (c / 2048 < 27 ∨ 28 ≤ c / 2048))
def sizeC (c : Int) : Int := if c < 128 then 1 else if c < 2048 then 2 else if c < 65536 then 3 else 4
def sizeC.pre (c : Int) : Prop := 0 ≤ c
def b8 (x : Int) : UInt8 := UInt8.ofNat x.toNat
def encC (c : Int) : Str :=
  if c < 128 then [b8 c] else if c < 2048 then [b8 (192 + c / 64), b8 (128 + c % 64)]
  else if c < 65536 then [b8 (224 + c / 4096), b8 (128 + c / 64 % 64), b8 (128 + c % 64)]
  else [b8 (240 + c / 262144), b8 (128 + c / 4096 % 64), b8 (128 + c / 64 % 64), b8 (128 + c % 64)]
def bytesC (c : Int) : Str := encC (if isC c = true then c else 65533)

def e1 (v : Bool) (b : UInt8) : Str :=
  if b = 38 then [38, 97, 109, 112, 59] else if b = 60 then [38, 108, 116, 59] else if b = 62 then [38, 103, 116, 59] else if b = 34 ∧ v = true then [38, 113, 117, 111, 116, 59] else [b]
def esc (v : Bool) : Str → Str
  | [] => []
  | [b] => e1 v b
  | b :: c :: t => if b = 194 ∧ c = 160 then [38, 110, 98, 115, 112, 59] ++ esc v t else e1 v b ++ esc v (c :: t)
def voidN (s : Str) : Bool := decide (groupN s = 11) || decide (groupN s = 12)
def rawNd (n : Vi.Node) : Bool := decide (n.space = 0) && (decide (groupN n.name = 15) || decide (groupN n.name = 16))
def attrT (a : Str × Str) : Str := [32] ++ a.1 ++ [61, 34] ++ esc true a.2 ++ [34]
def openT (n : Str) (a : List (Str × Str)) : Str := [60] ++ n ++ a.flatMap attrT ++ [62]
def okA (a : List (Str × Str)) : Prop := a.length ≤ 100 ∧ ∀ x, x ∈ a → x.1.length ≤ 1000 ∧ x.2.length ≤ 10000
mutual
/-- A node's text; of one in an element whose texts are written as they are. -/
def inN (raw : Bool) : Vi.Node → Str
  | .mk k s n a t c =>
    if k = 1 then (if s = 0 ∧ voidN n = true then openT n a else openT n a ++ inL (rawNd (.mk k s n a t c)) c ++ ([60, 47] ++ n ++ [62]))
    else if k = 2 then (if raw = true then t else esc false t)
    else if k = 3 then [60, 33, 45, 45] ++ t ++ [45, 45, 62] else []
def inL (raw : Bool) : List Vi.Node → Str
  | [] => []
  | n :: l => inN raw n ++ inL raw l
end
mutual
def pkN : Vi.Node → Prop
  | .mk _ _ n a t c => n.length ≤ 1000 ∧ okA a ∧ t.length ≤ 100000 ∧ c.length ≤ 1000000 ∧ pkL c
/-- Nodes that can be printed. -/
def pkL : List Vi.Node → Prop
  | [] => True
  | n :: l => pkN n ∧ pkL l
end
def prOk (l : List Vi.Node) : Prop := l.length ≤ 1000000 ∧ pkL l ∧ szL l ≤ 1000000
def prOkN (n : Vi.Node) : Prop := prOk [n]
def flatT (t : Str) : Str := t.map fun b => if b = 10 then 32 else b
def shownN (n : Vi.Node) : Str := if n.kind = 1 then openT n.name n.attrs else if n.kind = 2 ∨ n.kind = 3 then flatT n.text else []
mutual
def lnN (ahead : Str) : Vi.Node → List Str
  | .mk k s n a t c => (ahead ++ shownN (.mk k s n a t c)) :: lnL (ahead ++ [32]) c
/-- Lines that show nodes. -/
def lnL (ahead : Str) : List Vi.Node → List Str
  | [] => []
  | n :: l => lnN ahead n ++ lnL ahead l
end
def sp (d : Int) : Str := repS [32] d
mutual
def cntN : Vi.Node → Nat
  | .mk _ _ _ _ _ c => cntL c + 1
def cntL : List Vi.Node → Nat
  | [] => 0
  | n :: l => cntN n + cntL l
end
def countP (l : List Vi.Node) : Int := cntL l
def mCt (l : List Vi.Node) : Nat := szL l
end Sp
