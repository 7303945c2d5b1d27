/- Conditions of functions. Written by a program of this session. -/
import Derived.Test.YtmciagbogdlcoaaDoorSpU
set_option linter.unnecessarySimpa false
set_option linter.unusedVariables false
set_option linter.unusedSectionVars false
set_option linter.unusedSimpArgs false
set_option autoImplicit false
set_option linter.unusedVariables false
open Go Vi

def strings_Builder_String.vc (R : List UInt8 → Prop) (x : List Int) : Prop :=
  Mt (↑x.length : Int) x.length ∧ R (bytesOf x)

def strings_Builder_WriteByte.vc (R : List Int → Prop) (b : Int) (x : List Int) : Prop :=
  Gr x.length 1 1 ∧ R (x ++ [b])

def rectoref07_In.L0 (R : Bool → Prop) (name : List UInt8) (t7 : List (List UInt8)) (t8 : Int) (t9 : Int) (K0 : List UInt8 × List (List UInt8) × Int × Int × Unit → Prop) : Prop :=
  bif decide (t9 < t8) then Ix t9 t7.length ∧ bif decide (nth t7 t9 [] = name) then R true else Rg IntKind.i64 (t9 + 1) ∧ K0 (name, t7, t8, t9 + 1, ()) else R false
def rectoref07_In.vc (R : Bool → Prop) (name : Str) (l : List Str) : Prop :=
  Lp (fun v K => rectoref07_In.L0 R v.fst v.snd.fst v.snd.snd.fst v.snd.snd.snd.fst K) (name, l, (↑l.length : Int), 0, ())
