/- Conditions of functions. Written by a program of this session. -/
import Derived.Test.YtmciagbogdlcoaaDoorSpU
set_option linter.unnecessarySimpa false
set_option linter.unusedVariables false
set_option linter.unusedSectionVars false
set_option linter.unusedSimpArgs false
set_option autoImplicit false
set_option linter.unusedVariables false
open Go Vi

def strings_Builder_String.vc (R : List UInt8 → Prop) (x : List Int) : Prop :=
  Mt (↑x.length : Int) x.length ∧ R (bytesOf x)

def strings_Builder_WriteByte.vc (R : List Int → Prop) (b : Int) (x : List Int) : Prop :=
  Gr x.length 1 1 ∧ R (x ++ [b])
