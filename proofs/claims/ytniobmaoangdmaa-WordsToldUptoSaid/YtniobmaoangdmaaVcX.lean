/- Conditions of functions. Written by a program of this session. -/
import Derived.Test.YtniobmaoangdmaaSpX
set_option linter.unnecessarySimpa false
set_option linter.unusedVariables false
set_option linter.unusedSectionVars false
set_option linter.unusedSimpArgs false
set_option autoImplicit false
set_option linter.unusedVariables false
open Go Vi

def rectolaw24_WordsTold.vc (R : Bool → Prop) (l : List (Int × Str)) : Prop :=
  bif decide (100 < (↑l.length : Int)) then R Sp.tt
  else
    Sp.refP.pre l ∧
      Sp.oldP.pre l ∧
        Sp.toldK.pre (Sp.refP l) 2 ∧
          bif decide (Sp.oldP l = Sp.toldK (Sp.refP l) 2) then
            Sp.newP.pre l ∧
              Sp.toldK.pre (Sp.refP l) 3 ∧
                bif decide (Sp.newP l = Sp.toldK (Sp.refP l) 3) then Sp.marks.pre l ∧ Sp.marks.pre (Sp.refP l) ∧ bif decide (Sp.marks l = Sp.marks (Sp.refP l)) then R Sp.tt else R false
                else R false
          else R false

