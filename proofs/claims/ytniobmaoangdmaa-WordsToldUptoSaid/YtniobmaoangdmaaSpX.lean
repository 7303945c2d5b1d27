/- What functions tell: pieces. Plain definitions. -/
import Derived.Test.YtniobmaoangdmaaSpW
set_option linter.unnecessarySimpa false
set_option linter.unusedVariables false
set_option linter.unusedSectionVars false
set_option linter.unusedSimpArgs false
set_option autoImplicit false
