/- What functions tell: what was sealed. Plain definitions. -/
import Derived.Test.YtpgodffogmgnhaaSpL
set_option linter.unnecessarySimpa false
set_option linter.unusedVariables false
set_option linter.unusedSectionVars false
set_option linter.unusedSimpArgs false
set_option autoImplicit false
