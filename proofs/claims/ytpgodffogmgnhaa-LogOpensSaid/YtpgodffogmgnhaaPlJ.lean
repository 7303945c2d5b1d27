/- What was sealed is opened again: shown of the condition. Plain theorems. -/
import Derived.Test.YtpgodffogmgnhaaVcJ
import Derived.Test.YtpgodffogmgnhaaPlL
set_option linter.unnecessarySimpa false
set_option linter.unusedVariables false
set_option linter.unusedSectionVars false
set_option linter.unusedSimpArgs false
set_option autoImplicit false
open Go Vi

namespace Sp
end Sp
