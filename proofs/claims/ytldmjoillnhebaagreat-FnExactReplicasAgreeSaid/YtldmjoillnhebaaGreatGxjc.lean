/- LocalStore -/
import Derived.Test.YtldmjoillnhebaaGreatGxja
import Derived.Test.YtldmjoillnhebaaGreatGxjb
namespace Gi
open Go Go.RowKit
set_option linter.unusedSimpArgs false
set_option linter.unusedVariables false
set_option maxHeartbeats 16000000
set_option maxRecDepth 4000

section
variable {B : Nat} {s : XStore}
end
end Gi
