/- The last number of a device; the number of a site; is a number queued? -/
import Derived.Test.YtelkiinkpjncnaaGreatGtx
namespace Gi
open Go Go.RowKit
set_option linter.unusedSimpArgs false
set_option linter.unusedVariables false
set_option maxHeartbeats 4000000
set_option maxRecDepth 4000

end Gi
