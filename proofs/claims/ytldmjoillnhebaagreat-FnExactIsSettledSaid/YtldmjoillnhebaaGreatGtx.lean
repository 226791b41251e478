/- Counting buckets; the bucket of an event; what a bucket has sent. -/
import Derived.Test.YtldmjoillnhebaaGreatGtw
namespace Gi
open Go Go.RowKit
set_option linter.unusedSimpArgs false
set_option linter.unusedVariables false
set_option maxHeartbeats 2000000

end Gi
