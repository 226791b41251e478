/- Small states at work, I: numbers in lists, hashes. -/
import Derived.Test.YtldmjoillnhebaaGreatGtw
import Derived.Test.YtldmjoillnhebaaGreatGso
namespace Gi
open Go Go.RowKit
set_option linter.unusedSimpArgs false
set_option linter.unusedVariables false
set_option maxHeartbeats 4000000
set_option maxRecDepth 4000

theorem tidyF : Tidy (callL Ph extF) := tidy_callL fun k as r h => by
  unfold extF at h
  repeat' (split at h)
  all_goals first | (cases h; rfl) | (cases h; done)

def i1 (n : Int) : List PV := [.int .i64 n]
end Gi
