/-
  value.Detail, walked.
-/
import Derived.Test.YtcnalndhlonblaaVal2
namespace Go.Proofs.Ytcnalndhlonblaa
open Go.RowKit
attribute [local go_sem ↓] Go.wp_at_zero Go.wp_at_succ
end Go.Proofs.Ytcnalndhlonblaa
