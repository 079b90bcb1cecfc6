/-
  value.Detail, walked.
-/
import Derived.Test.YtilkcecjciiboaaVal2
namespace Go.Proofs.Ytilkcecjciiboaa
open Go.RowKit
attribute [local go_sem ↓] Go.wp_at_zero Go.wp_at_succ
end Go.Proofs.Ytilkcecjciiboaa
