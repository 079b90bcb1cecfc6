/-
  The reference's ReadDetail, walked. (Printed by wip/genval3.py.)
-/
import Derived.Test.YtcnalndhlonblaaVal10
import Derived.Test.YtcnalndhlonblaaBase5
namespace Go.Proofs.Ytcnalndhlonblaa
open Go.RowKit
attribute [local go_sem ↓] Go.wp_at_zero Go.wp_at_succ

end Go.Proofs.Ytcnalndhlonblaa
