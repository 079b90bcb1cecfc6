/-
  The reference's ReadDetail, walked. (Printed by wip/genval3.py.)
-/
import Derived.Test.YtilkcecjciiboaaVal10
import Derived.Test.YtilkcecjciiboaaBase5
namespace Go.Proofs.Ytilkcecjciiboaa
open Go.RowKit
attribute [local go_sem ↓] Go.wp_at_zero Go.wp_at_succ

end Go.Proofs.Ytilkcecjciiboaa
