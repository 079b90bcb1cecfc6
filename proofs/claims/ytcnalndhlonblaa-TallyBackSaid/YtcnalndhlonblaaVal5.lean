/-
  The reference's Slot and Detail, walked. (Printed by wip/genval2.py.)
-/
import Derived.Test.YtcnalndhlonblaaVal4
namespace Go.Proofs.Ytcnalndhlonblaa
open Go.RowKit

end Go.Proofs.Ytcnalndhlonblaa
