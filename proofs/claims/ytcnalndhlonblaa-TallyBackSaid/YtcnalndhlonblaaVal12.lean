/-
  Chapter 8's ValueReads, walked.
-/
import Derived.Test.YtcnalndhlonblaaVal11
import Derived.Test.YtcnalndhlonblaaLaw08
import Derived.Laws.StructEq
namespace Go.Proofs.Ytcnalndhlonblaa
open Go.RowKit

end Go.Proofs.Ytcnalndhlonblaa
