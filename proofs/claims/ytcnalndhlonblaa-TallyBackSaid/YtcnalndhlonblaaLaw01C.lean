/-
  Chapter 1's CodePacks, walked.
-/
import Derived.Test.YtcnalndhlonblaaLaw01
import Derived.Test.YtcnalndhlonblaaRef1C
namespace Go.Proofs.Ytcnalndhlonblaa
open Go.RowKit


theorem Try.infoCF : (Try.prog.info? 87).map (fun i => (i.zero, i.size, i.bytes)) = some (some (.agg #[.int .i64 0, .int .i64 0]), 2, 16) := by kernel_rfl

end Go.Proofs.Ytcnalndhlonblaa
