/-
  The statements of chapter 1 (code), walked: each law's call returns true and leaves all that was there as it was.
-/
import Derived.Test.YtcnalndhlonblaaCode3
import Derived.Test.YtcnalndhlonblaaRef1B
namespace Go.Proofs.Ytcnalndhlonblaa
open Go.RowKit

theorem pack_example : packE [(2, 258), (1, 1)] = 0 ∧ packV [(2, 258), (1, 1)] = [2, 1, 1] := by decide +kernel
end Go.Proofs.Ytcnalndhlonblaa
