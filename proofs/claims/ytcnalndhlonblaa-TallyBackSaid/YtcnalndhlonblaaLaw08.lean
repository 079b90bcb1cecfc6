/-
  Chapter 8's ValueTells, walked.
-/
import Derived.Test.YtcnalndhlonblaaVal5
namespace Go.Proofs.Ytcnalndhlonblaa
open Go.RowKit
attribute [local go_sem ↓] Go.wp_at_zero Go.wp_at_succ

theorem map_example : mapV 1 2 = [2, 0, 0, 1, 0, 0, 0, 0] := by decide +kernel
theorem below_then3 {f : Nat} {w w1 w2 : World} (hf : w.heap.size = f) (h : Below f w w1) (k : Below w1.heap.size w1 w2) : Below f w w2 := h.trans (k.mono (by rw [← hf]; exact h.size))
end Go.Proofs.Ytcnalndhlonblaa
