/-
  Chapter 8's ValueReads, walked.
-/
import Derived.Test.YtilkcecjciiboaaVal11
import Derived.Test.YtilkcecjciiboaaLaw08
import Derived.Laws.StructEq
namespace Go.Proofs.Ytilkcecjciiboaa
open Go.RowKit

theorem eql_slot (w : World) (a b c a' b' c' : Int) : (binOp .eql 66 (.agg #[.int .i64 a, .int .i64 b, .int .i64 c]) (.agg #[.int .i64 a', .int .i64 b', .int .i64 c'])).run Try.prog w = .ok (.bool (a == a' && b == b' && c == c')) w := by
  rw [run_eql_struct, run_equalIn_agg _ _ _ _ _ (by kernel_rfl) (by kernel_rfl)]
  simp only [Program.fieldsOf, Try.underlying66, Op.eqFields]
  simp [go_sem]
  by_cases h1 : a = a' <;> by_cases h2 : b = b' <;> by_cases h3 : c = c' <;> simp [h1, h2, h3]
theorem neq_slot (w : World) (a b c a' b' c' : Int) : (binOp .neq 66 (.agg #[.int .i64 a, .int .i64 b, .int .i64 c]) (.agg #[.int .i64 a', .int .i64 b', .int .i64 c'])).run Try.prog w = .ok (.bool (!(a == a' && b == b' && c == c'))) w := by
  rw [run_neq_struct, run_equalIn_agg _ _ _ _ _ (by kernel_rfl) (by kernel_rfl)]
  simp only [Program.fieldsOf, Try.underlying66, Op.eqFields]
  simp [go_sem]
  by_cases h1 : a = a' <;> by_cases h2 : b = b' <;> by_cases h3 : c = c' <;> simp [h1, h2, h3]
theorem guard_slot : Try.prog.eqGuardType Try.prog.depth 66 = false := by kernel_rfl

end Go.Proofs.Ytilkcecjciiboaa
