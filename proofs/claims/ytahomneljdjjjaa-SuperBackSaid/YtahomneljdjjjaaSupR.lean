/-
  Chapter 6: the reference's Right (under way).
-/
import Derived.Test.YtahomneljdjjjaaSup3
namespace Go.Proofs.Ytahomneljdjjjaa
open Go.RowKit

theorem in6_any (n lo hi : Int) (w : World) : Calls Try.prog 68 #[.int .i64 n, .int .i64 lo, .int .i64 hi] w fun e w' => e = .returned (.bool (decide (lo ≤ n) && decide (n ≤ hi))) ∧ w = w' := by
  cases d1 : decide (lo ≤ n) <;> cases d2 : decide (n ≤ hi) <;>
  · go_enter Try.func68, Try.ntmps68
    go_wp2
    go_ret
    exact ⟨rfl, rfl⟩
set_option maxRecDepth 100000 in
set_option maxHeartbeats 4000000 in
theorem rright_any (n : Nat → Int) (w : World) :
    Calls Try.prog 20 #[.agg (supC n)] w fun e w' => e = .returned (.bool (okS n 11)) ∧ Below w.heap.size w w' := by
  have hrow := heap_alloc_new w (.cells (supC n) 23)
  have hB := below_alloc1 w (.cells (supC n) 23)
  have hok : okS n 11 = (((((((((((true && (decide (0 ≤ n 0) && decide (n 0 ≤ 2147483647))) && (decide (0 ≤ n 1) && decide (n 1 ≤ 16777215))) && (decide (1 ≤ n 2) && decide (n 2 ≤ 65536))) && (decide (0 ≤ n 3) && decide (n 3 ≤ 65536))) && (decide (2 ≤ n 4) && decide (n 4 ≤ 14400))) && (decide (1 ≤ n 5) && decide (n 5 ≤ wrap64 (n 4 - 1)))) && (decide (1 ≤ n 6) && decide (n 6 ≤ wrap64 (n 4 - 1)))) && (decide (1 ≤ n 7) && decide (n 7 ≤ wrap64 (n 4 - 1)))) && (decide (1 ≤ n 8) && decide (n 8 ≤ wrap64 (n 4 - 1)))) && (decide (1 ≤ n 9) && decide (n 9 ≤ wrap64 (n 4 - 1)))) && (decide (1 ≤ n 10) && decide (n 10 ≤ wrap64 (n 4 - 1)))) := rfl
  have c0 := heap_cell hrow 0 (supC_at n 0 (by omega))
  have q0 := fun W => in6_any (n 0) 0 2147483647 W
  have c1 := heap_cell hrow 1 (supC_at n 1 (by omega))
  have q1 := fun W => in6_any (n 1) 0 16777215 W
  have c2 := heap_cell hrow 2 (supC_at n 2 (by omega))
  have q2 := fun W => in6_any (n 2) 1 65536 W
  have c3 := heap_cell hrow 3 (supC_at n 3 (by omega))
  have q3 := fun W => in6_any (n 3) 0 65536 W
  have c4 := heap_cell hrow 4 (supC_at n 4 (by omega))
  have q4 := fun W => in6_any (n 4) 2 14400 W
  have c5 := heap_cell hrow 5 (supC_at n 5 (by omega))
  have q5 := fun W => in6_any (n 5) 1 (wrap64 (n 4 - 1)) W
  have c6 := heap_cell hrow 6 (supC_at n 6 (by omega))
  have q6 := fun W => in6_any (n 6) 1 (wrap64 (n 4 - 1)) W
  have c7 := heap_cell hrow 7 (supC_at n 7 (by omega))
  have q7 := fun W => in6_any (n 7) 1 (wrap64 (n 4 - 1)) W
  have c8 := heap_cell hrow 8 (supC_at n 8 (by omega))
  have q8 := fun W => in6_any (n 8) 1 (wrap64 (n 4 - 1)) W
  have c9 := heap_cell hrow 9 (supC_at n 9 (by omega))
  have q9 := fun W => in6_any (n 9) 1 (wrap64 (n 4 - 1)) W
  have c10 := heap_cell hrow 10 (supC_at n 10 (by omega))
  have q10 := fun W => in6_any (n 10) 1 (wrap64 (n 4 - 1)) W
  generalize (decide (0 ≤ n 0) && decide (n 0 ≤ 2147483647)) = b0 at *
  generalize (decide (0 ≤ n 1) && decide (n 1 ≤ 16777215)) = b1 at *
  generalize (decide (1 ≤ n 2) && decide (n 2 ≤ 65536)) = b2 at *
  generalize (decide (0 ≤ n 3) && decide (n 3 ≤ 65536)) = b3 at *
  generalize (decide (2 ≤ n 4) && decide (n 4 ≤ 14400)) = b4 at *
  generalize (decide (1 ≤ n 5) && decide (n 5 ≤ wrap64 (n 4 - 1))) = b5 at *
  generalize (decide (1 ≤ n 6) && decide (n 6 ≤ wrap64 (n 4 - 1))) = b6 at *
  generalize (decide (1 ≤ n 7) && decide (n 7 ≤ wrap64 (n 4 - 1))) = b7 at *
  generalize (decide (1 ≤ n 8) && decide (n 8 ≤ wrap64 (n 4 - 1))) = b8 at *
  generalize (decide (1 ≤ n 9) && decide (n 9 ≤ wrap64 (n 4 - 1))) = b9 at *
  generalize (decide (1 ≤ n 10) && decide (n 10 ≤ wrap64 (n 4 - 1))) = b10 at *
  have HOK := Lib.hid hok
  clear hok hrow
  generalize supC n = C at *
  go_enter Try.func20, Try.ntmps20
  go_wp2_with fail
  refine (q0 _).mono ?_
  rintro e w0 ⟨rfl, rfl⟩
  cases b0
  case false =>
    go_wp2
    go_ret
    exact ⟨by rw [HOK.out]; simp, hB⟩
  go_wp2_with fail
  refine (q1 _).mono ?_
  rintro e w1 ⟨rfl, rfl⟩
  cases b1
  case false =>
    go_wp2
    go_ret
    exact ⟨by rw [HOK.out]; simp, hB⟩
  go_wp2_with fail
  refine (q2 _).mono ?_
  rintro e w2 ⟨rfl, rfl⟩
  cases b2
  case false =>
    go_wp2
    go_ret
    exact ⟨by rw [HOK.out]; simp, hB⟩
  go_wp2_with fail
  refine (q3 _).mono ?_
  rintro e w3 ⟨rfl, rfl⟩
  cases b3
  case false =>
    go_wp2
    go_ret
    exact ⟨by rw [HOK.out]; simp, hB⟩
  go_wp2_with fail
  refine (q4 _).mono ?_
  rintro e w4 ⟨rfl, rfl⟩
  cases b4
  case false =>
    go_wp2
    go_ret
    exact ⟨by rw [HOK.out]; simp, hB⟩
  go_wp2_with fail
  refine (q5 _).mono ?_
  rintro e w5 ⟨rfl, rfl⟩
  cases b5
  case false =>
    go_wp2
    go_ret
    exact ⟨by rw [HOK.out]; simp, hB⟩
  go_wp2_with fail
  refine (q6 _).mono ?_
  rintro e w6 ⟨rfl, rfl⟩
  cases b6
  case false =>
    go_wp2
    go_ret
    exact ⟨by rw [HOK.out]; simp, hB⟩
  go_wp2_with fail
  refine (q7 _).mono ?_
  rintro e w7 ⟨rfl, rfl⟩
  cases b7
  case false =>
    go_wp2
    go_ret
    exact ⟨by rw [HOK.out]; simp, hB⟩
  go_wp2_with fail
  refine (q8 _).mono ?_
  rintro e w8 ⟨rfl, rfl⟩
  cases b8
  case false =>
    go_wp2
    go_ret
    exact ⟨by rw [HOK.out]; simp, hB⟩
  go_wp2_with fail
  refine (q9 _).mono ?_
  rintro e w9 ⟨rfl, rfl⟩
  cases b9
  case false =>
    go_wp2
    go_ret
    exact ⟨by rw [HOK.out]; simp, hB⟩
  go_wp2_with fail
  refine (q10 _).mono ?_
  rintro e w10 ⟨rfl, rfl⟩
  cases b10
  case false =>
    go_wp2
    go_ret
    exact ⟨by rw [HOK.out]; simp, hB⟩
  go_wp2
  go_ret
  exact ⟨by rw [HOK.out]; simp, hB⟩
end Go.Proofs.Ytahomneljdjjjaa
