/-
  node.Width, node.Max and the reference's, walked.
-/
import Derived.Test.YtilkcecjciiboaaTallP
import Derived.Test.YtilkcecjciiboaaChecked
namespace Go.Proofs.Ytilkcecjciiboaa
open Go.RowKit

theorem tree_cases (t : Int) : t < 1 ∨ 5 < t ∨ t = 1 ∨ t = 2 ∨ t = 3 ∨ t = 4 ∨ t = 5 := by omega
theorem width_any (t : Int) (b : Bool) (w : World) : Calls Try.prog 24 #[.int .i64 t, .bool b] w fun e w' => e = .returned (.int .i64 (widthV t b)) ∧ w = w' := by
  rcases tree_cases t with h | h | rfl | rfl | rfl | rfl | rfl
  · have hv : widthV t b = 0 := by unfold widthV; rw [if_pos (.inl h)]
    have d1 : decide (t < 1) = true := decide_eq_true h
    rw [hv]
    clear hv
    go_enter Try.func24, Try.ntmps24
    go_wp2
    go_ret
    exact ⟨rfl, rfl⟩
  · have hv : widthV t b = 0 := by unfold widthV; rw [if_pos (.inr h)]
    have d1 : decide (t < 1) = false := decide_eq_false (by omega)
    have d2 : decide (5 < t) = true := decide_eq_true h
    rw [hv]
    clear hv
    go_enter Try.func24, Try.ntmps24
    go_wp2
    go_ret
    exact ⟨rfl, rfl⟩
  all_goals
    cases b
    all_goals
      go_enter Try.func24, Try.ntmps24
      go_wp2
      go_ret
      exact ⟨rfl, rfl⟩
theorem rwidth7_any (t : Int) (b : Bool) (w : World) : Calls Try.prog 40 #[.int .i64 t, .bool b] w fun e w' => e = .returned (.int .i64 (widthV t b)) ∧ Below w.heap.size w w' := by
  rcases tree_cases t with h | h | rfl | rfl | rfl | rfl | rfl
  · have hv : widthV t b = 0 := by unfold widthV; rw [if_pos (.inl h)]
    have d1 : decide (t < 1) = true := decide_eq_true h
    rw [hv]
    clear hv
    go_enter Try.func40, Try.ntmps40
    go_wp2
    go_ret
    exact ⟨rfl, below_alloc1 w _⟩
  · have hv : widthV t b = 0 := by unfold widthV; rw [if_pos (.inr h)]
    have d1 : decide (t < 1) = false := decide_eq_false (by omega)
    have d2 : decide (5 < t) = true := decide_eq_true h
    rw [hv]
    clear hv
    go_enter Try.func40, Try.ntmps40
    go_wp2
    go_ret
    exact ⟨rfl, below_alloc1 w _⟩
  all_goals
    cases b
    all_goals
      go_enter Try.func40, Try.ntmps40
      go_wp2
      go_ret
      exact ⟨rfl, below_alloc1 w _⟩
theorem max_any (t : Int) (b : Bool) (w : World) : Calls Try.prog 23 #[.int .i64 t, .bool b] w fun e w' => e = .returned (.int .i64 (maxV t b)) ∧ w = w' := by
  have hw := width_any t b w
  have hc : widthV t b = 0 ∧ maxV t b = 0 ∨ widthV t b = 4 ∧ maxV t b = 18 ∨ widthV t b = 8 ∧ maxV t b = 12 ∨ widthV t b = 16 ∧ maxV t b = 9 ∨ widthV t b = 24 ∧ maxV t b = 6 := by
    unfold widthV maxV
    split
    · simp
    · split
      · simp
      · split
        · simp
        · split
          · simp
          · split <;> simp
  rcases hc with ⟨h1, h2⟩ | ⟨h1, h2⟩ | ⟨h1, h2⟩ | ⟨h1, h2⟩ | ⟨h1, h2⟩
  all_goals
    rw [h1] at hw
    rw [h2]
    clear h1 h2
    go_enter Try.func23, Try.ntmps23
    go_wp2_with fail
    refine hw.mono ?_
    rintro e w1 ⟨rfl, rfl⟩
    clear hw
    go_wp2
    go_ret
    exact ⟨rfl, rfl⟩
theorem rmax_any (t : Int) (b : Bool) (w : World) : Calls Try.prog 41 #[.int .i64 t, .bool b] w fun e w' => e = .returned (.int .i64 (maxV t b)) ∧ Below w.heap.size w w' := by
  have hw := rwidth7_any t b w
  have hc : widthV t b = 0 ∧ maxV t b = 0 ∨ widthV t b = 4 ∧ maxV t b = 18 ∨ widthV t b = 8 ∧ maxV t b = 12 ∨ widthV t b = 16 ∧ maxV t b = 9 ∨ widthV t b = 24 ∧ maxV t b = 6 := by
    unfold widthV maxV
    split
    · simp
    · split
      · simp
      · split
        · simp
        · split
          · simp
          · split <;> simp
  rcases hc with ⟨h1, h2⟩ | ⟨h1, h2⟩ | ⟨h1, h2⟩ | ⟨h1, h2⟩ | ⟨h1, h2⟩
  all_goals
    rw [h1] at hw
    rw [h2]
    clear h1 h2
    go_enter Try.func41, Try.ntmps41
    go_wp2_with fail
    refine hw.mono ?_
    rintro e w1 ⟨rfl, hb⟩
    clear hw
    go_wp2
    go_ret
    exact ⟨rfl, hb⟩
end Go.Proofs.Ytilkcecjciiboaa
