/-
  value.Detail, walked.
-/
import Derived.Test.YtahomneljdjjjaaVal2
namespace Go.Proofs.Ytahomneljdjjjaa
open Go.RowKit
attribute [local go_sem ↓] Go.wp_at_zero Go.wp_at_succ
set_option maxRecDepth 100000 in
set_option maxHeartbeats 1000000 in
theorem vdetail_any (a b c d : Int) (w : World) (ha : (Lit.int .i64 a).wf = true) (hb : (Lit.int .i64 b).wf = true) (hc : (Lit.int .i64 c).wf = true) (hd : (Lit.int .i64 d).wf = true) :
    Calls Try.prog 24 #[.agg #[.int .i64 a, .int .i64 b, .int .i64 c, .int .i64 d]] w fun e w' => e = .returned (.string ⟨(valV (detZ a b c d)).toArray⟩) ∧ Below w.heap.size w w' := by
  have hp := fun (A A2 : Option Addr) (W : World) h h2 => vput_any A 4 A2 4 (detZ a b c d) W (by simp [detZ]) (detZ_good a b c d) (by
    intro q hq
    simp only [detZ, List.mem_cons, List.not_mem_nil, or_false] at hq
    rcases hq with rfl | rfl | rfl | rfl <;> assumption) h h2
  have hs := details_any
  generalize valV (detZ a b c d) = res at *
  go_enter Try.func24, Try.ntmps24
  go_wp2_with fail
  have hB := below_alloc1 w (.cells #[.int .i64 a, .int .i64 b, .int .i64 c, .int .i64 d] 33)
  have hsz : w.heap.size < (w.alloc (.cells #[.int .i64 a, .int .i64 b, .int .i64 c, .int .i64 d] 33)).heap.size := by simp
  have g0 : (w.alloc (.cells #[.int .i64 a, .int .i64 b, .int .i64 c, .int .i64 d] 33)).cell? ⟨w.heap.size, 0, none⟩ = some (.int .i64 a) := by rw [World.cell?_alloc_mark]; rfl
  have g1 : (w.alloc (.cells #[.int .i64 a, .int .i64 b, .int .i64 c, .int .i64 d] 33)).cell? ⟨w.heap.size, 1, none⟩ = some (.int .i64 b) := by rw [World.cell?_alloc_mark]; rfl
  have g2 : (w.alloc (.cells #[.int .i64 a, .int .i64 b, .int .i64 c, .int .i64 d] 33)).cell? ⟨w.heap.size, 2, none⟩ = some (.int .i64 c) := by rw [World.cell?_alloc_mark]; rfl
  have g3 : (w.alloc (.cells #[.int .i64 a, .int .i64 b, .int .i64 c, .int .i64 d] 33)).cell? ⟨w.heap.size, 3, none⟩ = some (.int .i64 d) := by rw [World.cell?_alloc_mark]; rfl
  generalize w.alloc (.cells #[.int .i64 a, .int .i64 b, .int .i64 c, .int .i64 d] 33) = W1 at *
  generalize hf : w.heap.size = f at *
  have HF := Lib.hid hf
  clear hf
  go_region_held3 (fun w' => w'.cell? ⟨f, 0, none⟩ = some (.int .i64 a) ∧ w'.cell? ⟨f, 1, none⟩ = some (.int .i64 b) ∧ w'.cell? ⟨f, 2, none⟩ = some (.int .i64 c) ∧ w'.cell? ⟨f, 3, none⟩ = some (.int .i64 d)) (first | go_keep | exact (And.imp (keep_cell hb2) (And.imp (keep_cell hb2) (And.imp (keep_cell hb2) (keep_cell hb2)))) (by assumption) | exact (And.imp (keep_cell hb3) (And.imp (keep_cell hb3) (And.imp (keep_cell hb3) (keep_cell hb3)))) (by assumption)) (first | (go_at_call 73; refine (hs _).mono ?_; rintro e w2 ⟨A, rfl, hr, hb2⟩) | (go_at_call 69; refine (hp _ _ _ (by first | exact hr | exact (hr.below (below_alloc1 _ _)).more (by simp)) (by first | exact (Reads.new w2 (iv [a, b, c, d]) 3 (0, 0)).more (by simp) | exact (((Reads.new W1 (iv [a, b, c, d]) 3 (0, 0)).drew).below (hb2.mono (by simp))).more (by have := hb2.size; simp at this ⊢; omega))).mono ?_; rintro e w3 ⟨rfl, hb3⟩))
  all_goals
    have hB2 : Below W1.heap.size W1 w2 := by first | exact ((Below.refl _ W1).drew).trans hb2 | exact below_then (below_alloc1 W1 (.cells #[.int .i64 a, .int .i64 b, .int .i64 c, .int .i64 d] 3)) (((Below.refl _ _).drew).trans hb2)
    have hB3 : Below W1.heap.size W1 w3 := by first | exact below_then hB2 hb3 | exact below_then (hB2.trans ((below_alloc1 w2 _).mono hB2.size)) hb3
    have hB4 : Below f w w3 := hB.trans (hB3.mono (Nat.le_of_lt hsz))
    clear hb3 hb2 hp hs hr hB2 hB3
    go_wp2
    go_ret
    exact ⟨rfl, by rw [HF.out]; exact hB4⟩
end Go.Proofs.Ytahomneljdjjjaa
