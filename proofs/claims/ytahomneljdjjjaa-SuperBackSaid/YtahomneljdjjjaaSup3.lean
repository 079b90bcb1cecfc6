/-
  Chapter 6: super.Right (under way).
-/
import Derived.Test.YtahomneljdjjjaaSup2
namespace Go.Proofs.Ytahomneljdjjjaa
open Go.RowKit

def supC (n : Nat → Int) : Array Value := #[.int .i64 (n 0), .int .i64 (n 1), .int .i64 (n 2), .int .i64 (n 3), .int .i64 (n 4), .int .i64 (n 5), .int .i64 (n 6), .int .i64 (n 7), .int .i64 (n 8), .int .i64 (n 9), .int .i64 (n 10)]
def loS (k : Nat) : Int := if k = 2 then 1 else if k = 4 then 2 else if k < 5 then 0 else 1
def hiS (n : Nat → Int) (k : Nat) : Int := if k = 0 then 2147483647 else if k = 1 then 16777215 else if k = 2 then 65536 else if k = 3 then 65536 else if k = 4 then 14400 else wrap64 (n 4 - 1)
/-- The first k numbers are in their bounds. -/
def okS (n : Nat → Int) : Nat → Bool
  | 0 => true
  | k + 1 => okS n k && (decide (loS k ≤ n k) && decide (n k ≤ hiS n k))
theorem supC_at (n : Nat → Int) (k : Nat) (h : k < 11) : (supC n)[k]? = some (.int .i64 (n k)) := by
  have : k = 0 ∨ k = 1 ∨ k = 2 ∨ k = 3 ∨ k = 4 ∨ k = 5 ∨ k = 6 ∨ k = 7 ∨ k = 8 ∨ k = 9 ∨ k = 10 := by omega
  rcases this with rfl | rfl | rfl | rfl | rfl | rfl | rfl | rfl | rfl | rfl | rfl <;> rfl
def RInv (n : Nat → Int) (w : World) (k : Nat) (W : World) : Prop :=
  W.heap[w.heap.size]? = some (.cells (supC n) 23) ∧ W.heap[w.heap.size + 1]? = some (.cells #[.bool (okS n k)] 4) ∧ Below w.heap.size w W
theorem RInv.step {n : Nat → Int} {w : World} {k : Nat} {W : World} (hk : k < 11) (h : RInv n w k W) :
    Calls Try.prog 67 (#[.pointer (some ⟨w.heap.size, k, none⟩), .int .i64 (loS k), .int .i64 (hiS n k)] ++ #[.pointer (some ⟨w.heap.size + 1, 0, none⟩)]) W (Step (RInv n w) (k + 1) W) := by
  refine (right1_any ⟨w.heap.size, k, none⟩ (w.heap.size + 1) (loS k) (hiS n k) (n k) (okS n k) W (heap_cell h.1 k (supC_at n k hk)) h.2.1).mono ?_
  rintro e w1 ⟨rfl, rfl⟩
  refine ⟨rfl, ⟨?_, ?_, ?_⟩, ?_⟩
  · rw [heap_setCell_other W ⟨w.heap.size + 1, 0, none⟩ _ _ (by simp)]
    exact h.1
  · exact heap_setCell_same W (w.heap.size + 1) 0 _ _ _ h.2.1
  · exact h.2.2.setCell (p := ⟨w.heap.size + 1, 0, none⟩) (by simp) _
  · intro r cur fz hr
    by_cases hre : r = w.heap.size + 1
    · subst hre
      rw [h.2.1] at hr
      simp at hr
    · rw [heap_setCell_other W ⟨w.heap.size + 1, 0, none⟩ r _ (by simpa using hre)]
      exact hr
theorem RInv.stable {n : Nat → Int} {w : World} {k : Nat} {W : World} (h : RInv n w k W) : (∀ m, RInv n w k (W.drewN m)) ∧ ∀ o, RInv n w k (W.alloc o) :=
  ⟨fun m => ⟨h.1, h.2.1, below_drewN h.2.2 m⟩, fun o => ⟨heap_alloc' h.1 o, heap_alloc' h.2.1 o, h.2.2.alloc h.2.2.size o⟩⟩
theorem right_any (n : Nat → Int) (w : World) :
    Calls Try.prog 19 #[.agg (supC n)] w fun e w' => e = .returned (.bool (okS n 11)) ∧ Below w.heap.size w w' := by
  have h0 : RInv n w 0 ((w.alloc (.cells (supC n) 23)).alloc (.cells #[.bool true] 4)) := by
    refine ⟨heap_alloc' (heap_alloc_new _ _) _, ?_, below_alloc2 w _ _⟩
    have := heap_alloc_new (w.alloc (.cells (supC n) 23)) (.cells #[.bool true] 4)
    rw [show (w.alloc (.cells (supC n) 23)).heap.size = w.heap.size + 1 from by simp] at this
    exact this
  have he := each_any w.heap.size 67 #[.pointer (some ⟨w.heap.size + 1, 0, none⟩)] (RInv n w) (n 4) _ right1_enter (fun k W m h => h.stable.1 m) (fun k W o h => h.stable.2 o) (fun k W hk h => heap_cell h.1 4 rfl) (fun W h => h.step (by omega)) (fun W h => h.step (by omega)) (fun W h => h.step (by omega)) (fun W h => h.step (by omega)) (fun W h => h.step (by omega)) (fun k W h5 h11 h => by
    have := h.step h11
    rw [show loS k = 1 from by unfold loS; rw [if_neg (by omega), if_neg (by omega), if_neg (by omega)], show hiS n k = wrap64 (n 4 - 1) from by unfold hiS; rw [if_neg (by omega), if_neg (by omega), if_neg (by omega), if_neg (by omega), if_neg (by omega)]] at this
    exact this) h0
  generalize supC n = C at *
  go_enter Try.func19, Try.ntmps19
  go_wp2_with fail
  refine he.mono ?_
  rintro e w1 ⟨rfl, h⟩
  have hc : w1.cell? ⟨w.heap.size + 1, 0, none⟩ = some (.bool (okS n 11)) := heap_cell h.2.1 0 rfl
  have hb := h.2.2
  clear he h h0
  go_wp2
  go_ret
  exact ⟨rfl, hb⟩
end Go.Proofs.Ytahomneljdjjjaa
