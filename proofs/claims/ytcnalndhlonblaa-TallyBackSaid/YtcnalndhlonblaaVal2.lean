/-
  What package value tells, and its reference: Map, Detail, Slot, Root, Count, each walked once.
-/
import Derived.Test.YtcnalndhlonblaaVal
namespace Go.Proofs.Ytcnalndhlonblaa
open Go.RowKit
attribute [local go_sem ↓] Go.wp_at_zero Go.wp_at_succ

def mapP : Part := (8, 0, 1099511627775)
def detPs : List Part := [(8, 0, 16384), (8, 0, 2147483647), (4, 0, 16777215), (4, 0, 16777215)]
def slotPs : List Part := [(8, 1, 14399), (4, 0, 960), (4, 0, 960)]
def rootP : Part := (4, 1, 14399)
def countP : Part := (4, 3, 2147483647)
theorem good4 (lo hi : Int) (h0 : 0 ≤ lo) (h : hi < 4294967296) : goodP (4, lo, hi) := ⟨rfl, fun n hn => by
  simp only [inB, decide_eq_true_eq] at hn
  simp only [fitsB, decide_eq_true_eq]
  omega⟩
theorem good8 (lo hi : Int) (h0 : 0 ≤ lo) : goodP (8, lo, hi) := ⟨rfl, fun n hn => by
  simp only [inB, decide_eq_true_eq] at hn
  simp only [fitsB, decide_eq_true_eq]
  omega⟩

/-- parts in a slice of the call's own -/
def GivesParts (ps : List Part) (w : World) (e : Ending) (w' : World) : Prop := ∃ A, e = .returned (.slice A ps.length ps.length) ∧ Reads3 w' w'.heap.size A ps ∧ Below w.heap.size w w'
theorem count_any (w : World) : Calls Try.prog 59 #[] w (GivesParts [countP] w) := by
  have hr := Reads3.new w [countP] 131 (0, 0)
  go_enter Try.func59, Try.ntmps59
  go_wp2
  go_ret
  exact ⟨_, rfl, hr.more (by simp), below_alloc1 w _⟩
theorem vcount_any (n : Int) (w : World) (hn : (Lit.int .i64 n).wf = true) : Calls Try.prog 32 #[.int .i64 n] w fun e w' => e = .returned (.string ⟨(valV [(countP, n)]).toArray⟩) ∧ Below w.heap.size w w' := by
  have hp := fun (A A2 : Option Addr) (W : World) h h2 => vput_any A 1 A2 1 [(countP, n)] W (by simp) (by simp [countP]; exact good4 _ _ (by omega) (by omega)) (by simpa using hn) h h2
  go_enter Try.func32, Try.ntmps32
  go_wp2_with fail
  refine (count_any _).mono ?_
  rintro e w1 ⟨A, rfl, hr, hb1⟩
  have hB := below_then hb1 (below_alloc1 w1 (.cells #[.int .i64 n] 3))
  have hr2 := Reads.new w1 (iv [n]) 3 (0, 0)
  go_wp2_with fail
  refine (hp _ _ _ ((hr.below (below_alloc1 _ _)).more (by simp)) (hr2.more (by simp))).mono ?_
  rintro e w2 ⟨rfl, hb⟩
  have hB2 := hB.trans (hb.mono hB.size)
  clear hp hr hr2 hb hb1
  go_wp2
  go_ret
  exact ⟨rfl, hB2⟩
def detZ (a b c d : Int) : List (Part × Int) := [((8, 0, 16384), a), ((8, 0, 2147483647), b), ((4, 0, 16777215), c), ((4, 0, 16777215), d)]
def slotZ (a b c : Int) : List (Part × Int) := [((8, 1, 14399), a), ((4, 0, 960), b), ((4, 0, 960), c)]
theorem slotZ_good (a b c : Int) : ∀ q ∈ slotZ a b c, goodP q.1 := by
  intro q hq
  simp only [slotZ, List.mem_cons, List.not_mem_nil, or_false] at hq
  rcases hq with rfl | rfl | rfl
  · exact good8 _ _ (by omega)
  · exact good4 _ _ (by omega) (by omega)
  · exact good4 _ _ (by omega) (by omega)
theorem detZ_good (a b c d : Int) : ∀ q ∈ detZ a b c d, goodP q.1 := by
  intro q hq
  simp only [detZ, List.mem_cons, List.not_mem_nil, or_false] at hq
  rcases hq with rfl | rfl | rfl | rfl
  · exact good8 _ _ (by omega)
  · exact good8 _ _ (by omega)
  · exact good4 _ _ (by omega) (by omega)
  · exact good4 _ _ (by omega) (by omega)
theorem bcat (a b : List UInt8) : (ByteArray.mk a.toArray) ++ (ByteArray.mk b.toArray) = ByteArray.mk (a ++ b).toArray := by
  apply ByteArray.ext
  rw [ByteArray.data_append]
  simp
theorem in_any (n lo hi : Int) (w : World) : Calls Try.prog 61 #[.int .i64 n, .int .i64 lo, .int .i64 hi] w fun e w' => e = .returned (.bool (inB (8, lo, hi) n)) ∧ w = w' := by
  by_cases h1 : lo ≤ n
  · have e1 : inB (8, lo, hi) n = decide (n ≤ hi) := by unfold inB; exact decide_eq_decide.2 (by simp; omega)
    rw [e1]
    clear e1
    go_enter Try.func61, Try.ntmps61
    go_wp2
    go_ret
    exact ⟨rfl, rfl⟩
  · have e1 : inB (8, lo, hi) n = false := by unfold inB; exact decide_eq_false (by simp; omega)
    have d1 : decide (lo ≤ n) = false := decide_eq_false h1
    rw [e1]
    clear e1
    go_enter Try.func61, Try.ntmps61
    go_wp2
    go_ret
    exact ⟨rfl, rfl⟩
end Go.Proofs.Ytcnalndhlonblaa
