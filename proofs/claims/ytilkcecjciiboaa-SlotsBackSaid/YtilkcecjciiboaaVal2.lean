/-
  What package value tells, and its reference: Map, Detail, Slot, Root, Count, each walked once.
-/
import Derived.Test.YtilkcecjciiboaaVal
namespace Go.Proofs.Ytilkcecjciiboaa
open Go.RowKit
attribute [local go_sem ↓] Go.wp_at_zero Go.wp_at_succ

def mapP : Part := (8, 0, 1099511627775)
def detPs : List Part := [(8, 0, 16384), (8, 0, 2147483647), (4, 0, 16777215), (4, 0, 16777215)]
def slotPs : List Part := [(8, 1, 14399), (4, 0, 960), (4, 0, 960)]
def rootP : Part := (4, 1, 14399)
def countP : Part := (4, 3, 2147483647)
theorem good4 (lo hi : Int) (h0 : 0 ≤ lo) (h : hi < 4294967296) : goodP (4, lo, hi) := ⟨rfl, fun n hn => by
  simp only [inB, decide_eq_true_eq] at hn
  simp only [fitsB, decide_eq_true_eq]
  omega⟩
theorem good8 (lo hi : Int) (h0 : 0 ≤ lo) : goodP (8, lo, hi) := ⟨rfl, fun n hn => by
  simp only [inB, decide_eq_true_eq] at hn
  simp only [fitsB, decide_eq_true_eq]
  omega⟩

/-- parts in a slice of the call's own -/
def GivesParts (ps : List Part) (w : World) (e : Ending) (w' : World) : Prop := ∃ A, e = .returned (.slice A ps.length ps.length) ∧ Reads3 w' w'.heap.size A ps ∧ Below w.heap.size w w'
theorem slot_any (w : World) : Calls Try.prog 100 #[] w (GivesParts slotPs w) := by
  have hr := Reads3.new w slotPs 139 (0, 0)
  go_enter Try.func100, Try.ntmps100
  go_wp2
  go_ret
  exact ⟨_, rfl, hr.more (by simp), below_alloc1 w _⟩
def detZ (a b c d : Int) : List (Part × Int) := [((8, 0, 16384), a), ((8, 0, 2147483647), b), ((4, 0, 16777215), c), ((4, 0, 16777215), d)]
def slotZ (a b c : Int) : List (Part × Int) := [((8, 1, 14399), a), ((4, 0, 960), b), ((4, 0, 960), c)]
theorem slotZ_good (a b c : Int) : ∀ q ∈ slotZ a b c, goodP q.1 := by
  intro q hq
  simp only [slotZ, List.mem_cons, List.not_mem_nil, or_false] at hq
  rcases hq with rfl | rfl | rfl
  · exact good8 _ _ (by omega)
  · exact good4 _ _ (by omega) (by omega)
  · exact good4 _ _ (by omega) (by omega)
theorem detZ_good (a b c d : Int) : ∀ q ∈ detZ a b c d, goodP q.1 := by
  intro q hq
  simp only [detZ, List.mem_cons, List.not_mem_nil, or_false] at hq
  rcases hq with rfl | rfl | rfl | rfl
  · exact good8 _ _ (by omega)
  · exact good8 _ _ (by omega)
  · exact good4 _ _ (by omega) (by omega)
  · exact good4 _ _ (by omega) (by omega)
set_option maxRecDepth 100000 in
set_option maxHeartbeats 1000000 in
theorem vslot_any (a b c : Int) (w : World) (ha : (Lit.int .i64 a).wf = true) (hb : (Lit.int .i64 b).wf = true) (hc : (Lit.int .i64 c).wf = true) :
    Calls Try.prog 79 #[.agg #[.int .i64 a, .int .i64 b, .int .i64 c]] w fun e w' => e = .returned (.string ⟨(valV (slotZ a b c)).toArray⟩) ∧ Below w.heap.size w w' := by
  have hp := fun (A A2 : Option Addr) (W : World) h h2 => vput_any A 3 A2 3 (slotZ a b c) W (by simp [slotZ]) (slotZ_good a b c) (by
    intro q hq
    simp only [slotZ, List.mem_cons, List.not_mem_nil, or_false] at hq
    rcases hq with rfl | rfl | rfl <;> assumption) h h2
  have hs := slot_any
  generalize valV (slotZ a b c) = res at *
  go_enter Try.func79, Try.ntmps79
  go_wp2_with fail
  have hB := below_alloc1 w (.cells #[.int .i64 a, .int .i64 b, .int .i64 c] 66)
  have hsz : w.heap.size < (w.alloc (.cells #[.int .i64 a, .int .i64 b, .int .i64 c] 66)).heap.size := by simp
  have g0 : (w.alloc (.cells #[.int .i64 a, .int .i64 b, .int .i64 c] 66)).cell? ⟨w.heap.size, 0, none⟩ = some (.int .i64 a) := by rw [World.cell?_alloc_mark]; rfl
  have g1 : (w.alloc (.cells #[.int .i64 a, .int .i64 b, .int .i64 c] 66)).cell? ⟨w.heap.size, 1, none⟩ = some (.int .i64 b) := by rw [World.cell?_alloc_mark]; rfl
  have g2 : (w.alloc (.cells #[.int .i64 a, .int .i64 b, .int .i64 c] 66)).cell? ⟨w.heap.size, 2, none⟩ = some (.int .i64 c) := by rw [World.cell?_alloc_mark]; rfl
  generalize w.alloc (.cells #[.int .i64 a, .int .i64 b, .int .i64 c] 66) = W1 at *
  generalize hf : w.heap.size = f at *
  have HF := Lib.hid hf
  clear hf
  go_region_held3 (fun w' => w'.cell? ⟨f, 0, none⟩ = some (.int .i64 a) ∧ w'.cell? ⟨f, 1, none⟩ = some (.int .i64 b) ∧ w'.cell? ⟨f, 2, none⟩ = some (.int .i64 c)) (first | go_keep | exact (And.imp (keep_cell hb2) (And.imp (keep_cell hb2) (keep_cell hb2))) (by assumption) | exact (And.imp (keep_cell hb3) (And.imp (keep_cell hb3) (keep_cell hb3))) (by assumption)) (first | (go_at_call 100; refine (hs _).mono ?_; rintro e w2 ⟨A, rfl, hr, hb2⟩) | (go_at_call 99; refine (hp _ _ _ (by first | exact hr | exact (hr.below (below_alloc1 _ _)).more (by simp)) (by first | exact (Reads.new w2 (iv [a, b, c]) 3 (0, 0)).more (by simp) | exact (((Reads.new W1 (iv [a, b, c]) 3 (0, 0)).drew).below (hb2.mono (by simp))).more (by have := hb2.size; simp at this ⊢; omega))).mono ?_; rintro e w3 ⟨rfl, hb3⟩))
  all_goals
    have hB2 : Below W1.heap.size W1 w2 := by first | exact ((Below.refl _ W1).drew).trans hb2 | exact below_then (below_alloc1 W1 (.cells #[.int .i64 a, .int .i64 b, .int .i64 c] 3)) (((Below.refl _ _).drew).trans hb2)
    have hB3 : Below W1.heap.size W1 w3 := by first | exact below_then hB2 hb3 | exact below_then (hB2.trans ((below_alloc1 w2 _).mono hB2.size)) hb3
    have hB4 : Below f w w3 := hB.trans (hB3.mono (Nat.le_of_lt hsz))
    clear hb3 hb2 hp hs hr hB2 hB3
    go_wp2
    go_ret
    exact ⟨rfl, by rw [HF.out]; exact hB4⟩
theorem bcat (a b : List UInt8) : (ByteArray.mk a.toArray) ++ (ByteArray.mk b.toArray) = ByteArray.mk (a ++ b).toArray := by
  apply ByteArray.ext
  rw [ByteArray.data_append]
  simp
theorem in_any (n lo hi : Int) (w : World) : Calls Try.prog 101 #[.int .i64 n, .int .i64 lo, .int .i64 hi] w fun e w' => e = .returned (.bool (inB (8, lo, hi) n)) ∧ w = w' := by
  by_cases h1 : lo ≤ n
  · have e1 : inB (8, lo, hi) n = decide (n ≤ hi) := by unfold inB; exact decide_eq_decide.2 (by simp; omega)
    rw [e1]
    clear e1
    go_enter Try.func101, Try.ntmps101
    go_wp2
    go_ret
    exact ⟨rfl, rfl⟩
  · have e1 : inB (8, lo, hi) n = false := by unfold inB; exact decide_eq_false (by simp; omega)
    have d1 : decide (lo ≤ n) = false := decide_eq_false h1
    rw [e1]
    clear e1
    go_enter Try.func101, Try.ntmps101
    go_wp2
    go_ret
    exact ⟨rfl, rfl⟩
end Go.Proofs.Ytilkcecjciiboaa
