/-
  Chapter 6's SuperReads, walked.
-/
import Derived.Test.YtahomneljdjjjaaSup9
import Derived.Test.YtahomneljdjjjaaLaw06
import Derived.Deep.DeepCutAuto
namespace Go.Proofs.Ytahomneljdjjjaa
open Go.RowKit

set_option maxRecDepth 100000 in
set_option maxHeartbeats 2000000 in
theorem law_SuperReads (A0 : Option Addr) (c0 : Nat) (l0 : List UInt8) (w : World) (q0 : l0.length ≤ c0) (m0 : l0.length ≤ reachBytes) (r0 : Reads w w.heap.size A0 (bv l0)) :
    Calls Try.prog 12 #[.slice A0 l0.length c0] w fun e w' => e = .returned (.bool true) ∧ Below w.heap.size w w' := by
  have mm := m0
  simp only [reachBytes] at mm
  have r6 := r0.take 600
  rw [bv_take] at r6
  have hl6 : (l0.take 600).length = min 600 l0.length := List.length_take ..
  go_enter Try.func12, Try.ntmps12
  go_upto_if 9 with fail
  go_cut [0] (fun s0 wx => w = wx ∧ ∃ s : List UInt8, s0 = .slice A0 s.length c0 ∧ s.length ≤ 600 ∧ s.length ≤ c0 ∧ Reads w w.heap.size A0 (bv s))
  case first =>
    by_cases h1 : 600 < l0.length
    · have d1 : decide (600 < (l0.length : Int)) = true := decide_eq_true (by omega)
      have q1 : (600 : Int) ≤ (c0 : Int) := by omega
      go_wp2
      go_meet
      exact ⟨rfl, l0.take 600, by rw [hl6, Nat.min_eq_left (by omega)], by omega, by omega, r6⟩
    · have d1 : decide (600 < (l0.length : Int)) = false := decide_eq_false (by omega)
      go_wp2
      go_meet
      exact ⟨rfl, l0, rfl, by omega, q0, r0⟩
  case rest =>
    obtain ⟨rfl, s, rfl, hs, hc, hr⟩ := hcut
    have hm : s.length ≤ reachBytes := by simp only [reachBytes]; omega
    have k1 : Calls Try.prog 52 #[.slice A0 s.length c0] w fun e w' => e = .returned (.tuple #[.agg #[.int .i64 (readS s 0), .int .i64 (readS s 1), .int .i64 (readS s 2), .int .i64 (readS s 3), .int .i64 (readS s 4), .int .i64 (readS s 5), .int .i64 (readS s 6), .int .i64 (readS s 7), .int .i64 (readS s 8), .int .i64 (readS s 9), .int .i64 (readS s 10)], .int .i64 (readE s)]) ∧ Below w.heap.size w w' := read_super A0 c0 s w hm hr
    have k2 : ∀ W, Below w.heap.size w W → Calls Try.prog 53 #[.slice A0 s.length c0] W fun e w' => e = .returned (.tuple #[.agg #[.int .i64 (readS s 0), .int .i64 (readS s 1), .int .i64 (readS s 2), .int .i64 (readS s 3), .int .i64 (readS s 4), .int .i64 (readS s 5), .int .i64 (readS s 6), .int .i64 (readS s 7), .int .i64 (readS s 8), .int .i64 (readS s 9), .int .i64 (readS s 10)], .int .i64 (readE s)]) ∧ Below W.heap.size W w' := fun W hb => rread_super A0 c0 s W hc hm (hr.ext hb)
    generalize readS s 0 = n0 at *
    generalize readS s 1 = n1 at *
    generalize readS s 2 = n2 at *
    generalize readS s 3 = n3 at *
    generalize readS s 4 = n4 at *
    generalize readS s 5 = n5 at *
    generalize readS s 6 = n6 at *
    generalize readS s 7 = n7 at *
    generalize readS s 8 = n8 at *
    generalize readS s 9 = n9 at *
    generalize readS s 10 = n10 at *
    generalize readE s = E at *
    have d2 : (E == E) = true := by simp
    clear r0 r6 hl6
    go_wp2_with fail
    refine k1.mono ?_
    rintro e w1 ⟨rfl, hb1⟩
    have hB1 := hb1.alloc hb1.size (.cells #[.int .i64 n0, .int .i64 n1, .int .i64 n2, .int .i64 n3, .int .i64 n4, .int .i64 n5, .int .i64 n6, .int .i64 n7, .int .i64 n8, .int .i64 n9, .int .i64 n10] 23)
    clear k1
    go_wp2_with fail
    refine (k2 _ hB1).mono ?_
    rintro e w2 ⟨rfl, hb2⟩
    have hB2 := below_then hB1 hb2
    have hrow := heap_keep (heap_alloc_new w1 (.cells #[.int .i64 n0, .int .i64 n1, .int .i64 n2, .int .i64 n3, .int .i64 n4, .int .i64 n5, .int .i64 n6, .int .i64 n7, .int .i64 n8, .int .i64 n9, .int .i64 n10] 23)) hb2
    have hrA := heap_alloc' hrow (.cells #[.int .i64 n0, .int .i64 n1, .int .i64 n2, .int .i64 n3, .int .i64 n4, .int .i64 n5, .int .i64 n6, .int .i64 n7, .int .i64 n8, .int .i64 n9, .int .i64 n10] 23)
    have hrB := heap_alloc_new w2 (.cells #[.int .i64 n0, .int .i64 n1, .int .i64 n2, .int .i64 n3, .int .i64 n4, .int .i64 n5, .int .i64 n6, .int .i64 n7, .int .i64 n8, .int .i64 n9, .int .i64 n10] 23)
    have hsz2 : (Try.prog.info? 23).map (·.size) = some (#[.int .i64 n0, .int .i64 n1, .int .i64 n2, .int .i64 n3, .int .i64 n4, .int .i64 n5, .int .i64 n6, .int .i64 n7, .int .i64 n8, .int .i64 n9, .int .i64 n10] : Array Value).size := sup_size fun _ => 0
    have hB3 := hB2.alloc hB2.size (.cells #[.int .i64 n0, .int .i64 n1, .int .i64 n2, .int .i64 n3, .int .i64 n4, .int .i64 n5, .int .i64 n6, .int .i64 n7, .int .i64 n8, .int .i64 n9, .int .i64 n10] 23)
    clear k2 hb2 hB1 hrow
    go_wp2_with (first | (refine wpList_load_row rfl 23 _ rfl w1.heap.size rfl 23 _ _ _ hrA Try.underlying23 rfl hsz2 ?_) | (refine wpList_load_row rfl 23 _ rfl w2.heap.size rfl 23 _ _ _ hrB Try.underlying23 rfl hsz2 ?_))
    refine (lives06 _).mono ?_
    rintro e w4 ⟨rfl, hb4⟩
    have hB4 := below_then hB3 hb4
    go_wp2
    go_ret
    exact ⟨rfl, hB4⟩
end Go.Proofs.Ytahomneljdjjjaa
