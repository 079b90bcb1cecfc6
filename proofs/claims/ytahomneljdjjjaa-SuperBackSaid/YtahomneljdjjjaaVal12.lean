/-
  Chapter 8's ValueReads, walked.
-/
import Derived.Test.YtahomneljdjjjaaVal11
import Derived.Test.YtahomneljdjjjaaLaw08
import Derived.Laws.StructEq
namespace Go.Proofs.Ytahomneljdjjjaa
open Go.RowKit

theorem eql_det (w : World) (a b c d a' b' c' d' : Int) : (binOp .eql 33 (.agg #[.int .i64 a, .int .i64 b, .int .i64 c, .int .i64 d]) (.agg #[.int .i64 a', .int .i64 b', .int .i64 c', .int .i64 d'])).run Try.prog w = .ok (.bool (a == a' && b == b' && c == c' && d == d')) w := by
  rw [run_eql_struct, run_equalIn_agg _ _ _ _ _ (by kernel_rfl) (by kernel_rfl)]
  simp only [Program.fieldsOf, Try.underlying33, Op.eqFields]
  simp [go_sem]
  by_cases h1 : a = a' <;> by_cases h2 : b = b' <;> by_cases h3 : c = c' <;> by_cases h4 : d = d' <;> simp [h1, h2, h3, h4]
theorem neq_det (w : World) (a b c d a' b' c' d' : Int) : (binOp .neq 33 (.agg #[.int .i64 a, .int .i64 b, .int .i64 c, .int .i64 d]) (.agg #[.int .i64 a', .int .i64 b', .int .i64 c', .int .i64 d'])).run Try.prog w = .ok (.bool (!(a == a' && b == b' && c == c' && d == d'))) w := by
  rw [run_neq_struct, run_equalIn_agg _ _ _ _ _ (by kernel_rfl) (by kernel_rfl)]
  simp only [Program.fieldsOf, Try.underlying33, Op.eqFields]
  simp [go_sem]
  by_cases h1 : a = a' <;> by_cases h2 : b = b' <;> by_cases h3 : c = c' <;> by_cases h4 : d = d' <;> simp [h1, h2, h3, h4]
theorem eql_slot (w : World) (a b c a' b' c' : Int) : (binOp .eql 35 (.agg #[.int .i64 a, .int .i64 b, .int .i64 c]) (.agg #[.int .i64 a', .int .i64 b', .int .i64 c'])).run Try.prog w = .ok (.bool (a == a' && b == b' && c == c')) w := by
  rw [run_eql_struct, run_equalIn_agg _ _ _ _ _ (by kernel_rfl) (by kernel_rfl)]
  simp only [Program.fieldsOf, Try.underlying35, Op.eqFields]
  simp [go_sem]
  by_cases h1 : a = a' <;> by_cases h2 : b = b' <;> by_cases h3 : c = c' <;> simp [h1, h2, h3]
theorem neq_slot (w : World) (a b c a' b' c' : Int) : (binOp .neq 35 (.agg #[.int .i64 a, .int .i64 b, .int .i64 c]) (.agg #[.int .i64 a', .int .i64 b', .int .i64 c'])).run Try.prog w = .ok (.bool (!(a == a' && b == b' && c == c'))) w := by
  rw [run_neq_struct, run_equalIn_agg _ _ _ _ _ (by kernel_rfl) (by kernel_rfl)]
  simp only [Program.fieldsOf, Try.underlying35, Op.eqFields]
  simp [go_sem]
  by_cases h1 : a = a' <;> by_cases h2 : b = b' <;> by_cases h3 : c = c' <;> simp [h1, h2, h3]
theorem guard_det : Try.prog.eqGuardType Try.prog.depth 33 = false := by kernel_rfl
theorem guard_slot : Try.prog.eqGuardType Try.prog.depth 35 = false := by kernel_rfl

set_option maxRecDepth 100000 in
set_option maxHeartbeats 4000000 in
theorem law_ValueReads (a0 : ByteArray) (w : World) (w0 : a0.size ≤ maxLen) :
    Calls Try.prog 14 #[.string a0] w fun e w' => e = .returned (.bool true) ∧ Below w.heap.size w w' := by
  obtain ⟨l0, rfl⟩ : ∃ l0 : List UInt8, a0 = ⟨l0.toArray⟩ := ⟨a0.data.toList, by simp⟩
  have m0 : l0.length ≤ 9223372036854775807 := by simpa [maxLen, ByteArray.size] using w0
  clear w0
  obtain ⟨s, hs, hd⟩ : ∃ s : List UInt8, s.length ≤ reachBytes ∧ (if 100 < l0.length then l0.take 100 else l0) = s := ⟨_, by split <;> simp [reachBytes] <;> omega, rfl⟩
  have c1 := vreadMap_any s
  have c2 := rreadMap_any s
  have c3 := vreadDetail_any s
  have c4 := rreadDetail_any s
  have c5 := vreadSlot_any s
  have c6 := rreadSlot_any s
  have c7 := vreadRoot_any s
  have c8 := rreadRoot_any s
  have c9 := vreadCount_any s
  have c10 := rreadCount_any s
  obtain ⟨a, b, c, d, hn⟩ := rd_details s
  rw [hn] at c3 c4
  simp only [iv, List.map_cons, List.map_nil] at c3 c4
  clear hn
  obtain ⟨x, y, z, hn⟩ := rd_slot s
  rw [hn] at c5 c6
  simp only [iv, List.map_cons, List.map_nil] at c5 c6
  clear hn
  have c11 := lives08
  have g1 := guard_det
  have g2 := guard_slot
  have q1 := fun W => eql_slot W x y z x y z
  have q2 := fun W => neq_det W a b c d a b c d
  simp only [BEq.rfl, Bool.and_self, Bool.not_true] at q1 q2
  generalize rd1 mapP s / 16777216 = v1 at *
  generalize rd1 mapP s % 16777216 = v2 at *
  generalize rdE [mapP] s = v3 at *
  generalize rdE detPs s = v4 at *
  generalize rdE slotPs s = v5 at *
  generalize rd1 rootP s = v6 at *
  generalize rdE [rootP] s = v7 at *
  generalize rd1 countP s = v8 at *
  generalize rdE [countP] s = v9 at *
  have hx : 100 < l0.length → (ByteArray.mk l0.toArray).extract 0 100 = ⟨s.toArray⟩ := fun hl => by
    rw [if_pos hl] at hd
    rw [← hd]
    apply ByteArray.ext
    simp
  by_cases hl : 100 < l0.length
  case pos =>
    have hx := hx hl
    have d1 : decide (100 < (l0.length : Int)) = true := decide_eq_true (by omega)
    have d2 : (100 : Int) ≤ (l0.length : Int) := by omega
    clear hd hl
    go_enter Try.func14, Try.ntmps14
    go_wp2_with fail
    refine (c1 _ hs).mono ?_
    rintro e w1 ⟨rfl, hb⟩
    have hB := hb
    clear c1 hb
    go_wp2_with fail
    refine (c2 _ hs).mono ?_
    rintro e w2 ⟨rfl, hb⟩
    have hB := below_then hB hb
    clear c2 hb
    go_wp2_with fail
    refine (c3 _ hs).mono ?_
    rintro e w3 ⟨rfl, hb⟩
    have hB := below_then hB hb
    clear c3 hb
    go_wp2_with fail
    refine (c4 _ hs).mono ?_
    rintro e w4 ⟨rfl, hb⟩
    have H1 := heap_keep (heap_alloc_new w3 (.cells #[.int .i64 a, .int .i64 b, .int .i64 c, .int .i64 d] 33)) hb
    have hB := below_then (hB.alloc hB.size (.cells #[.int .i64 a, .int .i64 b, .int .i64 c, .int .i64 d] 33)) hb
    clear c4 hb
    have G1 := heap_alloc' H1 (.cells #[.int .i64 a, .int .i64 b, .int .i64 c, .int .i64 d] 33)
    have G2 := heap_alloc_new w4 (.cells #[.int .i64 a, .int .i64 b, .int .i64 c, .int .i64 d] 33)
    have m10 := heap_cell G1 0 rfl
    have m11 := heap_cell G1 1 rfl
    have m12 := heap_cell G1 2 rfl
    have m13 := heap_cell G1 3 rfl
    have m20 := heap_cell G2 0 rfl
    have m21 := heap_cell G2 1 rfl
    have m22 := heap_cell G2 2 rfl
    have m23 := heap_cell G2 3 rfl
    clear G1 G2
    go_wp2_with fail
    refine (c5 _ hs).mono ?_
    rintro e w5 ⟨rfl, hb⟩
    have H2 := heap_keep (heap_alloc_new w4 (.cells #[.int .i64 a, .int .i64 b, .int .i64 c, .int .i64 d] 33)) hb
    have H1 := heap_keep (heap_alloc' H1 (.cells #[.int .i64 a, .int .i64 b, .int .i64 c, .int .i64 d] 33)) hb
    have hB := below_then (hB.alloc hB.size (.cells #[.int .i64 a, .int .i64 b, .int .i64 c, .int .i64 d] 33)) hb
    clear c5 hb
    go_wp2_with fail
    refine (c6 _ hs).mono ?_
    rintro e w6 ⟨rfl, hb⟩
    have H3 := heap_keep (heap_alloc_new w5 (.cells #[.int .i64 x, .int .i64 y, .int .i64 z] 35)) hb
    have H1 := heap_keep (heap_alloc' H1 (.cells #[.int .i64 x, .int .i64 y, .int .i64 z] 35)) hb
    have H2 := heap_keep (heap_alloc' H2 (.cells #[.int .i64 x, .int .i64 y, .int .i64 z] 35)) hb
    have hB := below_then (hB.alloc hB.size (.cells #[.int .i64 x, .int .i64 y, .int .i64 z] 35)) hb
    clear c6 hb
    go_wp2_with fail
    refine (c7 _ hs).mono ?_
    rintro e w7 ⟨rfl, hb⟩
    have H4 := heap_keep (heap_alloc_new w6 (.cells #[.int .i64 x, .int .i64 y, .int .i64 z] 35)) hb
    have H1 := heap_keep (heap_alloc' H1 (.cells #[.int .i64 x, .int .i64 y, .int .i64 z] 35)) hb
    have H2 := heap_keep (heap_alloc' H2 (.cells #[.int .i64 x, .int .i64 y, .int .i64 z] 35)) hb
    have H3 := heap_keep (heap_alloc' H3 (.cells #[.int .i64 x, .int .i64 y, .int .i64 z] 35)) hb
    have hB := below_then (hB.alloc hB.size (.cells #[.int .i64 x, .int .i64 y, .int .i64 z] 35)) hb
    clear c7 hb
    go_wp2_with fail
    refine (c8 _ hs).mono ?_
    rintro e w8 ⟨rfl, hb⟩
    have H1 := heap_keep H1 hb
    have H2 := heap_keep H2 hb
    have H3 := heap_keep H3 hb
    have H4 := heap_keep H4 hb
    have hB := below_then hB hb
    clear c8 hb
    go_wp2_with fail
    refine (c9 _ hs).mono ?_
    rintro e w9 ⟨rfl, hb⟩
    have H1 := heap_keep H1 hb
    have H2 := heap_keep H2 hb
    have H3 := heap_keep H3 hb
    have H4 := heap_keep H4 hb
    have hB := below_then hB hb
    clear c9 hb
    go_wp2_with fail
    refine (c10 _ hs).mono ?_
    rintro e w10 ⟨rfl, hb⟩
    have H1 := heap_keep H1 hb
    have H2 := heap_keep H2 hb
    have H3 := heap_keep H3 hb
    have H4 := heap_keep H4 hb
    have hB := below_then hB hb
    clear c10 hb
    have m30 := heap_cell H3 0 rfl
    have m31 := heap_cell H3 1 rfl
    have m32 := heap_cell H3 2 rfl
    have m40 := heap_cell H4 0 rfl
    have m41 := heap_cell H4 1 rfl
    have m42 := heap_cell H4 2 rfl
    go_wp2_with fail
    refine (c11 _).mono ?_
    rintro e w11 ⟨rfl, hb⟩
    have H1 := heap_keep H1 hb
    have H2 := heap_keep H2 hb
    have H3 := heap_keep H3 hb
    have H4 := heap_keep H4 hb
    have hB := below_then hB hb
    clear c11 hb
    clear H1 H2 H3 H4
    go_wp2
    go_ret
    exact ⟨rfl, hB⟩
  case neg =>
    rw [if_neg hl] at hd
    subst hd
    have d1 : decide (100 < (l0.length : Int)) = false := decide_eq_false (by omega)
    clear hx hl
    go_enter Try.func14, Try.ntmps14
    go_wp2_with fail
    refine (c1 _ hs).mono ?_
    rintro e w1 ⟨rfl, hb⟩
    have hB := hb
    clear c1 hb
    go_wp2_with fail
    refine (c2 _ hs).mono ?_
    rintro e w2 ⟨rfl, hb⟩
    have hB := below_then hB hb
    clear c2 hb
    go_wp2_with fail
    refine (c3 _ hs).mono ?_
    rintro e w3 ⟨rfl, hb⟩
    have hB := below_then hB hb
    clear c3 hb
    go_wp2_with fail
    refine (c4 _ hs).mono ?_
    rintro e w4 ⟨rfl, hb⟩
    have H1 := heap_keep (heap_alloc_new w3 (.cells #[.int .i64 a, .int .i64 b, .int .i64 c, .int .i64 d] 33)) hb
    have hB := below_then (hB.alloc hB.size (.cells #[.int .i64 a, .int .i64 b, .int .i64 c, .int .i64 d] 33)) hb
    clear c4 hb
    have G1 := heap_alloc' H1 (.cells #[.int .i64 a, .int .i64 b, .int .i64 c, .int .i64 d] 33)
    have G2 := heap_alloc_new w4 (.cells #[.int .i64 a, .int .i64 b, .int .i64 c, .int .i64 d] 33)
    have m10 := heap_cell G1 0 rfl
    have m11 := heap_cell G1 1 rfl
    have m12 := heap_cell G1 2 rfl
    have m13 := heap_cell G1 3 rfl
    have m20 := heap_cell G2 0 rfl
    have m21 := heap_cell G2 1 rfl
    have m22 := heap_cell G2 2 rfl
    have m23 := heap_cell G2 3 rfl
    clear G1 G2
    go_wp2_with fail
    refine (c5 _ hs).mono ?_
    rintro e w5 ⟨rfl, hb⟩
    have H2 := heap_keep (heap_alloc_new w4 (.cells #[.int .i64 a, .int .i64 b, .int .i64 c, .int .i64 d] 33)) hb
    have H1 := heap_keep (heap_alloc' H1 (.cells #[.int .i64 a, .int .i64 b, .int .i64 c, .int .i64 d] 33)) hb
    have hB := below_then (hB.alloc hB.size (.cells #[.int .i64 a, .int .i64 b, .int .i64 c, .int .i64 d] 33)) hb
    clear c5 hb
    go_wp2_with fail
    refine (c6 _ hs).mono ?_
    rintro e w6 ⟨rfl, hb⟩
    have H3 := heap_keep (heap_alloc_new w5 (.cells #[.int .i64 x, .int .i64 y, .int .i64 z] 35)) hb
    have H1 := heap_keep (heap_alloc' H1 (.cells #[.int .i64 x, .int .i64 y, .int .i64 z] 35)) hb
    have H2 := heap_keep (heap_alloc' H2 (.cells #[.int .i64 x, .int .i64 y, .int .i64 z] 35)) hb
    have hB := below_then (hB.alloc hB.size (.cells #[.int .i64 x, .int .i64 y, .int .i64 z] 35)) hb
    clear c6 hb
    go_wp2_with fail
    refine (c7 _ hs).mono ?_
    rintro e w7 ⟨rfl, hb⟩
    have H4 := heap_keep (heap_alloc_new w6 (.cells #[.int .i64 x, .int .i64 y, .int .i64 z] 35)) hb
    have H1 := heap_keep (heap_alloc' H1 (.cells #[.int .i64 x, .int .i64 y, .int .i64 z] 35)) hb
    have H2 := heap_keep (heap_alloc' H2 (.cells #[.int .i64 x, .int .i64 y, .int .i64 z] 35)) hb
    have H3 := heap_keep (heap_alloc' H3 (.cells #[.int .i64 x, .int .i64 y, .int .i64 z] 35)) hb
    have hB := below_then (hB.alloc hB.size (.cells #[.int .i64 x, .int .i64 y, .int .i64 z] 35)) hb
    clear c7 hb
    go_wp2_with fail
    refine (c8 _ hs).mono ?_
    rintro e w8 ⟨rfl, hb⟩
    have H1 := heap_keep H1 hb
    have H2 := heap_keep H2 hb
    have H3 := heap_keep H3 hb
    have H4 := heap_keep H4 hb
    have hB := below_then hB hb
    clear c8 hb
    go_wp2_with fail
    refine (c9 _ hs).mono ?_
    rintro e w9 ⟨rfl, hb⟩
    have H1 := heap_keep H1 hb
    have H2 := heap_keep H2 hb
    have H3 := heap_keep H3 hb
    have H4 := heap_keep H4 hb
    have hB := below_then hB hb
    clear c9 hb
    go_wp2_with fail
    refine (c10 _ hs).mono ?_
    rintro e w10 ⟨rfl, hb⟩
    have H1 := heap_keep H1 hb
    have H2 := heap_keep H2 hb
    have H3 := heap_keep H3 hb
    have H4 := heap_keep H4 hb
    have hB := below_then hB hb
    clear c10 hb
    have m30 := heap_cell H3 0 rfl
    have m31 := heap_cell H3 1 rfl
    have m32 := heap_cell H3 2 rfl
    have m40 := heap_cell H4 0 rfl
    have m41 := heap_cell H4 1 rfl
    have m42 := heap_cell H4 2 rfl
    go_wp2_with fail
    refine (c11 _).mono ?_
    rintro e w11 ⟨rfl, hb⟩
    have H1 := heap_keep H1 hb
    have H2 := heap_keep H2 hb
    have H3 := heap_keep H3 hb
    have H4 := heap_keep H4 hb
    have hB := below_then hB hb
    clear c11 hb
    clear H1 H2 H3 H4
    go_wp2
    go_ret
    exact ⟨rfl, hB⟩
end Go.Proofs.Ytahomneljdjjjaa
