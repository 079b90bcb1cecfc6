/-
  Chapter 6's SuperPuts, walked.
-/
import Derived.Test.YtahomneljdjjjaaSup6
import Derived.Test.YtahomneljdjjjaaLaw09
namespace Go.Proofs.Ytahomneljdjjjaa
open Go.RowKit

def exS : Nat → Int := fun i => if i = 2 then 1 else if i = 4 then 2 else if i < 5 then 0 else 1
theorem super_example : okS exS 11 = true ∧ (superB exS).take 12 = [83, 67, 65, 78, 84, 76, 73, 78, 1, 0, 0, 0] := by decide +kernel
set_option maxRecDepth 100000 in
theorem lives06 (w : World) : Calls Try.prog 21 #[] w fun e w' => e = .returned (.bool true) ∧ Below w.heap.size w w' := by
  have hp : Calls Try.prog 17 #[.agg #[.int .i64 0, .int .i64 0, .int .i64 1, .int .i64 0, .int .i64 2, .int .i64 1, .int .i64 1, .int .i64 1, .int .i64 1, .int .i64 1, .int .i64 1]] w (GivesE 5 (bv (superV exS)) (superE exS) w) := put_super exS (by decide) w
  have hv : superV exS = superB exS ∧ superE exS = 0 := by unfold superV superE; rw [super_example.1]; exact ⟨rfl, rfl⟩
  rw [hv.1, hv.2] at hp
  have hl := superB_len exS
  have h6 := super_example.2
  generalize superB exS = x at *
  have HL := Lib.hid hl
  have H6 := Lib.hid h6
  clear hl h6 hv
  go_enter Try.func21, Try.ntmps21
  go_wp2_with fail
  refine hp.mono ?_
  rintro e w1 ⟨A, c, rfl, hown, hb⟩
  rw [bv_len, HL.out] at hown
  rw [bv_len, HL.out]
  have hcap := own_cap hown (by omega)
  have hR := (Reads.of_own hown).take 12
  rw [bv_take, H6.out] at hR
  have hcv := run_conv_bytes (P := Try.prog) w1 24 9 5 Try.underlying24 Try.underlying5 Try.underlying9 12 c rfl hR
  obtain ⟨g, rfl, _⟩ := own_cells hown (by omega)
  have c6 : 12 ≤ c := by omega
  have c7 : (12 : Int) ≤ (c : Int) := by omega
  clear hp hown hR
  go_wp2
  go_ret
  exact ⟨rfl, hb⟩
/-- what a world in the law's midst holds -/
structure Mid6 (f : Nat) (w : World) (C : Array Value) (X : List UInt8) (A1 A2 : Option Addr) (W : World) : Prop where
  b : Below f w W
  s : f ≤ W.heap.size
  row : W.heap[f]? = some (.cells C 23)
  r1 : Reads W W.heap.size A1 (bv X)
  r2 : Reads W W.heap.size A2 (bv X)
theorem Mid6.step {f : Nat} {w W W' : World} {C : Array Value} {X : List UInt8} {A1 A2 : Option Addr} (h : Mid6 f w C X A1 A2 W) (hb : Below W.heap.size W W') : Mid6 f w C X A1 A2 W' :=
  ⟨h.b.trans (hb.mono h.s), Nat.le_trans h.s hb.size, heap_keep h.row hb, h.r1.ext hb, h.r2.ext hb⟩
theorem cells11 {n : Nat → Int} {f : Nat} {W : World} (h : W.heap[f]? = some (.cells (supC n) 23)) :
    W.cell? ⟨f, 0, none⟩ = some (.int .i64 (n 0)) ∧ W.cell? ⟨f, 1, none⟩ = some (.int .i64 (n 1)) ∧ W.cell? ⟨f, 2, none⟩ = some (.int .i64 (n 2)) ∧ W.cell? ⟨f, 3, none⟩ = some (.int .i64 (n 3)) ∧ W.cell? ⟨f, 4, none⟩ = some (.int .i64 (n 4)) ∧ W.cell? ⟨f, 5, none⟩ = some (.int .i64 (n 5)) ∧ W.cell? ⟨f, 6, none⟩ = some (.int .i64 (n 6)) ∧ W.cell? ⟨f, 7, none⟩ = some (.int .i64 (n 7)) ∧ W.cell? ⟨f, 8, none⟩ = some (.int .i64 (n 8)) ∧ W.cell? ⟨f, 9, none⟩ = some (.int .i64 (n 9)) ∧ W.cell? ⟨f, 10, none⟩ = some (.int .i64 (n 10)) :=
  ⟨heap_cell h 0 rfl, heap_cell h 1 rfl, heap_cell h 2 rfl, heap_cell h 3 rfl, heap_cell h 4 rfl, heap_cell h 5 rfl, heap_cell h 6 rfl, heap_cell h 7 rfl, heap_cell h 8 rfl, heap_cell h 9 rfl, heap_cell h 10 rfl⟩
set_option maxRecDepth 100000 in
set_option maxHeartbeats 6000000 in
theorem law_SuperPuts' (n : Nat → Int) (hw : ∀ i, i < 11 → (Lit.int .i64 (n i)).wf = true) (w : World) :
    Calls Try.prog 3 #[.agg (supC n)] w fun e w' => e = .returned (.bool true) ∧ Below w.heap.size w w' := by
  have k1 := fun W => put_super n hw W
  have k2 := fun W => rput_super n W
  have k3 := fun W => right_any n W
  have k4 := fun W => rright_any n W
  have hss : (Try.prog.info? 23).map (·.size) = some (supC n).size := by
    rw [show (supC n).size = 11 from rfl]
    kernel_rfl
  have hs0 := heap_alloc_new w (.cells (supC n) 23)
  have HC := Lib.hid (fun (W : World) (h : W.heap[w.heap.size]? = some (.cells (supC n) 23)) => cells11 h)
  have HCC : Hid (supC n = #[.int .i64 (n 0), .int .i64 (n 1), .int .i64 (n 2), .int .i64 (n 3), .int .i64 (n 4), .int .i64 (n 5), .int .i64 (n 6), .int .i64 (n 7), .int .i64 (n 8), .int .i64 (n 9), .int .i64 (n 10)]) := rfl
  generalize supC n = C at *
  generalize superV n = X at *
  generalize superE n = E at *
  generalize okS n 11 = ok at *
  clear hw
  generalize n 0 = n0 at *
  generalize n 1 = n1 at *
  generalize n 2 = n2 at *
  generalize n 3 = n3 at *
  generalize n 4 = n4 at *
  generalize n 5 = n5 at *
  generalize n 6 = n6 at *
  generalize n 7 = n7 at *
  generalize n 8 = n8 at *
  generalize n 9 = n9 at *
  generalize n 10 = n10 at *
  have d1 : (ok == ok) = true := by simp
  have d2 : (E == E) = true := by simp
  go_enter Try.func3, Try.ntmps3
  go_wp2_with (refine wpList_load_row rfl 23 _ rfl w.heap.size rfl 23 _ _ _ hs0 Try.underlying23 rfl hss ?_)
  refine (k1 _).mono ?_
  rintro e w1 ⟨A1, c1, rfl, hown1, hb1⟩
  rw [bv_len] at hown1
  rw [bv_len]
  have hs1 := heap_keep hs0 hb1
  have hB1 := below_then (below_alloc1 w _) hb1
  clear k1 hb1
  go_wp2_with (refine wpList_load_row rfl 23 _ rfl w.heap.size rfl 23 _ _ _ hs1 Try.underlying23 rfl hss ?_)
  refine (k2 _).mono ?_
  rintro e w2 ⟨A2, c2, rfl, hown2, hb2⟩
  rw [bv_len] at hown2
  rw [bv_len]
  have hs2 := heap_keep hs1 hb2
  have HM := Lib.hid (show Mid6 w.heap.size w C X A1 A2 w2 from ⟨below_then hB1 hb2, (below_then hB1 hb2).size, hs2, (Reads.of_own hown1).ext hb2, Reads.of_own hown2⟩)
  obtain ⟨c0, c1', c2', c3, c4, c5, c6, c7, c8, c9, c10⟩ := HC.out w2 hs2
  rw [HCC.out] at k3 k4
  clear k2 hb2 hs0 hs1 hB1 hown1 hown2 hss hs2
  go_wp2_with fail
  go_region_with (first | (go_at_call 19; refine (k3 _).mono ?_; rintro e w3 ⟨rfl, hb3⟩; replace HM := Lib.hid (HM.out.step (by first | exact hb3 | exact undrew hb3)); obtain ⟨p0, p1, p2, p3, p4, p5, p6, p7, p8, p9, p10⟩ := HC.out w3 HM.out.row; clear c0 c1' c2' c3 c4 c5 c6 c7 c8 c9 c10; have cv1 := run_conv_bytes (P := Try.prog) w3 24 9 5 Try.underlying24 Try.underlying5 Try.underlying9 X.length c1 rfl HM.out.r1; have cv2 := run_conv_bytes (P := Try.prog) w3 24 9 5 Try.underlying24 Try.underlying5 Try.underlying9 X.length c2 rfl HM.out.r2) | (go_at_call 20; refine (k4 _).mono ?_; rintro e w4 ⟨rfl, hb4⟩; replace HM := Lib.hid (HM.out.step (by first | exact hb4 | exact undrew hb4)); obtain ⟨q0, q1, q2, q3, q4, q5, q6, q7, q8, q9, q10⟩ := HC.out w4 HM.out.row; have cv3 := run_conv_bytes (P := Try.prog) w4 24 9 5 Try.underlying24 Try.underlying5 Try.underlying9 X.length c1 rfl HM.out.r1; have cv4 := run_conv_bytes (P := Try.prog) w4 24 9 5 Try.underlying24 Try.underlying5 Try.underlying9 X.length c2 rfl HM.out.r2) | (go_at_call 21; refine (lives06 _).mono ?_; rintro e w5 ⟨rfl, hb5⟩; replace HM := Lib.hid (HM.out.step hb5)))
  all_goals
    have hbE := HM.out.b
    clear HM
    go_wp2
    go_ret
    exact ⟨rfl, hbE⟩
/-- a super's eleven numbers as one -/
def ofS (a b c d e f g h i j k : Int) : Nat → Int := fun n => [a, b, c, d, e, f, g, h, i, j, k].getD n 0
theorem ofS_wf {a b c d e f g h i j k : Int} (wa : (Lit.int .i64 a).wf = true) (wb : (Lit.int .i64 b).wf = true) (wc : (Lit.int .i64 c).wf = true) (wd : (Lit.int .i64 d).wf = true) (we : (Lit.int .i64 e).wf = true) (wf : (Lit.int .i64 f).wf = true) (wg : (Lit.int .i64 g).wf = true) (wh : (Lit.int .i64 h).wf = true) (wi : (Lit.int .i64 i).wf = true) (wj : (Lit.int .i64 j).wf = true) (wk : (Lit.int .i64 k).wf = true) :
    ∀ n, n < 11 → (Lit.int .i64 (ofS a b c d e f g h i j k n)).wf = true := by
  intro n hn
  have : n = 0 ∨ n = 1 ∨ n = 2 ∨ n = 3 ∨ n = 4 ∨ n = 5 ∨ n = 6 ∨ n = 7 ∨ n = 8 ∨ n = 9 ∨ n = 10 := by omega
  rcases this with rfl | rfl | rfl | rfl | rfl | rfl | rfl | rfl | rfl | rfl | rfl <;> assumption
theorem law_SuperPuts (a b c d e f g h i j k : Int) (w : World) (wa : (Lit.int .i64 a).wf = true) (wb : (Lit.int .i64 b).wf = true) (wc : (Lit.int .i64 c).wf = true) (wd : (Lit.int .i64 d).wf = true) (we : (Lit.int .i64 e).wf = true) (wf : (Lit.int .i64 f).wf = true) (wg : (Lit.int .i64 g).wf = true) (wh : (Lit.int .i64 h).wf = true) (wi : (Lit.int .i64 i).wf = true) (wj : (Lit.int .i64 j).wf = true) (wk : (Lit.int .i64 k).wf = true) :
    Calls Try.prog 3 #[.agg #[.int .i64 a, .int .i64 b, .int .i64 c, .int .i64 d, .int .i64 e, .int .i64 f, .int .i64 g, .int .i64 h, .int .i64 i, .int .i64 j, .int .i64 k]] w fun e w' => e = .returned (.bool true) ∧ Below w.heap.size w w' :=
  law_SuperPuts' (ofS a b c d e f g h i j k) (ofS_wf wa wb wc wd we wf wg wh wi wj wk) w
end Go.Proofs.Ytahomneljdjjjaa
