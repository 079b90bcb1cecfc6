/-
  Chapter 9's BitsPuts, walked.
-/
import Derived.Test.YtahomneljdjjjaaBits3
namespace Go.Proofs.Ytahomneljdjjjaa
open Go.RowKit

theorem own_cap {w : World} {B n c : Nat} {e : TypeId} {A : Option Addr} {xs : List Value} (h : w.ownsRow B e 1 (.slice A n c) n xs) (hn : 0 < n) : n ≤ c := by
  rcases h.2 with ⟨hv, hz⟩ | ⟨g', cap, cur, hv, _, _, hnc, _⟩
  · omega
  · injection hv with e1 e2 e3
    omega
theorem bits_example : bitsE [1, 2, 3, 0, 1] = 0 ∧ bitsV [1, 2, 3, 0, 1] = bitsB [1, 2, 3, 0, 1] ∧ (bitsB [1, 2, 3, 0, 1]).take 6 = [5, 0, 0, 0, 57, 1] := by decide +kernel
set_option maxRecDepth 100000 in
theorem lives09 (w : World) : Calls Try.prog 41 #[] w fun e w' => e = .returned (.bool true) ∧ Below w.heap.size w w' := by
  have hr := Reads.new w (iv [1, 2, 3, 0, 1]) 3 (0, 0)
  have hp := bput_any (some ⟨w.heap.size, 0, none⟩) 5 [1, 2, 3, 0, 1] (w.alloc (.cells (iv [1, 2, 3, 0, 1]).toArray 3)) (by simp [reachBytes]) (hr.more (by simp))
  rw [bits_example.1, bits_example.2.1] at hp
  have hl := bitsB_len [1, 2, 3, 0, 1]
  have h6 := bits_example.2.2
  generalize bitsB [1, 2, 3, 0, 1] = x at *
  have HL := Lib.hid hl
  have H6 := Lib.hid h6
  clear hl h6 hr
  go_enter Try.func41, Try.ntmps41
  go_wp2_with fail
  refine hp.mono ?_
  rintro e w1 ⟨A, c, rfl, hown, hb⟩
  rw [bv_len, HL.out] at hown
  rw [bv_len, HL.out]
  have hB := below_then (below_alloc1 w _) hb
  have hcap := own_cap hown (by omega)
  have hR := (Reads.of_own hown).take 6
  rw [bv_take, H6.out] at hR
  have hcv := run_conv_bytes (P := Try.prog) w1 24 9 5 Try.underlying24 Try.underlying5 Try.underlying9 6 c rfl hR
  obtain ⟨g, rfl, _⟩ := own_cells hown (by omega)
  have c6 : 6 ≤ c := by omega
  have c7 : (6 : Int) ≤ (c : Int) := by omega
  clear hp hown hb hR
  go_wp2
  go_ret
  exact ⟨rfl, hB⟩
set_option maxHeartbeats 1000000 in
theorem law_BitsPuts (A0 : Option Addr) (c0 : Nat) (l0 : List Int) (w : World) (_q0 : l0.length ≤ c0) (m0 : l0.length * 8 ≤ reachBytes) (_f0 : ∀ x ∈ l0, (Lit.int .i64 x).wf = true) (r0 : Reads w w.heap.size A0 (iv l0)) :
    Calls Try.prog 8 #[.slice A0 l0.length c0] w fun e w' => e = .returned (.bool true) ∧ Below w.heap.size w w' := by
  have mm := m0
  simp only [reachBytes] at mm
  by_cases h1 : 2000 < l0.length
  · have d1 : decide (2000 < (l0.length : Int)) = true := decide_eq_true (by omega)
    go_enter Try.func8, Try.ntmps8
    go_wp2_with fail
    refine (lives09 _).mono ?_
    rintro e w1 ⟨rfl, hb⟩
    go_wp2
    go_ret
    exact ⟨rfl, hb⟩
  have d1 : decide (2000 < (l0.length : Int)) = false := decide_eq_false (by omega)
  have k1 := bput_any A0 c0 l0 w m0 r0
  have k2 := fun W hb => rput9_any A0 c0 l0 W m0 (r0.ext (w' := W) hb)
  have k3 := fun W hb => bfree_any A0 c0 l0 W _ m0 (r0.below (w' := W) hb)
  have k4 := fun W hb => rfree_any A0 c0 l0 W _ m0 (r0.below (w' := W) hb)
  generalize bitsV l0 = X at *
  generalize bitsE l0 = E at *
  generalize zerosN l0 = z at *
  generalize firstN l0 = f at *
  have d2 : (E == E) = true := by simp
  have d3 : ((z : Int) == (z : Int)) = true := by simp
  have d4 : ((f : Int) == (f : Int)) = true := by simp
  go_enter Try.func8, Try.ntmps8
  go_wp2_with fail
  refine k1.mono ?_
  rintro e w1 ⟨A1, c1, rfl, hown1, hb1⟩
  rw [bv_len] at hown1
  rw [bv_len]
  clear k1
  go_wp2_with fail
  refine (k2 _ hb1).mono ?_
  rintro e w2 ⟨A2, c2, rfl, hown2, hb⟩
  rw [bv_len] at hown2
  rw [bv_len]
  have hb2 := below_then hb1 hb
  have cv1 := run_conv_bytes (P := Try.prog) w2 24 9 5 Try.underlying24 Try.underlying5 Try.underlying9 X.length c1 rfl (Reads.of_own (own_keep hown1 hb))
  have cv2 := run_conv_bytes (P := Try.prog) w2 24 9 5 Try.underlying24 Try.underlying5 Try.underlying9 X.length c2 rfl (Reads.of_own hown2)
  clear k2 hown1 hown2 hb hb1
  go_wp2_with fail
  refine (k3 _ hb2).mono ?_
  rintro e w3 ⟨rfl, rfl⟩
  go_wp2_with fail
  refine (k4 _ hb2).mono ?_
  rintro e w3 ⟨rfl, rfl⟩
  clear k3 k4
  go_wp2_with fail
  refine (lives09 _).mono ?_
  rintro e w4 ⟨rfl, hb⟩
  have hb4 := below_then hb2 hb
  go_wp2
  go_ret
  exact ⟨rfl, hb4⟩
end Go.Proofs.Ytahomneljdjjjaa
