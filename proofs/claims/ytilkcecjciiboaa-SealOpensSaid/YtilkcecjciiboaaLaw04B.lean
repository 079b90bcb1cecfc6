/-
  Chapter 4's SealOpens, walked.
-/
import Derived.Test.YtilkcecjciiboaaSeal7
import Derived.Test.YtilkcecjciiboaaLaw04
namespace Go.Proofs.Ytilkcecjciiboaa
open Go.RowKit

set_option maxRecDepth 100000 in
set_option maxHeartbeats 2000000 in
theorem law_SealOpens (A0 : Option Addr) (c0 : Nat) (l0 : List UInt8) (a1 a2 : Int) (w : World) (q0 : l0.length ≤ c0) (_m0 : l0.length ≤ reachBytes) (r0 : Reads w w.heap.size A0 (bv l0)) (_w1 : (Lit.int .i64 a1).wf = true) (_w2 : (Lit.int .i64 a2).wf = true) :
    Calls Try.prog 10 #[.slice A0 l0.length c0, .int .i64 a1, .int .i64 a2] w fun e w' => e = .returned (.bool true) ∧ Below w.heap.size w w' := by
  have r6 := r0.take 600
  rw [bv_take] at r6
  have hl6 : (l0.take 600).length = min 600 l0.length := List.length_take ..
  go_enter Try.func10, Try.ntmps10
  go_upto_if 19 with fail
  go_cut [0] (fun s0 wx => w = wx ∧ ∃ s : List UInt8, s0 = .slice A0 s.length c0 ∧ s.length ≤ c0 ∧ Reads w w.heap.size A0 (bv s))
  case first =>
    by_cases h1 : 600 < l0.length
    · have d1 : decide (600 < (l0.length : Int)) = true := decide_eq_true (by omega)
      have q1 : (600 : Int) ≤ (c0 : Int) := by omega
      go_wp2
      go_meet
      exact ⟨rfl, l0.take 600, by rw [hl6, Nat.min_eq_left (by omega)], by omega, r6⟩
    · have d1 : decide (600 < (l0.length : Int)) = false := decide_eq_false (by omega)
      go_wp2
      go_meet
      exact ⟨rfl, l0, rfl, q0, r0⟩
  case rest =>
    obtain ⟨rfl, s, rfl, hc, hr⟩ := hcut
    have k1 := open_any A0 c0 s a1 a2 w hc hr
    have k2 := fun (W : World) (hb : Below w.heap.size w W) => ropen_any A0 c0 s a1 a2 W hc (hr.ext hb)
    have k3 := fun (W : World) (hb : Below w.heap.size w W) => which_any A0 c0 s W hc (hr.ext hb)
    have k4 := fun (W : World) (hb : Below w.heap.size w W) => rwhich_any A0 c0 s W hc (hr.ext hb)
    generalize openV s a1 a2 = X at *
    generalize openE s a1 a2 = E at *
    generalize wkV s = K at *
    generalize wnV s = N at *
    generalize whichB s = B at *
    have d1 : (E == E) = true := by simp
    have d2 : (K == K) = true := by simp
    have d3 : (N == N) = true := by simp
    have d4 : (B == B) = true := by simp
    clear r0 r6 hl6 q0
    go_wp2_with fail
    refine k1.mono ?_
    rintro e w1 ⟨A1, c1, rfl, hown1, hb1⟩
    rw [bv_len] at hown1
    rw [bv_len]
    have k5 := k2 _ hb1
    clear k1 k2
    go_wp2_with fail
    refine k5.mono ?_
    rintro e w2 ⟨A3, c3, rfl, hown3, hb3⟩
    rw [bv_len] at hown3
    rw [bv_len]
    have hB2 := below_then hb1 hb3
    have hr1 := (Reads.of_own hown1).ext hb3
    have hr3 := Reads.of_own hown3
    have k6 := k3 _ hB2
    clear k5 k3 hb1 hb3 hown1 hown3
    go_wp2_with fail
    refine k6.mono ?_
    rintro e w3 ⟨rfl, hb4⟩
    have hB3 := below_then hB2 hb4
    have hr1' := hr1.ext hb4
    have hr3' := hr3.ext hb4
    have k7 := k4 _ hB3
    clear k6 k4 hb4 hr1 hr3
    go_wp2_with fail
    refine k7.mono ?_
    rintro e w4 ⟨rfl, hb5⟩
    have hB4 := below_then hB3 hb5
    have cv1 := run_conv_bytes (P := Try.prog) w4 22 9 5 Try.underlying22 Try.underlying5 Try.underlying9 X.length c1 rfl (hr1'.ext hb5)
    have cv2 := run_conv_bytes (P := Try.prog) w4 22 9 5 Try.underlying22 Try.underlying5 Try.underlying9 X.length c3 rfl (hr3'.ext hb5)
    clear k7 hb5 hr1' hr3' hB3 hB2
    go_wp2_with fail
    refine (lives04 _).mono ?_
    rintro e w5 ⟨rfl, hb6⟩
    have hB5 := below_then hB4 hb6
    go_wp2
    go_ret
    exact ⟨rfl, hB5⟩
end Go.Proofs.Ytilkcecjciiboaa
