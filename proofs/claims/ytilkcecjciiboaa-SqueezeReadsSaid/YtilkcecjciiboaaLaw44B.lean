/-
  Chapter 44's SqueezeReads, walked.
-/
import Derived.Test.YtilkcecjciiboaaLaw44
namespace Go.Proofs.Ytilkcecjciiboaa
open Go.RowKit
set_option maxRecDepth 100000 in
set_option maxHeartbeats 4000000 in
theorem law_SqueezeReads (A0 : Option Addr) (c0 : Nat) (l0 : List UInt8) (a1 : Int) (w : World) (q0 : l0.length ≤ c0) (_m0 : l0.length ≤ reachBytes) (r0 : Reads w w.heap.size A0 (bv l0)) (w1 : (Lit.int .i64 a1).wf = true) :
    Calls Try.prog 6 #[.slice A0 l0.length c0, .int .i64 a1] w fun e w' => e = .returned (.bool true) ∧ Below w.heap.size w w' := by
  have r6 := r0.take 1000
  rw [bv_take] at r6
  have hl6 : (l0.take 1000).length = min 1000 l0.length := List.length_take ..
  obtain ⟨u1, u2⟩ := wf_i64 w1
  go_enter Try.func6, Try.ntmps6
  go_upto_if 11 with fail
  go_cut [0] (fun s0 wx => w = wx ∧ ∃ s : List UInt8, s0 = .slice A0 s.length c0 ∧ s.length ≤ 1000 ∧ s.length ≤ c0 ∧ Reads w w.heap.size A0 (bv s))
  case first =>
    by_cases h1 : 1000 < l0.length
    · have d1 : decide (1000 < (l0.length : Int)) = true := decide_eq_true (by omega)
      have q1 : (1000 : Int) ≤ (c0 : Int) := by omega
      go_wp2
      go_meet
      exact ⟨rfl, l0.take 1000, by rw [hl6, Nat.min_eq_left (by omega)], by omega, by omega, r6⟩
    · have d1 : decide (1000 < (l0.length : Int)) = false := decide_eq_false (by omega)
      go_wp2
      go_meet
      exact ⟨rfl, l0, rfl, by omega, by omega, r0⟩
  case rest =>
    obtain ⟨rfl, s, rfl, hs5, hsc, hr⟩ := hcut
    have k1 := loose_any A0 c0 s a1 u1 u2 (by omega) hsc w hr
    have k2 := fun (W : World) (hb : Below w.heap.size w W) => rloose_any A0 c0 s a1 u1 u2 (by omega) hsc W (hr.ext hb)
    generalize (looseR a1 s []).1 = X at *
    generalize (looseR a1 s []).2 = E at *
    have d1 : (E == E) = true := by simp
    clear r6 hl6 r0
    go_wp2_with fail
    refine k1.mono ?_
    rintro e w1 ⟨A1, c1, rfl, hown1, hb1⟩
    rw [bv_len] at hown1
    rw [bv_len]
    have k5 := k2 _ hb1
    clear k1 k2
    go_wp2_with fail
    refine k5.mono ?_
    rintro e w2 ⟨A3, c3, rfl, hown3, hb3⟩
    rw [bv_len] at hown3
    rw [bv_len]
    have hB2 := below_then hb1 hb3
    have cv1 := run_conv_bytes (P := Try.prog) w2 22 9 5 Try.underlying22 Try.underlying5 Try.underlying9 X.length c1 rfl ((Reads.of_own hown1).ext hb3)
    have cv2 := run_conv_bytes (P := Try.prog) w2 22 9 5 Try.underlying22 Try.underlying5 Try.underlying9 X.length c3 rfl (Reads.of_own hown3)
    clear k5 hb1 hb3 hown1 hown3 hr
    go_wp2_with fail
    refine (lives44 _).mono ?_
    rintro e w5 ⟨rfl, hb5⟩
    have hB5 := below_then hB2 hb5
    go_wp2
    go_ret
    exact ⟨rfl, hB5⟩
end Go.Proofs.Ytilkcecjciiboaa
