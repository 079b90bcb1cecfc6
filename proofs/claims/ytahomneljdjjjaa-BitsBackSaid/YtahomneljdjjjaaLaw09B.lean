/-
  Chapter 9's BitsReads, walked.
-/
import Derived.Test.YtahomneljdjjjaaBits2
import Derived.Test.YtahomneljdjjjaaBits4
import Derived.Test.YtahomneljdjjjaaRef1C
import Derived.Test.YtahomneljdjjjaaLaw09
import Derived.Deep.DeepCutAuto
namespace Go.Proofs.Ytahomneljdjjjaa
open Go.RowKit

theorem brdL_len (s : List UInt8) : (brdL s).length ≤ 960 := by
  unfold brdL
  by_cases h : brdE s = 0
  · rw [if_pos h, digs_len]
    have hc : rdCnt s ≤ 960 := by
      unfold brdE at h
      by_cases h1 : s.length = 244
      · rw [if_pos h1] at h
        by_cases h2 : rdCnt s ≤ 960
        · exact h2
        · rw [if_neg h2] at h
          exact absurd h (by decide)
      · rw [if_neg h1] at h
        exact absurd h (by decide)
    omega
  · rw [if_neg h]; simp
set_option maxHeartbeats 1000000 in
theorem law_BitsReads (A0 : Option Addr) (c0 : Nat) (l0 : List UInt8) (w : World) (_q0 : l0.length ≤ c0) (m0 : l0.length ≤ reachBytes) (r0 : Reads w w.heap.size A0 (bv l0)) :
    Calls Try.prog 10 #[.slice A0 l0.length c0] w fun e w' => e = .returned (.bool true) ∧ Below w.heap.size w w' := by
  have mm := m0
  simp only [reachBytes] at mm
  have r6 := r0.take 600
  rw [bv_take] at r6
  have hl6 : (l0.take 600).length = min 600 l0.length := List.length_take ..
  go_enter Try.func10, Try.ntmps10
  go_upto_if 9 with fail
  go_cut [0] (fun s0 wx => w = wx ∧ ∃ s : List UInt8, s0 = .slice A0 s.length c0 ∧ s.length ≤ 600 ∧ Reads w w.heap.size A0 (bv s))
  case first =>
    by_cases h1 : 600 < l0.length
    · have d1 : decide (600 < (l0.length : Int)) = true := decide_eq_true (by omega)
      have q1 : (600 : Int) ≤ (c0 : Int) := by omega
      go_wp2
      go_meet
      exact ⟨rfl, l0.take 600, by rw [hl6, Nat.min_eq_left (by omega)], by omega, r6⟩
    · have d1 : decide (600 < (l0.length : Int)) = false := decide_eq_false (by omega)
      go_wp2
      go_meet
      exact ⟨rfl, l0, rfl, by omega, r0⟩
  case rest =>
    obtain ⟨rfl, s, rfl, hs, hr⟩ := hcut
    have hm : s.length ≤ reachBytes := by simp only [reachBytes]; omega
    have k1 := bread_any A0 c0 s w hm hr
    have k2 := fun W hb => rread9_any A0 c0 s W hm (hr.ext (w' := W) hb)
    have hL := brdL_len s
    generalize brdL s = L at *
    generalize brdE s = E at *
    have hmL : L.length * 8 ≤ reachBytes := by simp only [reachBytes]; omega
    have d2 : (E == E) = true := by simp
    clear r0 r6 hl6
    go_wp2_with fail
    refine k1.mono ?_
    rintro e w1 ⟨A1, c1, rfl, hown1, hb1⟩
    rw [iv_len] at hown1
    rw [iv_len]
    clear k1
    go_wp2_with fail
    refine (k2 _ hb1).mono ?_
    rintro e w2 ⟨A2, c2, rfl, hown2, hb⟩
    rw [iv_len] at hown2
    rw [iv_len]
    have hb2 := below_then hb1 hb
    have k3 := same_any A1 c1 A2 c2 L w2 _ _ hmL (Reads.of_own (own_keep hown1 hb)) (Reads.of_own hown2)
    clear k2 hown1 hown2 hb hb1
    go_wp2_with fail
    refine k3.mono ?_
    rintro e w3 ⟨rfl, n, rfl⟩
    have hb3 := below_drewN hb2 n
    clear k3 hb2
    go_wp2_with fail
    refine (lives09 _).mono ?_
    rintro e w4 ⟨rfl, hb⟩
    have hb4 := below_then hb3 hb
    go_wp2
    go_ret
    exact ⟨rfl, hb4⟩
end Go.Proofs.Ytahomneljdjjjaa
