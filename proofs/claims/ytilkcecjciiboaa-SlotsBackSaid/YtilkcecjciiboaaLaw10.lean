/-
  Chapter 10's SlotsPuts and SlotsReads, walked.
-/
import Derived.Test.YtilkcecjciiboaaSlot5
import Derived.Test.YtilkcecjciiboaaOpen3
import Derived.Deep.DeepCutAuto
namespace Go.Proofs.Ytilkcecjciiboaa
open Go.RowKit

set_option maxRecDepth 100000 in
set_option maxHeartbeats 2000000 in
theorem law_SlotsPuts (A0 : Option Addr) (c0 : Nat) (l0 : List S3) (w : World) (_q0 : l0.length ≤ c0) (m0 : l0.length * 24 ≤ reachBytes) (f0 : ∀ p ∈ l0, (Lit.int .i64 p.1).wf = true ∧ (Lit.int .i64 p.2.1).wf = true ∧ (Lit.int .i64 p.2.2).wf = true) (r0 : Reads3 w w.heap.size A0 l0) :
    Calls Try.prog 12 #[.slice A0 l0.length c0] w fun e w' => e = .returned (.bool true) ∧ Below w.heap.size w w' := by
  have mm := m0
  simp only [reachBytes] at mm
  by_cases hl : 100 < l0.length
  · go_enter Try.func12, Try.ntmps12
    go_wp2_with fail
    refine (lives10 _).mono ?_
    rintro e w1 ⟨rfl, hb1⟩
    go_wp2
    go_ret
    exact ⟨rfl, hb1⟩
  · have k1 := sput_any A0 c0 l0 w f0 m0 r0
    have k2 := fun (W : World) (hb : Below w.heap.size w W) => rsput_any A0 c0 l0 W m0 ((r0.below hb).more hb.size)
    generalize slotsV l0 = X at *
    generalize slotsE l0 = E at *
    have d2 : (E == E) = true := by simp
    go_enter Try.func12, Try.ntmps12
    go_wp2_with fail
    refine k1.mono ?_
    rintro e w1 ⟨A1, c1, rfl, hown1, hb1⟩
    rw [bv_len] at hown1
    rw [bv_len]
    have k3 := k2 w1 hb1
    clear k1 k2
    go_wp2_with fail
    refine k3.mono ?_
    rintro e w2 ⟨A2, c2, rfl, hc2, hr2, hb2⟩
    rw [bv_len] at hc2
    rw [bv_len]
    have hB2 := below_then hb1 hb2
    have cv1 := run_conv_bytes (P := Try.prog) w2 22 9 5 Try.underlying22 Try.underlying5 Try.underlying9 X.length c1 rfl ((Reads.of_own hown1).ext hb2)
    have cv2 := run_conv_bytes (P := Try.prog) w2 22 9 5 Try.underlying22 Try.underlying5 Try.underlying9 X.length c2 rfl hr2
    clear k3 hb1 hb2 hown1 hr2 r0
    go_wp2_with fail
    refine (lives10 _).mono ?_
    rintro e w3 ⟨rfl, hb3⟩
    have hB3 := below_then hB2 hb3
    go_wp2
    go_ret
    exact ⟨rfl, hB3⟩
theorem rslL_len (s : List UInt8) (_h : s.length ≤ 600) : (rslL s).length * 24 ≤ reachBytes := by
  have : (rslL s).length ≤ 15 := by
    cases hf : formS s with
    | false => rw [(rsl_no hf).1]; simp
    | true =>
      have hq : cntS s ≤ 15 := by
        unfold formS at hf
        simp only [Bool.and_eq_true, decide_eq_true_eq] at hf
        exact hf.2.1
      cases hg : goodS s (cntS s) with
      | false => rw [(rsl_bad hf hg).1]; simp
      | true => rw [(rsl_ok hf hg).1, trisS_len]; exact hq
  simp only [reachBytes]
  omega
set_option maxRecDepth 100000 in
set_option maxHeartbeats 2000000 in
theorem law_SlotsReads (A0 : Option Addr) (c0 : Nat) (l0 : List UInt8) (w : World) (q0 : l0.length ≤ c0) (m0 : l0.length ≤ reachBytes) (r0 : Reads w w.heap.size A0 (bv l0)) :
    Calls Try.prog 13 #[.slice A0 l0.length c0] w fun e w' => e = .returned (.bool true) ∧ Below w.heap.size w w' := by
  have mm := m0
  simp only [reachBytes] at mm
  have r6 := r0.take 600
  rw [bv_take] at r6
  have hl6 : (l0.take 600).length = min 600 l0.length := List.length_take ..
  go_enter Try.func13, Try.ntmps13
  go_upto_if 9 with fail
  go_cut [0] (fun s0 wx => w = wx ∧ ∃ s : List UInt8, s0 = .slice A0 s.length c0 ∧ s.length ≤ 600 ∧ s.length ≤ c0 ∧ Reads w w.heap.size A0 (bv s))
  case first =>
    by_cases h1 : 600 < l0.length
    · have d1 : decide (600 < (l0.length : Int)) = true := decide_eq_true (by omega)
      have q1 : (600 : Int) ≤ (c0 : Int) := by omega
      go_wp2
      go_meet
      exact ⟨rfl, l0.take 600, by rw [hl6, Nat.min_eq_left (by omega)], by omega, by omega, r6⟩
    · have d1 : decide (600 < (l0.length : Int)) = false := decide_eq_false (by omega)
      go_wp2
      go_meet
      exact ⟨rfl, l0, rfl, by omega, q0, r0⟩
  case rest =>
    obtain ⟨rfl, s, rfl, hs, hc, hr⟩ := hcut
    have hm : s.length ≤ reachBytes := by simp only [reachBytes]; omega
    have k1 := vslots_any A0 c0 s w hc hm hr
    have k2 := fun (W : World) (hb : Below w.heap.size w W) => rslots_any A0 c0 s W hc hm (hr.ext hb)
    have hLL := rslL_len s hs
    generalize rslL s = L at *
    generalize rslE s = E at *
    have d2 : (E == E) = true := by simp
    clear r0 r6 hl6 hr
    go_wp2_with fail
    refine k1.mono ?_
    rintro e w1 ⟨A1, c1, rfl, hown1, hb1⟩
    have k3 := k2 _ hb1
    clear k1 k2
    go_wp2_with fail
    refine k3.mono ?_
    rintro e w2 ⟨A2, c2, rfl, hown2, hb2⟩
    have hB2 := below_then hb1 hb2
    have hs1 := ((Reads3.of_own rfl hown1).below hb2).more hb2.size
    have hs2 := Reads3.of_own rfl hown2
    have k4 := same3_any A1 c1 A2 c2 L w2 _ _ hLL hs1 hs2
    clear k3 hb1 hb2 hown1 hown2 hs1 hs2
    go_wp2_with fail
    refine k4.mono ?_
    rintro e w3 ⟨rfl, hb3⟩
    have hB3 := below_then hB2 hb3
    clear k4
    go_wp2_with fail
    refine (lives10 _).mono ?_
    rintro e w4 ⟨rfl, hb4⟩
    have hB4 := below_then hB3 hb4
    go_wp2
    go_ret
    exact ⟨rfl, hB4⟩
end Go.Proofs.Ytilkcecjciiboaa
