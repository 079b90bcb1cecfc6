/-
  Chapter 44's example, SqueezeMakes, walked.
-/
import Derived.Test.YtilkcecjciiboaaSq6
import Derived.Test.YtilkcecjciiboaaSq10
import Derived.Test.YtilkcecjciiboaaSqP2
import Derived.Test.YtilkcecjciiboaaRef1C
import Derived.Deep.DeepCutAuto
namespace Go.Proofs.Ytilkcecjciiboaa
open Go.RowKit

theorem squeeze_example : squeezeL [1, 1, 1, 1, 2] = [129, 1, 0, 2] := by decide +kernel
set_option maxRecDepth 100000 in
theorem lives44 (w : World) : Calls Try.prog 22 #[] w fun e w' => e = .returned (.bool true) ∧ Below w.heap.size w w' := by
  have hr := Reads.new w (bv [1, 1, 1, 1, 2]) 5 (0, 0)
  have hp := squeeze_any (some ⟨w.heap.size, 0, none⟩) 5 [1, 1, 1, 1, 2] (by simp) (w.alloc (.cells (bv [1, 1, 1, 1, 2]).toArray 5)) (hr.more (by simp))
  rw [squeeze_example] at hp
  clear hr
  go_enter Try.func22, Try.ntmps22
  go_wp2_with fail
  refine hp.mono ?_
  rintro e w1 ⟨A, c, rfl, hown, hb⟩
  have hB := below_then (below_alloc1 w _) hb
  have hcv := run_conv_bytes (P := Try.prog) w1 22 9 5 Try.underlying22 Try.underlying5 Try.underlying9 4 c rfl (Reads.of_own hown)
  rw [show (bv [129, 1, 0, 2]).length = 4 from rfl]
  clear hp hown hb
  go_wp2
  go_ret
  exact ⟨rfl, hB⟩
set_option maxRecDepth 100000 in
set_option maxHeartbeats 4000000 in
theorem law_SqueezeMakes (A0 : Option Addr) (c0 : Nat) (l0 : List UInt8) (w : World) (q0 : l0.length ≤ c0) (_m0 : l0.length ≤ reachBytes) (r0 : Reads w w.heap.size A0 (bv l0)) :
    Calls Try.prog 3 #[.slice A0 l0.length c0] w fun e w' => e = .returned (.bool true) ∧ Below w.heap.size w w' := by
  have r6 := r0.take 5000
  rw [bv_take] at r6
  have hl6 : (l0.take 5000).length = min 5000 l0.length := List.length_take ..
  go_enter Try.func3, Try.ntmps3
  go_upto_if 5 with fail
  go_cut [0] (fun s0 wx => w = wx ∧ ∃ s : List UInt8, s0 = .slice A0 s.length c0 ∧ s.length ≤ 5000 ∧ s.length ≤ c0 ∧ Reads w w.heap.size A0 (bv s))
  case first =>
    by_cases h1 : 5000 < l0.length
    · have d1 : decide (5000 < (l0.length : Int)) = true := decide_eq_true (by omega)
      have q1 : (5000 : Int) ≤ (c0 : Int) := by omega
      go_wp2
      go_meet
      exact ⟨rfl, l0.take 5000, by rw [hl6, Nat.min_eq_left (by omega)], by omega, by omega, r6⟩
    · have d1 : decide (5000 < (l0.length : Int)) = false := decide_eq_false (by omega)
      go_wp2
      go_meet
      exact ⟨rfl, l0, rfl, by omega, by omega, r0⟩
  case rest =>
    obtain ⟨rfl, s, rfl, hs5, hsc, hr⟩ := hcut
    have k1 := fun (W : World) (hb : Below w.heap.size w W) => runsl_any A0 c0 s (by omega) W (hr.ext hb)
    have k2 := fun (W : World) (hb : Below w.heap.size w W) => rruns_any A0 c0 s (by omega) W (hr.ext hb)
    have k3 := fun (W : World) (hb : Below w.heap.size w W) => squeeze_any A0 c0 s (by omega) W (hr.ext hb)
    have k4 := fun (W : World) (hb : Below w.heap.size w W) => rsq_any A0 c0 s (by omega) (by omega) W (hr.ext hb)
    have hrl : (kvS (restL s 0)).length * 8 ≤ reachBytes := by
      have := restL_len s s.length 0 (by omega)
      rw [kvS_len]
      simp only [reachBytes]
      omega
    generalize kvS (restL s 0) = R at *
    generalize squeezeL s = X at *
    have HB := Lib.hid ((Below.refl w.heap.size w).drew)
    have K1 := Lib.hid k1
    have K2 := Lib.hid k2
    have K3 := Lib.hid k3
    have K4 := Lib.hid k4
    clear r6 hl6 hr r0 k1 k2 k3 k4
    go_wp2_with fail
    go_region_with (first
      | (go_at_call 18; refine (K1.out _ HB.out).mono ?_; rintro e w1 ⟨A1, c1, rfl, hown1, hb⟩; rw [iv_len] at hown1; rw [iv_len]; (try replace HR2 := Lib.hid (HR2.out.ext hb)); have HR1 := Lib.hid (Reads.of_own hown1); replace HB := Lib.hid (below_then HB.out hb); clear hown1 hb)
      | (go_at_call 19; refine (K2.out _ HB.out).mono ?_; rintro e w2 ⟨A2, c2, rfl, hown2, hb⟩; rw [iv_len] at hown2; rw [iv_len]; (try replace HR1 := Lib.hid (HR1.out.ext hb)); have HR2 := Lib.hid (Reads.of_own hown2); replace HB := Lib.hid (below_then HB.out hb); clear hown2 hb)
      | (go_at_call 17; refine (same_any _ _ _ _ R _ _ _ hrl HR1.out HR2.out).mono ?_; rintro e w9 ⟨rfl, mS, rfl⟩; replace HB := Lib.hid (below_drewN HB.out mS); clear HR1 HR2)
      | (go_at_call 20; refine (K3.out _ HB.out).mono ?_; rintro e w3 ⟨A3, c3, rfl, hown3, hb⟩; rw [bv_len] at hown3; rw [bv_len]; (try replace HC := Lib.hid (HC.out.ext hb)); (try clear cv2); (try have cv2 := run_conv_bytes (P := Try.prog) w3 22 9 5 Try.underlying22 Try.underlying5 Try.underlying9 X.length c4 rfl HC.out); have HA := Lib.hid (Reads.of_own hown3); have cv1 := run_conv_bytes (P := Try.prog) w3 22 9 5 Try.underlying22 Try.underlying5 Try.underlying9 X.length c3 rfl HA.out; replace HB := Lib.hid (below_then HB.out hb); clear hown3 hb)
      | (go_at_call 21; refine (K4.out _ HB.out).mono ?_; rintro e w4 ⟨A4, c4, rfl, hown4, hb⟩; rw [bv_len] at hown4; rw [bv_len]; (try replace HA := Lib.hid (HA.out.ext hb)); (try clear cv1); (try have cv1 := run_conv_bytes (P := Try.prog) w4 22 9 5 Try.underlying22 Try.underlying5 Try.underlying9 X.length c3 rfl HA.out); have HC := Lib.hid (Reads.of_own hown4); have cv2 := run_conv_bytes (P := Try.prog) w4 22 9 5 Try.underlying22 Try.underlying5 Try.underlying9 X.length c4 rfl HC.out; replace HB := Lib.hid (below_then HB.out hb); clear hown4 hb)
      | (go_at_call 22; refine (lives44 _).mono ?_; rintro e w5 ⟨rfl, hb⟩; replace HB := Lib.hid (below_then HB.out hb); clear hb))
    all_goals
      go_wp2
      go_ret
      exact ⟨rfl, HB.out⟩
end Go.Proofs.Ytilkcecjciiboaa
