/-
  Chapter 4's example, SealSeals, SealOne, walked.
-/
import Derived.Test.YtilkcecjciiboaaSeal5
import Derived.Test.YtilkcecjciiboaaSeal4
import Derived.Deep.DeepCutAuto
namespace Go.Proofs.Ytilkcecjciiboaa
open Go.RowKit

theorem seal_example : sealE 2 7 [] = 0 ∧ (sealV 2 7 []).length = 256 ∧ (sealV 2 7 [])[0]? = some 7 ∧ (sealV 2 7 [])[4]? = some 2 := by decide +kernel
set_option maxRecDepth 100000 in
theorem lives04 (w : World) : Calls Try.prog 32 #[] w fun e w' => e = .returned (.bool true) ∧ Below w.heap.size w w' := by
  have k := seal_any 2 7 none 0 [] w (by decide) (by decide) (Reads.nil_ _ _ _)
  obtain ⟨x0, x1, x2, x3⟩ := seal_example
  have HL := Lib.hid x1
  rw [x0] at k
  generalize sealV 2 7 [] = X at *
  clear x0 x1
  go_enter Try.func32, Try.ntmps32
  go_wp2_with fail
  refine k.mono ?_
  rintro e w1 ⟨A1, c1, rfl, hown1, hb1⟩
  rw [bv_len, HL.out] at hown1
  rw [bv_len, HL.out]
  obtain ⟨g, rfl, hc⟩ := own_cells hown1 (by omega)
  have e0 := hc 0 (.int .u8 7) (by unfold bv; rw [List.getElem?_map, x2]; rfl)
  have e4 := hc 4 (.int .u8 2) (by unfold bv; rw [List.getElem?_map, x3]; rfl)
  clear hc k hown1 x2 x3
  go_wp2
  go_ret
  exact ⟨rfl, hb1⟩
set_option maxRecDepth 100000 in
set_option maxHeartbeats 2000000 in
theorem law_SealSeals (a0 a1 : Int) (A2 : Option Addr) (c2 : Nat) (l2 : List UInt8) (w : World) (w0 : (Lit.int .i64 a0).wf = true) (w1 : (Lit.int .i64 a1).wf = true) (q2 : l2.length ≤ c2) (_m2 : l2.length ≤ reachBytes) (r2 : Reads w w.heap.size A2 (bv l2)) :
    Calls Try.prog 5 #[.int .i64 a0, .int .i64 a1, .slice A2 l2.length c2] w fun e w' => e = .returned (.bool true) ∧ Below w.heap.size w w' := by
  have r6 := r2.take 600
  rw [bv_take] at r6
  have hl6 : (l2.take 600).length = min 600 l2.length := List.length_take ..
  go_enter Try.func5, Try.ntmps5
  go_upto_if 13 with fail
  go_cut [2] (fun s2 wx => w = wx ∧ ∃ s : List UInt8, s2 = .slice A2 s.length c2 ∧ Reads w w.heap.size A2 (bv s))
  case first =>
    by_cases h1 : 600 < l2.length
    · have d1 : decide (600 < (l2.length : Int)) = true := decide_eq_true (by omega)
      have q1 : (600 : Int) ≤ (c2 : Int) := by omega
      go_wp2
      go_meet
      exact ⟨rfl, l2.take 600, by rw [hl6, Nat.min_eq_left (by omega)], r6⟩
    · have d1 : decide (600 < (l2.length : Int)) = false := decide_eq_false (by omega)
      go_wp2
      go_meet
      exact ⟨rfl, l2, rfl, r2⟩
  case rest =>
    obtain ⟨rfl, s, rfl, hr⟩ := hcut
    have k1 := seal_any a0 a1 A2 c2 s w w0 w1 hr
    have k2 := fun (W : World) (hb : Below w.heap.size w W) => rseal_any a0 a1 A2 c2 s W (hr.ext hb)
    have k3 := fun W => salt_any a0 W
    have k4 := fun W => rsalt_any a0 W
    generalize sealV a0 a1 s = X at *
    generalize sealE a0 a1 s = E at *
    generalize ((saltV a0 : Nat) : Int) = S at *
    have d1 : (E == E) = true := by simp
    have d2 : (S == S) = true := by simp
    clear r2 r6 hl6
    go_wp2_with fail
    refine k1.mono ?_
    rintro e w1 ⟨A1, c1, rfl, hown1, hb1⟩
    rw [bv_len] at hown1
    rw [bv_len]
    have k5 := k2 _ hb1
    clear k1 k2
    go_wp2_with fail
    refine k5.mono ?_
    rintro e w2 ⟨A3, c3, rfl, hown3, hb3⟩
    rw [bv_len] at hown3
    rw [bv_len]
    have hB2 := below_then hb1 hb3
    have cv1 := run_conv_bytes (P := Try.prog) w2 22 9 5 Try.underlying22 Try.underlying5 Try.underlying9 X.length c1 rfl ((Reads.of_own hown1).ext hb3)
    have cv2 := run_conv_bytes (P := Try.prog) w2 22 9 5 Try.underlying22 Try.underlying5 Try.underlying9 X.length c3 rfl (Reads.of_own hown3)
    clear k5 hb1 hb3 hown1 hown3 hr
    go_wp2_with fail
    refine (k3 _).mono ?_
    rintro e w3 ⟨rfl, rfl⟩
    clear cv1 cv2
    go_wp2_with fail
    refine (k4 _).mono ?_
    rintro e w4 ⟨rfl, hb4⟩
    have hB4 := below_then hB2 hb4
    clear k3 k4 hb4
    go_wp2_with fail
    refine (lives04 _).mono ?_
    rintro e w5 ⟨rfl, hb5⟩
    have hB5 := below_then hB4 hb5
    go_wp2
    go_ret
    exact ⟨rfl, hB5⟩
set_option maxRecDepth 100000 in
set_option maxHeartbeats 2000000 in
theorem law_SealOne (A0 : Option Addr) (c0 : Nat) (l0 : List UInt8) (a1 a2 : Int) (w : World) (q0 : l0.length ≤ c0) (_m0 : l0.length ≤ reachBytes) (r0 : Reads w w.heap.size A0 (bv l0)) (w1 : (Lit.int .i64 a1).wf = true) (w2 : (Lit.int .i64 a2).wf = true) :
    Calls Try.prog 9 #[.slice A0 l0.length c0, .int .i64 a1, .int .i64 a2] w fun e w' => e = .returned (.bool true) ∧ Below w.heap.size w w' := by
  have r6 := r0.take 600
  rw [bv_take] at r6
  have hl6 : (l0.take 600).length = min 600 l0.length := List.length_take ..
  go_enter Try.func9, Try.ntmps9
  go_upto_if 13 with fail
  go_cut [0] (fun s0 wx => w = wx ∧ ∃ s : List UInt8, s0 = .slice A0 s.length c0 ∧ s.length ≤ c0 ∧ Reads w w.heap.size A0 (bv s))
  case first =>
    by_cases h1 : 600 < l0.length
    · have d1 : decide (600 < (l0.length : Int)) = true := decide_eq_true (by omega)
      have q1 : (600 : Int) ≤ (c0 : Int) := by omega
      go_wp2
      go_meet
      exact ⟨rfl, l0.take 600, by rw [hl6, Nat.min_eq_left (by omega)], by omega, r6⟩
    · have d1 : decide (600 < (l0.length : Int)) = false := decide_eq_false (by omega)
      go_wp2
      go_meet
      exact ⟨rfl, l0, rfl, q0, r0⟩
  case rest =>
    obtain ⟨rfl, s, rfl, hc, hr⟩ := hcut
    clear r0 r6 hl6 q0
    have k1 := open_any A0 c0 s a1 a2 w hc hr
    by_cases he : openE s a1 a2 = 0
    · obtain ⟨h1, h2, h3⟩ := open_seal he
      have k2 := fun (A : Option Addr) (c : Nat) (W : World) (h : Reads W W.heap.size A (bv (openV s a1 a2))) => seal_any a1 a2 A c (openV s a1 a2) W w1 w2 h
      rw [h1, h2, h3] at k2
      rw [he] at k1
      have H3 := Lib.hid h3
      clear h1 h2 h3 he
      generalize openV s a1 a2 = X at *
      go_wp2_with fail
      refine k1.mono ?_
      rintro e w3 ⟨A3, c3, rfl, hown3, hb3⟩
      rw [bv_len, H3.out] at hown3
      rw [bv_len, H3.out]
      have k4 := k2 A3 c3 w3 (Reads.of_own hown3)
      have hr3 := hr.ext hb3
      clear k1 k2 hown3 hr
      go_wp2_with fail
      refine k4.mono ?_
      rintro e w4 ⟨A4, c4, rfl, hown4, hb4⟩
      rw [bv_len] at hown4
      rw [bv_len]
      have hB4 := below_then hb3 hb4
      have cv1 := run_conv_bytes (P := Try.prog) w4 22 9 5 Try.underlying22 Try.underlying5 Try.underlying9 s.length c4 rfl (Reads.of_own hown4)
      have cv2 := run_conv_bytes (P := Try.prog) w4 22 9 5 Try.underlying22 Try.underlying5 Try.underlying9 s.length c0 rfl (hr3.ext hb4)
      clear k4 hown4 hb4 hb3 hr3
      go_wp2_with fail
      refine (lives04 _).mono ?_
      rintro e w5 ⟨rfl, hb5⟩
      have hB5 := below_then hB4 hb5
      go_wp2
      go_ret
      exact ⟨rfl, hB5⟩
    · rw [openV_no rfl he] at k1
      have dE : (openE s a1 a2 != 0) = true := by simpa using he
      generalize openE s a1 a2 = E at *
      clear he
      go_wp2_with fail
      refine k1.mono ?_
      rintro e w3 ⟨A3, c3, rfl, hown3, hb3⟩
      clear k1 hown3 hr
      go_wp2_with fail
      refine (lives04 _).mono ?_
      rintro e w4 ⟨rfl, hb4⟩
      have hB4 := below_then hb3 hb4
      go_wp2
      go_ret
      exact ⟨rfl, hB4⟩
end Go.Proofs.Ytilkcecjciiboaa
