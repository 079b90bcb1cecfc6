/-
  The reference's ReadMap, walked.
-/
import Derived.Test.YtahomneljdjjjaaVal8
namespace Go.Proofs.Ytahomneljdjjjaa
open Go.RowKit
attribute [local go_sem ↓] Go.wp_at_zero Go.wp_at_succ

theorem getV_nn (s : List UInt8) (a x : Int) : 0 ≤ (getV s a x).1 ∧ (getV s a x).1 < 9223372036854775808 := by
  unfold getV
  split
  · split
    · constructor <;> simp <;> omega
    · simp
  · simp
theorem map_ok (s : List UInt8) (h : s.length = 8) (h1 : (getV s 0 8).2 = 0) (h2 : (getV s 0 8).1 ≤ 1099511627775) : rd1 mapP s = (getV s 0 8).1 ∧ rdE [mapP] s = 0 := by
  have hin : inB mapP (getV s 0 8).1 = true := decide_eq_true ⟨(getV_nn s 0 8).1, h2⟩
  have hE : rdE [mapP] s = 0 := by
    unfold rdE
    rw [if_pos (by simp [wds, h, mapP]), if_pos ⟨by simp [wds, unpE, mapP, h1], by simp [wds, unpB, valE, show mapP.1 = 8 from rfl, hin]⟩]
  refine ⟨?_, hE⟩
  unfold rd1 rdN
  rw [if_pos hE]
  simp [wds, unpB, mapP]
theorem map_bad (s : List UInt8) (h : s.length = 8) (h1 : (getV s 0 8).2 ≠ 0 ∨ 1099511627775 < (getV s 0 8).1) : rd1 mapP s = 0 ∧ rdE [mapP] s = 2 := by
  have hE : rdE [mapP] s = 2 := by
    unfold rdE
    rw [if_pos (by simp [wds, h, mapP]), if_neg]
    rintro ⟨e1, e2⟩
    rcases h1 with h1 | h1
    · simp [wds, unpE, mapP, h1] at e1
    · simp only [wds, unpB, valE, mapP, List.map_cons, List.map_nil, List.zip_cons_cons, List.zip_nil_left, List.all_cons, List.all_nil, Bool.and_true, inB, decide_eq_true_eq] at e2
      omega
  refine ⟨?_, hE⟩
  unfold rd1 rdN
  rw [if_neg (by rw [hE]; decide)]
  rfl
theorem map_len (s : List UInt8) (h : s.length ≠ 8) : rd1 mapP s = 0 ∧ rdE [mapP] s = 7 := by
  have hE : rdE [mapP] s = 7 := by
    unfold rdE
    rw [if_neg (by simp [wds, mapP]; omega)]
  refine ⟨?_, hE⟩
  unfold rd1 rdN
  rw [if_neg (by rw [hE]; decide)]
  rfl
set_option maxRecDepth 100000 in
set_option maxHeartbeats 1000000 in
theorem rreadMap_any (s : List UInt8) (w : World) (hs : s.length ≤ reachBytes) : Calls Try.prog 55 #[.string ⟨s.toArray⟩] w fun e w' => e = .returned (.tuple #[.int .i64 (rd1 mapP s / 16777216), .int .i64 (rd1 mapP s % 16777216), .int .i64 (rdE [mapP] s)]) ∧ Below w.heap.size w w' := by
  by_cases h : s.length = 8
  · obtain ⟨cc, O, hcv, hR, hcl⟩ := run_str_bytes (P := Try.prog) w 9 24 5 s Try.underlying9 Try.underlying24 Try.underlying5
    have hg := rget_any (some ⟨w.heap.size, 0, none⟩) cc s 0 8 (w.drew.alloc O) _ hs hR
    have hB : Below w.heap.size w (w.drew.alloc O) := ((Below.refl _ w).drew).trans (below_alloc1 w.drew O)
    have hok := map_ok s h
    have hbad := map_bad s h
    obtain ⟨hn0, hn1⟩ := getV_nn s 0 8
    rw [h] at hg hcv
    generalize (getV s 0 8).1 = g1 at *
    generalize (getV s 0 8).2 = g2 at *
    obtain ⟨m, rfl⟩ := Int.eq_ofNat_of_zero_le hn0
    clear hR hs
    by_cases h2 : g2 = 0
    · subst h2
      by_cases h3 : (m : Int) ≤ 1099511627775
      · obtain ⟨e1, e2⟩ := hok rfl h3
        rw [e1, e2]
        have d1 : decide ((65536 : Int) ≤ (m : Int) / 16777216) = false := decide_eq_false (by omega)
        clear e1 e2 hok hbad
        go_enter Try.func55, Try.ntmps55
        go_wp2_with fail
        refine hg.mono ?_
        rintro e w1 ⟨rfl, rfl⟩
        clear hg
        go_wp2_with fail
        refine bodyPost_ret (results_tmp3 rfl _ _ _) rfl ⟨rfl, hB⟩
      · obtain ⟨e1, e2⟩ := hbad (.inr (by omega))
        rw [e1, e2]
        have d1 : decide ((65536 : Int) ≤ (m : Int) / 16777216) = true := decide_eq_true (by omega)
        clear e1 e2 hok hbad
        go_enter Try.func55, Try.ntmps55
        go_wp2_with fail
        refine hg.mono ?_
        rintro e w1 ⟨rfl, rfl⟩
        clear hg
        go_wp2_with fail
        refine bodyPost_ret (results_tmp3 rfl _ _ _) rfl ⟨rfl, hB⟩
    · obtain ⟨e1, e2⟩ := hbad (.inl h2)
      rw [e1, e2]
      have d1 : (g2 != 0) = true := by simpa using h2
      clear e1 e2 hok hbad h2
      go_enter Try.func55, Try.ntmps55
      go_wp2_with fail
      refine hg.mono ?_
      rintro e w1 ⟨rfl, rfl⟩
      clear hg
      go_wp2_with fail
      refine bodyPost_ret (results_tmp3 rfl _ _ _) rfl ⟨rfl, hB⟩
  · obtain ⟨e1, e2⟩ := map_len s h
    rw [e1, e2]
    clear e1 e2
    have d1 : ((s.length : Int) != 8) = true := by simp; omega
    go_enter Try.func55, Try.ntmps55
    go_wp2_with fail
    refine bodyPost_ret (results_tmp3 rfl _ _ _) rfl ⟨rfl, Below.refl _ _⟩
end Go.Proofs.Ytahomneljdjjjaa
