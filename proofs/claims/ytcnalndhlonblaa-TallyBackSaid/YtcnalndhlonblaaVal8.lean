/-
  The reference's four, ReadRoot, ReadCount, walked.
-/
import Derived.Test.YtcnalndhlonblaaVal7
namespace Go.Proofs.Ytcnalndhlonblaa
open Go.RowKit
attribute [local go_sem ↓] Go.wp_at_zero Go.wp_at_succ

theorem get4 (s : List UInt8) (h : s.length = 4) : (getV s 0 4).2 = 0 := by
  have ht : thereV s.length 0 4 = 0 := thereV_ok rfl (by omega) (by omega)
  have hlt : getN s 0 4 < 4294967296 := by
    unfold getN
    have := le_lt ((s.drop (0 : Int).toNat).take (4 : Int).toNat)
    have h4 : ((s.drop (0 : Int).toNat).take (4 : Int).toNat).length = 4 := by simp [h]
    rw [h4] at this
    exact this
  unfold getV
  rw [if_pos ht, if_pos (by omega)]
theorem four_ok (lo hi : Int) (s : List UInt8) (h : s.length = 4) (hin : inB (4, lo, hi) (getV s 0 4).1 = true) : rd1 (4, lo, hi) s = (getV s 0 4).1 ∧ rdE [(4, lo, hi)] s = 0 := by
  have hE : rdE [(4, lo, hi)] s = 0 := by
    unfold rdE
    rw [if_pos (by simp [wds, h]), if_pos ⟨by simp [wds, unpE, get4 s h], by simp [wds, unpB, valE, hin]⟩]
  refine ⟨?_, hE⟩
  unfold rd1 rdN
  rw [if_pos hE]
  simp [wds, unpB]
theorem four_out (lo hi : Int) (s : List UInt8) (h : s.length = 4) (hin : inB (4, lo, hi) (getV s 0 4).1 = false) : rd1 (4, lo, hi) s = 0 ∧ rdE [(4, lo, hi)] s = 2 := by
  have hE : rdE [(4, lo, hi)] s = 2 := by
    unfold rdE
    rw [if_pos (by simp [wds, h]), if_neg (fun hh => by simp [wds, unpB, valE, hin] at hh)]
  refine ⟨?_, hE⟩
  unfold rd1 rdN
  rw [if_neg (by rw [hE]; decide)]
  rfl
theorem four_len (lo hi : Int) (s : List UInt8) (h : s.length ≠ 4) : rd1 (4, lo, hi) s = 0 ∧ rdE [(4, lo, hi)] s = 7 := by
  have hE : rdE [(4, lo, hi)] s = 7 := by
    unfold rdE
    rw [if_neg (by simp [wds]; omega)]
  refine ⟨?_, hE⟩
  unfold rd1 rdN
  rw [if_neg (by rw [hE]; decide)]
  rfl
set_option maxHeartbeats 1000000 in
theorem four_any (lo hi : Int) (s : List UInt8) (w : World) (hs : s.length ≤ reachBytes) : Calls Try.prog 64 #[.string ⟨s.toArray⟩, .int .i64 lo, .int .i64 hi] w fun e w' => e = .returned (.tuple #[.int .i64 (rd1 (4, lo, hi) s), .int .i64 (rdE [(4, lo, hi)] s)]) ∧ Below w.heap.size w w' := by
  by_cases h : s.length = 4
  · obtain ⟨cc, O, hcv, hR, hcl⟩ := run_str_bytes (P := Try.prog) w 9 43 5 s Try.underlying9 Try.underlying43 Try.underlying5
    have hg := rget_any (some ⟨w.heap.size, 0, none⟩) cc s 0 4 (w.drew.alloc O) _ hs hR
    have hin := in_any (getV s 0 4).1 lo hi
    have hB : Below w.heap.size w (w.drew.alloc O) := ((Below.refl _ w).drew).trans (below_alloc1 w.drew O)
    rw [h] at hg hcv
    by_cases hi' : inB (4, lo, hi) (getV s 0 4).1 = true
    · obtain ⟨e1, e2⟩ := four_ok lo hi s h hi'
      rw [e1, e2]
      rw [show inB (8, lo, hi) (getV s 0 4).1 = true from hi'] at hin
      clear e1 e2 hi' hR
      generalize (getV s 0 4).1 = g1 at *
      generalize (getV s 0 4).2 = g2 at *
      go_enter Try.func64, Try.ntmps64
      go_wp2_with fail
      refine hg.mono ?_
      rintro e w1 ⟨rfl, rfl⟩
      go_wp2_with fail
      refine (hin _).mono ?_
      rintro e w1 ⟨rfl, rfl⟩
      go_wp2
      go_ret2
      exact ⟨rfl, hB⟩
    · have hf : inB (4, lo, hi) (getV s 0 4).1 = false := by simpa using hi'
      obtain ⟨e1, e2⟩ := four_out lo hi s h hf
      rw [e1, e2]
      rw [show inB (8, lo, hi) (getV s 0 4).1 = false from hf] at hin
      clear e1 e2 hi' hf hR
      generalize (getV s 0 4).1 = g1 at *
      generalize (getV s 0 4).2 = g2 at *
      go_enter Try.func64, Try.ntmps64
      go_wp2_with fail
      refine hg.mono ?_
      rintro e w1 ⟨rfl, rfl⟩
      go_wp2_with fail
      refine (hin _).mono ?_
      rintro e w1 ⟨rfl, rfl⟩
      go_wp2
      go_ret2
      exact ⟨rfl, hB⟩
  · obtain ⟨e1, e2⟩ := four_len lo hi s h
    rw [e1, e2]
    clear e1 e2
    have d1 : ((s.length : Int) != 4) = true := by simp; omega
    go_enter Try.func64, Try.ntmps64
    go_wp2
    go_ret2
    exact ⟨rfl, Below.refl _ _⟩
theorem rreadCount_any (s : List UInt8) (w : World) (hs : s.length ≤ reachBytes) : Calls Try.prog 39 #[.string ⟨s.toArray⟩] w fun e w' => e = .returned (.tuple #[.int .i64 (rd1 countP s), .int .i64 (rdE [countP] s)]) ∧ Below w.heap.size w w' := by
  have hf := four_any 3 2147483647 s w hs
  go_enter Try.func39, Try.ntmps39
  go_wp2_with fail
  refine hf.mono ?_
  rintro e w1 ⟨rfl, hb⟩
  clear hf
  go_wp2
  go_ret2
  exact ⟨rfl, hb⟩
end Go.Proofs.Ytcnalndhlonblaa
