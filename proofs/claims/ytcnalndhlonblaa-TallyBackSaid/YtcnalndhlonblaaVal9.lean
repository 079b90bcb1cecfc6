/-
  The reference's ReadMap, walked.
-/
import Derived.Test.YtcnalndhlonblaaVal8
namespace Go.Proofs.Ytcnalndhlonblaa
open Go.RowKit
attribute [local go_sem ↓] Go.wp_at_zero Go.wp_at_succ

theorem getV_nn (s : List UInt8) (a x : Int) : 0 ≤ (getV s a x).1 ∧ (getV s a x).1 < 9223372036854775808 := by
  unfold getV
  split
  · split
    · constructor <;> simp <;> omega
    · simp
  · simp
theorem map_ok (s : List UInt8) (h : s.length = 8) (h1 : (getV s 0 8).2 = 0) (h2 : (getV s 0 8).1 ≤ 1099511627775) : rd1 mapP s = (getV s 0 8).1 ∧ rdE [mapP] s = 0 := by
  have hin : inB mapP (getV s 0 8).1 = true := decide_eq_true ⟨(getV_nn s 0 8).1, h2⟩
  have hE : rdE [mapP] s = 0 := by
    unfold rdE
    rw [if_pos (by simp [wds, h, mapP]), if_pos ⟨by simp [wds, unpE, mapP, h1], by simp [wds, unpB, valE, show mapP.1 = 8 from rfl, hin]⟩]
  refine ⟨?_, hE⟩
  unfold rd1 rdN
  rw [if_pos hE]
  simp [wds, unpB, mapP]
theorem map_bad (s : List UInt8) (h : s.length = 8) (h1 : (getV s 0 8).2 ≠ 0 ∨ 1099511627775 < (getV s 0 8).1) : rd1 mapP s = 0 ∧ rdE [mapP] s = 2 := by
  have hE : rdE [mapP] s = 2 := by
    unfold rdE
    rw [if_pos (by simp [wds, h, mapP]), if_neg]
    rintro ⟨e1, e2⟩
    rcases h1 with h1 | h1
    · simp [wds, unpE, mapP, h1] at e1
    · simp only [wds, unpB, valE, mapP, List.map_cons, List.map_nil, List.zip_cons_cons, List.zip_nil_left, List.all_cons, List.all_nil, Bool.and_true, inB, decide_eq_true_eq] at e2
      omega
  refine ⟨?_, hE⟩
  unfold rd1 rdN
  rw [if_neg (by rw [hE]; decide)]
  rfl
theorem map_len (s : List UInt8) (h : s.length ≠ 8) : rd1 mapP s = 0 ∧ rdE [mapP] s = 7 := by
  have hE : rdE [mapP] s = 7 := by
    unfold rdE
    rw [if_neg (by simp [wds, mapP]; omega)]
  refine ⟨?_, hE⟩
  unfold rd1 rdN
  rw [if_neg (by rw [hE]; decide)]
  rfl
end Go.Proofs.Ytcnalndhlonblaa
