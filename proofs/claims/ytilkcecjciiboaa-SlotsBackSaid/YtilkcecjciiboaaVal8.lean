/-
  The reference's four, ReadRoot, ReadCount, walked.
-/
import Derived.Test.YtilkcecjciiboaaVal7
namespace Go.Proofs.Ytilkcecjciiboaa
open Go.RowKit
attribute [local go_sem ↓] Go.wp_at_zero Go.wp_at_succ

theorem get4 (s : List UInt8) (h : s.length = 4) : (getV s 0 4).2 = 0 := by
  have ht : thereV s.length 0 4 = 0 := thereV_ok rfl (by omega) (by omega)
  have hlt : getN s 0 4 < 4294967296 := by
    unfold getN
    have := le_lt ((s.drop (0 : Int).toNat).take (4 : Int).toNat)
    have h4 : ((s.drop (0 : Int).toNat).take (4 : Int).toNat).length = 4 := by simp [h]
    rw [h4] at this
    exact this
  unfold getV
  rw [if_pos ht, if_pos (by omega)]
theorem four_ok (lo hi : Int) (s : List UInt8) (h : s.length = 4) (hin : inB (4, lo, hi) (getV s 0 4).1 = true) : rd1 (4, lo, hi) s = (getV s 0 4).1 ∧ rdE [(4, lo, hi)] s = 0 := by
  have hE : rdE [(4, lo, hi)] s = 0 := by
    unfold rdE
    rw [if_pos (by simp [wds, h]), if_pos ⟨by simp [wds, unpE, get4 s h], by simp [wds, unpB, valE, hin]⟩]
  refine ⟨?_, hE⟩
  unfold rd1 rdN
  rw [if_pos hE]
  simp [wds, unpB]
theorem four_out (lo hi : Int) (s : List UInt8) (h : s.length = 4) (hin : inB (4, lo, hi) (getV s 0 4).1 = false) : rd1 (4, lo, hi) s = 0 ∧ rdE [(4, lo, hi)] s = 2 := by
  have hE : rdE [(4, lo, hi)] s = 2 := by
    unfold rdE
    rw [if_pos (by simp [wds, h]), if_neg (fun hh => by simp [wds, unpB, valE, hin] at hh)]
  refine ⟨?_, hE⟩
  unfold rd1 rdN
  rw [if_neg (by rw [hE]; decide)]
  rfl
theorem four_len (lo hi : Int) (s : List UInt8) (h : s.length ≠ 4) : rd1 (4, lo, hi) s = 0 ∧ rdE [(4, lo, hi)] s = 7 := by
  have hE : rdE [(4, lo, hi)] s = 7 := by
    unfold rdE
    rw [if_neg (by simp [wds]; omega)]
  refine ⟨?_, hE⟩
  unfold rd1 rdN
  rw [if_neg (by rw [hE]; decide)]
  rfl
end Go.Proofs.Ytilkcecjciiboaa
