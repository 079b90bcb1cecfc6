/-
  The reference's ReadSlot, walked. (Printed by wip/genval3.py.)
-/
import Derived.Test.YtcnalndhlonblaaVal9
import Derived.Test.YtcnalndhlonblaaBase5
namespace Go.Proofs.Ytcnalndhlonblaa
open Go.RowKit
attribute [local go_sem ↓] Go.wp_at_zero Go.wp_at_succ

theorem rd_len (ps : List Part) (s : List UInt8) (h : (s.length : Int) ≠ (wds ps).sum) : rdE ps s = 7 ∧ rdN ps s = List.replicate ps.length 0 := by
  have hE : rdE ps s = 7 := by unfold rdE; rw [if_neg h]
  exact ⟨hE, by unfold rdN; rw [if_neg (by rw [hE]; decide)]⟩
theorem rd_bad (ps : List Part) (s : List UInt8) (h : (s.length : Int) = (wds ps).sum) (h2 : unpE s 0 (wds ps) ≠ 0 ∨ valE (ps.zip (unpB s 0 (wds ps))) = false) : rdE ps s = 2 ∧ rdN ps s = List.replicate ps.length 0 := by
  have hE : rdE ps s = 2 := by
    unfold rdE
    rw [if_pos h, if_neg]
    rintro ⟨e1, e2⟩
    rcases h2 with h2 | h2
    · exact h2 e1
    · rw [h2] at e2; cases e2
  exact ⟨hE, by unfold rdN; rw [if_neg (by rw [hE]; decide)]⟩
theorem rd_ok (ps : List Part) (s : List UInt8) (h : (s.length : Int) = (wds ps).sum) (h1 : unpE s 0 (wds ps) = 0) (h2 : valE (ps.zip (unpB s 0 (wds ps))) = true) : rdE ps s = 0 ∧ rdN ps s = unpB s 0 (wds ps) := by
  have hE : rdE ps s = 0 := by
    unfold rdE
    rw [if_pos h, if_pos ⟨h1, h2⟩]
  exact ⟨hE, by unfold rdN; rw [if_pos hE]⟩
theorem valV_not (z : List (Part × Int)) (h : valE z = false) : valV z = [] := by unfold valV; rw [if_neg (by rw [h]; decide)]
theorem valV_cons (z : List (Part × Int)) (h : ∀ q ∈ z, goodP q.1) (hz : 0 < z.length) (hv : valE z = true) : ∃ x xs, valV z = x :: xs := by
  obtain ⟨x, xs, hc⟩ := valB_cons z h hz
  exact ⟨x, xs, by unfold valV; rw [if_pos hv, hc]⟩
theorem int3 (l : List Int) (h : l.length = 3) : ∃ a b c, l = [a, b, c] := by
  match l, h with
  | [a, b, c], _ => exact ⟨a, b, c, rfl⟩
theorem int4 (l : List Int) (h : l.length = 4) : ∃ a b c d, l = [a, b, c, d] := by
  match l, h with
  | [a, b, c, d], _ => exact ⟨a, b, c, d, rfl⟩
end Go.Proofs.Ytcnalndhlonblaa
