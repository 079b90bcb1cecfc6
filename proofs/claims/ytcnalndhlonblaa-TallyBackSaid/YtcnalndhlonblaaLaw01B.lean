/-
  Chapter 1's CodeBack, walked.
-/
import Derived.Test.YtcnalndhlonblaaLaw01
import Derived.Test.YtcnalndhlonblaaRef1C
import Derived.Deep.QuietTactic
import Derived.BigQuiet
namespace Go.Proofs.Ytcnalndhlonblaa
open Go.RowKit

theorem putB_len (l : List UInt8) (a x n : Int) (h : thereV l.length a x = 0) : (putB l a x n).length = l.length := by
  obtain ⟨hk, h0, h1⟩ := thereV_zero h
  have := (knownB_iff x).1 hk
  simp only [putB, List.length_append, List.length_take, List.length_drop, leb_len]
  omega
theorem putV_len (l : List UInt8) (a x n : Int) (h : putE l a x n = 0) : (putV l a x n).length = l.length := by
  unfold putV
  rw [if_pos h]
  exact putB_len l a x n (putE_zero h).1
theorem fits_lt {m : Nat} {x : Int} (hw : (Lit.int .i64 (m : Int)).wf = true) (hk : knownB x = true) (hf : fitsB m x = true) : m < 256 ^ x.toNat := by
  have h2 := (wf_i64 hw).2
  simp only [fitsB, decide_eq_true_eq] at hf
  obtain ⟨h0, f1, f2, f4⟩ := hf
  rcases (knownB_iff x).1 hk with h | h | h | h <;> subst h
  · have := f1 rfl; show m < 256 ^ 1; omega
  · have := f2 rfl; show m < 256 ^ 2; omega
  · have := f4 rfl; show m < 256 ^ 4; omega
  · show m < 256 ^ 8; omega
theorem get_put (l : List UInt8) (a x n : Int) (hw : (Lit.int .i64 n).wf = true) (h : putE l a x n = 0) : getV (putV l a x n) a x = (n, 0) := by
  obtain ⟨ht, hf⟩ := putE_zero h
  obtain ⟨hk, h0, h1⟩ := thereV_zero ht
  obtain ⟨m, rfl⟩ := fitsB_ok hf hk
  have hlt := fits_lt hw hk hf
  have hx := (knownB_iff x).1 hk
  have hg : getN (putV l a x m) a x = m := by
    unfold getN putV
    rw [if_pos h]
    unfold putB
    rw [List.append_assoc, List.drop_append_of_le_length (by rw [List.length_take]; omega), List.drop_of_length_le (by rw [List.length_take]; omega), List.nil_append,
      List.take_append_of_le_length (Nat.le_of_eq (leb_len _ _).symm), List.take_of_length_le (Nat.le_of_eq (leb_len _ _)), Int.toNat_natCast, le_leb _ _ hlt]
  unfold getV
  rw [putV_len _ _ _ _ h, if_pos ht, hg, if_pos (by have := (wf_i64 hw).2; omega)]
theorem put_other (l : List UInt8) (a x n : Int) (h : putE l a x n = 0) (j : Nat) (hj : (j : Int) < a ∨ a + x ≤ j) : (putV l a x n)[j]? = l[j]? := by
  obtain ⟨ht, hf⟩ := putE_zero h
  obtain ⟨hk, h0, h1⟩ := thereV_zero ht
  have hx := (knownB_iff x).1 hk
  unfold putV
  rw [if_pos h]
  unfold putB
  rcases hj with hj | hj
  · rw [List.append_assoc, List.getElem?_append_left (by rw [List.length_take]; omega), List.getElem?_take_of_lt (by omega)]
  · rw [List.getElem?_append_right (by simp only [List.length_append, List.length_take, leb_len]; omega), List.getElem?_drop]
    congr 1
    simp only [List.length_append, List.length_take, leb_len]
    omega


end Go.Proofs.Ytcnalndhlonblaa
