/-
  Chapter 1's CodeJoins, walked.
-/
import Derived.Test.YtcnalndhlonblaaLaw01B
import Derived.Test.YtcnalndhlonblaaLaw01C
namespace Go.Proofs.Ytcnalndhlonblaa
open Go.RowKit

theorem get_at (pre suf : List UInt8) (w n : Int) (hw : (Lit.int .i64 n).wf = true) (hk : knownB w = true) (hf : fitsB n w = true) :
    getV (pre ++ (leb w.toNat n.toNat ++ suf)) pre.length w = (n, 0) := by
  obtain ⟨m, rfl⟩ := fitsB_ok hf hk
  have hlt := fits_lt hw hk hf
  have hx := (knownB_iff w).1 hk
  have hg : getN (pre ++ (leb w.toNat (m : Int).toNat ++ suf)) pre.length w = m := by
    unfold getN
    rw [Int.toNat_natCast, Int.toNat_natCast, List.drop_left', List.take_left' (leb_len _ _), le_leb _ _ hlt]
    rfl
  unfold getV
  rw [thereV_ok hk (by omega) (by simp only [List.length_append, leb_len]; omega), if_pos rfl, hg, if_pos (by have := (wf_i64 hw).2; omega)]
theorem unp_pack (a : List (Int × Int)) : ∀ (pre suf : List UInt8), packE a = 0 → (∀ p ∈ a, (Lit.int .i64 p.2).wf = true) →
    unpE (pre ++ (packB a ++ suf)) pre.length (a.map (·.1)) = 0 ∧ unpB (pre ++ (packB a ++ suf)) pre.length (a.map (·.1)) = a.map (·.2) := by
  induction a with
  | nil => intro pre suf _ _; simp [unpE, unpB]
  | cons q a ih =>
    obtain ⟨w, n⟩ := q
    intro pre suf he hw
    simp only [packE] at he
    split at he
    · rename_i hk
      split at he
      · rename_i hf
        have hx := (knownB_iff w).1 hk
        have hg := get_at pre (packB a ++ suf) w n (hw (w, n) (by simp)) hk hf
        have hL : ((pre ++ leb w.toNat n.toNat).length : Int) = (pre.length : Int) + w := by rw [List.length_append, leb_len]; omega
        obtain ⟨i1, i2⟩ := ih (pre ++ leb w.toNat n.toNat) suf he (fun p hp => hw p (by simp [hp]))
        rw [hL, List.append_assoc] at i1 i2
        simp only [packB, List.map_cons, unpE, unpB, List.append_assoc, hg, if_pos, i1, i2, and_self]
      · cases he
    · cases he

end Go.Proofs.Ytcnalndhlonblaa
