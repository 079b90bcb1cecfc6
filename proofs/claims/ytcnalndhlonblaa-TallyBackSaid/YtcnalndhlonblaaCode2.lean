/-
  What code.Put computes, walked once.
-/
import Derived.Test.YtcnalndhlonblaaCode
import Derived.Test.YtcnalndhlonblaaBase2
namespace Go.Proofs.Ytcnalndhlonblaa
open Go.RowKit
attribute [local go_sem ↓] Go.wp_at_zero Go.wp_at_succ

/-- a slice of the call's own making, or none, beside an error's number -/
def GivesE (e : TypeId) (xs : List Value) (err : Int) (w : World) (en : Ending) (w' : World) : Prop :=
  ∃ A c, en = .returned (.tuple #[.slice A xs.length c, .int .i64 err]) ∧ w'.ownsRow w.heap.size e 1 (.slice A xs.length c) xs.length xs ∧ Below w.heap.size w w'
theorem putE_zero {l : List UInt8} {a x n : Int} (h : putE l a x n = 0) : thereV l.length a x = 0 ∧ fitsB n x = true := by
  unfold putE at h
  split at h
  · rename_i ht
    split at h
    · rename_i hf; exact ⟨ht, hf⟩
    · cases h
  · rename_i ht; exact absurd h ht
theorem fitsB_ok {n x : Int} (h : fitsB n x = true) (_hk : knownB x = true) : ∃ m : Nat, n = m := by
  simp [fitsB] at h
  exact Int.eq_ofNat_of_zero_le h.1

end Go.Proofs.Ytcnalndhlonblaa
