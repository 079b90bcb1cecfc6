/-
  value.ReadRoot, ReadCount, ReadSlot, ReadDetail, ReadMap, walked.
-/
import Derived.Test.YtcnalndhlonblaaVal6
namespace Go.Proofs.Ytcnalndhlonblaa
open Go.RowKit
attribute [local go_sem ↓] Go.wp_at_zero Go.wp_at_succ

theorem rd_one (p : Part) (s : List UInt8) : ∃ n, rdN [p] s = [n] := by
  have h := rdN_len [p] s
  match rdN [p] s, h with
  | [n], _ => exact ⟨n, rfl⟩
theorem good_one {p : Part} (h : goodP p) : ∀ q ∈ [p], goodP q := by
  intro q hq
  simp at hq
  subst hq
  exact h
/-- the first number of a value of one part, and the error -/
def rd1 (p : Part) (s : List UInt8) : Int := (rdN [p] s).headD 0
theorem vreadCount_any (s : List UInt8) (w : World) (hs : s.length ≤ reachBytes) : Calls Try.prog 37 #[.string ⟨s.toArray⟩] w fun e w' => e = .returned (.tuple #[.int .i64 (rd1 countP s), .int .i64 (rdE [countP] s)]) ∧ Below w.heap.size w w' := by
  obtain ⟨n, hn⟩ := rd_one countP s
  have h1 : rd1 countP s = n := by unfold rd1; rw [hn]; rfl
  rw [h1]
  clear h1
  have HN := Lib.hid hn
  clear hn
  have hrd := fun (A : Option Addr) (w1 : World) hr => vread_any A 1 [countP] s w1 (by simp) (by simp) hs (good_one (good4 _ _ (by omega) (by omega))) hr
  rw [HN.out] at hrd
  generalize rdE [countP] s = re at *
  go_enter Try.func37, Try.ntmps37
  go_wp2_with fail
  refine (count_any _).mono ?_
  rintro e w1 ⟨A, rfl, hr, hb1⟩
  go_wp2_with fail
  refine (hrd A w1 hr).mono ?_
  rintro e w2 ⟨A2, c2, rfl, hown, hb2⟩
  have hB := below_then hb1 hb2
  obtain ⟨g, rfl, hc⟩ := own_cells hown (by simp [iv])
  rw [show (iv [n]).length = 1 from rfl]
  have hc0 := hc 0 _ rfl
  clear hown hb1 hb2 hr hc hrd
  go_wp2
  go_ret2
  exact ⟨rfl, hB⟩
theorem rd_slot (s : List UInt8) : ∃ a b c, rdN slotPs s = [a, b, c] := by
  have h := rdN_len slotPs s
  match rdN slotPs s, h with
  | [a, b, c], _ => exact ⟨a, b, c, rfl⟩
theorem rd_details (s : List UInt8) : ∃ a b c d, rdN detPs s = [a, b, c, d] := by
  have h := rdN_len detPs s
  match rdN detPs s, h with
  | [a, b, c, d], _ => exact ⟨a, b, c, d, rfl⟩
end Go.Proofs.Ytcnalndhlonblaa
