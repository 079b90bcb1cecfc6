/-
  value.ReadRoot, ReadCount, ReadSlot, ReadDetail, ReadMap, walked.
-/
import Derived.Test.YtilkcecjciiboaaVal6
namespace Go.Proofs.Ytilkcecjciiboaa
open Go.RowKit
attribute [local go_sem ↓] Go.wp_at_zero Go.wp_at_succ

theorem rd_one (p : Part) (s : List UInt8) : ∃ n, rdN [p] s = [n] := by
  have h := rdN_len [p] s
  match rdN [p] s, h with
  | [n], _ => exact ⟨n, rfl⟩
theorem good_one {p : Part} (h : goodP p) : ∀ q ∈ [p], goodP q := by
  intro q hq
  simp at hq
  subst hq
  exact h
/-- the first number of a value of one part, and the error -/
def rd1 (p : Part) (s : List UInt8) : Int := (rdN [p] s).headD 0
theorem rd_slot (s : List UInt8) : ∃ a b c, rdN slotPs s = [a, b, c] := by
  have h := rdN_len slotPs s
  match rdN slotPs s, h with
  | [a, b, c], _ => exact ⟨a, b, c, rfl⟩
set_option maxHeartbeats 1000000 in
theorem vreadSlot_any (s : List UInt8) (w : World) (hs : s.length ≤ reachBytes) : Calls Try.prog 84 #[.string ⟨s.toArray⟩] w fun e w' => e = .returned (.tuple #[.agg (iv (rdN slotPs s)).toArray, .int .i64 (rdE slotPs s)]) ∧ Below w.heap.size w w' := by
  obtain ⟨a, b, c, hn⟩ := rd_slot s
  have hrd := fun (A : Option Addr) (w1 : World) hr => vread_any A 3 slotPs s w1 (by simp [slotPs]) (by simp [slotPs]) hs (fun p hp => slotZ_good 0 0 0 (p, 0) (by simp [slotZ]; simp [slotPs] at hp; rcases hp with rfl | rfl <;> simp)) hr
  rw [hn] at hrd ⊢
  clear hn
  generalize rdE slotPs s = re at *
  go_enter Try.func84, Try.ntmps84
  go_wp2_with fail
  refine (slot_any _).mono ?_
  rintro e w1 ⟨A, rfl, hr, hb1⟩
  go_wp2_with fail
  refine (hrd A w1 hr).mono ?_
  rintro e w2 ⟨A2, c2, rfl, hown, hb2⟩
  have hB := below_then hb1 hb2
  obtain ⟨g, rfl, hc⟩ := own_cells hown (by simp [iv])
  rw [show (iv [a, b, c]).length = 3 from rfl]
  have hc0 := hc 0 _ rfl
  have hc1 := hc 1 _ rfl
  have hc2 := hc 2 _ rfl
  clear hown hb1 hb2 hr hc hrd
  go_wp2_with fail
  have hblk : w2.heap[w.heap.size]? = some (.cells #[.int .i64 0, .int .i64 0, .int .i64 0] 66) := by
    rw [hB.block w.heap.size (by simp)]
    exact heap_alloc_new w _
  have hk : ∀ i, i < 3 → w2.cell? ⟨w.heap.size, i, none⟩ = some (.int .i64 0) := fun i hi => by
    unfold World.cell?
    rw [hblk]
    have : i = 0 ∨ i = 1 ∨ i = 2 := by omega
    rcases this with rfl | rfl | rfl <;> rfl
  have hfz : ∀ i, w2.frozen? ⟨w.heap.size, i, none⟩ = false := fun i => by
    unfold World.frozen?
    rw [hblk]
    simp
  have k0 := hk 0 (by omega)
  have k1 := hk 1 (by omega)
  have k2 := hk 2 (by omega)
  have z0 := hfz 0
  have z1 := hfz 1
  have z2 := hfz 2
  have hB2 : Below w.heap.size w w2 := (below_alloc1 w _).trans (hB.mono (by simp))
  clear hk hfz hblk hB
  generalize hf : w.heap.size = f at *
  have HF := Lib.hid hf
  clear hf
  go_region
  go_wp2
  try simp only [Exit.inBlock, Exit.then]
  refine bodyPost_ret (v := .tuple #[.agg #[.int .i64 a, .int .i64 b, .int .i64 c], .int .i64 re]) (by rw [results_cell_tmp rfl]; go_simp) rfl ?_
  exact ⟨rfl, by rw [HF.out]; exact Below.drew (((hB2.setCell (p := ⟨f, 0, none⟩) (Nat.le_refl f) _).setCell (p := ⟨f, 1, none⟩) (Nat.le_refl f) _).setCell (p := ⟨f, 2, none⟩) (Nat.le_refl f) _)⟩
theorem rd_details (s : List UInt8) : ∃ a b c d, rdN detPs s = [a, b, c, d] := by
  have h := rdN_len detPs s
  match rdN detPs s, h with
  | [a, b, c, d], _ => exact ⟨a, b, c, d, rfl⟩
end Go.Proofs.Ytilkcecjciiboaa
