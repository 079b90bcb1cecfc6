/-
  value.ReadRoot, ReadCount, ReadSlot, ReadDetail, ReadMap, walked.
-/
import Derived.Test.YtahomneljdjjjaaVal6
namespace Go.Proofs.Ytahomneljdjjjaa
open Go.RowKit
attribute [local go_sem ↓] Go.wp_at_zero Go.wp_at_succ

theorem rd_one (p : Part) (s : List UInt8) : ∃ n, rdN [p] s = [n] := by
  have h := rdN_len [p] s
  match rdN [p] s, h with
  | [n], _ => exact ⟨n, rfl⟩
theorem good_one {p : Part} (h : goodP p) : ∀ q ∈ [p], goodP q := by
  intro q hq
  simp at hq
  subst hq
  exact h
/-- the first number of a value of one part, and the error -/
def rd1 (p : Part) (s : List UInt8) : Int := (rdN [p] s).headD 0
theorem vreadRoot_any (s : List UInt8) (w : World) (hs : s.length ≤ reachBytes) : Calls Try.prog 60 #[.string ⟨s.toArray⟩] w fun e w' => e = .returned (.tuple #[.int .i64 (rd1 rootP s), .int .i64 (rdE [rootP] s)]) ∧ Below w.heap.size w w' := by
  obtain ⟨n, hn⟩ := rd_one rootP s
  have h1 : rd1 rootP s = n := by unfold rd1; rw [hn]; rfl
  rw [h1]
  clear h1
  have HN := Lib.hid hn
  clear hn
  have hrd := fun (A : Option Addr) (w1 : World) hr => vread_any A 1 [rootP] s w1 (by simp) (by simp) hs (good_one (good4 _ _ (by omega) (by omega))) hr
  rw [HN.out] at hrd
  generalize rdE [rootP] s = re at *
  go_enter Try.func60, Try.ntmps60
  go_wp2_with fail
  refine (root_any _).mono ?_
  rintro e w1 ⟨A, rfl, hr, hb1⟩
  go_wp2_with fail
  refine (hrd A w1 hr).mono ?_
  rintro e w2 ⟨A2, c2, rfl, hown, hb2⟩
  have hB := below_then hb1 hb2
  obtain ⟨g, rfl, hc⟩ := own_cells hown (by simp [iv])
  rw [show (iv [n]).length = 1 from rfl]
  have hc0 := hc 0 _ rfl
  clear hown hb1 hb2 hr hc hrd
  go_wp2
  go_ret2
  exact ⟨rfl, hB⟩
theorem vreadCount_any (s : List UInt8) (w : World) (hs : s.length ≤ reachBytes) : Calls Try.prog 62 #[.string ⟨s.toArray⟩] w fun e w' => e = .returned (.tuple #[.int .i64 (rd1 countP s), .int .i64 (rdE [countP] s)]) ∧ Below w.heap.size w w' := by
  obtain ⟨n, hn⟩ := rd_one countP s
  have h1 : rd1 countP s = n := by unfold rd1; rw [hn]; rfl
  rw [h1]
  clear h1
  have HN := Lib.hid hn
  clear hn
  have hrd := fun (A : Option Addr) (w1 : World) hr => vread_any A 1 [countP] s w1 (by simp) (by simp) hs (good_one (good4 _ _ (by omega) (by omega))) hr
  rw [HN.out] at hrd
  generalize rdE [countP] s = re at *
  go_enter Try.func62, Try.ntmps62
  go_wp2_with fail
  refine (count_any _).mono ?_
  rintro e w1 ⟨A, rfl, hr, hb1⟩
  go_wp2_with fail
  refine (hrd A w1 hr).mono ?_
  rintro e w2 ⟨A2, c2, rfl, hown, hb2⟩
  have hB := below_then hb1 hb2
  obtain ⟨g, rfl, hc⟩ := own_cells hown (by simp [iv])
  rw [show (iv [n]).length = 1 from rfl]
  have hc0 := hc 0 _ rfl
  clear hown hb1 hb2 hr hc hrd
  go_wp2
  go_ret2
  exact ⟨rfl, hB⟩
theorem rd_slot (s : List UInt8) : ∃ a b c, rdN slotPs s = [a, b, c] := by
  have h := rdN_len slotPs s
  match rdN slotPs s, h with
  | [a, b, c], _ => exact ⟨a, b, c, rfl⟩
set_option maxHeartbeats 1000000 in
theorem vreadSlot_any (s : List UInt8) (w : World) (hs : s.length ≤ reachBytes) : Calls Try.prog 58 #[.string ⟨s.toArray⟩] w fun e w' => e = .returned (.tuple #[.agg (iv (rdN slotPs s)).toArray, .int .i64 (rdE slotPs s)]) ∧ Below w.heap.size w w' := by
  obtain ⟨a, b, c, hn⟩ := rd_slot s
  have hrd := fun (A : Option Addr) (w1 : World) hr => vread_any A 3 slotPs s w1 (by simp [slotPs]) (by simp [slotPs]) hs (fun p hp => slotZ_good 0 0 0 (p, 0) (by simp [slotZ]; simp [slotPs] at hp; rcases hp with rfl | rfl <;> simp)) hr
  rw [hn] at hrd ⊢
  clear hn
  generalize rdE slotPs s = re at *
  go_enter Try.func58, Try.ntmps58
  go_wp2_with fail
  refine (slot_any _).mono ?_
  rintro e w1 ⟨A, rfl, hr, hb1⟩
  go_wp2_with fail
  refine (hrd A w1 hr).mono ?_
  rintro e w2 ⟨A2, c2, rfl, hown, hb2⟩
  have hB := below_then hb1 hb2
  obtain ⟨g, rfl, hc⟩ := own_cells hown (by simp [iv])
  rw [show (iv [a, b, c]).length = 3 from rfl]
  have hc0 := hc 0 _ rfl
  have hc1 := hc 1 _ rfl
  have hc2 := hc 2 _ rfl
  clear hown hb1 hb2 hr hc hrd
  go_wp2_with fail
  have hblk : w2.heap[w.heap.size]? = some (.cells #[.int .i64 0, .int .i64 0, .int .i64 0] 35) := by
    rw [hB.block w.heap.size (by simp)]
    exact heap_alloc_new w _
  have hk : ∀ i, i < 3 → w2.cell? ⟨w.heap.size, i, none⟩ = some (.int .i64 0) := fun i hi => by
    unfold World.cell?
    rw [hblk]
    have : i = 0 ∨ i = 1 ∨ i = 2 := by omega
    rcases this with rfl | rfl | rfl <;> rfl
  have hfz : ∀ i, w2.frozen? ⟨w.heap.size, i, none⟩ = false := fun i => by
    unfold World.frozen?
    rw [hblk]
    simp
  have k0 := hk 0 (by omega)
  have k1 := hk 1 (by omega)
  have k2 := hk 2 (by omega)
  have z0 := hfz 0
  have z1 := hfz 1
  have z2 := hfz 2
  have hB2 : Below w.heap.size w w2 := (below_alloc1 w _).trans (hB.mono (by simp))
  clear hk hfz hblk hB
  generalize hf : w.heap.size = f at *
  have HF := Lib.hid hf
  clear hf
  go_region
  go_wp2
  try simp only [Exit.inBlock, Exit.then]
  refine bodyPost_ret (v := .tuple #[.agg #[.int .i64 a, .int .i64 b, .int .i64 c], .int .i64 re]) (by rw [results_cell_tmp rfl]; go_simp) rfl ?_
  exact ⟨rfl, by rw [HF.out]; exact Below.drew (((hB2.setCell (p := ⟨f, 0, none⟩) (Nat.le_refl f) _).setCell (p := ⟨f, 1, none⟩) (Nat.le_refl f) _).setCell (p := ⟨f, 2, none⟩) (Nat.le_refl f) _)⟩
theorem rd_details (s : List UInt8) : ∃ a b c d, rdN detPs s = [a, b, c, d] := by
  have h := rdN_len detPs s
  match rdN detPs s, h with
  | [a, b, c, d], _ => exact ⟨a, b, c, d, rfl⟩
set_option maxHeartbeats 1000000 in
theorem vreadDetail_any (s : List UInt8) (w : World) (hs : s.length ≤ reachBytes) : Calls Try.prog 56 #[.string ⟨s.toArray⟩] w fun e w' => e = .returned (.tuple #[.agg (iv (rdN detPs s)).toArray, .int .i64 (rdE detPs s)]) ∧ Below w.heap.size w w' := by
  obtain ⟨a, b, c, d, hn⟩ := rd_details s
  have hrd := fun (A : Option Addr) (w1 : World) hr => vread_any A 4 detPs s w1 (by simp [detPs]) (by simp [detPs]) hs (fun p hp => detZ_good 0 0 0 0 (p, 0) (by simp [detZ]; simp [detPs] at hp; rcases hp with rfl | rfl | rfl <;> simp)) hr
  rw [hn] at hrd ⊢
  clear hn
  generalize rdE detPs s = re at *
  go_enter Try.func56, Try.ntmps56
  go_wp2_with fail
  refine (details_any _).mono ?_
  rintro e w1 ⟨A, rfl, hr, hb1⟩
  go_wp2_with fail
  refine (hrd A w1 hr).mono ?_
  rintro e w2 ⟨A2, c2, rfl, hown, hb2⟩
  have hB := below_then hb1 hb2
  obtain ⟨g, rfl, hc⟩ := own_cells hown (by simp [iv])
  rw [show (iv [a, b, c, d]).length = 4 from rfl]
  have hc0 := hc 0 _ rfl
  have hc1 := hc 1 _ rfl
  have hc2 := hc 2 _ rfl
  have hc3 := hc 3 _ rfl
  clear hown hb1 hb2 hr hc hrd
  go_wp2_with fail
  have hblk : w2.heap[w.heap.size]? = some (.cells #[.int .i64 0, .int .i64 0, .int .i64 0, .int .i64 0] 33) := by
    rw [hB.block w.heap.size (by simp)]
    exact heap_alloc_new w _
  have hk : ∀ i, i < 4 → w2.cell? ⟨w.heap.size, i, none⟩ = some (.int .i64 0) := fun i hi => by
    unfold World.cell?
    rw [hblk]
    have : i = 0 ∨ i = 1 ∨ i = 2 ∨ i = 3 := by omega
    rcases this with rfl | rfl | rfl | rfl <;> rfl
  have hfz : ∀ i, w2.frozen? ⟨w.heap.size, i, none⟩ = false := fun i => by
    unfold World.frozen?
    rw [hblk]
    simp
  have k0 := hk 0 (by omega)
  have k1 := hk 1 (by omega)
  have k2 := hk 2 (by omega)
  have k3 := hk 3 (by omega)
  have z0 := hfz 0
  have z1 := hfz 1
  have z2 := hfz 2
  have z3 := hfz 3
  have hB2 : Below w.heap.size w w2 := (below_alloc1 w _).trans (hB.mono (by simp))
  clear hk hfz hblk hB
  generalize hf : w.heap.size = f at *
  have HF := Lib.hid hf
  clear hf
  go_region
  go_wp2
  try simp only [Exit.inBlock, Exit.then]
  refine bodyPost_ret (v := .tuple #[.agg #[.int .i64 a, .int .i64 b, .int .i64 c, .int .i64 d], .int .i64 re]) (by rw [results_cell_tmp rfl]; go_simp) rfl ?_
  exact ⟨rfl, by rw [HF.out]; exact Below.drew ((((hB2.setCell (p := ⟨f, 0, none⟩) (Nat.le_refl f) _).setCell (p := ⟨f, 1, none⟩) (Nat.le_refl f) _).setCell (p := ⟨f, 2, none⟩) (Nat.le_refl f) _).setCell (p := ⟨f, 3, none⟩) (Nat.le_refl f) _)⟩
set_option maxHeartbeats 1000000 in
theorem vreadMap_any (s : List UInt8) (w : World) (hs : s.length ≤ reachBytes) : Calls Try.prog 54 #[.string ⟨s.toArray⟩] w fun e w' => e = .returned (.tuple #[.int .i64 (rd1 mapP s / 16777216), .int .i64 (rd1 mapP s % 16777216), .int .i64 (rdE [mapP] s)]) ∧ Below w.heap.size w w' := by
  obtain ⟨n, hn⟩ := rd_one mapP s
  have h1 : rd1 mapP s = n := by unfold rd1; rw [hn]; rfl
  rw [h1]
  clear h1
  have HN := Lib.hid hn
  clear hn
  have hrd := fun (A : Option Addr) (w1 : World) hr => vread_any A 1 [mapP] s w1 (by simp) (by simp) hs (good_one (good8 _ _ (by omega))) hr
  rw [HN.out] at hrd
  generalize rdE [mapP] s = re at *
  have hm := i64_mask n 24 (by omega) 16777215 rfl
  go_enter Try.func54, Try.ntmps54
  go_wp2_with fail
  refine (mapping_any _).mono ?_
  rintro e w1 ⟨A, rfl, hr, hb1⟩
  go_wp2_with fail
  refine (hrd A w1 hr).mono ?_
  rintro e w2 ⟨A2, c2, rfl, hown, hb2⟩
  have hB := below_then hb1 hb2
  obtain ⟨g, rfl, hc⟩ := own_cells hown (by simp [iv])
  rw [show (iv [n]).length = 1 from rfl]
  have hc0 := hc 0 _ rfl
  clear hown hb1 hb2 hr hc hrd
  go_wp2_with fail
  go_quiet (fail)
  go_wp2_with fail
  refine bodyPost_ret (results_tmp3 rfl _ _ _) rfl ⟨rfl, below_drewN hB _⟩
end Go.Proofs.Ytahomneljdjjjaa
