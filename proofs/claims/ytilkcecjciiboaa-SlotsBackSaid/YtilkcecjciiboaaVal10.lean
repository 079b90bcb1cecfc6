/-
  The reference's ReadSlot, walked. (Printed by wip/genval3.py.)
-/
import Derived.Test.YtilkcecjciiboaaVal9
import Derived.Test.YtilkcecjciiboaaBase5
namespace Go.Proofs.Ytilkcecjciiboaa
open Go.RowKit
attribute [local go_sem ↓] Go.wp_at_zero Go.wp_at_succ

theorem rd_len (ps : List Part) (s : List UInt8) (h : (s.length : Int) ≠ (wds ps).sum) : rdE ps s = 7 ∧ rdN ps s = List.replicate ps.length 0 := by
  have hE : rdE ps s = 7 := by unfold rdE; rw [if_neg h]
  exact ⟨hE, by unfold rdN; rw [if_neg (by rw [hE]; decide)]⟩
theorem rd_bad (ps : List Part) (s : List UInt8) (h : (s.length : Int) = (wds ps).sum) (h2 : unpE s 0 (wds ps) ≠ 0 ∨ valE (ps.zip (unpB s 0 (wds ps))) = false) : rdE ps s = 2 ∧ rdN ps s = List.replicate ps.length 0 := by
  have hE : rdE ps s = 2 := by
    unfold rdE
    rw [if_pos h, if_neg]
    rintro ⟨e1, e2⟩
    rcases h2 with h2 | h2
    · exact h2 e1
    · rw [h2] at e2; cases e2
  exact ⟨hE, by unfold rdN; rw [if_neg (by rw [hE]; decide)]⟩
theorem rd_ok (ps : List Part) (s : List UInt8) (h : (s.length : Int) = (wds ps).sum) (h1 : unpE s 0 (wds ps) = 0) (h2 : valE (ps.zip (unpB s 0 (wds ps))) = true) : rdE ps s = 0 ∧ rdN ps s = unpB s 0 (wds ps) := by
  have hE : rdE ps s = 0 := by
    unfold rdE
    rw [if_pos h, if_pos ⟨h1, h2⟩]
  exact ⟨hE, by unfold rdN; rw [if_pos hE]⟩
theorem valV_not (z : List (Part × Int)) (h : valE z = false) : valV z = [] := by unfold valV; rw [if_neg (by rw [h]; decide)]
theorem valV_cons (z : List (Part × Int)) (h : ∀ q ∈ z, goodP q.1) (hz : 0 < z.length) (hv : valE z = true) : ∃ x xs, valV z = x :: xs := by
  obtain ⟨x, xs, hc⟩ := valB_cons z h hz
  exact ⟨x, xs, by unfold valV; rw [if_pos hv, hc]⟩
theorem int3 (l : List Int) (h : l.length = 3) : ∃ a b c, l = [a, b, c] := by
  match l, h with
  | [a, b, c], _ => exact ⟨a, b, c, rfl⟩
theorem int4 (l : List Int) (h : l.length = 4) : ∃ a b c d, l = [a, b, c, d] := by
  match l, h with
  | [a, b, c, d], _ => exact ⟨a, b, c, d, rfl⟩
set_option maxRecDepth 100000 in
set_option maxHeartbeats 2000000 in
theorem rreadSlot_any (s : List UInt8) (w : World) (hs : s.length ≤ reachBytes) : Calls Try.prog 86 #[.string ⟨s.toArray⟩] w fun e w' => e = .returned (.tuple #[.agg (iv (rdN slotPs s)).toArray, .int .i64 (rdE slotPs s)]) ∧ Below w.heap.size w w' := by
  by_cases h : s.length = 16
  · obtain ⟨cc, O, hcv, hR, hcl⟩ := run_str_bytes (P := Try.prog) (w.alloc (.cells #[.int .i64 0, .int .i64 0, .int .i64 0] 66)) 9 22 5 s Try.underlying9 Try.underlying22 Try.underlying5
    have hok := rd_ok slotPs s (by simp [slotPs, wds, h])
    have hbad := rd_bad slotPs s (by simp [slotPs, wds, h])
    have hwds : wds slotPs = [8, 4, 4] := rfl
    rw [hwds] at hok hbad
    have hu := fun A c A2 W h1 h2 => runpack_any A c s A2 3 [8, 4, 4] W hs (by simp [reachBytes]) h1 h2
    rw [h] at hu hcv
    have hW1 : Below w.heap.size w (w.alloc (.cells #[.int .i64 0, .int .i64 0, .int .i64 0] 66)) := below_alloc1 w _
    have hr2 := Reads.new ((w.alloc (.cells #[.int .i64 0, .int .i64 0, .int .i64 0] 66)).alloc O) (iv [8, 4, 4]) 3 (0, 0)
    simp only [World.size_alloc] at hR hr2
    have hB1 : Below w.heap.size w (((w.alloc (.cells #[.int .i64 0, .int .i64 0, .int .i64 0] 66)).alloc O).alloc (.cells (iv [8, 4, 4]).toArray 3)).drew := ((hW1.alloc (by simp) _).alloc (by simp; omega) _).drew
    have hblk0 := heap_alloc' (heap_alloc' (heap_alloc_new w (.cells #[.int .i64 0, .int .i64 0, .int .i64 0] 66)) O) (.cells (iv [8, 4, 4]).toArray 3)
    have d0 : ((s.length : Int) != 16) = false := by simp [h]
    clear h hwds
    by_cases he : unpE s 0 [8, 4, 4] = 0
    · have hV : unpV s 0 [8, 4, 4] = unpB s 0 [8, 4, 4] := by unfold unpV; rw [if_pos he]
      obtain ⟨a, b, c, hn⟩ := int3 (unpB s 0 [8, 4, 4]) (by rw [unpB_len]; rfl)
      rw [he, hV, hn] at hu
      rw [hn] at hok hbad
      have hok := hok he
      clear hV hn
      by_cases hv : valE (slotZ a b c) = true
      · obtain ⟨e1, e2⟩ := hok hv
        rw [e1, e2]
        obtain ⟨x, xs, hc⟩ := valV_cons _ (slotZ_good a b c) (by simp [slotZ]) hv
        have hrs := fun W => rslot_any a b c W
        rw [hc] at hrs
        clear hc hv e1 e2 he hok hbad
        go_enter Try.func86, Try.ntmps86
        go_wp2_with fail
        refine (hu (some ⟨w.heap.size + 1, 0, none⟩) cc (some ⟨w.heap.size + 1 + 1, 0, none⟩) _ ?a1 ?a2).mono ?_
        case a1 => exact ((hR.alloc (by simp) _).drew).more (by simp)
        case a2 => exact hr2.drew.more (by simp)
        rintro e w2 ⟨A2, c2, rfl, hown, hb2⟩
        have hblk := heap_keep hblk0 (undrew hb2)
        have hB := hB1.trans (hb2.mono hB1.size)
        obtain ⟨g, rfl, hc⟩ := own_cells hown (by simp [iv])
        rw [show (iv [a, b, c]).length = 3 from rfl]
        have hc0 := hc 0 _ rfl
        have hc1 := hc 1 _ rfl
        have hc2 := hc 2 _ rfl
        have ha0 : ∀ o, (w2.alloc o).cell? ⟨g, 0, none⟩ = some (.int .i64 a) := fun o => (World.cell?_alloc_lt w2 o _ (block_lt_of_cell hc0)).trans hc0
        have ha1 : ∀ o, (w2.alloc o).cell? ⟨g, 1, none⟩ = some (.int .i64 b) := fun o => (World.cell?_alloc_lt w2 o _ (block_lt_of_cell hc1)).trans hc1
        have ha2 : ∀ o, (w2.alloc o).cell? ⟨g, 2, none⟩ = some (.int .i64 c) := fun o => (World.cell?_alloc_lt w2 o _ (block_lt_of_cell hc2)).trans hc2
        clear hu hown hc hb2 hB1 hr2 hR hW1 hblk0 hcv hcl d0
        go_wp2_with fail
        go_region
        go_wp2_with fail
        refine (hrs _).mono ?_
        rintro e w4 ⟨rfl, hb4⟩
        simp only [World.size_drew, World.size_alloc] at hb4
        have hb4 := undrew hb4
        have hblk4 := heap_keep (heap_alloc' hblk (.cells #[.int .i64 a, .int .i64 b, .int .i64 c] 66)) (by rw [World.size_alloc]; exact hb4)
        have hblk5 := heap_keep (heap_alloc_new w2 (.cells #[.int .i64 a, .int .i64 b, .int .i64 c] 66)) (by rw [World.size_alloc]; exact hb4)
        have k0 := heap_cell hblk4 0 rfl
        have k1 := heap_cell hblk4 1 rfl
        have k2 := heap_cell hblk4 2 rfl
        have z0 := heap_free hblk4 0
        have z1 := heap_free hblk4 1
        have z2 := heap_free hblk4 2
        have l0 := heap_cell hblk5 0 rfl
        have l1 := heap_cell hblk5 1 rfl
        have l2 := heap_cell hblk5 2 rfl
        have hB4 := hB.trans ((Below.refl _ w2).alloc (Nat.le_refl _) (.cells #[.int .i64 a, .int .i64 b, .int .i64 c] 66) |>.mono hB.size) |>.trans (hb4.mono (by have := hB.size; omega))
        clear hblk hblk4 hblk5 hB hb4 ha0 hc0 ha1 hc1 ha2 hc2 hrs
        go_wp2
        refine bodyPost_ret (v := .tuple #[.agg #[.int .i64 a, .int .i64 b, .int .i64 c], .int .i64 0]) (by rw [results_cell_tmp rfl]; go_simp) rfl ?_
        exact ⟨rfl, (((hB4.setCell (p := ⟨w.heap.size, 0, none⟩) (Nat.le_refl _) _).setCell (p := ⟨w.heap.size, 1, none⟩) (Nat.le_refl _) _).setCell (p := ⟨w.heap.size, 2, none⟩) (Nat.le_refl _) _)⟩
      · have hv : valE (slotZ a b c) = false := by simpa using hv
        obtain ⟨e1, e2⟩ := hbad (.inr hv)
        rw [e1, e2]
        have hrs := fun W => rslot_any a b c W
        rw [valV_not _ hv] at hrs
        clear hv e1 e2 he hok hbad
        go_enter Try.func86, Try.ntmps86
        go_wp2_with fail
        refine (hu (some ⟨w.heap.size + 1, 0, none⟩) cc (some ⟨w.heap.size + 1 + 1, 0, none⟩) _ ?b1 ?b2).mono ?_
        case b1 => exact ((hR.alloc (by simp) _).drew).more (by simp)
        case b2 => exact hr2.drew.more (by simp)
        rintro e w2 ⟨A2, c2, rfl, hown, hb2⟩
        have hblk := heap_keep hblk0 (undrew hb2)
        have hB := hB1.trans (hb2.mono hB1.size)
        obtain ⟨g, rfl, hc⟩ := own_cells hown (by simp [iv])
        rw [show (iv [a, b, c]).length = 3 from rfl]
        have hc0 := hc 0 _ rfl
        have hc1 := hc 1 _ rfl
        have hc2 := hc 2 _ rfl
        have ha0 : ∀ o, (w2.alloc o).cell? ⟨g, 0, none⟩ = some (.int .i64 a) := fun o => (World.cell?_alloc_lt w2 o _ (block_lt_of_cell hc0)).trans hc0
        have ha1 : ∀ o, (w2.alloc o).cell? ⟨g, 1, none⟩ = some (.int .i64 b) := fun o => (World.cell?_alloc_lt w2 o _ (block_lt_of_cell hc1)).trans hc1
        have ha2 : ∀ o, (w2.alloc o).cell? ⟨g, 2, none⟩ = some (.int .i64 c) := fun o => (World.cell?_alloc_lt w2 o _ (block_lt_of_cell hc2)).trans hc2
        clear hu hown hc hb2 hB1 hr2 hR hW1 hblk0 hcv hcl d0
        go_wp2_with fail
        go_region
        go_wp2_with fail
        refine (hrs _).mono ?_
        rintro e w4 ⟨rfl, hb4⟩
        simp only [World.size_drew, World.size_alloc] at hb4
        have hb4 := undrew hb4
        have hblk4 := heap_keep (heap_alloc' hblk (.cells #[.int .i64 a, .int .i64 b, .int .i64 c] 66)) (by rw [World.size_alloc]; exact hb4)
        have hblk5 := heap_keep (heap_alloc_new w2 (.cells #[.int .i64 a, .int .i64 b, .int .i64 c] 66)) (by rw [World.size_alloc]; exact hb4)
        have k0 := heap_cell hblk4 0 rfl
        have k1 := heap_cell hblk4 1 rfl
        have k2 := heap_cell hblk4 2 rfl
        have z0 := heap_free hblk4 0
        have z1 := heap_free hblk4 1
        have z2 := heap_free hblk4 2
        have l0 := heap_cell hblk5 0 rfl
        have l1 := heap_cell hblk5 1 rfl
        have l2 := heap_cell hblk5 2 rfl
        have hB4 := hB.trans ((Below.refl _ w2).alloc (Nat.le_refl _) (.cells #[.int .i64 a, .int .i64 b, .int .i64 c] 66) |>.mono hB.size) |>.trans (hb4.mono (by have := hB.size; omega))
        clear hblk hblk4 hblk5 hB hb4 ha0 hc0 ha1 hc1 ha2 hc2 hrs
        go_wp2
        refine bodyPost_ret (v := .tuple #[.agg #[.int .i64 0, .int .i64 0, .int .i64 0], .int .i64 2]) (by rw [results_cell_tmp rfl]; go_simp) rfl ?_
        exact ⟨rfl, (((hB4.setCell (p := ⟨w.heap.size, 0, none⟩) (Nat.le_refl _) _).setCell (p := ⟨w.heap.size, 1, none⟩) (Nat.le_refl _) _).setCell (p := ⟨w.heap.size, 2, none⟩) (Nat.le_refl _) _)⟩
    · obtain ⟨e1, e2⟩ := hbad (.inl he)
      rw [e1, e2]
      have hV : unpV s 0 [8, 4, 4] = [] := by unfold unpV; rw [if_neg he]
      have d1 : (unpE s 0 [8, 4, 4] != 0) = true := by simpa using he
      rw [hV] at hu
      clear hV e1 e2 he hok hbad
      generalize unpE s 0 [8, 4, 4] = ue at *
      go_enter Try.func86, Try.ntmps86
      go_wp2_with fail
      refine (hu (some ⟨w.heap.size + 1, 0, none⟩) cc (some ⟨w.heap.size + 1 + 1, 0, none⟩) _ ?c1 ?c2).mono ?_
      case c1 => exact ((hR.alloc (by simp) _).drew).more (by simp)
      case c2 => exact hr2.drew.more (by simp)
      rintro e w2 ⟨A2, c2, rfl, hown, hb2⟩
      have hblk := heap_keep hblk0 (undrew hb2)
      have hB := hB1.trans (hb2.mono hB1.size)
      rw [show (iv []).length = 0 from rfl]
      have k0 := heap_cell hblk 0 rfl
      have k1 := heap_cell hblk 1 rfl
      have k2 := heap_cell hblk 2 rfl
      have z0 := heap_free hblk 0
      have z1 := heap_free hblk 1
      have z2 := heap_free hblk 2
      clear hu hown hb2 hB1 hr2 hR hW1 hblk0 hblk hcv hcl d0
      go_wp2
      refine bodyPost_ret (v := .tuple #[.agg #[.int .i64 0, .int .i64 0, .int .i64 0], .int .i64 2]) (by rw [results_cell_tmp rfl]; go_simp) rfl ?_
      exact ⟨rfl, (((hB.setCell (p := ⟨w.heap.size, 0, none⟩) (Nat.le_refl _) _).setCell (p := ⟨w.heap.size, 1, none⟩) (Nat.le_refl _) _).setCell (p := ⟨w.heap.size, 2, none⟩) (Nat.le_refl _) _)⟩
  · obtain ⟨e1, e2⟩ := rd_len slotPs s (by simp [slotPs, wds]; omega)
    rw [e1, e2]
    have d1 : ((s.length : Int) != 16) = true := by simp; omega
    clear e1 e2
    go_enter Try.func86, Try.ntmps86
    go_wp2
    refine bodyPost_ret (v := .tuple #[.agg #[.int .i64 0, .int .i64 0, .int .i64 0], .int .i64 7]) (by rw [results_cell_tmp rfl]; go_simp) rfl ?_
    exact ⟨rfl, (below_alloc1 w _)⟩
end Go.Proofs.Ytilkcecjciiboaa
