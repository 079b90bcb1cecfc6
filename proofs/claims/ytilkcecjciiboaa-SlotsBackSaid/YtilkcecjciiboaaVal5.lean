/-
  The reference's Slot and Detail, walked. (Printed by wip/genval2.py.)
-/
import Derived.Test.YtilkcecjciiboaaVal4
namespace Go.Proofs.Ytilkcecjciiboaa
open Go.RowKit

set_option maxRecDepth 100000 in
set_option maxHeartbeats 1000000 in
theorem rslot_any (a b c : Int) (w : World) :
    Calls Try.prog 80 #[.agg #[.int .i64 a, .int .i64 b, .int .i64 c]] w fun e w' => e = .returned (.string ⟨(valV (slotZ a b c)).toArray⟩) ∧ Below w.heap.size w w' := by
  have hina := in_any a 1 14399
  have hinb := in_any b 0 960
  have hinc := in_any c 0 960
  by_cases ha : inB (8, 1, 14399) a = true
  case neg =>
    have hF : inB (8, 1, 14399) a = false := by simpa using ha
    have hF2 : inB (8, 1, 14399) a = false := hF
    have hV : valV (slotZ a b c) = [] := by
      have : valE (slotZ a b c) = false := by simp [valE, slotZ, hF2]
      unfold valV
      rw [this]
      rfl
    rw [hV]
    rw [hF] at hina
    clear hF hF2 hV ha
    go_enter Try.func80, Try.ntmps80
    go_wp2_with fail
    refine (hina _).mono ?_
    rintro e w1 ⟨rfl, rfl⟩
    clear hina hinb hinc
    go_wp2
    go_ret
    exact ⟨rfl, below_alloc1 w _⟩
  by_cases hb : inB (8, 0, 960) b = true
  case neg =>
    have hF : inB (8, 0, 960) b = false := by simpa using hb
    have hF2 : inB (4, 0, 960) b = false := hF
    have hV : valV (slotZ a b c) = [] := by
      have : valE (slotZ a b c) = false := by simp [valE, slotZ, hF2]
      unfold valV
      rw [this]
      rfl
    rw [hV]
    rw [ha] at hina
    rw [hF] at hinb
    clear hF hF2 hV ha hb
    go_enter Try.func80, Try.ntmps80
    go_wp2_with fail
    refine (hina _).mono ?_
    rintro e w1 ⟨rfl, rfl⟩
    go_wp2_with fail
    refine (hinb _).mono ?_
    rintro e w1 ⟨rfl, rfl⟩
    clear hina hinb hinc
    go_wp2
    go_ret
    exact ⟨rfl, below_alloc1 w _⟩
  by_cases hc : inB (8, 0, 960) c = true
  case neg =>
    have hF : inB (8, 0, 960) c = false := by simpa using hc
    have hF2 : inB (4, 0, 960) c = false := hF
    have hV : valV (slotZ a b c) = [] := by
      have : valE (slotZ a b c) = false := by simp [valE, slotZ, hF2]
      unfold valV
      rw [this]
      rfl
    rw [hV]
    rw [ha] at hina
    rw [hb] at hinb
    rw [hF] at hinc
    clear hF hF2 hV ha hb hc
    go_enter Try.func80, Try.ntmps80
    go_wp2_with fail
    refine (hina _).mono ?_
    rintro e w1 ⟨rfl, rfl⟩
    go_wp2_with fail
    refine (hinb _).mono ?_
    rintro e w1 ⟨rfl, rfl⟩
    go_wp2_with fail
    refine (hinc _).mono ?_
    rintro e w1 ⟨rfl, rfl⟩
    clear hina hinb hinc
    go_wp2
    go_ret
    exact ⟨rfl, below_alloc1 w _⟩
  have ha' : 1 ≤ a ∧ a ≤ 14399 := by simpa [inB] using ha
  have ha2 : inB (8, 1, 14399) a = true := ha
  have hb' : 0 ≤ b ∧ b ≤ 960 := by simpa [inB] using hb
  have hb2 : inB (4, 0, 960) b = true := hb
  have hc' : 0 ≤ c ∧ c ≤ 960 := by simpa [inB] using hc
  have hc2 : inB (4, 0, 960) c = true := hc
  have hE : valE (slotZ a b c) = true := by simp [valE, slotZ, ha2, hb2, hc2]
  have hV : valV (slotZ a b c) = valB (slotZ a b c) := by unfold valV; rw [if_pos hE]
  rw [hV]
  rw [ha] at hina
  rw [hb] at hinb
  rw [hc] at hinc
  obtain ⟨a', rfl⟩ := Int.eq_ofNat_of_zero_le (show 0 ≤ a by omega)
  obtain ⟨b', rfl⟩ := Int.eq_ofNat_of_zero_le (show 0 ≤ b by omega)
  obtain ⟨c', rfl⟩ := Int.eq_ofNat_of_zero_le (show 0 ≤ c by omega)
  have ht := fun W => text_new [(a', 8), (b', 4), (c', 4)] W (by simp) (by
    intro q hq
    simp only [List.mem_cons, List.not_mem_nil, or_false] at hq
    rcases hq with rfl | rfl | rfl
    · exact ⟨by show a' < _; omega, Nat.le_of_ble_eq_true rfl⟩
    · exact ⟨by show b' < _; omega, Nat.le_of_ble_eq_true rfl⟩
    · exact ⟨by show c' < _; omega, Nat.le_of_ble_eq_true rfl⟩)
  have hf : ([(a', 8), (b', 4), (c', 4)].flatMap fun q : Nat × Nat => leb q.2 q.1) = valB (slotZ a' b' c') := by simp [valB, slotZ]
  rw [hf] at ht
  generalize valB (slotZ (a' : Int) (b' : Int) (c' : Int)) = res at *
  clear hf hE hV ha ha' ha2 hb hb' hb2 hc hc' hc2
  go_enter Try.func80, Try.ntmps80
  go_wp2_with fail
  refine (hina _).mono ?_
  rintro e w1 ⟨rfl, rfl⟩
  go_wp2_with fail
  refine (hinb _).mono ?_
  rintro e w1 ⟨rfl, rfl⟩
  go_wp2_with fail
  refine (hinc _).mono ?_
  rintro e w1 ⟨rfl, rfl⟩
  go_wp2_with fail
  have ht' := ht (w.alloc (.cells #[.int .i64 a', .int .i64 b', .int .i64 c'] 66))
  rw [World.size_alloc] at ht'
  refine ht'.mono ?_
  rintro e w2 ⟨rfl, hb⟩
  have hB : Below w.heap.size w w2 := (below_alloc1 w _).trans (hb.mono (by simp))
  clear ht ht' hb hina hinb hinc
  go_wp2
  go_ret
  exact ⟨rfl, hB⟩
end Go.Proofs.Ytilkcecjciiboaa
