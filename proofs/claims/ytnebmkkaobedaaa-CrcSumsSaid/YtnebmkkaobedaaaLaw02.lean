/-
  The statements of chapter 2 (crc), walked: each law's call returns true and leaves all that was there as it was.
-/
import Derived.Test.YtnebmkkaobedaaaCrc
namespace Go.Proofs.Ytnebmkkaobedaaa
open Go.RowKit

theorem crc_example : crcM 0 [49, 50, 51, 52, 53, 54, 55, 56, 57] = 3808858755 := by decide +kernel
theorem lives02 (w : World) : Calls Try.prog 25 #[] w fun e w' => e = .returned (.bool true) ∧ Below w.heap.size w w' := by
  have kc := fun (w : World) (C : Array Value) (n c : Nat) => Lib.run_convert_bytes_const (P := Try.prog) w 30 5 C n c Try.underlying30 Try.underlying5
  have hR := Reads.new w (bv [49, 50, 51, 52, 53, 54, 55, 56, 57]) 5 (9, 10)
  have hP := Pieces.one (w := w.alloc (.cells (bv [49, 50, 51, 52, 53, 54, 55, 56, 57]).toArray 5 (9, 10))) 30 9 9 rfl (hR.more (by simp)) (by simp [maxLen])
  rw [World.size_alloc] at hP
  have HP := Lib.hid hP
  clear hP hR
  go_enter Try.func25, Try.ntmps25
  go_wp2_with fail
  clear kc
  refine (sum_any _ 1 _ [[49, 50, 51, 52, 53, 54, 55, 56, 57]] _ rfl (by simp [maxLen]) (HP.out.more (by simp))).mono ?_
  rintro e w1 ⟨rfl, hb1⟩
  have hB := below_then (below_alloc2 w _ _) hb1
  clear hb1 HP
  go_wp2
  go_ret
  exact ⟨ret_bool (by simp [crc_example]), hB⟩

set_option maxHeartbeats 1000000 in
theorem law_CrcSums (A0 : Option Addr) (n0 c0 : Nat) (l0 : List UInt8) (a1 : Int) (w : World) (e0 : n0 = l0.length) (m0 : l0.length ≤ maxLen) (h0 : Reads w w.heap.size A0 (bv l0)) (_w1 : (Lit.int .i64 a1).wf = true) :
    Calls Try.prog 5 #[.slice A0 n0 c0, .int .i64 a1] w fun e w' => e = .returned (.bool true) ∧ Below w.heap.size w w' := by
  subst e0
  have m0' := m0
  unfold maxLen at m0
  by_cases hlen : 3000 < l0.length
  · go_enter Try.func5, Try.ntmps5
    go_wp2_with fail
    refine (lives02 _).mono ?_
    rintro e w1 ⟨rfl, hb1⟩
    go_wp2
    go_ret
    exact ⟨rfl, hb1⟩
  · go_enter Try.func5, Try.ntmps5
    go_wp2_with fail
    refine (sum_any _ 1 _ [l0] _ rfl (by simp [maxLen]) ((Pieces.one 30 _ _ rfl h0 m0').more (by simp))).mono ?_
    rintro e w1 ⟨rfl, hb1⟩
    have hB1 := below_then (below_alloc1 w _) hb1
    clear hb1
    rw [show [l0].flatten = l0 by simp]
    have hr1 := h0.ext hB1
    go_wp2_with fail
    refine (rsum_any A0 _ c0 l0 _ _ rfl m0' hr1).mono ?_
    rintro e w2 ⟨rfl, rfl⟩
    go_wp2_with fail
    refine (more_any a1 A0 _ c0 l0 _ rfl m0' hr1).mono ?_
    rintro e w2 ⟨rfl, hb2⟩
    have hB2 := below_then hB1 hb2
    have hr2 := hr1.ext hb2
    clear hb2 hr1 hB1
    go_wp2_with fail
    refine (rmore_any a1 A0 _ c0 l0 _ _ rfl m0' hr2).mono ?_
    rintro e w3 ⟨rfl, rfl⟩
    go_wp2_with fail
    refine (sum_any none 0 0 [] _ rfl (by simp [maxLen]) (Pieces.nil_ _ _ _)).mono ?_
    rintro e w4 ⟨rfl, hb4⟩
    rw [show crcM 0 (([] : List (List UInt8)).flatten) = 0 by decide +kernel]
    have hB4 := below_then hB2 hb4
    clear hb4 hr2 hB2
    go_wp2_with fail
    refine (lives02 _).mono ?_
    rintro e w5 ⟨rfl, hb5⟩
    have hB5 := below_then hB4 hb5
    clear hb5
    go_wp2
    go_ret
    exact ⟨rfl, hB5⟩
end Go.Proofs.Ytnebmkkaobedaaa
