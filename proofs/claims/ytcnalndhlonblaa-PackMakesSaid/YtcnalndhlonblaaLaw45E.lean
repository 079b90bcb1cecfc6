/-
  Chapter 45's PackMakes, walked.
-/
import Derived.Test.YtcnalndhlonblaaLaw45
namespace Go.Proofs.Ytcnalndhlonblaa
open Go.RowKit
set_option maxRecDepth 100000 in
set_option maxHeartbeats 40000000 in
theorem law_PackMakes (A0 : Option Addr) (c0 : Nat) (l0 : List UInt8) (w : World) (q0 : l0.length ≤ c0) (m0 : l0.length ≤ reachBytes) (r0 : Reads w w.heap.size A0 (bv l0)) :
    Calls Try.prog 6 #[.slice A0 l0.length c0] w fun e w' => e = .returned (.bool true) ∧ Below w.heap.size w w' := by
  go_enter Try.func6, Try.ntmps6
  by_cases h1 : 8000 < l0.length
  · have d1 : decide (8000 < (l0.length : Int)) = true := decide_eq_true (by omega)
    clear r0
    go_wp2_with fail
    refine (lives45 _).mono ?_
    rintro e w5 ⟨rfl, hb⟩
    go_wp2
    go_ret
    exact ⟨rfl, hb⟩
  · have d1 : decide (8000 < (l0.length : Int)) = false := decide_eq_false (by omega)
    have k1 := Lib.hid (iof_any A0 c0 l0 w q0 m0 r0)
    have k2 := Lib.hid (fun W (hb : Below w.heap.size w W) => rof_any A0 c0 l0 W q0 m0 (r0.ext hb))
    have hle : (blksL (imgOf l0)).length ≤ 31 := by
      rw [blks_of]
      unfold rimgOf
      rw [chunks_len]
      omega
    obtain ⟨L, hL⟩ : ∃ L, L = blksL (imgOf l0) := ⟨_, rfl⟩
    have HL := Lib.hid hL
    have hLR := blks_of l0
    rw [← hL] at hLR hle
    have HE := Lib.hid (show Each L by rw [hL]; exact blks_eachE _)
    have hul := usedL_le L
    obtain ⟨U, hU⟩ : ∃ U, U = toI (usedL L) := ⟨_, rfl⟩
    have HU := Lib.hid (show ivn (usedL L) = iv U by rw [hU, ivn_iv])
    have hrl : U.length * 8 ≤ reachBytes := by rw [hU, toI_len]; simp only [reachBytes]; omega
    have HLR := Lib.hid hLR.symm
    clear hL hLR hle hU hul h1 r0
    go_wp2_with fail
    refine k1.out.mono ?_
    rintro e w1 ⟨g, A1, c1, rfl, hI, hb1⟩
    have K2 := Lib.hid (k2.out _ hb1)
    rw [HLR.out] at K2
    clear k1 k2
    go_wp2_with fail
    refine K2.out.mono ?_
    rintro e w2 ⟨g2, A2, c2, rfl, hR, hb2⟩
    have HI2 := Lib.hid (hI.below hb2)
    have HR2 := Lib.hid hR
    have HB2 := Lib.hid (below_then hb1 hb2)
    have KP := Lib.hid (ipack_any HI2.out)
    rw [← HL.out] at KP
    clear K2 hI hR hb1 hb2
    go_wp2_with fail
    refine KP.out.mono ?_
    rintro e w3 ⟨A3, c3, rfl, hown3, hb3⟩
    obtain ⟨X, hX⟩ : ∃ X, X = pkB L := ⟨_, rfl⟩
    rw [← hX, bv_len] at hown3
    rw [← hX, bv_len]
    have HX := Lib.hid hX
    have HB3 := Lib.hid (below_then HB2.out hb3)
    have K1 := Lib.hid (fun W (hb : Below w3.heap.size w3 W) => (show Calls Try.prog 24 #[.pointer (some ⟨g, 0, none⟩)] W (Gives 3 (iv U) W) from by
      have := used_any ((HI2.out.below hb3).below hb)
      rw [← HL.out, HU.out] at this
      exact this))
    have K2 := Lib.hid (fun W (hb : Below w3.heap.size w3 W) => (show Calls Try.prog 25 #[.pointer (some ⟨g2, 0, none⟩)] W (Gives 3 (iv U) W) from by
      have := rused_any ((HR2.out.below hb3).below hb) HE.out
      rw [HU.out] at this
      exact this))
    have K3 := Lib.hid (fun W (hb : Below w3.heap.size w3 W) => (show Calls Try.prog 23 #[.pointer (some ⟨g2, 0, none⟩)] W (Gives 5 (bv X) W) from by
      have := rpackI_any ((HR2.out.below hb3).below hb) HE.out
      rw [← HX.out] at this
      exact this))
    have HA := Lib.hid ((Reads.of_own hown3).drew)
    have cv1 := run_conv_bytes (P := Try.prog) w3.drew 43 9 5 Try.underlying43 Try.underlying5 Try.underlying9 X.length c3 rfl HA.out
    have HB := Lib.hid ((Below.refl w3.heap.size w3).drew)
    clear KP hX hown3 hb3 HI2 HR2 HE HU HL HLR HX HB2
    go_wp2_with fail
    go_region_with (first
      | (go_at_call 23; refine (K3.out _ HB.out).mono ?_; rintro e w4 ⟨A4, c4, rfl, hown4, hb⟩; rw [bv_len] at hown4; rw [bv_len]; replace HA := Lib.hid (HA.out.ext hb); clear cv1; have cv1 := run_conv_bytes (P := Try.prog) w4 43 9 5 Try.underlying43 Try.underlying5 Try.underlying9 X.length c3 rfl HA.out; have cv2 := run_conv_bytes (P := Try.prog) w4 43 9 5 Try.underlying43 Try.underlying5 Try.underlying9 X.length c4 rfl (Reads.of_own hown4); replace HB := Lib.hid (below_then HB.out hb); clear hown4 hb)
      | (go_at_call 24; refine (K1.out _ HB.out).mono ?_; rintro e w6 ⟨A6, c6, rfl, hown1, hb⟩; rw [iv_len] at hown1; rw [iv_len]; (try replace HR2 := Lib.hid (HR2.out.ext hb)); have HR1 := Lib.hid (Reads.of_own hown1); replace HB := Lib.hid (below_then HB.out hb); clear hown1 hb)
      | (go_at_call 25; refine (K2.out _ HB.out).mono ?_; rintro e w7 ⟨A7, c7, rfl, hown2, hb⟩; rw [iv_len] at hown2; rw [iv_len]; (try replace HR1 := Lib.hid (HR1.out.ext hb)); have HR2 := Lib.hid (Reads.of_own hown2); replace HB := Lib.hid (below_then HB.out hb); clear hown2 hb)
      | (go_at_call 18; refine (same_any _ _ _ _ U _ _ _ hrl HR1.out HR2.out).mono ?_; rintro e w9 ⟨rfl, mS, rfl⟩; replace HB := Lib.hid (below_drewN HB.out mS); clear HR1 HR2)
      | (go_at_call 19; refine (lives45 _).mono ?_; rintro e w5 ⟨rfl, hb⟩; replace HB := Lib.hid (below_then HB.out hb); clear hb))
    all_goals
      have hBf := below_then HB3.out HB.out
      go_wp2
      go_ret
      exact ⟨rfl, hBf⟩
end Go.Proofs.Ytcnalndhlonblaa
