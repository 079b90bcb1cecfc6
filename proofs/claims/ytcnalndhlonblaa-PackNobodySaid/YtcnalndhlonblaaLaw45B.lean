/-
  Chapter 45's PackNobody, walked.
-/
import Derived.Test.YtcnalndhlonblaaLaw45
namespace Go.Proofs.Ytcnalndhlonblaa
open Go.RowKit
theorem zeros_used (k : Nat) : usedL (blksL (List.replicate (k * 256) 0)) = [] := by
  have h0 : ∀ n, n ≤ k → usedN (blksL (List.replicate (k * 256) 0)) n = [] := by
    intro n
    induction n with
    | zero => intro _; rfl
    | succ n ih =>
      intro hn
      unfold usedN
      have hz : zeroB ((blksL (List.replicate (k * 256) 0)).getD n []) = true := by
        rw [blksL_at _ n (by rw [List.length_replicate]; omega), List.drop_replicate, List.take_replicate]
        simp [zeroB]
      rw [if_pos hz]
      exact ih (by omega)
  unfold usedL
  apply h0
  rw [blksL_len, List.length_replicate]
  omega
theorem zeros_len (k : Nat) : (pkB (blksL (List.replicate (k * 256) 0))).length = 20 := by
  unfold pkB
  rw [sumB_len, List.length_append, head_len, zeros_used]
  rfl
set_option maxRecDepth 100000 in
set_option maxHeartbeats 4000000 in
theorem law_PackNobody (a0 : Int) (w : World) (_w0 : (Lit.int .i64 a0).wf = true) : Calls Try.prog 7 #[.int .i64 a0] w fun e w' => e = .returned (.bool true) ∧ Below w.heap.size w w' := by
  obtain ⟨k, hk⟩ : ∃ k : Nat, bits .and .i64 a0 15 = (k : Int) ∧ k < 16 := by
    have h := i64_mask a0 4 (by omega) 15 (by decide)
    refine ⟨(a0 % 16).toNat, ?_, by omega⟩
    rw [h, Int.toNat_of_nonneg (by omega)]
    rfl
  obtain ⟨hk1, hk2⟩ := hk
  have HN := Lib.hid (fun W => inew_ok k (by omega) W)
  have HU := Lib.hid (zeros_used k)
  have HLN := Lib.hid (zeros_len k)
  obtain ⟨z, hz⟩ : ∃ z : List UInt8, z = List.replicate (k * 256) 0 := ⟨_, rfl⟩
  rw [← hz] at HN HU HLN
  clear hz
  go_enter Try.func7, Try.ntmps7
  go_wp2_with fail
  refine (ipack_nil w).mono ?_
  rintro e w1 ⟨rfl, rfl⟩
  go_wp2_with fail
  refine (HN.out _).mono ?_
  rintro e w1 ⟨g, A, c, rfl, hI, hb1⟩
  have kp := ipack_any hI
  have HI := Lib.hid hI
  clear hI hk1
  go_wp2_with fail
  refine kp.mono ?_
  rintro e w2 ⟨A2, c2, rfl, hown2, hb2⟩
  have hB2 := below_then hb1 hb2
  rw [bv_len, HLN.out]
  have ku := Lib.hid (used_any (HI.out.below hb2))
  rw [HU.out] at ku
  clear kp hown2 hb1 hb2
  go_wp2_with fail
  refine (used_nil w2).mono ?_
  rintro e w3 ⟨rfl, rfl⟩
  go_wp2_with fail
  refine ku.out.mono ?_
  rintro e w4 ⟨A4, c4, rfl, hown4, hb4⟩
  have hB4 := below_then hB2 hb4
  rw [show (ivn []).length = 0 from rfl]
  clear hown4 hb4 ku HI
  go_wp2_with fail
  refine (lives45 _).mono ?_
  rintro e w5 ⟨rfl, hb5⟩
  have hB5 := below_then hB4 hb5
  go_wp2
  go_ret
  exact ⟨rfl, hB5⟩
end Go.Proofs.Ytcnalndhlonblaa
