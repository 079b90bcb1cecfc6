/-
  The statements of chapter 1 (code), walked: each law's call returns true and leaves all that was there as it was.
-/
import Derived.Test.YtahomneljdjjjaaCode3
import Derived.Test.YtahomneljdjjjaaRef1B
namespace Go.Proofs.Ytahomneljdjjjaa
open Go.RowKit

theorem pack_example : packE [(2, 258), (1, 1)] = 0 ∧ packV [(2, 258), (1, 1)] = [2, 1, 1] := by decide +kernel
set_option maxRecDepth 100000 in
set_option maxHeartbeats 1000000 in
theorem lives01 (w : World) : Calls Try.prog 33 #[] w fun e w' => e = .returned (.bool true) ∧ Below w.heap.size w w' := by
  have hR : Reads2 (w.alloc (.cells #[.int .i64 2, .int .i64 258, .int .i64 1, .int .i64 1] 49)) (w.heap.size + 1) (some ⟨w.heap.size, 0, none⟩) [(2, 258), (1, 1)] := fun _ => by
    refine ⟨_, 0, rfl, Nat.lt_succ_self _, fun j p hj => ?_⟩
    have hjl := (List.getElem?_eq_some_iff.1 hj).1
    simp at hjl
    have : j = 0 ∨ j = 1 := by omega
    rw [World.cell?_alloc_mark, World.cell?_alloc_mark]
    rcases this with h | h <;> subst h <;> simp at hj <;> subst hj <;> exact ⟨rfl, rfl⟩
  have HR := Lib.hid hR
  clear hR
  go_enter Try.func33, Try.ntmps33
  go_wp2_with fail
  refine (pack_any _ 2 [(2, 258), (1, 1)] _ (by decide) (by decide) (HR.out.more (by simp))).mono ?_
  rintro e w1 ⟨A1, c1, rfl, hown1, hb1⟩
  have hB1 := below_then (below_alloc1 w _) hb1
  have R1 := Reads.of_own hown1
  rw [pack_example.2] at hown1 R1
  rw [pack_example.1, pack_example.2]
  have hcv := run_conv_bytes (P := Try.prog) w1 24 9 5 Try.underlying24 Try.underlying5 Try.underlying9 3 c1 rfl R1
  clear hown1 hb1 R1 HR
  rw [bv_len]
  go_wp2
  go_ret
  exact ⟨rfl, hB1⟩

set_option maxRecDepth 100000 in
set_option maxHeartbeats 2000000 in
theorem law_CodeGets (A0 : Option Addr) (c0 : Nat) (l0 : List UInt8) (a1 a2 a3 : Int) (w : World) (q0 : l0.length ≤ c0) (m0 : l0.length ≤ reachBytes) (r0 : Reads w w.heap.size A0 (bv l0)) (_w1 : (Lit.int .i64 a1).wf = true) (_w2 : (Lit.int .i64 a2).wf = true) (w3 : (Lit.int .i64 a3).wf = true) :
    Calls Try.prog 9 #[.slice A0 l0.length c0, .int .i64 a1, .int .i64 a2, .int .i64 a3] w fun e w' => e = .returned (.bool true) ∧ Below w.heap.size w w' := by
  have mm := m0
  simp only [reachBytes] at mm
  by_cases hlen : 3000 < l0.length
  · go_enter Try.func9, Try.ntmps9
    go_wp2_with fail
    refine (lives01 _).mono ?_
    rintro e w1 ⟨rfl, hb1⟩
    go_wp2
    go_ret
    exact ⟨rfl, hb1⟩
  · go_enter Try.func9, Try.ntmps9
    go_wp2_with fail
    refine (get_any A0 c0 l0 a1 a2 w _ m0 r0).mono ?_
    rintro e w1 ⟨rfl, rfl⟩
    go_wp2_with fail
    refine (rget_any A0 c0 l0 a1 a2 w _ m0 r0).mono ?_
    rintro e w1 ⟨rfl, rfl⟩
    go_wp2_with fail
    refine (put_any A0 c0 l0 a1 a2 a3 w _ (Nat.le_refl _) w3 m0 r0).mono ?_
    rintro e w1 ⟨A1, c1, rfl, hown1, hb1⟩
    have r1 := r0.ext hb1
    have R1 := Reads.of_own hown1
    rw [bv_len] at ⊢
    clear hown1
    go_wp2_with fail
    refine (rput_any A0 c0 l0 a1 a2 a3 _ q0 w3 m0 r1).mono ?_
    rintro e w2 ⟨A2, c2, rfl, hown2, hb2⟩
    have hB2 := below_then hb1 hb2
    have r2 := r1.ext hb2
    have R1' := R1.ext hb2
    have R2 := Reads.of_own hown2
    rw [bv_len] at ⊢
    clear hown2 hb1 hb2 r1 R1
    generalize putV l0 a1 a2 a3 = pv at *
    generalize putE l0 a1 a2 a3 = pe at *
    generalize (getV l0 a1 a2).1 = g1 at *
    generalize (getV l0 a1 a2).2 = g2 at *
    have hcv1 := run_conv_bytes (P := Try.prog) w2 24 9 5 Try.underlying24 Try.underlying5 Try.underlying9 pv.length c1 rfl R1'
    have hcv2 := run_conv_bytes (P := Try.prog) w2 24 9 5 Try.underlying24 Try.underlying5 Try.underlying9 pv.length c2 rfl R2
    go_wp2_with fail
    refine (zero_any A0 c0 l0 w2 _ m0 r2).mono ?_
    rintro e w3 ⟨rfl, rfl⟩
    go_wp2_with fail
    refine (rzero_any A0 c0 l0 w2 _ m0 r2).mono ?_
    rintro e w3 ⟨rfl, rfl⟩
    go_wp2_with fail
    refine (lives01 _).mono ?_
    rintro e w3 ⟨rfl, hb3⟩
    have hB3 := below_then hB2 hb3
    clear hcv1 hcv2 hb3
    go_wp2
    go_ret
    exact ⟨rfl, hB3⟩
end Go.Proofs.Ytahomneljdjjjaa
