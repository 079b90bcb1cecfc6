/-
  Chapter 1's CodePacks, walked.
-/
import Derived.Test.YtahomneljdjjjaaLaw01
import Derived.Test.YtahomneljdjjjaaRef1C
namespace Go.Proofs.Ytahomneljdjjjaa
open Go.RowKit


theorem Try.infoCF : (Try.prog.info? 49).map (fun i => (i.zero, i.size, i.bytes)) = some (some (.agg #[.int .i64 0, .int .i64 0]), 2, 16) := by kernel_rfl

set_option maxRecDepth 100000 in
set_option maxHeartbeats 2000000 in
theorem law_CodePacks (A0 : Option Addr) (c0 : Nat) (l0 : List (Int × Int)) (A1 : Option Addr) (c1 : Nat) (l1 : List UInt8) (A2 : Option Addr) (c2 : Nat) (l2 : List Int) (w : World)
    (_q0 : l0.length ≤ c0) (m0 : l0.length * 16 ≤ reachBytes) (f0 : ∀ p ∈ l0, (Lit.int .i64 p.1).wf = true ∧ (Lit.int .i64 p.2).wf = true) (r0 : Reads2 w w.heap.size A0 l0)
    (_q1 : l1.length ≤ c1) (m1 : l1.length ≤ reachBytes) (r1 : Reads w w.heap.size A1 (bv l1))
    (_q2 : l2.length ≤ c2) (m2 : l2.length * 8 ≤ reachBytes) (_f2 : ∀ x ∈ l2, (Lit.int .i64 x).wf = true) (r2 : Reads w w.heap.size A2 (iv l2)) :
    Calls Try.prog 6 #[.slice A0 l0.length c0, .slice A1 l1.length c1, .slice A2 l2.length c2] w fun e w' => e = .returned (.bool true) ∧ Below w.heap.size w w' := by
  have mm0 := m0
  have mm1 := m1
  have mm2 := m2
  simp only [reachBytes] at mm0 mm1 mm2
  obtain ⟨i0, hi, hz0, hz1, hz2⟩ := info_parts Try.infoCF
  have FW : Hid (∀ p ∈ l0, (Lit.int .i64 p.2).wf = true) := fun p hp => (f0 p hp).2
  clear f0 _f2
  by_cases hl0 : 500 < l0.length
  · go_enter Try.func6, Try.ntmps6
    go_wp2_with fail
    refine (lives01 _).mono ?_
    rintro e w1 ⟨rfl, hb1⟩
    go_wp2
    go_ret
    exact ⟨rfl, hb1⟩
  by_cases hl1 : 3000 < l1.length
  · go_enter Try.func6, Try.ntmps6
    go_wp2_with fail
    refine (lives01 _).mono ?_
    rintro e w1 ⟨rfl, hb1⟩
    go_wp2
    go_ret
    exact ⟨rfl, hb1⟩
  by_cases hl2 : 500 < l2.length
  · go_enter Try.func6, Try.ntmps6
    go_wp2_with fail
    refine (lives01 _).mono ?_
    rintro e w1 ⟨rfl, hb1⟩
    go_wp2
    go_ret
    exact ⟨rfl, hb1⟩
  go_enter Try.func6, Try.ntmps6
  go_wp2_with fail
  go_loopw [7, 8] (fun v i wr => ∃ (k : Nat), k ≤ l0.length ∧ i = .int .i64 k ∧ wr.ownsRow w.heap.size 49 2 v k (fv (l0.take k)) ∧ Below w.heap.size w wr) (fun _ i _ => l0.length - (intOf i).toNat)
  case atStart => exact ⟨0, by omega, rfl, World.ownsRow_nil _ _ _ _, Below.refl _ _⟩
  case round =>
    obtain ⟨k, hk, rfl, hown, hbr⟩ := hrel
    by_cases hlt : k < l0.length
    · obtain ⟨b, o, rfl, hbb, hc⟩ := r0.below hbr (by omega)
      obtain ⟨hc1, hc2⟩ := hc k _ (List.getElem?_eq_getElem hlt)
      have HF := Lib.hid (show fv (l0.take (k + 1)) = fv (l0.take k) ++ fv [l0[k]] by rw [take_snoc l0 k hlt, fv_append])
      clear hc
      generalize l0[k] = q at *
      obtain ⟨q1, q2⟩ := q
      simp only at hc1 hc2
      have hr2 := Reads.new wr (fv [(q1, q2)]) 49 (0, 0)
      go_wp2_with (at_builtin; refine wpList_append_to_s _ rfl (.tmp 37) (.tmp 42) _ rfl w.heap.size 2 49 i0 _ 16 Try.underlying47 hi hz0 hz1 hz2 rfl (by decide) _ k (fv (l0.take k)) rfl (hown.alloc _) _ _ 1 1 (fv [(q1, q2)]) rfl rfl hr2 (fv_one _) (by simp only [maxLen]; omega) (by omega) (by have := hbr.size; simp; omega) ?_; intro A' c' w2 hown2 hg2 hb2 _)
      go_roundw
      case rel => exact ⟨k + 1, by omega, by go_num, by rw [HF.out]; exact hown2, (hbr.trans ((below_alloc1 wr _).mono hbr.size)).trans hb2⟩
      case measure => simp [intOf]; omega
    · obtain rfl : k = l0.length := by omega
      obtain ⟨A3, c3, rfl⟩ := own_form_s hown
      rw [List.take_length] at hown
      have R3 := Reads2.of_own rfl hown
      have r0' := (r0.below hbr).more hbr.size
      have r1' := r1.ext hbr
      have r2' := r2.ext hbr
      clear hown r0 r1 r2
      go_wp2_with fail
      refine (pack_any A3 c3 l0 wr m0 FW.out R3).mono ?_
      rintro e w1 ⟨A4, c4, rfl, hown4, hb4⟩
      have hB4 := below_then hbr hb4
      have r0 := (r0'.below hb4).more hb4.size
      have r1 := r1'.ext hb4
      have r2 := r2'.ext hb4
      have R4 := Reads.of_own hown4
      rw [bv_len]
      clear hown4 hb4 hbr r0' r1' r2' R3
      go_wp2_with fail
      refine (rpack_any A0 c0 l0 w1 m0 FW.out r0).mono ?_
      rintro e w2 ⟨A5, c5, rfl, hown5, hb5⟩
      have hB5 := below_then hB4 hb5
      have r1' := r1.ext hb5
      have r2' := r2.ext hb5
      have R4' := R4.ext hb5
      have R5 := Reads.of_own hown5
      rw [bv_len]
      clear hown5 hb5 hB4 r0 r1 r2 R4
      generalize packV l0 = pv at *
      generalize packE l0 = pe at *
      go_wp2_with fail
      refine (unpack_any A1 c1 l1 A2 c2 l2 w2 m1 m2 r1' r2').mono ?_
      rintro e w3 ⟨A6, c6, rfl, hown6, hb6⟩
      have hB6 := below_then hB5 hb6
      have r1 := r1'.ext hb6
      have r2 := r2'.ext hb6
      have R4 := R4'.ext hb6
      have R5' := R5.ext hb6
      have R6 := Reads.of_own hown6
      rw [iv_len]
      clear hown6 hb6 hB5 r1' r2' R4' R5
      go_wp2_with fail
      refine (runpack_any A1 c1 l1 A2 c2 l2 w3 m1 m2 r1 r2).mono ?_
      rintro e w4 ⟨A7, c7, rfl, hown7, hb7⟩
      have hB7 := below_then hB6 hb7
      have R4' := R4.ext hb7
      have R5 := R5'.ext hb7
      have R6' := R6.ext hb7
      have R7 := Reads.of_own hown7
      rw [iv_len]
      clear hown7 hb7 hB6 r1 r2 R4 R5' R6
      have hul : (unpV l1 0 l2).length * 8 ≤ reachBytes := by
        unfold unpV
        split
        · rw [unpB_len]; exact m2
        · simp
      generalize unpV l1 0 l2 = uv at *
      generalize unpE l1 0 l2 = ue at *
      have hcv1 := run_conv_bytes (P := Try.prog) w4 24 9 5 Try.underlying24 Try.underlying5 Try.underlying9 pv.length c4 rfl R4'
      have hcv2 := run_conv_bytes (P := Try.prog) w4 24 9 5 Try.underlying24 Try.underlying5 Try.underlying9 pv.length c5 rfl R5
      go_wp2_with fail
      refine (same_any A6 c6 A7 c7 uv w4 _ _ hul R6' R7).mono ?_
      rintro e w5 ⟨rfl, m, hw5⟩
      have hB8 : Below w.heap.size w w5 := by rw [hw5]; exact below_drewN hB7 m
      clear hw5 hcv1 hcv2
      go_wp2_with fail
      refine (lives01 _).mono ?_
      rintro e w6 ⟨rfl, hb9⟩
      have hB9 := below_then hB8 hb9
      go_wp2
      go_ret
      exact ⟨rfl, hB9⟩
end Go.Proofs.Ytahomneljdjjjaa
