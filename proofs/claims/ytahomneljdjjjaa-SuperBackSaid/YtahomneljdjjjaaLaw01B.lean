/-
  Chapter 1's CodeBack, walked.
-/
import Derived.Test.YtahomneljdjjjaaLaw01
import Derived.Test.YtahomneljdjjjaaRef1C
import Derived.Deep.QuietTactic
import Derived.BigQuiet
namespace Go.Proofs.Ytahomneljdjjjaa
open Go.RowKit

theorem putB_len (l : List UInt8) (a x n : Int) (h : thereV l.length a x = 0) : (putB l a x n).length = l.length := by
  obtain ⟨hk, h0, h1⟩ := thereV_zero h
  have := (knownB_iff x).1 hk
  simp only [putB, List.length_append, List.length_take, List.length_drop, leb_len]
  omega
theorem putV_len (l : List UInt8) (a x n : Int) (h : putE l a x n = 0) : (putV l a x n).length = l.length := by
  unfold putV
  rw [if_pos h]
  exact putB_len l a x n (putE_zero h).1
theorem fits_lt {m : Nat} {x : Int} (hw : (Lit.int .i64 (m : Int)).wf = true) (hk : knownB x = true) (hf : fitsB m x = true) : m < 256 ^ x.toNat := by
  have h2 := (wf_i64 hw).2
  simp only [fitsB, decide_eq_true_eq] at hf
  obtain ⟨h0, f1, f2, f4⟩ := hf
  rcases (knownB_iff x).1 hk with h | h | h | h <;> subst h
  · have := f1 rfl; show m < 256 ^ 1; omega
  · have := f2 rfl; show m < 256 ^ 2; omega
  · have := f4 rfl; show m < 256 ^ 4; omega
  · show m < 256 ^ 8; omega
theorem get_put (l : List UInt8) (a x n : Int) (hw : (Lit.int .i64 n).wf = true) (h : putE l a x n = 0) : getV (putV l a x n) a x = (n, 0) := by
  obtain ⟨ht, hf⟩ := putE_zero h
  obtain ⟨hk, h0, h1⟩ := thereV_zero ht
  obtain ⟨m, rfl⟩ := fitsB_ok hf hk
  have hlt := fits_lt hw hk hf
  have hx := (knownB_iff x).1 hk
  have hg : getN (putV l a x m) a x = m := by
    unfold getN putV
    rw [if_pos h]
    unfold putB
    rw [List.append_assoc, List.drop_append_of_le_length (by rw [List.length_take]; omega), List.drop_of_length_le (by rw [List.length_take]; omega), List.nil_append,
      List.take_append_of_le_length (Nat.le_of_eq (leb_len _ _).symm), List.take_of_length_le (Nat.le_of_eq (leb_len _ _)), Int.toNat_natCast, le_leb _ _ hlt]
  unfold getV
  rw [putV_len _ _ _ _ h, if_pos ht, hg, if_pos (by have := (wf_i64 hw).2; omega)]
theorem put_other (l : List UInt8) (a x n : Int) (h : putE l a x n = 0) (j : Nat) (hj : (j : Int) < a ∨ a + x ≤ j) : (putV l a x n)[j]? = l[j]? := by
  obtain ⟨ht, hf⟩ := putE_zero h
  obtain ⟨hk, h0, h1⟩ := thereV_zero ht
  have hx := (knownB_iff x).1 hk
  unfold putV
  rw [if_pos h]
  unfold putB
  rcases hj with hj | hj
  · rw [List.append_assoc, List.getElem?_append_left (by rw [List.length_take]; omega), List.getElem?_take_of_lt (by omega)]
  · rw [List.getElem?_append_right (by simp only [List.length_append, List.length_take, leb_len]; omega), List.getElem?_drop]
    congr 1
    simp only [List.length_append, List.length_take, leb_len]
    omega


set_option maxRecDepth 100000 in
set_option maxHeartbeats 2000000 in
theorem law_CodeBack (A0 : Option Addr) (c0 : Nat) (l0 : List UInt8) (a1 a2 a3 : Int) (w : World) (_q0 : l0.length ≤ c0) (m0 : l0.length ≤ reachBytes) (r0 : Reads w w.heap.size A0 (bv l0)) (_w1 : (Lit.int .i64 a1).wf = true) (_w2 : (Lit.int .i64 a2).wf = true) (w3 : (Lit.int .i64 a3).wf = true) :
    Calls Try.prog 5 #[.slice A0 l0.length c0, .int .i64 a1, .int .i64 a2, .int .i64 a3] w fun e w' => e = .returned (.bool true) ∧ Below w.heap.size w w' := by
  have mm := m0
  simp only [reachBytes] at mm
  by_cases hlen : 3000 < l0.length
  · go_enter Try.func5, Try.ntmps5
    go_wp2_with fail
    refine (lives01 _).mono ?_
    rintro e w1 ⟨rfl, hb1⟩
    go_wp2
    go_ret
    exact ⟨rfl, hb1⟩
  · have hcv0 := run_conv_bytes (P := Try.prog) w 24 9 5 Try.underlying24 Try.underlying5 Try.underlying9 l0.length c0 rfl r0
    go_enter Try.func5, Try.ntmps5
    go_wp2_with fail
    clear hcv0
    refine (put_any A0 c0 l0 a1 a2 a3 w _ (Nat.le_refl _) w3 m0 r0).mono ?_
    rintro e w1 ⟨A1, c1, rfl, hown1, hb1⟩
    have r1 := r0.ext hb1
    have hcv1 := run_conv_bytes (P := Try.prog) w1 24 9 5 Try.underlying24 Try.underlying5 Try.underlying9 l0.length c0 rfl r1
    have R1 := Reads.of_own hown1
    rw [bv_len]
    clear hown1
    by_cases hE : putE l0 a1 a2 a3 = 0
    · obtain ⟨ht, hf⟩ := putE_zero hE
      obtain ⟨hk, h0, h1⟩ := thereV_zero ht
      have hx := (knownB_iff a2).1 hk
      have hL := putV_len l0 a1 a2 a3 hE
      have HG := Lib.hid (get_put l0 a1 a2 a3 w3 hE)
      have HO := Lib.hid (put_other l0 a1 a2 a3 hE)
      have HL := Lib.hid hL
      have HE := Lib.hid hE
      clear ht hf hk hL
      generalize hpe : putE l0 a1 a2 a3 = pe at *
      clear hpe
      subst hE
      generalize putV l0 a1 a2 a3 = pv at *
      have m1 : pv.length ≤ reachBytes := by rw [HL.out]; exact m0
      have hg := get_any A1 c1 pv a1 a2 w1 _ m1 R1
      rw [HL.out] at hg ⊢
      clear m1
      go_wp2_with fail
      refine hg.mono ?_
      rintro e w2 ⟨rfl, rfl⟩
      rw [HG.out]
      clear hcv1 hg
      go_wp2_with fail
      go_loopw [14] (fun i wr => ∃ k : Nat, k ≤ l0.length ∧ i = .int .i64 k ∧ Below w1.heap.size w1 wr) (fun i _ => l0.length - (intOf i).toNat)
      case atStart => exact ⟨0, by omega, rfl, Below.refl _ _⟩
      case round =>
        obtain ⟨k, hk, rfl, hbr⟩ := hrel
        by_cases hlt : k < l0.length
        · by_cases hin : a1 ≤ k ∧ (k : Int) - a1 < a2
          · obtain ⟨hi1, hi2⟩ := hin
            have d1 : decide ((k : Int) < a1) = false := decide_eq_false (by omega)
            have e1 : IntKind.i64.wrap ((k : Int) - a1) = (k : Int) - a1 := by rw [IntKind.wrap_i64]; omega
            have d2 : decide (a2 ≤ (k : Int) - a1) = false := decide_eq_false (by omega)
            go_wp2_with fail
            go_quiet (fail)
            go_wp2
            go_roundw
            case rel => exact ⟨k + 1, by omega, by go_num, below_drewN hbr _⟩
            case measure => simp [intOf]; omega
          · obtain ⟨ad, b, rfl, _, hb, hc⟩ := byte_at (r0.below (hb1.trans (hbr.mono hb1.size))) hlt
            obtain ⟨ad', b', rfl, _, hb', hc'⟩ := byte_at (R1.below hbr) (k := k) (by rw [HL.out]; exact hlt)
            rw [HO.out k (by omega), hb] at hb'
            injection hb' with hb'
            subst hb'
            clear hb
            by_cases hi1 : (k : Int) < a1
            · go_wp2_with fail
              go_quiet (fail)
              go_wp2
              go_roundw
              case rel => exact ⟨k + 1, by omega, by go_num, below_drewN hbr _⟩
              case measure => simp [intOf]; omega
            · have d1 : decide ((k : Int) < a1) = false := decide_eq_false (by omega)
              have e1 : IntKind.i64.wrap ((k : Int) - a1) = (k : Int) - a1 := by rw [IntKind.wrap_i64]; omega
              have d2 : decide (a2 ≤ (k : Int) - a1) = true := decide_eq_true (by omega)
              go_wp2_with fail
              go_quiet (fail)
              go_wp2
              go_roundw
              case rel => exact ⟨k + 1, by omega, by go_num, below_drewN hbr _⟩
              case measure => simp [intOf]; omega
        · obtain rfl : k = l0.length := by omega
          have hB1 := below_then hb1 hbr
          go_wp2_with fail
          refine (lives01 _).mono ?_
          rintro e w3 ⟨rfl, hb3⟩
          have hB3 := below_then hB1 hb3
          go_wp2
          go_ret
          exact ⟨rfl, hB3⟩
    · have hV : putV l0 a1 a2 a3 = [] := by unfold putV; rw [if_neg hE]
      have d0 : decide (putE l0 a1 a2 a3 = 0) = false := decide_eq_false hE
      rw [hV]
      clear hV
      generalize putE l0 a1 a2 a3 = pe at *
      go_wp2_with fail
      refine (lives01 _).mono ?_
      rintro e w2 ⟨rfl, hb2⟩
      have hB2 := below_then hb1 hb2
      go_wp2
      go_ret
      exact ⟨rfl, hB2⟩
end Go.Proofs.Ytahomneljdjjjaa
