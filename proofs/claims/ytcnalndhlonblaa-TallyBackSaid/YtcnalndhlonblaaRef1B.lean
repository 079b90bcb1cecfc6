/-
  What the reference's Get and Put (scantlingref01) compute, each walked once.
-/
import Derived.Test.YtcnalndhlonblaaRef1
namespace Go.Proofs.Ytcnalndhlonblaa
open Go.RowKit


theorem le_top (S : List UInt8) (h : S.length = 8) : le S < 9223372036854775808 ↔ (S[7]'(by omega)).toNat < 128 := by
  have h1 := le_append (S.take 7) (S.drop 7)
  rw [List.take_append_drop, List.length_take, h, List.drop_eq_getElem_cons (by omega), List.drop_of_length_le (by omega)] at h1
  have h2 := le_lt (S.take 7)
  rw [List.length_take, h] at h2
  simp only [le, Nat.mul_zero, Nat.add_zero, show min 7 8 = 7 from rfl] at h1 h2
  rw [h1]
  omega

set_option maxRecDepth 100000 in
set_option maxHeartbeats 1000000 in
theorem rget_any (A : Option Addr) (c : Nat) (l : List UInt8) (a x : Int) (w : World) (B : Nat) (hm : l.length ≤ reachBytes) (h : Reads w B A (bv l)) :
    Calls Try.prog 54 #[.slice A l.length c, .int .i64 a, .int .i64 x] w fun e w' => e = .returned (.tuple #[.int .i64 (getV l a x).1, .int .i64 (getV l a x).2]) ∧ w = w' := by
  have hm2 := hm
  simp only [reachBytes] at hm2
  rcases thereV_cases l.length a x with ht | ht | ht
  · obtain ⟨hk, h0, h1⟩ := thereV_zero ht
    have hx := (knownB_iff x).1 hk
    obtain ⟨at_, rfl⟩ := Int.eq_ofNat_of_zero_le h0
    obtain ⟨wd, rfl⟩ := Int.eq_ofNat_of_zero_le (show 0 ≤ x by omega)
    have hV := Lib.hid (show getV l at_ wd = (if le ((l.drop at_).take wd) < 9223372036854775808 then ((le ((l.drop at_).take wd) : Int), 0) else (0, 2)) by
      unfold getV getN; rw [if_pos ht]; rfl)
    have hwd : wd = 8 ∨ wd ≤ 4 := by omega
    have hwp : 1 ≤ wd := by omega
    have hlen : ((l.drop at_).take wd).length = wd := by rw [List.length_take, List.length_drop]; omega
    have hcl : ∀ m, m < wd → ∃ ad b, A = some ad ∧ ((l.drop at_).take wd)[m]? = some b ∧ w.cell? (ad.add (at_ + m)) = some (.int .u8 (b.toNat : Int)) := fun i hi => by
      obtain ⟨ad, b, e, _, hb, hc⟩ := byte_at h (k := at_ + i) (by omega)
      exact ⟨ad, b, e, by rw [List.getElem?_take, if_pos hi, List.getElem?_drop, hb], hc⟩
    have HC := Lib.hid hcl
    have HT := Lib.hid ht
    generalize (l.drop at_).take wd = S at *
    have hS63 : wd ≤ 4 → le S < 9223372036854775808 := fun h4 => by
      have := le_lt S
      rw [hlen] at this
      exact Nat.lt_of_lt_of_le this (Nat.le_trans (Nat.pow_le_pow_right (by omega) h4) (by decide))
    have HD : Hid (∀ m, m ≤ wd → le (S.drop m) ≤ le S) := fun m hm => by
      have h1 := le_append (S.take m) (S.drop m)
      rw [List.take_append_drop] at h1
      rw [h1]
      exact Nat.le_trans (Nat.le_mul_of_pos_left _ (Nat.pow_pos (by omega))) (Nat.le_add_left _ _)
    have hat2 : at_ + wd ≤ l.length := by omega
    clear hcl ht hx hk h
    by_cases hbig : le S < 9223372036854775808
    · rw [if_pos hbig] at hV
      have HBIG := Lib.hid hbig
      have hc : (((wd : Int) == 8) = true ∧ ∃ ad b, A = some ad ∧ w.cell? (ad.add (at_ + 7)) = some (.int .u8 b) ∧ b < 128) ∨ ((wd : Int) == 8) = false := by
        rcases hwd with rfl | h4
        · obtain ⟨ad, b, e, hb, hc⟩ := HC.out 7 (by omega)
          refine .inl ⟨rfl, ad, _, e, hc, ?_⟩
          have := (le_top S hlen).1 hbig
          rw [List.getElem?_eq_getElem (by omega)] at hb
          injection hb with hb
          rw [hb] at this
          omega
        · exact .inr (by simp; omega)
      have hat7 : ((wd : Int) == 8) = true → at_ + 7 < l.length := fun h => by simp at h; omega
      clear hbig hS63
      rcases hc with ⟨h8, ad, b7, rfl, hc7, hlt7⟩ | h8
      all_goals
        first | (have i7 := hat7 h8; have hc2 : w.cell? ⟨ad.block, ad.off + (at_ + 6 + 1), none⟩ = some (.int .u8 b7) := hc7) | skip
        clear hat7
        go_enter Try.func54, Try.ntmps54
        go_wp2_with fail
        refine (rroom_any _ _ _ _ _ _ hm).mono ?_
        rintro e w' ⟨rfl, rfl⟩
        rw [HT.out]
        go_wp2_with fail
        go_loop [9, 10] (fun v i => ∃ m : Nat, m ≤ wd ∧ i = .int .i64 ((m : Int) - 1) ∧ v = .int .i64 (le (S.drop m) : Nat)) (fun _ i => (intOf i + 1).toNat)
        case atStart => exact ⟨wd, by omega, rfl, by rw [List.drop_of_length_le (by omega)]; rfl⟩
        case round =>
          obtain ⟨m, hmw, rfl, rfl⟩ := hrel
          by_cases h1 : 1 ≤ m
          · obtain ⟨k, rfl⟩ : ∃ k, m = k + 1 := ⟨m - 1, by omega⟩
            obtain ⟨ad', b, hA, hb, hc⟩ := HC.out k (by omega)
            have hkl : k < S.length := by omega
            have hLB := le_back S k hkl
            have hbS : S[k] = b := by rw [List.getElem?_eq_getElem hkl] at hb; injection hb
            rw [hbS] at hLB
            have hle := HD.out k (by omega)
            rw [hLB] at hle
            have hb63 := HBIG.out
            have HL := Lib.hid hLB
            have hb8 := b.toNat_lt
            have hmul : b.toNat + 256 * le (S.drop (k + 1)) ≤ 9223372036854775807 := by omega
            clear hb hbS hLB hle hb63
            first | subst hA | (injection hA with hA; subst hA)
            generalize le (S.drop (k + 1)) = x at *
            generalize b.toNat = bb at *
            go_wp2
            go_round
            case rel => exact ⟨k, by omega, by go_num, by rw [HL.out]; go_num⟩
            case measure => simp [intOf]
          · obtain rfl : m = 0 := by omega
            rw [List.drop_zero]
            go_wp2
            go_ret2
            rw [hV.out]
            exact ⟨rfl, rfl⟩
    · rw [if_neg hbig] at hV
      have h8 : wd = 8 := by
        rcases hwd with h | h
        · exact h
        · exact absurd (hS63 h) hbig
      obtain ⟨ad, b, rfl, hb, hc⟩ := HC.out 7 (by omega)
      have h128 : 128 ≤ b.toNat := by
        have := (not_congr (le_top S (by omega))).1 hbig
        rw [List.getElem?_eq_getElem (by omega)] at hb
        injection hb with hb
        rw [hb] at this
        omega
      have hd8 : ((wd : Int) == 8) = true := by simp; omega
      have hc2 : w.cell? ⟨ad.block, ad.off + (at_ + 6 + 1), none⟩ = some (.int .u8 (b.toNat : Int)) := hc
      have i7 : at_ + 7 < l.length := by omega
      clear hbig hS63 hb h8
      generalize b.toNat = bb at *
      go_enter Try.func54, Try.ntmps54
      go_wp2_with fail
      refine (rroom_any _ _ _ _ _ _ hm).mono ?_
      rintro e w' ⟨rfl, rfl⟩
      rw [HT.out]
      go_wp2
      go_ret2
      rw [hV.out]
      exact ⟨rfl, rfl⟩
  · have hV := Lib.hid (show getV l a x = (0, 1) by unfold getV; rw [if_neg (by omega), ht])
    go_enter Try.func54, Try.ntmps54
    go_wp2_with fail
    refine (rroom_any _ _ _ _ _ _ hm).mono ?_
    rintro e w' ⟨rfl, rfl⟩
    rw [ht]
    go_wp2
    go_ret2
    rw [hV.out]
    exact ⟨rfl, rfl⟩
  · have hV := Lib.hid (show getV l a x = (0, 3) by unfold getV; rw [if_neg (by omega), ht])
    go_enter Try.func54, Try.ntmps54
    go_wp2_with fail
    refine (rroom_any _ _ _ _ _ _ hm).mono ?_
    rintro e w' ⟨rfl, rfl⟩
    rw [ht]
    go_wp2
    go_ret2
    rw [hV.out]
    exact ⟨rfl, rfl⟩

end Go.Proofs.Ytcnalndhlonblaa
