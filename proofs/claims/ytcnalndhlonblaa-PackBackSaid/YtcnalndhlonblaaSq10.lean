/-
  Chapter 44: Loose, the reference's, walked.
-/
import Derived.Test.YtcnalndhlonblaaSq9
namespace Go.Proofs.Ytcnalndhlonblaa
open Go.RowKit
attribute [local go_sem ↓] Go.wp_at_zero Go.wp_at_succ
set_option maxRecDepth 100000 in
set_option maxHeartbeats 4000000 in
theorem rloose_any (A : Option Addr) (c : Nat) (b : List UInt8) (most : Int) (hlo : -9223372036854775808 ≤ most) (hhi : most ≤ 9223372036854775807) (hb6 : b.length ≤ 20000) (hbc : b.length ≤ c) (w : World) (hr : Reads w w.heap.size A (bv b)) :
    Calls Try.prog 56 #[.slice A b.length c, .int .i64 most] w (GivesE 5 (bv (looseR most b []).1) (looseR most b []).2 w) := by
  obtain ⟨i0, hi, hz0, hz1, hz2⟩ := info_parts Try.infoU44
  have HR0 := Lib.hid hr
  obtain ⟨L, hL⟩ : ∃ L, L = looseR most b [] := ⟨_, rfl⟩
  rw [← hL]
  have HL := Lib.hid hL
  obtain ⟨bl, hbl⟩ : ∃ bl, bl = b.length := ⟨_, rfl⟩
  have HBL := Lib.hid hbl
  rw [← hbl] at hb6 hbc ⊢
  clear hr hL hbl
  go_enter Try.func56, Try.ntmps56
  go_wp2_with fail
  go_loopw [4, 5, 6, 7, 8, 9] (fun s4 s5 s6 s7 _ _ wr => ∃ (at_ : Nat) (A2 : Option Addr) (m c2 : Nat) (o : List UInt8), s6 = .slice A2 m c2 ∧ s7 = .int .i64 (at_ : Int) ∧ at_ ≤ bl ∧ m ≤ 130 * at_ ∧
      Hid (wr.ownsRow w.heap.size 5 1 (.slice A2 m c2) m (bv o)) ∧ Hid (looseR most (b.drop at_) o = L) ∧ Hid (Below w.heap.size w wr)) (fun _ _ _ s7 _ _ _ => bl - (intOf s7).toNat)
  case atStart => exact ⟨0, none, 0, 0, [], rfl, rfl, by omega, by omega, Lib.hid (World.ownsRow_nil _ _ _ _), Lib.hid HL.out.symm, Lib.hid (Below.refl _ _)⟩
  case round =>
    obtain ⟨at_, A2, m, c2, o, rfl, rfl, hat, hm, HO, HE, HB⟩ := hrel
    have hbs := HB.out.size
    have HOL := Lib.hid (own_len HO.out)
    have hmo : m = o.length := by have := own_len HO.out; rw [bv_len] at this; exact this
    have HMO := Lib.hid hmo
    clear hmo
    by_cases hlt : at_ < bl
    case neg =>
      obtain rfl : at_ = bl := by omega
      have HLL := Lib.hid (show L = (o, 0) by rw [← HE.out, List.drop_eq_nil_of_le (by rw [HBL.out]; exact Nat.le_refl _), looseR_nil])
      go_wp2
      go_ret2
      refine ⟨A2, c2, ?_, ?_, HB.out⟩
      · rw [HLL.out, ← HOL.out]; rfl
      · rw [HLL.out, ← HOL.out]; exact HO.out
    obtain ⟨ad, hA, -, hc0⟩ := (HR0.out.below HB.out).byte (k := at_) (by rw [← HBL.out]; exact hlt)
    subst hA
    have hlt' : at_ < b.length := by rw [← HBL.out]; exact hlt
    have HD := Lib.hid (show b.drop at_ = b[at_] :: b.drop (at_ + 1) from List.drop_eq_getElem_cons hlt')
    have hx256 : b[at_].toNat < 256 := b[at_].toNat_lt
    have HX := Lib.hid (looseR_cons most b[at_] (b.drop (at_ + 1)) o)
    rw [← HD.out, HE.out, ← HMO.out, List.drop_drop, List.length_drop, ← HBL.out, List.drop_drop] at HX
    generalize b[at_] = x at *
    obtain ⟨k, hk⟩ : ∃ k, k = x.toNat := ⟨_, rfl⟩
    rw [← hk] at hc0 HX hx256
    clear hk
    have p0 : (at_ : Int) < (bl : Int) := by omega
    have p1 : (0 : Int) ≤ (at_ : Int) := by omega
    have p2 : (bl : Int) ≤ (c : Int) := by omega
    have k0 : (k : Int) < 256 := by omega
    by_cases hk128 : k < 128
    · have d0 : (k : Int) < 128 := by omega
      by_cases h3 : bl - (at_ + 1) < k + 1
      · have d3 : (bl : Int) < (at_ : Int) + 1 + (k : Int) + 1 := by omega
        have HLL := Lib.hid (show L = ([], 3) by have := HX.out; rw [if_pos hk128, if_pos h3] at this; exact this)
        go_wp2
        go_ret2
        refine ⟨none, 0, ?_, ?_, HB.out⟩
        · rw [HLL.out]; rfl
        · rw [HLL.out]; exact World.ownsRow_nil _ _ _ _
      · have d3 : (at_ : Int) + 1 + (k : Int) + 1 ≤ (bl : Int) := by omega
        by_cases h2 : most < (m : Int) + (k + 1 : Nat)
        · have d2 : most < (m : Int) + (k : Int) + 1 := by omega
          have HLL := Lib.hid (show L = ([], 2) by have := HX.out; rw [if_pos hk128, if_neg h3, if_pos h2] at this; exact this)
          go_wp2
          go_ret2
          refine ⟨none, 0, ?_, ?_, HB.out⟩
          · rw [HLL.out]; rfl
          · rw [HLL.out]; exact World.ownsRow_nil _ _ _ _
        · have d2 : (m : Int) + (k : Int) + 1 ≤ most := by omega
          have HLL := Lib.hid (show L = looseR most (b.drop (at_ + 1 + (k + 1))) (o ++ (b.drop (at_ + 1)).take (k + 1)) by have := HX.out; rw [if_pos hk128, if_neg h3, if_neg h2] at this; exact this)
          have HRT := Lib.hid (show Reads wr w.heap.size (some (ad.add (at_ + 1))) (bv ((b.drop (at_ + 1)).take (k + 1))) by
            have := ((HR0.out.below HB.out).drop (k := at_ + 1) (cap := c) (by rw [bv_len, ← HBL.out]; exact hbc)).take (k + 1)
            rw [if_neg (by omega), bv_drop, bv_take] at this
            exact this)
          have HTL := Lib.hid (show k + 1 = (bv ((b.drop (at_ + 1)).take (k + 1))).length by rw [bv_len, List.length_take, List.length_drop, ← HBL.out]; omega)
          have e1 : (0 : Int) ≤ (at_ : Int) + 1 := by omega
          have e2 : (at_ : Int) + 1 ≤ (at_ : Int) + (k : Int) + 2 := by omega
          have e3 : (at_ : Int) + (k : Int) + 2 ≤ (c : Int) := by omega
          have e4 : ((at_ : Int) + (k : Int) + 2).toNat = at_ + k + 2 := by omega
          have e5 : ((at_ : Int) + 1).toNat = at_ + 1 := by omega
          have e6 : at_ + k + 2 - (at_ + 1) = k + 1 := by omega
          have e7 : c ≠ at_ + 1 := by omega
          go_wp2_with (at_builtin; refine wpList_append_to _ rfl (.tmp 36) (.tmp 44) _ rfl w.heap.size 5 i0 _ 1 Try.underlying43 hi hz0 hz1 hz2 rfl _ m (bv o) rfl HO.out _ _ (k + 1) _ (bv ((b.drop (at_ + 1)).take (k + 1))) rfl HTL.out HRT.out (bv_one _) (by simp only [maxLen]; omega) (by omega) hbs ?_; intro A7 c7 w7 hown7 hg7 hb7 hl7; have HO7 := Lib.hid hown7; have HB7 := Lib.hid (HB.out.trans hb7); clear hown7 hg7 hb7 hl7)
          go_roundw
          case rel =>
            refine ⟨at_ + k + 2, A7, m + (k + 1), c7, o ++ (b.drop (at_ + 1)).take (k + 1), rfl, by go_num, by omega, by omega, Lib.hid ?_, Lib.hid ?_, HB7⟩
            · have h9 := HO7.out
              rw [← bv_append] at h9
              exact h9
            · rw [HLL.out, show at_ + 1 + (k + 1) = at_ + k + 2 by omega]
          case measure => simp [intOf]; omega
    · obtain ⟨N, hN⟩ : ∃ N, N = k - 125 := ⟨_, rfl⟩
      rw [← hN] at HX
      have d0 : (128 : Int) ≤ (k : Int) := by omega
      have hkN : (k : Int) - 125 = (N : Int) := by omega
      have hN3 : 3 ≤ N := by omega
      have hN130 : N ≤ 130 := by omega
      clear hN
      by_cases h3 : bl - (at_ + 1) < 1
      · have d3 : (bl : Int) ≤ (at_ : Int) + 1 := by omega
        have HLL := Lib.hid (show L = ([], 3) by have := HX.out; rw [if_neg hk128, if_pos h3] at this; exact this)
        go_wp2
        go_ret2
        refine ⟨none, 0, ?_, ?_, HB.out⟩
        · rw [HLL.out]; rfl
        · rw [HLL.out]; exact World.ownsRow_nil _ _ _ _
      · have d3 : (at_ : Int) + 1 < (bl : Int) := by omega
        have e8 : (m : Int) + (k : Int) - 125 = (m : Int) + (N : Int) := by omega
        by_cases h2 : most < (m : Int) + (N : Nat)
        · have d2 : most < (m : Int) + (N : Int) := by omega
          have HLL := Lib.hid (show L = ([], 2) by have := HX.out; rw [if_neg hk128, if_neg h3, if_pos h2] at this; exact this)
          go_wp2
          go_ret2
          refine ⟨none, 0, ?_, ?_, HB.out⟩
          · rw [HLL.out]; rfl
          · rw [HLL.out]; exact World.ownsRow_nil _ _ _ _
        · have d2 : (m : Int) + (N : Int) ≤ most := by omega
          have hlt2 : at_ + 1 < b.length := by rw [← HBL.out]; omega
          obtain ⟨y, hy⟩ : ∃ y, y = b[at_ + 1] := ⟨_, rfl⟩
          have HYY := Lib.hid (show ∀ W, Below w.heap.size w W → W.cell? (ad.add (at_ + 1)) = some (.int .u8 (y.toNat : Int)) from fun W hW => by
            obtain ⟨ad', hA', -, hc⟩ := (HR0.out.below hW).byte (k := at_ + 1) hlt2
            cases hA'
            rw [hy]
            exact hc)
          have HLL := Lib.hid (show L = looseR most (b.drop (at_ + 1 + 1)) (o ++ List.replicate N y) by
            have := HX.out
            rw [if_neg hk128, if_neg h3, if_neg h2, List.getElem?_drop, Nat.add_zero, List.getElem?_eq_getElem hlt2, Option.getD_some, ← hy] at this
            exact this)
          clear hy
          have e1 : (0 : Int) ≤ (at_ : Int) + 1 := by omega
          go_wp2_with fail
          go_loopw [6, 9] (fun s6 s9 wx => ∃ (t : Nat) (A3 : Option Addr) (m1 c3 : Nat) (o1 : List UInt8), s6 = .slice A3 m1 c3 ∧ s9 = .int .i64 (t : Int) ∧ t ≤ N ∧ m1 = m + t ∧ Hid (o1 = o ++ List.replicate t y) ∧ Hid (wx.ownsRow w.heap.size 5 1 (.slice A3 m1 c3) m1 (bv o1)) ∧ Hid (Below w.heap.size w wx)) (fun _ s9 _ => N - (intOf s9).toNat)
          case atStart => exact ⟨0, A2, m, c2, o, rfl, rfl, by omega, rfl, Lib.hid (by simp), HO, HB⟩
          case round =>
            rename World => wx
            obtain ⟨t, A3, m1, c3, o1, rfl, rfl, htN, hm1, HOO, HO1, HBx⟩ := hrel
            have hmb : m1 ≤ 130 * at_ + 130 := by omega
            have HM1 := Lib.hid hm1
            clear hm1
            by_cases htl : t < N
            · have f1 : (t : Int) < (N : Int) := by omega
              have hyc : wx.cell? ⟨ad.block, ad.off + (at_ + 1), none⟩ = some (.int .u8 (y.toNat : Int)) := HYY.out wx HBx.out
              have hbx := HBx.out.size
              have HOa := Lib.hid (HO1.out.alloc (.cells #[.int .u8 (y.toNat : Int)] 5))
              have HNa := Lib.hid (Reads.new wx [Value.int .u8 (y.toNat : Int)] 5 (0, 0))
              have HBa := Lib.hid (HBx.out.alloc hbx (.cells #[.int .u8 (y.toNat : Int)] 5))
              have hbd : w.heap.size ≤ (wx.alloc (.cells #[.int .u8 (y.toNat : Int)] 5)).heap.size := by simp; omega
              go_wp2_with (at_builtin; refine wpList_append_to _ rfl (.tmp 68) (.tmp 74) _ rfl w.heap.size 5 i0 _ 1 Try.underlying43 hi hz0 hz1 hz2 rfl _ m1 (bv o1) rfl HOa.out _ _ (1) 1 [Value.int .u8 (y.toNat : Int)] rfl rfl HNa.out (by simp [Value.oneCell']) (by simp only [maxLen]; omega) (by omega) hbd ?_; intro A7 c7 w7 hown7 hg7 hb7 hl7; have HO7 := Lib.hid hown7; have HB7 := Lib.hid (HBa.out.trans hb7); clear hown7 hg7 hb7 hl7)
              go_roundw
              case rel =>
                refine ⟨t + 1, A7, m1 + 1, c7, o1 ++ [y], rfl, by go_num, by omega, by rw [HM1.out]; omega, Lib.hid ?_, Lib.hid ?_, HB7⟩
                · rw [HOO.out, List.append_assoc, List.replicate_succ']
                · have h9 := HO7.out
                  rw [show bv o1 ++ [Value.int .u8 (y.toNat : Int)] = bv (o1 ++ [y]) by simp [bv]] at h9
                  exact h9
              case measure => simp [intOf]; omega
            · have f1 : (N : Int) ≤ (t : Int) := by omega
              have HTN := Lib.hid (show t = N by omega)
              have d9 : decide ((t : Int) < (N : Int)) = false := decide_eq_false (by omega)
              go_wp2
              refine ⟨?rel, ?measure⟩
              case rel =>
                refine ⟨at_ + 2, A3, m1, c3, o1, rfl, by go_num, by omega, by have := HM1.out; omega, HO1, Lib.hid ?_, HBx⟩
                rw [HLL.out, HOO.out, HTN.out]
              case measure => simp [intOf]; omega
end Go.Proofs.Ytcnalndhlonblaa
