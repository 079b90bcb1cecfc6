/-
  Chapter 44: the reference's lone, walked.
-/
import Derived.Test.YtcnalndhlonblaaSq5
namespace Go.Proofs.Ytcnalndhlonblaa
open Go.RowKit
attribute [local go_sem ↓] Go.wp_at_zero Go.wp_at_succ
theorem own_len {W : World} {base n : Nat} {e : TypeId} {v : Value} {xs : List Value} (h : W.ownsRow base e 1 v n xs) : n = xs.length := by have := h.1; omega
set_option maxRecDepth 100000 in
set_option maxHeartbeats 2000000 in
theorem lone_any (A : Option Addr) (c : Nat) (b : List UInt8) (hb6 : b.length ≤ 6000) (hbc : b.length ≤ c) (w : World) (hr : Reads w w.heap.size A (bv b)) :
    Calls Try.prog 74 #[.slice A b.length c] w (Gives 5 (bv (lone b)) w) := by
  obtain ⟨i0, hi, hz0, hz1, hz2⟩ := info_parts Try.infoU44
  have HR0 := Lib.hid hr
  obtain ⟨L, hL⟩ : ∃ L, L = lone b := ⟨_, rfl⟩
  rw [← hL]
  have HL := Lib.hid hL
  clear hr hL
  go_enter Try.func74, Try.ntmps74
  go_wp2_with fail
  go_loopw [0, 3] (fun s0 s3 wr => ∃ (A1 : Option Addr) (n c1 : Nat) (rest : List UInt8) (A2 : Option Addr) (m c2 : Nat) (o : List UInt8), s0 = .slice A1 n c1 ∧ s3 = .slice A2 m c2 ∧ n ≤ c1 ∧ m + 2 * n ≤ 12000 ∧ Hid (n = rest.length) ∧ Hid (Reads wr w.heap.size A1 (bv rest)) ∧
      Hid (wr.ownsRow w.heap.size 5 1 (.slice A2 m c2) m (bv o)) ∧ Hid (o ++ lone rest = L) ∧ Hid (Below w.heap.size w wr)) (fun s0 _ _ => lenC (some s0))
  case atStart => exact ⟨A, b.length, c, b, none, 0, 0, [], rfl, rfl, hbc, by omega, Lib.hid rfl, HR0, Lib.hid (World.ownsRow_nil _ _ _ _), Lib.hid HL.out.symm, Lib.hid (Below.refl _ _)⟩
  case round =>
    obtain ⟨A1, n, c1, rest, A2, m, c2, o, rfl, rfl, hnc, hmn, HN, HR, HO, HE, HB⟩ := hrel
    have hbs := HB.out.size
    by_cases h128 : 128 < n
    · obtain ⟨ad, rfl, -⟩ := HR.out.at_ (k := 0) (by rw [bv_len, ← HN.out]; omega)
      have i1 : (128 : Int) < (n : Int) := by omega
      have i2 : (128 : Int) ≤ (c1 : Int) := by omega
      have i3 : (128 : Int) ≤ (n : Int) := by omega
      have HOa := Lib.hid (HO.out.drew.alloc (.cells #[.int .u8 127] 5))
      have HNa := Lib.hid (Reads.new wr.drew [Value.int .u8 127] 5 (0, 0))
      have hbd : w.heap.size ≤ (wr.drew.alloc (.cells #[.int .u8 127] 5)).heap.size := by simp; omega
      have HBa := Lib.hid ((HB.out.drew).alloc hbs (.cells #[.int .u8 127] 5))
      have HD := Lib.hid (HR.out.drop (k := 128) (cap := c1) (by rw [bv_len, ← HN.out]; exact hnc))
      have HT := Lib.hid (HR.out.take 128)
      have HTL := Lib.hid (show 128 = (bv (rest.take 128)).length by rw [bv_len, List.length_take, ← HN.out]; omega)
      have HW0 := Lib.hid (((Below.refl w.heap.size wr).drew).alloc hbs (.cells #[.int .u8 127] 5))
      go_wp2_with fail
      go_region_law (first
        | (refine step_append_loc _ rfl (.tmp 7) (.tmp 8) _ rfl w.heap.size 5 i0 _ 1 Try.underlying43 hi hz0 hz1 hz2 rfl _ m (bv o) rfl HOa.out _ _ 1 1 [Value.int .u8 127] rfl rfl HNa.out (by simp [Value.oneCell']) (by simp only [maxLen]; omega) (by omega) hbd ?_; intro A7 c7 w7 hown7 hg7 hb7 hl7; have HO7 := Lib.hid hown7; have HB7 := Lib.hid (HBa.out.trans hb7); have HW7 := Lib.hid (HW0.out.trans hb7); clear hown7 hg7 hb7 hl7)
        | (refine step_append_loc _ rfl (.tmp 9) (.tmp 11) _ rfl w.heap.size 5 i0 _ 1 Try.underlying43 hi hz0 hz1 hz2 rfl _ (m + 1) (bv o ++ [Value.int .u8 127]) rfl HO7.out _ _ 128 _ (bv (rest.take 128)) rfl HTL.out (by rw [← bv_take]; exact HT.out.below HW7.out) (bv_one _) (by simp only [maxLen]; omega) (by omega) (by have := HB7.out.size; omega) ?_; intro A9 c9 w9 hown9 hg9 hb9 hl9; have HO9 := Lib.hid hown9; have HB9 := Lib.hid (HB7.out.trans hb9); have HW9 := Lib.hid (HW7.out.trans hb9); clear hown9 hg9 hb9 hl9))
      go_wp2
      go_roundw
      case rel =>
        refine ⟨_, n - 128, c1 - 128, rest.drop 128, A9, m + 1 + 128, c9, o ++ 127 :: rest.take 128, rfl, rfl, by omega, by omega, Lib.hid (by rw [List.length_drop, ← HN.out]), Lib.hid ?_, Lib.hid ?_, Lib.hid ?_, HB9⟩
        · rw [← bv_drop]
          have h9 := HD.out.below HW9.out
          rw [if_neg (by omega)] at h9
          exact h9
        · have h9 := HO9.out
          rw [show bv o ++ [Value.int .u8 127] ++ bv (rest.take 128) = bv (o ++ 127 :: rest.take 128) by simp [bv]] at h9
          exact h9
        · rw [← HE.out, lone_step (w := rest) (fun h => by have := HN.out; rw [h] at this; simp at this; omega), ← HN.out, show min n 128 - 1 = 127 by omega]
          simp
      case measure =>
        show n - 128 < n
        omega
    · have i1 : (n : Int) ≤ 128 := by omega
      by_cases h0 : n = 0
      · subst h0
        have hr0 : rest = [] := List.eq_nil_of_length_eq_zero HN.out.symm
        have HLB := Lib.hid (show L = o by rw [← HE.out, hr0, lone_nil, List.append_nil])
        have HML := Lib.hid (own_len HO.out)
        go_wp2
        go_ret
        refine ⟨A2, c2, ?_, ?_, HB.out⟩
        · rw [HLB.out, ← HML.out]; rfl
        · rw [HLB.out, ← HML.out]; exact HO.out
      · have i2 : (0 : Int) < (n : Int) := by omega
        have i3 : ((n : Int) == 0) = false := by rw [beq_eq_false_iff_ne]; omega
        have hne : rest ≠ [] := fun h => h0 (by have := HN.out; rw [h] at this; exact this)
        have HLB := Lib.hid (show L = o ++ [UInt8.ofNat (n - 1)] ++ rest by
          have ht : List.take 128 rest = rest ∧ List.drop 128 rest = [] := by
            have := HN.out
            exact ⟨List.take_of_length_le (by omega), List.drop_eq_nil_of_le (by omega)⟩
          rw [← HE.out, lone_step hne, ← HN.out, ht.1, ht.2, lone_nil, show min n 128 - 1 = n - 1 by omega]
          simp)
        have HTL := Lib.hid (show n = (bv rest).length by rw [bv_len]; exact HN.out)
        have HML := Lib.hid (own_len HO.out)
        have HOa := Lib.hid (HO.out.alloc (.cells #[.int .u8 ((n : Int) - 1)] 5))
        have HNa := Lib.hid (Reads.new wr [Value.int .u8 ((n : Int) - 1)] 5 (0, 0))
        have hbd : w.heap.size ≤ (wr.alloc (.cells #[.int .u8 ((n : Int) - 1)] 5)).heap.size := by simp; omega
        have HBa := Lib.hid ((HB.out).alloc hbs (.cells #[.int .u8 ((n : Int) - 1)] 5))
        have HW0 := Lib.hid (((Below.refl w.heap.size wr)).alloc hbs (.cells #[.int .u8 ((n : Int) - 1)] 5))
        go_wp2_with (at_builtin; first
          | (refine wpList_append_to _ rfl (.tmp 19) (.tmp 24) _ rfl w.heap.size 5 i0 _ 1 Try.underlying43 hi hz0 hz1 hz2 rfl _ m (bv o) rfl HOa.out _ _ 1 1 [Value.int .u8 ((n : Int) - 1)] rfl rfl HNa.out (by simp [Value.oneCell']) (by simp only [maxLen]; omega) (by omega) hbd ?_; intro A7 c7 w7 hown7 hg7 hb7 hl7; have HO7 := Lib.hid hown7; have HB7 := Lib.hid (HBa.out.trans hb7); have HW7 := Lib.hid (HW0.out.trans hb7); clear hown7 hg7 hb7 hl7)
          | (refine wpList_append_to _ rfl (.tmp 25) (.tmp 26) _ rfl w.heap.size 5 i0 _ 1 Try.underlying43 hi hz0 hz1 hz2 rfl _ (m + 1) (bv o ++ [Value.int .u8 ((n : Int) - 1)]) rfl HO7.out _ _ n _ (bv rest) rfl HTL.out (HR.out.below HW7.out) (bv_one _) (by simp only [maxLen]; omega) (by omega) (by have := HB7.out.size; omega) ?_; intro A9 c9 w9 hown9 hg9 hb9 hl9; have HO9 := Lib.hid hown9; have HB9 := Lib.hid (HB7.out.trans hb9); clear hown9 hg9 hb9 hl9))
        go_ret
        have hlen : m + 1 + n = (bv L).length := by
          rw [bv_len, HLB.out]
          simp
          rw [← HN.out, HML.out, bv_len]
          omega
        have h9 := HO9.out
        rw [hlen, show bv o ++ [Value.int .u8 ((n : Int) - 1)] ++ bv rest = bv L by rw [HLB.out]; simp [bv]; omega] at h9
        exact ⟨A9, c9, by rw [hlen]; rfl, h9, HB9.out⟩
end Go.Proofs.Ytcnalndhlonblaa
