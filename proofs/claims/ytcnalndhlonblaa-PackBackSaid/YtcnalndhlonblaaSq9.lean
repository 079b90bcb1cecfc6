/-
  Chapter 44: Loose, the program's, walked.
-/
import Derived.Test.YtcnalndhlonblaaSq8
namespace Go.Proofs.Ytcnalndhlonblaa
open Go.RowKit
attribute [local go_sem ↓] Go.wp_at_zero Go.wp_at_succ
set_option maxRecDepth 100000 in
set_option maxHeartbeats 4000000 in
theorem loose_any (A : Option Addr) (c : Nat) (b : List UInt8) (most : Int) (hlo : -9223372036854775808 ≤ most) (hhi : most ≤ 9223372036854775807) (hb6 : b.length ≤ 20000) (hbc : b.length ≤ c) (w : World) (hr : Reads w w.heap.size A (bv b)) :
    Calls Try.prog 90 #[.slice A b.length c, .int .i64 most] w (GivesE 5 (bv (looseR most b []).1) (looseR most b []).2 w) := by
  obtain ⟨i0, hi, hz0, hz1, hz2⟩ := info_parts Try.infoU44
  have HR0 := Lib.hid hr
  obtain ⟨L, hL⟩ : ∃ L, L = looseR most b [] := ⟨_, rfl⟩
  rw [← hL]
  have HL := Lib.hid hL
  clear hr hL
  go_enter Try.func90, Try.ntmps90
  go_wp2_with fail
  go_loopw [0, 4, 5, 6, 7, 8, 9] (fun s0 s4 s5 s6 _ _ _ wr => ∃ (A1 : Option Addr) (n c1 : Nat) (rest : List UInt8) (A2 : Option Addr) (m c2 : Nat) (o : List UInt8), s0 = .slice A1 n c1 ∧ s6 = .slice A2 m c2 ∧ n ≤ c1 ∧ m + 130 * n ≤ 2600000 ∧ (m = 0 ∨ (m : Int) ≤ most) ∧ Hid (n = rest.length) ∧ Hid (Reads wr w.heap.size A1 (bv rest)) ∧
      Hid (wr.ownsRow w.heap.size 5 1 (.slice A2 m c2) m (bv o)) ∧ Hid (looseR most rest o = L) ∧ Hid (Below w.heap.size w wr)) (fun s0 _ _ _ _ _ _ _ => lenC (some s0))
  case atStart => exact ⟨A, b.length, c, b, none, 0, 0, [], rfl, rfl, hbc, by omega, .inl rfl, Lib.hid rfl, HR0, Lib.hid (World.ownsRow_nil _ _ _ _), Lib.hid HL.out.symm, Lib.hid (Below.refl _ _)⟩
  case round =>
    obtain ⟨A1, n, c1, rest, A2, m, c2, o, rfl, rfl, hnc, hmn, hmm, HN, HR, HO, HE, HB⟩ := hrel
    have hbs := HB.out.size
    have HOL := Lib.hid (own_len HO.out)
    have hmo : m = o.length := by have := own_len HO.out; rw [bv_len] at this; exact this
    have HMO := Lib.hid hmo
    clear hmo
    rcases rest with _ | ⟨x, r⟩
    · have hn0 : n = 0 := HN.out
      subst hn0
      have HLL := Lib.hid (show L = (o, 0) by rw [← HE.out, looseR_nil])
      go_wp2
      go_ret2
      refine ⟨A2, c2, ?_, ?_, HB.out⟩
      · rw [HLL.out, ← HOL.out]; rfl
      · rw [HLL.out, ← HOL.out]; exact HO.out
    · obtain ⟨q, rfl⟩ : ∃ q, n = q + 1 := ⟨r.length, by rw [HN.out]; rfl⟩
      have hq : q = r.length := by have := HN.out; simp at this; exact this
      have HQ := Lib.hid hq
      clear hq
      obtain ⟨ad, hA, -, hc0⟩ := HR.out.byte (k := 0) (by simp)
      subst hA
      replace hc0 : wr.cell? ad = some (.int .u8 (x.toNat : Int)) := hc0
      have hx256 : x.toNat < 256 := x.toNat_lt
      have HX := Lib.hid (looseR_cons most x r o)
      rw [← HQ.out, ← HMO.out, HE.out] at HX
      obtain ⟨k, hk⟩ : ∃ k, k = x.toNat := ⟨_, rfl⟩
      rw [← hk] at hc0 HX hx256
      clear hk
      obtain ⟨c', rfl⟩ : ∃ c', c1 = c' + 1 := ⟨c1 - 1, by omega⟩
      have p0 : (0 : Int) < ((q + 1 : Nat) : Int) := by omega
      have p1 : (1 : Int) ≤ ((q + 1 : Nat) : Int) := by omega
      have p2 : ((q + 1 : Nat) : Int) ≤ ((c' + 1 : Nat) : Int) := by omega
      have s1 : -9223372036854775808 ≤ most - (m : Int) := by rcases hmm with h | h <;> omega
      have s2 : most - (m : Int) ≤ 9223372036854775807 := by omega
      have k0 : (k : Int) < 256 := by omega
      by_cases hk128 : k < 128
      · have d0 : (k : Int) < 128 := by omega
        by_cases h3 : q < k + 1
        · have d3 : (q : Int) < (k : Int) + 1 := by omega
          have HLL := Lib.hid (show L = ([], 3) by have := HX.out; rw [if_pos hk128, if_pos h3] at this; exact this)
          go_wp2
          all_goals
            go_ret2
            refine ⟨none, 0, ?_, ?_, HB.out⟩
            · rw [HLL.out]; rfl
            · rw [HLL.out]; exact World.ownsRow_nil _ _ _ _
        · have d3 : (k : Int) + 1 ≤ (q : Int) := by omega
          by_cases h2 : most < (m : Int) + (k + 1 : Nat)
          · have d2 : most - (m : Int) < (k : Int) + 1 := by omega
            have HLL := Lib.hid (show L = ([], 2) by have := HX.out; rw [if_pos hk128, if_neg h3, if_pos h2] at this; exact this)
            go_wp2
            all_goals
              go_ret2
              refine ⟨none, 0, ?_, ?_, HB.out⟩
              · rw [HLL.out]; rfl
              · rw [HLL.out]; exact World.ownsRow_nil _ _ _ _
          · have d2 : (k : Int) + 1 ≤ most - (m : Int) := by omega
            have HLL := Lib.hid (show L = looseR most (r.drop (k + 1)) (o ++ r.take (k + 1)) by have := HX.out; rw [if_pos hk128, if_neg h3, if_neg h2] at this; exact this)
            have HRR := Lib.hid (show Reads wr w.heap.size (some (ad.add 1)) (bv r) by
              have := HR.out.drop (k := 1) (cap := c' + 1) (by rw [bv_len, ← HN.out]; exact hnc)
              rw [if_neg (by omega)] at this
              exact this)
            have HRT := Lib.hid (show Reads wr w.heap.size (some (ad.add 1)) (bv (r.take (k + 1))) by have := HRR.out.take (k + 1); rw [bv_take] at this; exact this)
            have HTL := Lib.hid (show k + 1 = (bv (r.take (k + 1))).length by rw [bv_len, List.length_take, ← HQ.out]; omega)
            have d4 : (k : Int) + 1 ≤ (c' : Int) := by omega
            have d5 : (0 : Int) ≤ (k : Int) + 1 := by omega
            have HO5 := HO
            have HB5 := HB
            have HW5 := Lib.hid (Below.refl w.heap.size wr)
            have hs5 := hbs
            rcases (show c' = k + 1 ∨ c' ≠ k + 1 by omega) with hce | hce
            · subst hce
              go_wp2_with (at_builtin; refine wpList_append_to _ rfl (.tmp 41) (.tmp 44) _ rfl w.heap.size 5 i0 _ 1 Try.underlying43 hi hz0 hz1 hz2 rfl _ m (bv o) rfl HO5.out _ _ (k + 1) _ (bv (r.take (k + 1))) rfl HTL.out HRT.out (bv_one _) (by simp only [maxLen]; omega) (by omega) hs5 ?_; intro A7 c7 w7 hown7 hg7 hb7 hl7; have HO7 := Lib.hid hown7; have HB7 := Lib.hid (HB5.out.trans hb7); have HW7 := Lib.hid (HW5.out.trans hb7); clear hown7 hg7 hb7 hl7)
              go_roundw
              case rel =>
                refine ⟨_, q - (k + 1), 0, r.drop (k + 1), A7, m + (k + 1), c7, o ++ r.take (k + 1), rfl, rfl, by omega, by omega, .inr (by omega), Lib.hid (by rw [List.length_drop, HQ.out]), Lib.hid ?_, Lib.hid ?_, Lib.hid HLL.out.symm, HB7⟩
                · have h9 := HRR.out.drop (k := (k + 1)) (cap := k + 1) (by rw [bv_len, ← HQ.out]; omega)
                  rw [if_pos rfl, bv_drop] at h9
                  exact h9.below HW7.out
                · have h9 := HO7.out
                  rw [← bv_append] at h9
                  exact h9
              case measure =>
                show q - (k + 1) < q + 1
                omega
            · have hce2 : ¬ c' = k + 1 := hce
              go_wp2_with (at_builtin; refine wpList_append_to _ rfl (.tmp 41) (.tmp 44) _ rfl w.heap.size 5 i0 _ 1 Try.underlying43 hi hz0 hz1 hz2 rfl _ m (bv o) rfl HO5.out _ _ (k + 1) _ (bv (r.take (k + 1))) rfl HTL.out HRT.out (bv_one _) (by simp only [maxLen]; omega) (by omega) hs5 ?_; intro A7 c7 w7 hown7 hg7 hb7 hl7; have HO7 := Lib.hid hown7; have HB7 := Lib.hid (HB5.out.trans hb7); have HW7 := Lib.hid (HW5.out.trans hb7); clear hown7 hg7 hb7 hl7)
              go_roundw
              case rel =>
                refine ⟨_, q - (k + 1), c' - (k + 1), r.drop (k + 1), A7, m + (k + 1), c7, o ++ r.take (k + 1), rfl, rfl, by omega, by omega, .inr (by omega), Lib.hid (by rw [List.length_drop, HQ.out]), Lib.hid ?_, Lib.hid ?_, Lib.hid HLL.out.symm, HB7⟩
                · have h9 := HRR.out.drop (k := (k + 1)) (cap := c') (by rw [bv_len, ← HQ.out]; omega)
                  rw [if_neg hce, bv_drop] at h9
                  exact h9.below HW7.out
                · have h9 := HO7.out
                  rw [← bv_append] at h9
                  exact h9
              case measure =>
                show q - (k + 1) < q + 1
                omega
      · obtain ⟨N, hN⟩ : ∃ N, N = k - 125 := ⟨_, rfl⟩
        rw [← hN] at HX
        have d0 : (128 : Int) ≤ (k : Int) := by omega
        have hkN : (k : Int) - 125 = (N : Int) := by omega
        have hN3 : 3 ≤ N := by omega
        have hN130 : N ≤ 130 := by omega
        clear hN
        by_cases h3 : q < 1
        · have HLL := Lib.hid (show L = ([], 3) by have := HX.out; rw [if_neg hk128, if_pos h3] at this; exact this)
          obtain rfl : q = 0 := by omega
          clear h3
          go_wp2
          all_goals
            go_ret2
            refine ⟨none, 0, ?_, ?_, HB.out⟩
            · rw [HLL.out]; rfl
            · rw [HLL.out]; exact World.ownsRow_nil _ _ _ _
        · have d3 : (1 : Int) ≤ (q : Int) := by omega
          by_cases h2 : most < (m : Int) + (N : Nat)
          · have d2 : most - (m : Int) < (N : Int) := by omega
            have HLL := Lib.hid (show L = ([], 2) by have := HX.out; rw [if_neg hk128, if_neg h3, if_pos h2] at this; exact this)
            go_wp2
            all_goals
              go_ret2
              refine ⟨none, 0, ?_, ?_, HB.out⟩
              · rw [HLL.out]; rfl
              · rw [HLL.out]; exact World.ownsRow_nil _ _ _ _
          · have d2 : (N : Int) ≤ most - (m : Int) := by omega
            have HRR := Lib.hid (show Reads wr w.heap.size (some (ad.add 1)) (bv r) by
              have := HR.out.drop (k := 1) (cap := c' + 1) (by rw [bv_len, ← HN.out]; exact hnc)
              rw [if_neg (by omega)] at this
              exact this)
            obtain ⟨y, r2, hyr⟩ : ∃ y r2, r = y :: r2 := by
              rcases r with _ | ⟨y, r2⟩
              · have := HQ.out; simp at this; omega
              · exact ⟨y, r2, rfl⟩
            have HLL := Lib.hid (show L = looseR most (r.drop 1) (o ++ List.replicate N y) by have := HX.out; rw [if_neg hk128, if_neg h3, if_neg h2, hyr] at this; rw [hyr]; exact this)
            have HRT := Lib.hid (show Reads wr w.heap.size (some (ad.add 1)) (bv [y]) by have := HRR.out.take 1; rw [bv_take, hyr] at this; exact this)
            have HRP := Lib.hid (repeat_any (some (ad.add 1)) c' y N (by omega) wr w.heap.size HRT.out hbs)
            have HTL := Lib.hid (show N = (bv (List.replicate N y)).length by rw [bv_len, List.length_replicate])
            clear hyr
            have d4 : (1 : Int) ≤ (c' : Int) := by omega
            rcases (show c' = 1 ∨ c' ≠ 1 by omega) with hce | hce
            · subst hce
              go_wp2_with (first
                | (go_at_call 86; refine HRP.out.mono ?_; rintro e w5 ⟨A5, c5, rfl, hR5, hb5⟩; have HR5 := Lib.hid hR5; have HO5 := Lib.hid (own_keep HO.out hb5); have HB5 := Lib.hid (HB.out.trans (hb5.mono hbs)); have HW5 := Lib.hid (hb5.mono hbs); have hs5 := HB5.out.size; clear hR5 hb5)
                | (at_builtin; refine wpList_append_to _ rfl (.tmp 46) (.tmp 50) _ rfl w.heap.size 5 i0 _ 1 Try.underlying43 hi hz0 hz1 hz2 rfl _ m (bv o) rfl HO5.out _ _ (N) _ (bv (List.replicate N y)) rfl HTL.out HR5.out (bv_one _) (by simp only [maxLen]; omega) (by omega) hs5 ?_; intro A7 c7 w7 hown7 hg7 hb7 hl7; have HO7 := Lib.hid hown7; have HB7 := Lib.hid (HB5.out.trans hb7); have HW7 := Lib.hid (HW5.out.trans hb7); clear hown7 hg7 hb7 hl7))
              go_roundw
              case rel =>
                refine ⟨_, q - 1, 0, r.drop 1, A7, m + N, c7, o ++ List.replicate N y, rfl, rfl, by omega, by omega, .inr (by omega), Lib.hid (by rw [List.length_drop, HQ.out]), Lib.hid ?_, Lib.hid ?_, Lib.hid HLL.out.symm, HB7⟩
                · have h9 := HRR.out.drop (k := 1) (cap := 1) (by rw [bv_len, ← HQ.out]; omega)
                  rw [if_pos rfl, bv_drop] at h9
                  exact h9.below HW7.out
                · have h9 := HO7.out
                  rw [← bv_append] at h9
                  exact h9
              case measure =>
                show q - 1 < q + 1
                omega
            · have hce2 : ¬ c' = 1 := hce
              go_wp2_with (first
                | (go_at_call 86; refine HRP.out.mono ?_; rintro e w5 ⟨A5, c5, rfl, hR5, hb5⟩; have HR5 := Lib.hid hR5; have HO5 := Lib.hid (own_keep HO.out hb5); have HB5 := Lib.hid (HB.out.trans (hb5.mono hbs)); have HW5 := Lib.hid (hb5.mono hbs); have hs5 := HB5.out.size; clear hR5 hb5)
                | (at_builtin; refine wpList_append_to _ rfl (.tmp 46) (.tmp 50) _ rfl w.heap.size 5 i0 _ 1 Try.underlying43 hi hz0 hz1 hz2 rfl _ m (bv o) rfl HO5.out _ _ (N) _ (bv (List.replicate N y)) rfl HTL.out HR5.out (bv_one _) (by simp only [maxLen]; omega) (by omega) hs5 ?_; intro A7 c7 w7 hown7 hg7 hb7 hl7; have HO7 := Lib.hid hown7; have HB7 := Lib.hid (HB5.out.trans hb7); have HW7 := Lib.hid (HW5.out.trans hb7); clear hown7 hg7 hb7 hl7))
              go_roundw
              case rel =>
                refine ⟨_, q - 1, c' - 1, r.drop 1, A7, m + N, c7, o ++ List.replicate N y, rfl, rfl, by omega, by omega, .inr (by omega), Lib.hid (by rw [List.length_drop, HQ.out]), Lib.hid ?_, Lib.hid ?_, Lib.hid HLL.out.symm, HB7⟩
                · have h9 := HRR.out.drop (k := 1) (cap := c') (by rw [bv_len, ← HQ.out]; omega)
                  rw [if_neg hce, bv_drop] at h9
                  exact h9.below HW7.out
                · have h9 := HO7.out
                  rw [← bv_append] at h9
                  exact h9
              case measure =>
                show q - 1 < q + 1
                omega
end Go.Proofs.Ytcnalndhlonblaa
