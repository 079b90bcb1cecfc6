/-
  The reference's Sizes, Levels, Nodes of layer 15, walked.
-/
import Derived.Test.YtnebmkkaobedaaaTall2
namespace Go.Proofs.Ytnebmkkaobedaaa
open Go.RowKit

set_option maxHeartbeats 1000000 in
theorem rsizes_bad (n m : Int) (h : n < 0 ∨ 32768 < n ∨ m < 1) (w : World) : Calls Try.prog 54 #[.int .i64 n, .int .i64 m] w fun e w' => e = .returned (.slice none 0 0) ∧ w = w' := by
  by_cases h0 : n < 0
  · have d1 : decide (n < 0) = true := decide_eq_true h0
    clear h
    go_enter Try.func54, Try.ntmps54
    go_wp2
    go_ret
    exact ⟨rfl, rfl⟩
  have d1 : decide (n < 0) = false := decide_eq_false h0
  by_cases h1 : 32768 < n
  · have d2 : decide (32768 < n) = true := decide_eq_true h1
    clear h
    go_enter Try.func54, Try.ntmps54
    go_wp2
    go_ret
    exact ⟨rfl, rfl⟩
  have d2 : decide (32768 < n) = false := decide_eq_false h1
  have d3 : decide (m < 1) = true := decide_eq_true (by omega)
  clear h
  go_enter Try.func54, Try.ntmps54
  go_wp2
  go_ret
  exact ⟨rfl, rfl⟩
theorem sizes_step (n m k : Nat) (hm : 0 < m) (hk : k ≤ (n - 1) / m) : (m < n - k * m ↔ k < (n - 1) / m) ∧ k * m ≤ n ∧ k ≤ n := by
  obtain ⟨h1, h2, h3⟩ := sizes_bounds n m hm
  have h4 : k * m ≤ (n - 1) / m * m := Nat.mul_le_mul_right _ hk
  have h5 : k ≤ k * m := Nat.le_mul_of_pos_right k hm
  refine ⟨⟨fun h => ?_, fun h => ?_⟩, by omega, by omega⟩
  · rcases Nat.lt_or_ge k ((n - 1) / m) with h6 | h6
    · exact h6
    · have : k = (n - 1) / m := by omega
      subst this
      omega
  · have h6 : (k + 1) * m ≤ (n - 1) / m * m := Nat.mul_le_mul_right _ h
    rw [Nat.add_mul, Nat.one_mul] at h6
    by_cases hn : 0 < n
    · have := h3 hn
      omega
    · have : (n - 1) / m = 0 := by rw [show n - 1 = 0 by omega]; exact Nat.zero_div m
      omega
set_option maxRecDepth 100000 in
set_option maxHeartbeats 2000000 in
theorem rsizes_ok (n m : Nat) (hn : n ≤ 32768) (hm : 0 < m) (hm2 : m ≤ 9223372036854775807) (w : World) : Calls Try.prog 54 #[.int .i64 n, .int .i64 m] w (Gives 3 (nv (sizesV n m)) w) := by
  obtain ⟨i0', hi, hz0, hz1, hz2⟩ := info_parts Try.infoI64
  have d1 : decide ((n : Int) < 0) = false := decide_eq_false (by omega)
  have d2 : decide ((32768 : Int) < n) = false := decide_eq_false (by omega)
  have d3 : decide ((m : Int) < 1) = false := decide_eq_false (by omega)
  have hst := fun k => sizes_step n m k hm
  have hsv : sizesV n m = List.replicate ((n - 1) / m) m ++ [n - (n - 1) / m * m] := rfl
  rw [hsv]
  clear hsv
  generalize (n - 1) / m = q at *
  have HST := Lib.hid hst
  clear hst
  go_enter Try.func54, Try.ntmps54
  go_wp2_with fail
  go_loopw [0, 5] (fun a v wr => ∃ k : Nat, k ≤ q ∧ a = .int .i64 (n - k * m : Nat) ∧ wr.ownsRow w.heap.size 3 1 v k (nv (List.replicate k m)) ∧ Below w.heap.size w wr) (fun a _ _ => (intOf a).toNat)
  case atStart => exact ⟨0, by omega, by simp, World.ownsRow_nil _ _ _ _, Below.refl _ _⟩
  case round =>
    obtain ⟨k, hk, rfl, hown, hbr⟩ := hrel
    obtain ⟨Ao, co, rfl⟩ := own_form hown
    obtain ⟨s1, s2, s3⟩ := HST.out k hk
    have hsz := hbr.size
    by_cases hlt : k < q
    · have hmn := s1.2 hlt
      have hnx : ((n - (k + 1) * m : Nat) : Int) = ((n - k * m : Nat) : Int) - m := by rw [Nat.add_mul, Nat.one_mul]; omega
      have HNX := Lib.hid hnx
      have hr2 := Reads.new wr (nv [m]) 3 (0, 0)
      have hle : n - k * m ≤ n := Nat.sub_le _ _
      clear s1 hnx
      generalize n - k * m = r at *
      have d4 : decide (m < r) = true := decide_eq_true hmn
      go_wp2_with (at_builtin; refine wpList_append_to _ rfl (.tmp 19) (.tmp 21) _ rfl w.heap.size 3 i0' _ 8 Try.underlying42 hi hz0 hz1 hz2 rfl _ k (nv (List.replicate k m)) rfl (hown.alloc _) _ _ 1 1 (nv [m]) rfl rfl hr2 (iv_one _) (by simp only [maxLen]; omega) (by omega) (by simp; omega) ?_; intro A' c' w3 hown3 hg3 hb3 _)
      go_roundw
      case rel => exact ⟨k + 1, by omega, by rw [HNX.out], by rw [List.replicate_succ', nv_append]; exact hown3, (hbr.alloc hsz _).trans hb3⟩
      case measure => simp [intOf]; omega
    · obtain rfl : k = q := by omega
      have hmn : ¬ m < n - k * m := fun h => hlt (s1.1 h)
      have hr2 := Reads.new wr (nv [n - k * m]) 3 (0, 0)
      clear s1
      generalize n - k * m = r at *
      have d4 : decide (m < r) = false := decide_eq_false hmn
      go_wp2_with (at_builtin; refine wpList_append_to _ rfl (.tmp 26) (.tmp 28) _ rfl w.heap.size 3 i0' _ 8 Try.underlying42 hi hz0 hz1 hz2 rfl _ k (nv (List.replicate k m)) rfl (hown.alloc _) _ _ 1 1 (nv [r]) rfl rfl hr2 (iv_one _) (by simp only [maxLen]; omega) (by omega) (by simp; omega) ?_; intro A' c' w3 hown3 hg3 hb3 _)
      rw [← nv_append] at hown3
      go_ret
      exact ⟨A', c', by rw [nv_len, List.length_append, List.length_replicate]; rfl, by rw [nv_len, List.length_append, List.length_replicate]; exact hown3, (hbr.alloc hsz _).trans hb3⟩
set_option maxRecDepth 100000 in
set_option maxHeartbeats 2000000 in
theorem rlevels_any (t n : Int) (w : World) : Calls Try.prog 50 #[.int .i64 t, .int .i64 n] w (Gives 3 (nv (levelsV t n)) w) := by
  obtain ⟨i0', hi, hz0, hz1, hz2⟩ := info_parts Try.infoI64
  have h1 := fun W => rmax_any t true W
  have h2 := fun W => rmax_any t false W
  have hb := maxV_both t
  have hl := maxV_leaf t
  by_cases hz : maxV t true = 0
  · have hv : levelsV t n = [] := by unfold levelsV; rw [if_pos (.inl hz)]
    rw [hv]
    rw [hz] at h1
    clear hv hb hz hl h2
    go_enter Try.func50, Try.ntmps50
    go_wp2_with fail
    refine (h1 _).mono ?_
    rintro e w1 ⟨rfl, hb⟩
    go_wp2
    go_ret
    exact ⟨none, 0, rfl, World.ownsRow_nil _ _ _ _, hb⟩
  obtain ⟨hi18, hl6⟩ := hb hz
  have d1 : ((maxV t true : Int) == 0) = false := by simp; omega
  rw [hi18] at h2
  by_cases hn : n < 0 ∨ 32768 < n
  · have hv : levelsV t n = [] := by unfold levelsV; rw [if_pos (by omega)]
    rw [hv]
    clear hv hb hl hi18 hl6 h2
    generalize maxV t true = ml at *
    by_cases h0 : n < 0
    · have d2 : decide (n < 0) = true := decide_eq_true h0
      clear hn hz
      go_enter Try.func50, Try.ntmps50
      go_wp2_with fail
      refine (h1 _).mono ?_
      rintro e w1 ⟨rfl, hb⟩
      go_wp2
      go_ret
      exact ⟨none, 0, rfl, World.ownsRow_nil _ _ _ _, hb⟩
    · have d2 : decide (n < 0) = false := decide_eq_false h0
      have d3 : decide (32768 < n) = true := decide_eq_true (by omega)
      clear hn hz
      go_enter Try.func50, Try.ntmps50
      go_wp2_with fail
      refine (h1 _).mono ?_
      rintro e w1 ⟨rfl, hb⟩
      go_wp2
      go_ret
      exact ⟨none, 0, rfl, World.ownsRow_nil _ _ _ _, hb⟩
  obtain ⟨m, rfl⟩ := Int.eq_ofNat_of_zero_le (show 0 ≤ n by omega)
  have hm : m ≤ 32768 := by omega
  have hv : levelsV t (m : Int) = lvl 18 (overV m (maxV t true)) := by unfold levelsV; rw [if_neg (by omega), Int.toNat_natCast]
  rw [hv]
  have d2 : decide ((m : Int) < 0) = false := decide_eq_false (by omega)
  have d3 : decide ((32768 : Int) < m) = false := decide_eq_false (by omega)
  have ho := fun W => rsizes_ok m (maxV t true) hm (by omega) (by omega) W
  have hk0 := overV_le m (maxV t true)
  have hk32 : overV m (maxV t true) ≤ 32768 := by
    unfold overV
    have : (m - 1) / maxV t true ≤ (m - 1) / 6 := Nat.div_le_div_left hl6 (by omega)
    omega
  have hsl := sizesV_len m (maxV t true)
  have HSL := Lib.hid hsl
  clear hv hb hn hi18 hz hl hl6 hsl
  generalize maxV t true = ml at *
  generalize sizesV m ml = S0 at *
  generalize overV m ml = k0 at *
  go_enter Try.func50, Try.ntmps50
  go_wp2_with fail
  refine (h1 _).mono ?_
  rintro e w1 ⟨rfl, hb1⟩
  go_wp2_with fail
  refine (h1 _).mono ?_
  rintro e w2 ⟨rfl, hb⟩
  have hB2 := below_then hb1 hb
  clear hb hb1
  go_wp2_with fail
  refine (ho _).mono ?_
  rintro e w3 ⟨A3, c3, rfl, hown3, hb⟩
  rw [nv_len, HSL.out]
  have hB3 := below_then hB2 hb
  clear h1 ho hown3 hb hB2
  have hown0 := World.ownsRow_lit (e := 3) (size := 1) (base := w.heap.size) w3 #[.int .i64 k0] 1 hB3.size (by simp [maxLen]) (by simp)
  have hB4 := hB3.alloc hB3.size (.cells #[.int .i64 k0] 3)
  go_wp2_with fail
  go_loopw [5, 6] (fun a v wr => ∃ (done : List Nat) (k : Nat), lvl 18 k0 = done ++ lvl 18 k ∧ a = .int .i64 k ∧ k + done.length ≤ k0 ∧ wr.ownsRow w.heap.size 3 1 v (done.length + 1) (nv (done ++ [k])) ∧ Below w.heap.size w wr) (fun _ v _ => match v with | .slice _ n _ => k0 + 2 - n | _ => 0)
  case atStart => exact ⟨[], k0, by simp, rfl, by simp, hown0, hB4⟩
  case round =>
    obtain ⟨done, k, hlv, rfl, hkd, hown, hbr⟩ := hrel
    obtain ⟨Ao, co, rfl⟩ := own_form hown
    have HLV := Lib.hid hlv
    clear hlv
    by_cases hk : 1 < k
    · have d4 : decide ((1 : Int) < (k : Int)) = true := decide_eq_true (by omega)
      have hlt := overV_lt (k := k) (m := 18) (by omega) hk
      have ho := fun W => rsizes_ok k 18 (by omega) (by omega) (by omega) W
      have hsl := sizesV_len k 18
      have HS2 := Lib.hid hsl
      have HM := Lib.hid (lvl_more 18 k (by omega) hk)
      clear hsl
      generalize sizesV k 18 = S1 at *
      generalize overV k 18 = k2 at *
      rw [show ((18 : Nat) : Int) = 18 from rfl] at ho h2
      go_wp2_with fail
      refine (h2 _).mono ?_
      rintro e w4 ⟨rfl, hb⟩
      have hbr4 := hbr.trans (hb.mono hbr.size)
      have hown4 := own_keep hown hb
      clear hb
      go_wp2_with fail
      refine (ho _).mono ?_
      rintro e w5 ⟨A5, c5, rfl, hown5, hb⟩
      rw [nv_len, HS2.out]
      have hbr5 := hbr4.trans (hb.mono hbr4.size)
      have hown6 := own_keep hown4 hb
      clear hb hown5 ho
      have hr2 := Reads.new w5 (nv [k2]) 3 (0, 0)
      have hsz := hbr5.size
      go_wp2_with (at_builtin; refine wpList_append_to _ rfl (.tmp 32) (.tmp 34) _ rfl w.heap.size 3 i0' _ 8 Try.underlying42 hi hz0 hz1 hz2 rfl _ (done.length + 1) (nv (done ++ [k])) rfl (hown6.alloc _) _ _ 1 1 (nv [k2]) rfl rfl hr2 (iv_one _) (by simp only [maxLen]; omega) (by omega) (by simp; omega) ?_; intro A' c' w6 hown7 hg3 hb3 _)
      go_roundw
      case rel => exact ⟨done ++ [k], k2, by rw [HLV.out, HM.out]; simp, rfl, by rw [List.length_append]; simp; omega, by rw [List.length_append, nv_append]; exact hown7, (hbr5.alloc hsz _).trans hb3⟩
      case measure => simp; omega
    · have d4 : decide ((1 : Int) < (k : Int)) = false := decide_eq_false (by omega)
      have HM := Lib.hid (lvl_one 18 k hk)
      go_wp2
      go_ret
      exact ⟨Ao, co, by rw [HLV.out, HM.out, nv_len, List.length_append]; rfl, by rw [HLV.out, HM.out, nv_len, List.length_append]; exact hown, hbr⟩
set_option maxHeartbeats 1000000 in
theorem rnodes_any (t n : Int) (w : World) : Calls Try.prog 52 #[.int .i64 t, .int .i64 n] w fun e w' => e = .returned (.int .i64 (nodesV t n)) ∧ Below w.heap.size w w' := by
  have hl := rlevels_any t n w
  obtain ⟨b1, b2⟩ := levels_bound t n
  unfold nodesV
  generalize levelsV t n = l at *
  go_enter Try.func52, Try.ntmps52
  go_wp2_with fail
  refine hl.mono ?_
  rintro e w1 ⟨A, c, rfl, hown, hB⟩
  rw [nv_len] at hown
  rw [nv_len]
  have hr := Reads.of_own hown
  clear hl hown
  go_wp2_with fail
  go_loop [6, 7] (fun s i => ∃ k : Nat, k ≤ l.length ∧ i = .int .i64 k ∧ s = .int .i64 ((l.take k).sum : Nat)) (fun _ i => l.length - (intOf i).toNat)
  case atStart => exact ⟨0, by omega, rfl, rfl⟩
  case round =>
    obtain ⟨k, hk, rfl, rfl⟩ := hrel
    by_cases hlt : k < l.length
    · obtain ⟨ad, rfl, _, hc⟩ := hr.num (k := k) (by simpa using hlt)
      rw [List.getElem_map] at hc
      have hs := sum_snoc l k hlt
      have h1 := sum_take_le l (k + 1)
      have HS := Lib.hid hs
      have hx : (l.take k).sum + l[k] ≤ 1200000000 := by omega
      clear hs h1
      generalize l[k] = x at *
      generalize (l.take k).sum = y at *
      go_wp2
      go_round
      case rel => exact ⟨k + 1, by omega, by go_num, by rw [HS.out]; go_num⟩
      case measure => simp [intOf]; omega
    · obtain rfl : k = l.length := by omega
      go_wp2
      go_ret
      exact ⟨by first | rfl | (rw [List.take_length]; rfl), hB⟩
end Go.Proofs.Ytnebmkkaobedaaa
