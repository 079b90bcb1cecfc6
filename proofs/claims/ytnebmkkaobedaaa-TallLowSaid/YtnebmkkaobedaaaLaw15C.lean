/-
  Chapter 15's TallLow, walked.
-/
import Derived.Test.YtnebmkkaobedaaaLaw15
namespace Go.Proofs.Ytnebmkkaobedaaa
open Go.RowKit

theorem lvl_spec (n : Nat) : ∀ (k a : Nat), k = overV n a → ∀ i, i < (lvl 18 k).length → (lvl 18 k)[i]? = some (overV n (a * 18 ^ i)) ∧ (i + 1 < (lvl 18 k).length → 1 < overV n (a * 18 ^ i)) ∧ (i + 1 = (lvl 18 k).length → overV n (a * 18 ^ i) = 1) := by
  intro k
  induction k using Nat.strongRecOn with
  | ind k ih =>
    intro a hk i hi
    by_cases h1 : 1 < k
    · have hm := lvl_more 18 k (by omega) h1
      have hlt := overV_lt (k := k) (m := 18) (by omega) h1
      have h2 := ih _ hlt (a * 18) (by rw [hk, overV_over])
      rw [hm] at hi ⊢
      rw [List.length_cons] at hi ⊢
      cases i with
      | zero =>
        have hpos : 0 < (lvl 18 (overV k 18)).length := by
          by_cases h3 : 1 < overV k 18
          · rw [lvl_more 18 _ (by omega) h3]; simp
          · rw [lvl_one 18 _ h3]; simp
        rw [Nat.pow_zero, Nat.mul_one, ← hk]
        exact ⟨rfl, fun _ => h1, fun h => by omega⟩
      | succ j =>
        obtain ⟨g1, g2, g3⟩ := h2 j (by omega)
        have e : a * 18 * 18 ^ j = a * 18 ^ (j + 1) := by rw [Nat.pow_succ, Nat.mul_assoc, Nat.mul_comm 18]
        rw [e] at g1 g2 g3
        exact ⟨by rw [List.getElem?_cons_succ]; exact g1, fun h => g2 (by omega), fun h => g3 (by omega)⟩
    · have hm := lvl_one 18 k h1
      rw [hm] at hi ⊢
      simp at hi
      subst hi
      rw [Nat.pow_zero, Nat.mul_one, ← hk]
      have h0 : 1 ≤ k := by rw [hk]; exact Nat.succ_pos _
      exact ⟨rfl, fun h => by simp at h, fun _ => by omega⟩
theorem overV_one {n r : Nat} (h : overV n r = 1) (hr : 0 < r) : n ≤ r := by
  unfold overV at h
  have h1 : (n - 1) / r = 0 := by omega
  rcases Nat.div_eq_zero_iff.1 h1 with h2 | h2 <;> omega
theorem overV_two {n r : Nat} (h : 1 < overV n r) (hr : 0 < r) : r < n := by
  unfold overV at h
  rcases Nat.lt_or_ge r n with h1 | h1
  · exact h1
  · have : (n - 1) / r = 0 := Nat.div_eq_of_lt (by omega)
    omega
/-- what TallLow asks of a tree's levels -/
theorem low_spec (t : Int) (n : Nat) (ht : 1 ≤ t ∧ t ≤ 5) (hn : n ≤ 16383) : 0 < (levelsV t n).length ∧ (levelsV t n)[(levelsV t n).length - 1]? = some 1 ∧
    (∀ k, k + 1 < (levelsV t n).length → maxV t true * 18 ^ k < n) ∧ n ≤ maxV t true * 18 ^ ((levelsV t n).length - 1) ∧ 0 < maxV t true ∧ maxV t false = 18 := by
  have hz : maxV t true ≠ 0 := by
    unfold maxV
    rw [if_neg (by omega), if_neg (by simp)]
    split
    · simp
    · split
      · simp
      · split <;> simp
  obtain ⟨h18, _⟩ := maxV_both t hz
  have hp : 0 < maxV t true := by omega
  have hL : levelsV t n = lvl 18 (overV n (maxV t true)) := by
    unfold levelsV
    rw [if_neg (by omega), Int.toNat_natCast]
  have hsp := lvl_spec n _ (maxV t true) rfl
  rw [← hL] at hsp
  have hpos : 0 < (levelsV t n).length := by
    rw [hL]
    by_cases h3 : 1 < overV n (maxV t true)
    · rw [lvl_more 18 _ (by omega) h3]; simp
    · rw [lvl_one 18 _ h3]; simp
  have hpw : ∀ k, 0 < maxV t true * 18 ^ k := fun k => Nat.mul_pos hp (Nat.pow_pos (by omega))
  obtain ⟨g1, _, g3⟩ := hsp ((levelsV t n).length - 1) (by omega)
  have g4 := g3 (by omega)
  refine ⟨hpos, by rw [g1, g4], fun k hk => ?_, overV_one g4 (hpw _), hp, h18⟩
  exact overV_two ((hsp k (by omega)).2.1 hk) (hpw k)
theorem wrap_small (n : Int) (h0 : 0 ≤ n) (h1 : n ≤ 1000) : wrap64 n = n := by
  unfold wrap64
  omega
theorem tree_bound (a : Int) : 1 ≤ wrap64 (1 + (wrap64 (a.tmod 5 + 5)).tmod 5) ∧ wrap64 (1 + (wrap64 (a.tmod 5 + 5)).tmod 5) ≤ 5 := by
  have h1 : a.tmod 5 < 5 := Int.tmod_lt_of_pos a (by omega)
  have h2 : -5 < a.tmod 5 := Int.lt_tmod_of_pos a (by omega)
  rw [wrap_small (a.tmod 5 + 5) (by omega) (by omega), Int.tmod_eq_emod_of_nonneg (by omega), wrap_small _ (by omega) (by omega)]
  omega
set_option maxRecDepth 100000 in
set_option maxHeartbeats 2000000 in
theorem law_TallLow (a0 a1 : Int) (w : World) (_w0 : (Lit.int .i64 a0).wf = true) (_w1 : (Lit.int .i64 a1).wf = true) :
    Calls Try.prog 10 #[.int .i64 a0, .int .i64 a1] w fun e w' => e = .returned (.bool true) ∧ Below w.heap.size w w' := by
  have hm1 := i64_mask a1 14 (by omega) 16383 rfl
  obtain ⟨n, hn, hn2⟩ : ∃ n : Nat, a1 % ((2 ^ 14 : Nat) : Int) = n ∧ n ≤ 16383 := ⟨(a1 % ((2 ^ 14 : Nat) : Int)).toNat, by omega, by omega⟩
  rw [hn] at hm1
  clear hn
  have hT := tree_bound a0
  go_enter Try.func10, Try.ntmps10
  go_wp2_with fail
  generalize wrap64 (1 + (wrap64 (a0.tmod 5 + 5)).tmod 5) = T at *
  obtain ⟨s1, s2, s3, s4, s5, s6⟩ := low_spec T n hT hn2
  have hb := (levels_bound T n).1
  have hml := maxV_leaf T
  have k1 := fun W => max_any T true W
  have k2 := fun W => max_any T false W
  rw [s6, show ((18 : Nat) : Int) = 18 from rfl] at k2
  have kl := levels_any T n w
  generalize levelsV T n = L at *
  generalize maxV T true = ml at *
  have S2 := Lib.hid s2
  have S3 := Lib.hid s3
  have S4 := Lib.hid s4
  clear hm1 _w0 _w1 s2 s3 s4 s6
  refine kl.mono ?_
  rintro e w1 ⟨A1, c1, rfl, hown, hb1⟩
  rw [nv_len] at hown
  rw [nv_len]
  have hr := Reads.of_own hown
  clear kl hown
  go_wp2_with fail
  refine (k1 _).mono ?_
  rintro e w2 ⟨rfl, rfl⟩
  go_wp2_with fail
  go_loop [6, 7] (fun s i => ∃ k : Nat, k < L.length ∧ i = .int .i64 (k + 1 : Nat) ∧ s = .int .i64 (ml * 18 ^ k : Nat) ∧ ml * 18 ^ k ≤ 300000) (fun _ i => L.length - (intOf i).toNat)
  case atStart => exact ⟨0, by omega, rfl, by simp, by simp; omega⟩
  case round =>
    obtain ⟨k, hk, rfl, rfl, hr3⟩ := hrel
    by_cases hlt : k + 1 < L.length
    · have hx := S3.out k hlt
      have hnx : ml * 18 ^ (k + 1) = ml * 18 ^ k * 18 := by rw [Nat.pow_succ, Nat.mul_assoc]
      have HNX := Lib.hid hnx
      clear hnx
      generalize ml * 18 ^ k = r at *
      have d1 : decide (n ≤ r) = false := decide_eq_false (by omega)
      have d2 : decide (k + 1 < L.length) = true := decide_eq_true hlt
      go_wp2_with fail
      refine (k2 _).mono ?_
      rintro e w2 ⟨rfl, rfl⟩
      go_wp2
      go_round
      case rel => exact ⟨k + 1, by omega, by go_num, by rw [HNX.out]; go_num, by rw [HNX.out]; omega⟩
      case measure => simp [intOf]; omega
    · have hkl : L.length = k + 1 := by omega
      have hx := S4.out
      have hy := S2.out
      rw [hkl, Nat.add_sub_cancel] at hx hy
      obtain ⟨ad, rfl, _, hc⟩ := hr.num (k := k) (by simp; omega)
      rw [List.getElem_map] at hc
      rw [List.getElem?_eq_getElem (by omega)] at hy
      injection hy with hy
      rw [hy] at hc
      have d1 : decide (n ≤ ml * 18 ^ k) = true := decide_eq_true hx
      generalize ml * 18 ^ k = r at *
      have i0 : (0 : Int) ≤ (k : Int) := by omega
      rw [show ((1 : Nat) : Int) = 1 from rfl] at hc
      clear hy S2 S3 S4 hk hlt
      go_wp2_with fail
      refine (lives15 _).mono ?_
      rintro e w2 ⟨rfl, hb⟩
      have hb2 := below_then hb1 hb
      go_wp2
      go_ret
      exact ⟨rfl, hb2⟩
end Go.Proofs.Ytnebmkkaobedaaa
