/-
  Chapter 15's TallAdds, walked.
-/
import Derived.Test.YtnebmkkaobedaaaLaw15
namespace Go.Proofs.Ytnebmkkaobedaaa
open Go.RowKit

theorem sizes_elem (n m : Nat) (hm : 0 < m) (k : Nat) (hk : k < (sizesV n m).length) : (sizesV n m)[k] ≤ m ∧ (k + 1 < (sizesV n m).length → (sizesV n m)[k] = m) ∧ (0 < n → 0 < (sizesV n m)[k]) := by
  have hl := sizesV_len n m
  have hg := sizesV_get n m hm k (by rw [← hl]; exact hk)
  rw [List.getElem?_eq_getElem hk] at hg
  injection hg with hg
  rw [hg]
  obtain ⟨h1, h2, h3⟩ := sizes_bounds n m hm
  rw [hl]
  rw [hl] at hk
  unfold overV at *
  have h4 : k * m ≤ (n - 1) / m * m := Nat.mul_le_mul_right _ (by omega)
  refine ⟨Nat.min_le_left _ _, fun h => ?_, fun h => ?_⟩
  · have h5 : (k + 1) * m ≤ (n - 1) / m * m := Nat.mul_le_mul_right _ (by omega)
    rw [Nat.add_mul, Nat.one_mul] at h5
    omega
  · have := h3 h
    omega
theorem nodes_mono (t : Int) (n : Nat) (h : n ≤ 16384) : nodesV t n ≤ nodesV t ((n : Int) + 1) := by
  unfold nodesV levelsV
  by_cases hz : maxV t true = 0
  · rw [if_pos (.inl hz), if_pos (.inl hz)]; exact Nat.le_refl _
  · rw [if_neg (by omega), if_neg (by omega)]
    exact lvl_mono 18 (by omega) _ _ (overV_mono (by omega))
set_option maxRecDepth 100000 in
set_option maxHeartbeats 2000000 in
theorem law_TallAdds (a0 a1 a2 : Int) (w : World) (_w0 : (Lit.int .i64 a0).wf = true) (_w1 : (Lit.int .i64 a1).wf = true) (_w2 : (Lit.int .i64 a2).wf = true) :
    Calls Try.prog 14 #[.int .i64 a0, .int .i64 a1, .int .i64 a2] w fun e w' => e = .returned (.bool true) ∧ Below w.heap.size w w' := by
  have hm1 := i64_mask a1 14 (by omega) 16383 rfl
  have hm2 := i64_mask a2 8 (by omega) 255 rfl
  obtain ⟨n, hn, hn2⟩ : ∃ n : Nat, a1 % ((2 ^ 14 : Nat) : Int) = n ∧ n ≤ 16383 := ⟨(a1 % ((2 ^ 14 : Nat) : Int)).toNat, by omega, by omega⟩
  obtain ⟨m, hm, hm3⟩ : ∃ m : Nat, a2 % ((2 ^ 8 : Nat) : Int) = m ∧ m ≤ 255 := ⟨(a2 % ((2 ^ 8 : Nat) : Int)).toNat, by omega, by omega⟩
  rw [hn] at hm1
  rw [hm] at hm2
  have ks := fun W => sizes_ok n (m + 1) (by omega) (by omega) (by omega) W
  have he := sizes_elem n (m + 1) (by omega)
  have hsum := sizesV_sum n (m + 1) (by omega)
  have hlen := sizesV_len n (m + 1)
  have hl2 := overV_le n (m + 1)
  have hl1 : 0 < overV n (m + 1) := Nat.succ_pos _
  rw [← hlen] at hl1 hl2
  rw [show (((m + 1 : Nat)) : Int) = 1 + (m : Int) by omega] at ks
  have hno := nodes_mono a0 n (by omega)
  have hno' : decide (nodesV a0 n ≤ nodesV a0 ((n : Int) + 1)) = true := decide_eq_true hno
  have k1 := fun W => nodes_any a0 ((n : Int) + 1) W
  have k2 := fun W => nodes_any a0 (n : Int) W
  generalize sizesV n (m + 1) = S at *
  generalize nodesV a0 n = N1 at *
  generalize nodesV a0 ((n : Int) + 1) = N2 at *
  have HS := Lib.hid hsum
  have HE := Lib.hid he
  clear hn hm hsum hlen he hno _w0 _w1 _w2
  go_enter Try.func14, Try.ntmps14
  go_wp2_with fail
  refine (ks _).mono ?_
  rintro e w1 ⟨A1, c1, rfl, hown, hb1⟩
  rw [nv_len] at hown
  rw [nv_len]
  have hr := Reads.of_own hown
  clear ks hown hm1 hm2
  go_wp2_with fail
  go_loop [8, 9] (fun s i => ∃ k : Nat, k ≤ S.length ∧ i = .int .i64 k ∧ s = .int .i64 ((S.take k).sum : Nat)) (fun _ i => S.length - (intOf i).toNat)
  case atStart => exact ⟨0, by omega, rfl, rfl⟩
  case round =>
    obtain ⟨k, hk, rfl, rfl⟩ := hrel
    by_cases hlt : k < S.length
    · obtain ⟨ad, rfl, _, hc⟩ := hr.num (k := k) (by simpa using hlt)
      rw [List.getElem_map] at hc
      obtain ⟨e1, e2, e3⟩ := HE.out k hlt
      have hs := sum_snoc S k hlt
      have h1 := sum_take_le S (k + 1)
      rw [HS.out] at h1
      have HSS := Lib.hid hs
      have hx : (S.take k).sum + S[k] ≤ 16383 := by omega
      clear hs h1
      generalize S[k] = x at *
      generalize (S.take k).sum = y at *
      have i0 : (0 : Int) ≤ (k : Int) := by omega
      have i1 : (k : Int) < (S.length : Int) := by omega
      have d1 : decide ((1 : Int) + (m : Int) < (x : Int)) = false := decide_eq_false (by omega)
      by_cases hk1 : k + 1 < S.length
      · have d2 : decide ((k : Int) + 1 < (S.length : Int)) = true := decide_eq_true (by omega)
        have hxm := e2 hk1
        have d3 : ((x : Int) != 1 + (m : Int)) = false := by rw [hxm]; simp; omega
        have d4 : ((x : Int) == 0) = false := by simp; omega
        clear e2 hxm
        go_wp2
        go_round
        case rel => exact ⟨k + 1, by omega, by go_num, by rw [HSS.out]; go_num⟩
        case measure => simp [intOf]; omega
      · have d2 : decide ((k : Int) + 1 < (S.length : Int)) = false := decide_eq_false (by omega)
        by_cases hx0 : x = 0
        · have d5 : decide ((0 : Int) < (n : Int)) = false := decide_eq_false (by omega)
          subst hx0
          rw [show ((0 : Nat) : Int) = 0 from rfl] at hc d1
          clear e2
          go_wp2
          refine ⟨⟨k + 1, by omega, by go_num, by rw [HSS.out]; go_num⟩, by simp [intOf]; omega⟩
        · have d4 : ((x : Int) == 0) = false := by simp; omega
          clear e2 hx0
          go_wp2
          refine ⟨⟨k + 1, by omega, by go_num, by rw [HSS.out]; go_num⟩, by simp [intOf]; omega⟩
    · obtain rfl : k = S.length := by omega
      rw [List.take_length, HS.out]
      have d1 : ((n : Int) == (n : Int)) = true := by simp
      have d2 : decide ((0 : Int) < (S.length : Int)) = true := decide_eq_true (by omega)
      go_wp2_with fail
      refine (k1 _).mono ?_
      rintro e w2 ⟨rfl, hb⟩
      have hb2 := below_then hb1 hb
      clear k1 hb
      go_wp2_with fail
      refine (k2 _).mono ?_
      rintro e w3 ⟨rfl, hb⟩
      have hb3 := below_then hb2 hb
      clear k2 hb
      go_wp2_with fail
      refine (lives15 _).mono ?_
      rintro e w4 ⟨rfl, hb⟩
      have hb4 := below_then hb3 hb
      go_wp2
      go_ret
      exact ⟨rfl, hb4⟩
end Go.Proofs.Ytnebmkkaobedaaa
