/-
  Chapter 44's SqueezeBack, walked.
-/
import Derived.Test.YtilkcecjciiboaaLaw44
namespace Go.Proofs.Ytilkcecjciiboaa
open Go.RowKit
/-- the first runs' lengths, added -/
def sumR (s : List UInt8) (i : Nat) : Nat := (((restL s 0).map (·.2)).take i).sum
theorem sumR_all (s : List UInt8) : sumR s (restL s 0).length = s.length := by
  have := restL_sum s s.length 0 (by omega) (by omega)
  unfold sumR
  rw [List.take_of_length_le (by simp)]
  omega
theorem sumR_le (s : List UInt8) (i : Nat) : sumR s i ≤ s.length := by
  have h := restL_sum s s.length 0 (by omega) (by omega)
  have h2 : (((restL s 0).map (·.2)).take i).sum + (((restL s 0).map (·.2)).drop i).sum = ((restL s 0).map (·.2)).sum := by rw [← List.sum_append, List.take_append_drop]
  unfold sumR
  omega
theorem sumR_next (s : List UInt8) {i x : Nat} (h : ((restL s 0).map (·.2))[i]? = some x) : sumR s (i + 1) = sumR s i + x := by
  unfold sumR
  rw [List.take_add_one, h]
  simp
set_option maxRecDepth 100000 in
set_option maxHeartbeats 4000000 in
theorem law_SqueezeBack (A0 : Option Addr) (c0 : Nat) (l0 : List UInt8) (a1 : Int) (w : World) (q0 : l0.length ≤ c0) (_m0 : l0.length ≤ reachBytes) (r0 : Reads w w.heap.size A0 (bv l0)) (_w1 : (Lit.int .i64 a1).wf = true) :
    Calls Try.prog 8 #[.slice A0 l0.length c0, .int .i64 a1] w fun e w' => e = .returned (.bool true) ∧ Below w.heap.size w w' := by
  have r6 := r0.take 5000
  rw [bv_take] at r6
  have hl6 : (l0.take 5000).length = min 5000 l0.length := List.length_take ..
  have hm : bits .and .i64 a1 255 = a1 % 256 := i64_mask a1 8 (by omega) 255 rfl
  have hx0 : 0 ≤ bits .and .i64 a1 255 ∧ bits .and .i64 a1 255 ≤ 255 := by rw [hm]; omega
  clear hm
  go_enter Try.func8, Try.ntmps8
  go_upto_if 15 with fail
  go_cut [0] (fun s0 wx => w = wx ∧ ∃ (n : Nat) (s : List UInt8), s0 = .slice A0 n c0 ∧ Hid (n = s.length) ∧ n ≤ 5000 ∧ n ≤ c0 ∧ Reads w w.heap.size A0 (bv s))
  case first =>
    by_cases h1 : 5000 < l0.length
    · have d1 : decide (5000 < (l0.length : Int)) = true := decide_eq_true (by omega)
      have q1 : (5000 : Int) ≤ (c0 : Int) := by omega
      go_wp2
      go_meet
      exact ⟨rfl, 5000, l0.take 5000, rfl, Lib.hid (by rw [hl6, Nat.min_eq_left (by omega)]), by omega, by omega, r6⟩
    · have d1 : decide (5000 < (l0.length : Int)) = false := decide_eq_false (by omega)
      go_wp2
      go_meet
      exact ⟨rfl, l0.length, l0, rfl, Lib.hid rfl, by omega, by omega, r0⟩
  case rest =>
    obtain ⟨rfl, n, s, rfl, HN, hn5, hnc, hr⟩ := hcut
    obtain ⟨k, hk⟩ : ∃ k, bits .and .i64 a1 255 = k := ⟨_, rfl⟩
    rw [hk] at hx0
    have HK := Lib.hid hk
    clear hk
    obtain ⟨sm1, sm2⟩ := squeeze_made s
    have hm0 := sm1 (n : Int)
    have hm1 := sm1 ((n : Int) - 1 - k)
    rw [if_pos (.inr (by rw [HN.out]; exact Int.le_refl _))] at hm0
    have hrr := runsl_any A0 c0 s
    have hsq := squeeze_any A0 c0 s (by rw [← HN.out]; omega) w hr
    rw [← HN.out] at sm2 hsq hrr
    obtain ⟨xn, hxn⟩ : ∃ xn, xn = (squeezeL s).length := ⟨_, rfl⟩
    rw [← hxn] at sm2
    generalize squeezeL s = X at *
    have HXN := Lib.hid hxn
    have HM0 := Lib.hid hm0
    have hm1' : (n = 0 → looseR ((n : Int) - 1 - k) X [] = (s, 0)) ∧ (0 < n → looseR ((n : Int) - 1 - k) X [] = ([], 2)) := by
      constructor
      · intro h0
        have hs0 : s = [] := List.eq_nil_of_length_eq_zero (by rw [← HN.out]; exact h0)
        rw [if_pos (.inl hs0)] at hm1
        exact hm1
      · intro h0
        rw [if_neg] at hm1
        · exact hm1
        · rintro (h2 | h2)
          · have := HN.out; rw [h2] at this; simp at this; omega
          · have := HN.out; omega
    have HM1 := Lib.hid hm1'
    have HRR := Lib.hid (fun (W : World) (hb : Below w.heap.size w W) => hrr (by omega) W (hr.ext hb))
    have HR := Lib.hid hr
    clear r6 hl6 r0 sm1 hm0 hm1 hm1' hxn hrr hr
    go_wp2_with fail
    refine hsq.mono ?_
    rintro e w1 ⟨A1, c1, rfl, hown1, hb1⟩
    rw [bv_len, ← HXN.out] at hown1
    rw [bv_len, ← HXN.out]
    have hcap := (Tail.of_own hown1).cap
    have HR1 := Lib.hid (Reads.of_own hown1)
    have HLA := Lib.hid (fun (W : World) (m : Int) (h1 : -9223372036854775808 ≤ m) (h2 : m ≤ 9223372036854775807) (hb : Below w1.heap.size w1 W) => by
      have := loose_any A1 c1 X m h1 h2 (by rw [← HXN.out]; omega) (by rw [← HXN.out]; exact hcap) W (HR1.out.ext hb)
      rw [← HXN.out] at this
      exact this)
    have HB1 := Lib.hid hb1
    clear hsq hown1 hb1
    go_wp2_with fail
    refine (HLA.out w1 (n : Int) (by omega) (by omega) (Below.refl _ _)).mono ?_
    rw [HM0.out]
    rintro e w2 ⟨A2, c2, rfl, hown2, hb2⟩
    rw [bv_len, ← HN.out] at hown2
    rw [bv_len, ← HN.out]
    have HR2 := Lib.hid (Reads.of_own hown2)
    have HB2 := Lib.hid hb2
    clear hown2 hb2
    have e1 : -9223372036854775808 ≤ (n : Int) - 1 - k := by omega
    have e2 : (n : Int) - 1 - k ≤ 9223372036854775807 := by omega
    have HL2 := Lib.hid (HLA.out w2 ((n : Int) - 1 - k) e1 e2 HB2.out)
    go_wp2_with fail
    rw [HK.out, show wrap64 ((n : Int) - 1 - k) = (n : Int) - 1 - k from by unfold wrap64; omega]
    refine HL2.out.mono ?_
    obtain ⟨y, E, hY⟩ : ∃ (y : List UInt8) (E : Int), looseR ((n : Int) - 1 - k) X [] = (y, E) := ⟨_, _, rfl⟩
    rw [hY]
    have hyE : y = [] ∧ (0 < n → E = 2) := by
      rcases Nat.eq_zero_or_pos n with h0 | h0
      · have := HM1.out.1 h0
        rw [hY] at this
        injection this with h1 h2
        exact ⟨by rw [h1]; exact List.eq_nil_of_length_eq_zero (by rw [← HN.out]; exact h0), fun h => by omega⟩
      · have := HM1.out.2 h0
        rw [hY] at this
        injection this with h1 h2
        exact ⟨h1, fun _ => h2⟩
    obtain ⟨rfl, hE⟩ := hyE
    clear hY
    rintro e w3 ⟨A3, c3, rfl, hown3, hb3⟩
    have HB3 := Lib.hid (HB2.out.trans (hb3.mono HB2.out.size))
    have HR23 := Lib.hid (HR2.out.ext hb3)
    rw [show (bv []).length = 0 from rfl]
    clear hown3 hb3
    have HBW := Lib.hid (HB1.out.trans (HB3.out.mono HB1.out.size))
    go_upto_region 6 with fail
    go_cut [49] (fun s49 wx => w3 = wx ∧ s49 = .bool false)
    case first =>
      rcases Nat.eq_zero_or_pos n with h0 | h0
      · have g0 : decide (0 < (n : Int)) = false := decide_eq_false (by omega)
        go_wp2
        go_meet
        exact ⟨rfl, rfl⟩
      · have g0 : decide (0 < (n : Int)) = true := decide_eq_true (by omega)
        obtain rfl := hE h0
        go_wp2
        go_meet
        exact ⟨rfl, rfl⟩
    case rest =>
      obtain ⟨rfl, rfl⟩ := hcut
      go_wp2_with fail
      refine (HRR.out w3 HBW.out).mono ?_
      rintro e w4 ⟨A4, c4, rfl, hown4, hb4⟩
      rw [iv_len, kvS_len] at hown4
      rw [iv_len, kvS_len]
      have HR4 := Lib.hid (Reads.of_own hown4)
      have HB4 := Lib.hid hb4
      have HBW4 := Lib.hid (below_then HBW.out hb4)
      have HR24 := Lib.hid (HR23.out.ext hb4)
      obtain ⟨R, hR⟩ : ∃ R, R = (restL s 0).length := ⟨_, rfl⟩
      rw [← hR]
      have HRL := Lib.hid hR
      have hRb : R ≤ 5000 := by have := restL_len s s.length 0 (by omega); have := HN.out; omega
      clear hown4 hb4 hR
      go_wp2_with fail
      go_loopw [10, 12] (fun s10 s12 wx => w4 = wx ∧ ∃ (i q : Nat), s12 = .int .i64 (i : Int) ∧ s10 = .int .i64 (q : Int) ∧ i ≤ R ∧ q ≤ 5000 ∧ Hid (q = sumR s i)) (fun _ s12 _ => R - (intOf s12).toNat)
      case atStart => exact ⟨rfl, 0, 0, rfl, rfl, by omega, by omega, Lib.hid rfl⟩
      case round =>
        obtain ⟨rfl, i, q, rfl, rfl, hiR, hq5, HQ⟩ := hrel
        by_cases hlt : i < R
        · obtain ⟨ad, rfl, -, hcell⟩ := HR4.out.num (k := i) (by rw [kvS_len]; have := HRL.out; omega)
          obtain ⟨x, hx⟩ : ∃ x, ((restL s 0).map (·.2))[i]? = some x := ⟨_, List.getElem?_eq_getElem (by rw [List.length_map]; have := HRL.out; omega)⟩
          have hval : (kvS (restL s 0))[i]? = some (x : Int) := by
            unfold kvS
            rw [List.getElem?_map] at hx ⊢
            cases hz : (restL s 0)[i]? with
            | none => rw [hz] at hx; cases hx
            | some z =>
              rw [hz] at hx
              injection hx with hx
              rw [← hx]
              rfl
          rw [(List.getElem_eq_iff _).2 hval] at hcell
          have HSN := Lib.hid (sumR_next s hx)
          have hsl := sumR_le s (i + 1)
          rw [HSN.out, ← HQ.out, ← HN.out] at hsl
          have i1 : (0 : Int) ≤ (i : Int) := by omega
          have i2 : (i : Int) < (R : Int) := by omega
          clear hval hx
          go_wp2
          go_roundw
          case rel => exact ⟨trivial, i + 1, q + x, by go_num, by go_num, by omega, by omega, Lib.hid (by rw [HSN.out, ← HQ.out])⟩
          case measure => simp [intOf]; omega
        · have i2 : (R : Int) ≤ (i : Int) := by omega
          have hqn : q = n := by
            rw [HQ.out, show i = (restL s 0).length by have := HRL.out; omega, sumR_all]
            exact HN.out.symm
          subst hqn
          have cv1 := run_conv_bytes (P := Try.prog) w4 22 9 5 Try.underlying22 Try.underlying5 Try.underlying9 q c2 HN.out HR24.out
          have cv2 := run_conv_bytes (P := Try.prog) w4 22 9 5 Try.underlying22 Try.underlying5 Try.underlying9 q c0 HN.out (HR.out.ext HBW4.out)
          have hdiv : Int.tdiv (q : Int) 128 = ((q / 128 : Nat) : Int) := by rw [Int.tdiv_eq_ediv_of_nonneg (by omega)]; omega
          have hle : decide ((xn : Int) ≤ (q : Int) + ((q / 128 : Nat) : Int) + 1) = true := decide_eq_true (by omega)
          have hxq : (xn : Int) ≤ (q : Int) + ((q / 128 : Nat) : Int) + 1 := by omega
          have hq128 : q / 128 ≤ 40 := by omega
          have HSM := Lib.hid sm2
          clear sm2
          generalize q / 128 = z at *
          go_wp2_with fail
          refine (lives44 _).mono ?_
          rintro e w5 ⟨rfl, hb5⟩
          have HB5 := Lib.hid (below_then HBW4.out hb5)
          clear hb5
          go_wp2
          go_ret
          exact ⟨rfl, HB5.out⟩
end Go.Proofs.Ytilkcecjciiboaa
