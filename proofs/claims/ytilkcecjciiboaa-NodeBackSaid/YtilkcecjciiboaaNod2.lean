/-
  Chapter 7: Right, walked.
-/
import Derived.Test.YtilkcecjciiboaaNod1
namespace Go.Proofs.Ytilkcecjciiboaa
open Go.RowKit
set_option maxRecDepth 100000 in
set_option maxHeartbeats 4000000 in
theorem right_any {w : World} {n : NodeL} {A : Option Addr} {c : Nat} {A2 : Option Addr} {c2 : Nat} (h : NodR w w.heap.size n A c A2 c2) (hk : n.keys.length ≤ 1000000) (hv : n.vals.length ≤ 1000000) :
    Calls Try.prog 26 #[.agg #[.int .i64 n.t, .bool n.leaf, .slice A n.keys.length c, .slice A2 n.vals.length c2]] w fun e w' => e = .returned (.bool (rightN n)) ∧ Below w.heap.size w w' := by
  obtain ⟨w1, hw1⟩ : ∃ w1, w1 = w.alloc (.cells #[.int .i64 n.t, .bool n.leaf, .slice A n.keys.length c, .slice A2 n.vals.length c2] 31) := ⟨_, rfl⟩
  have hx : NodBox w1 w.heap.size w.heap.size n A c A2 c2 := by rw [hw1]; exact NodBox.new h
  have HB1 := Lib.hid (show Below w.heap.size w w1 by rw [hw1]; exact below_alloc1 w _)
  obtain ⟨q0, q1, q2, q3, hnr⟩ := hx
  have HNR := Lib.hid hnr
  have hcs := whole_cases n
  have HR := Lib.hid (rightN_iff n)
  have hwd := fun W => width_any n.t n.leaf W
  have hmx := fun m => (show Calls Try.prog 23 #[.int .i64 n.t, .bool n.leaf] (w1.drewN m) fun e w' => e = .returned (.int .i64 (maxV n.t n.leaf)) ∧ w' = w1.drewN m from (max_any n.t n.leaf _).mono fun e w' ⟨h1, h2⟩ => ⟨h1, h2.symm⟩)
  have HOK := Lib.hid (show ∀ k, okAt n k ↔ keyE n.keys k = 0 ∧ ((n.vals.getD k []).length : Int) = widthV n.t n.leaf from fun k => Iff.rfl)
  have HRN := Lib.hid (show rightN n = (wholeN n && okN n n.keys.length) from rfl)
  go_enter Try.func26, Try.ntmps26
  go_upto_region 1 with fail
  rw [← hw1]
  clear hw1 hnr h
  generalize widthV n.t n.leaf = W at *
  generalize maxV n.t n.leaf = M at *
  generalize wholeN n = wh at *
  generalize n.t = t at *
  generalize n.leaf = lf at *
  have HKN := Lib.hid (show n.keys.length = n.keys.length from rfl)
  obtain ⟨kn, hkn⟩ : ∃ kn, kn = n.keys.length := ⟨_, rfl⟩
  obtain ⟨vn, hvn⟩ : ∃ vn, vn = n.vals.length := ⟨_, rfl⟩
  have HKN := Lib.hid hkn
  have HVN := Lib.hid hvn
  rw [← hkn, ← hvn] at hcs
  rw [← hkn] at q2 hk HRN
  rw [← hvn] at q3 hv
  rw [← hkn, ← hvn]
  clear hkn hvn
  go_wp2_with fail
  refine (hwd _).mono ?_
  rintro e w2 ⟨rfl, rfl⟩
  clear hwd
  have HCS := Lib.hid hcs
  go_upto_region 2 with fail
  go_cut [43] (fun s43 wx => s43 = .bool (!wh) ∧ ∃ m, wx = w1.drewN m)
  case first =>
    clear HR HOK HRN HNR HCS
    rcases hcs with ⟨h1, h7⟩ | ⟨h1, h2, h7⟩ | ⟨h1, h2, h3, h7⟩ | ⟨h1, h2, h3, h4, h7⟩ | ⟨h1, h2, h3, h4, h5, h7⟩ | ⟨h1, h2, h3, h4, h5, h7⟩
    · subst h1 h7
      go_quiet ((go_at_call 23; exact Calls.quiet_of_same (hmx _)))
      go_wp2
      go_meet
      exact ⟨rfl, _, rfl⟩
    · subst h7
      have d1 : (W == 0) = false := by rw [beq_eq_false_iff_ne]; exact h1
      have i2 : (M : Int) < (kn : Int) := by omega
      clear h1
      go_quiet ((go_at_call 23; exact Calls.quiet_of_same (hmx _)))
      go_wp2
      go_meet
      exact ⟨rfl, _, rfl⟩
    · subst h7
      have d1 : (W == 0) = false := by rw [beq_eq_false_iff_ne]; exact h1
      have d2 : decide (M < kn) = false := decide_eq_false (by omega)
      have d3 : ((vn : Int) != (kn : Int)) = true := by rw [bne_iff_ne]; omega
      clear h1 h2 h3
      go_quiet ((go_at_call 23; exact Calls.quiet_of_same (hmx _)))
      go_wp2
      go_meet
      exact ⟨rfl, _, rfl⟩
    · subst h7 h4
      have d1 : (W == 0) = false := by rw [beq_eq_false_iff_ne]; exact h1
      have d2 : decide (M < kn) = false := decide_eq_false (by omega)
      subst h3
      clear h1 h2
      go_quiet ((go_at_call 23; exact Calls.quiet_of_same (hmx _)))
      go_wp2
      go_meet
      exact ⟨rfl, _, rfl⟩
    · subst h7 h4
      have d1 : (W == 0) = false := by rw [beq_eq_false_iff_ne]; exact h1
      have d2 : decide (M < kn) = false := decide_eq_false (by omega)
      subst h3
      subst h5
      clear h1 h2
      go_quiet ((go_at_call 23; exact Calls.quiet_of_same (hmx _)))
      go_wp2
      go_meet
      exact ⟨rfl, _, rfl⟩
    · subst h7 h4
      have d1 : (W == 0) = false := by rw [beq_eq_false_iff_ne]; exact h1
      have d2 : decide (M < kn) = false := decide_eq_false (by omega)
      subst h3
      have d5 : ((vn : Int) == 0) = false := by rw [beq_eq_false_iff_ne]; omega
      clear h1 h2 h5
      go_quiet ((go_at_call 23; exact Calls.quiet_of_same (hmx _)))
      go_wp2
      go_meet
      exact ⟨rfl, _, rfl⟩
  case rest =>
    obtain ⟨rfl, m, rfl⟩ := hcut
    clear hmx hcs
    cases wh with
    | false =>
      have hr : rightN n = false := by rw [HRN.out]; rfl
      have HRF := Lib.hid hr
      have HBF := Lib.hid (below_drewN HB1.out m)
      clear hr
      go_wp2
      go_ret
      exact ⟨by rw [HRF.out]; rfl, HBF.out⟩
    | true =>
      have hvk : vn = kn := by
        rcases HCS.out with ⟨_, h7⟩ | ⟨_, _, h7⟩ | ⟨_, _, _, h7⟩ | ⟨_, _, h3, _, h7⟩ | ⟨_, _, _, _, _, h7⟩ | ⟨_, _, h3, _, _, h7⟩
        · cases h7
        · cases h7
        · cases h7
        · exact h3
        · cases h7
        · exact h3
      subst hvk
      go_wp2_with fail
      go_loopw [4, 5, 47] (fun _ _ s47 wr => ∃ k m : Nat, k ≤ vn ∧ s47 = .int .i64 k ∧ Hid (wr = w1.drewN m) ∧ Hid (okN n k = true)) (fun _ _ s47 _ => vn - (intOf s47).toNat)
      case atStart => exact ⟨0, m, by omega, rfl, Lib.hid rfl, Lib.hid rfl⟩
      case round =>
        obtain ⟨k, m, hkv, rfl, HW, HO⟩ := hrel
        obtain rfl := HW.out
        clear HW
        have HBF := Lib.hid (below_drewN HB1.out m)
        by_cases hlt : k < vn
        · obtain ⟨ad, rfl, -, hc1⟩ := (HNR.out.ky.drewN m).at_ (k := k) (by rw [iv_len, ← HKN.out]; exact hlt)
          rw [iv_getD n.keys (by rw [← HKN.out]; exact hlt)] at hc1
          obtain ⟨ad2, rfl, -, hc2⟩ := (HNR.out.vl.drewN m).at_ (k := k) (by rw [sv_len, ← HVN.out]; exact hlt)
          rw [sv_getD n.vals (by rw [← HVN.out]; exact hlt)] at hc2
          have hkt : (n.keys.take k).length = k := by rw [List.length_take, ← HKN.out]; omega
          have kk := key_any (some ad) c (n.keys.take k) (n.keys.getD k 0) (w1.drewN m) _ (by omega) (by rw [← iv_take]; exact (HNR.out.ky.drewN m).take k)
          rw [hkt, keyL_at n.keys (by rw [← HKN.out]; exact hlt)] at kk
          have HOKk := Lib.hid (HOK.out k)
          have HBAD := Lib.hid (fun h => okN_bad (n := n) (i := k) (k := vn) hlt h)
          have HNX := Lib.hid (show okAt n k → okN n (k + 1) = true from fun h => by unfold okN; rw [HO.out, decide_eq_true h]; rfl)
          have hkc := HNR.out.kc
          rw [← HKN.out] at hkc
          have i1 : (k : Int) ≤ (c : Int) := by omega
          have i2 : k ≤ c := by omega
          generalize keyE n.keys k = E at *
          generalize n.keys.getD k 0 = x at *
          generalize n.vals.getD k [] = y at *
          have HK := Lib.hid kk
          clear kk hkt HO hkc HCS HR HOK
          obtain ⟨yl, hyl⟩ : ∃ yl, yl = y.length := ⟨_, rfl⟩
          have HYL := Lib.hid hyl
          by_cases hE : E = 0
          · subst hE
            by_cases hW : ((yl : Nat) : Int) = W
            · have hn := HNX.out (HOKk.out.2 ⟨rfl, by rw [← hyl]; exact hW⟩)
              have HN := Lib.hid hn
              subst hW
              clear hn HNX HBAD HOKk
              go_wp2_with fail
              refine HK.out.mono ?_
              rintro e w3 ⟨rfl, rfl⟩
              clear HK
              subst hyl
              go_wp2
              go_roundw
              case rel => exact ⟨k + 1, m, by omega, by go_num, Lib.hid rfl, HN⟩
              case measure => simp [intOf]; omega
            · have hb := HBAD.out (fun h => hW (by have := (HOKk.out.1 h).2; rw [← hyl] at this; exact this))
              have hr : rightN n = false := by rw [HRN.out, hb]; rfl
              have HRF := Lib.hid hr
              have d1 : ((y.length : Int) != W) = true := by rw [bne_iff_ne, ← hyl]; exact hW
              clear hb hr HNX HBAD HOKk hW hyl
              go_wp2_with fail
              refine HK.out.mono ?_
              rintro e w3 ⟨rfl, rfl⟩
              clear HK
              go_wp2
              go_ret
              exact ⟨by rw [HRF.out]; rfl, HBF.out⟩
          · have hb := HBAD.out (fun h => hE ((HOKk.out.1 h).1))
            have hr : rightN n = false := by rw [HRN.out, hb]; rfl
            have HRF := Lib.hid hr
            have d1 : (E != 0) = true := by rw [bne_iff_ne]; exact hE
            clear hb hr HNX HBAD HOKk hE hyl
            go_wp2_with fail
            refine HK.out.mono ?_
            rintro e w3 ⟨rfl, rfl⟩
            clear HK
            go_wp2
            go_ret
            exact ⟨by rw [HRF.out]; rfl, HBF.out⟩
        · obtain rfl : k = vn := by omega
          have hr : rightN n = true := by rw [HRN.out, HO.out]; rfl
          have HRF := Lib.hid hr
          clear hr
          go_wp2
          go_ret
          exact ⟨by rw [HRF.out]; rfl, HBF.out⟩
end Go.Proofs.Ytilkcecjciiboaa
