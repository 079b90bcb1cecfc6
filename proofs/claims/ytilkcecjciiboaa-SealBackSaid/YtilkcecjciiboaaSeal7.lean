/-
  Chapter 4: Which, the program's and the reference's, walked.
-/
import Derived.Test.YtilkcecjciiboaaSeal6
namespace Go.Proofs.Ytilkcecjciiboaa
open Go.RowKit

def wkV (l : List UInt8) : Int := if whichB l = true then (getN l 4 2 : Nat) else 0
def wnV (l : List UInt8) : Int := if whichB l = true then (getN l 0 4 : Nat) else 0
theorem which_no {l : List UInt8} (h : whichB l = false) : wkV l = 0 ∧ wnV l = 0 := by
  unfold wkV wnV
  rw [h]
  exact ⟨rfl, rfl⟩
theorem which_yes {l : List UInt8} (h : whichB l = true) : wkV l = (getN l 4 2 : Nat) ∧ wnV l = (getN l 0 4 : Nat) := by
  unfold wkV wnV
  rw [h]
  exact ⟨rfl, rfl⟩
set_option maxHeartbeats 1000000 in
theorem which_any (A : Option Addr) (c : Nat) (l : List UInt8) (w : World) (hq : l.length ≤ c) (h : Reads w w.heap.size A (bv l)) :
    Calls Try.prog 44 #[.slice A l.length c] w fun e w' => e = .returned (.tuple #[.int .i64 (wkV l), .int .i64 (wnV l), .bool (whichB l)]) ∧ Below w.heap.size w w' := by
  by_cases hl : l.length = 256
  · have k1 := told_256 A c l 4 2 w _ hl (by omega) (by omega) (by omega) h
    have k2 := told_256 A c l 0 4 w _ hl (by omega) (by omega) (by omega) h
    have k3 := open_any A c l (getN l 4 2 : Nat) (getN l 0 4 : Nat) w hq h
    have HW := Lib.hid (show whichB l = decide (openE l (getN l 4 2 : Nat) (getN l 0 4 : Nat) = 0) by unfold whichB; rw [decide_eq_true hl, Bool.true_and])
    have HN := Lib.hid (fun h => which_no (l := l) h)
    have HY := Lib.hid (fun h => which_yes (l := l) h)
    rw [hl] at k3 ⊢
    generalize getN l 4 2 = K at *
    generalize getN l 0 4 = N at *
    generalize openE l (K : Nat) (N : Nat) = E at *
    generalize openV l (K : Nat) (N : Nat) = X at *
    clear hl
    go_enter Try.func44, Try.ntmps44
    go_wp2_with (go_at_call 73; first | (refine k1.mono ?_; rintro e w1 ⟨rfl, rfl⟩; clear k1) | (refine k2.mono ?_; rintro e w1 ⟨rfl, rfl⟩; clear k2))
    refine k3.mono ?_
    rintro e w1 ⟨A1, c1, rfl, hown1, hb1⟩
    clear k3 hown1 h
    by_cases hE : E = 0
    · have hw : whichB l = true := by rw [HW.out, decide_eq_true hE]
      have HWT := Lib.hid hw
      have hy := HY.out hw
      have HYY := Lib.hid hy
      subst hE
      clear hw hy
      go_wp2
      go_ret3
      exact ⟨by rw [HWT.out, HYY.out.1, HYY.out.2]; rfl, hb1⟩
    · have hw : whichB l = false := by rw [HW.out, decide_eq_false hE]
      have HWT := Lib.hid hw
      have hy := HN.out hw
      have HYY := Lib.hid hy
      have dE : (E != 0) = true := by simpa using hE
      clear hw hy hE
      go_wp2
      go_ret3
      exact ⟨by rw [HWT.out, HYY.out.1, HYY.out.2]; rfl, hb1⟩
  · have hw : whichB l = false := by unfold whichB; rw [decide_eq_false hl]; rfl
    rw [(which_no hw).1, (which_no hw).2, hw]
    have dl : ((l.length : Int) != 256) = true := by simp; omega
    clear hw hl
    go_enter Try.func44, Try.ntmps44
    go_wp2
    go_ret3
    exact ⟨rfl, Below.refl _ _⟩
set_option maxHeartbeats 1000000 in
theorem rwhich_any (A : Option Addr) (c : Nat) (l : List UInt8) (w : World) (hq : l.length ≤ c) (h : Reads w w.heap.size A (bv l)) :
    Calls Try.prog 45 #[.slice A l.length c] w fun e w' => e = .returned (.tuple #[.int .i64 (wkV l), .int .i64 (wnV l), .bool (whichB l)]) ∧ Below w.heap.size w w' := by
  by_cases hl : l.length = 256
  · have k1 : Calls Try.prog 78 #[.slice A 256 c, .int .i64 0, .int .i64 4] w fun e w' => e = .returned (.tuple #[.int .i64 (getN l 0 4 : Nat), .int .i64 0]) ∧ w = w' := by
      have := rget_any A c l 0 4 w _ (by rw [hl]; decide) h
      rw [getV_256 l 0 4 hl (by decide) (by decide) (by decide), hl] at this
      exact this
    have k3 := fun (j : Nat) (W : World) (hb : Below w.heap.size w W) => ropen_any A c l j (getN l 0 4 : Nat) W hq (h.ext hb)
    have HW := Lib.hid (show whichB l = decide (openE l (getN l 4 2 : Nat) (getN l 0 4 : Nat) = 0) by unfold whichB; rw [decide_eq_true hl, Bool.true_and])
    have HN := Lib.hid (fun h => which_no (l := l) h)
    have HY := Lib.hid (fun h => which_yes (l := l) h)
    have HO := Lib.hid (fun (j : Nat) (h : openE l j (getN l 0 4 : Nat) = 0) => which_one h)
    have HK4 := Lib.hid (fun (h : openE l (getN l 4 2 : Nat) (getN l 0 4 : Nat) = 0) => (knownK_iff.1 (openE_zero h).1))
    rw [hl] at k3 ⊢
    generalize getN l 4 2 = K at *
    generalize getN l 0 4 = N at *
    go_enter Try.func45, Try.ntmps45
    go_wp2_with (go_at_call 78; refine k1.mono ?_; rintro e w1 ⟨rfl, rfl⟩; clear k1)
    have hst : whichB l = true → 1 ≤ K := fun hw => by
      rw [HW.out] at hw
      have := HK4.out (of_decide_eq_true hw)
      omega
    have HST := Lib.hid hst
    clear hst hl
    go_loopw [7] (fun i wr => ∃ j : Nat, 1 ≤ j ∧ j ≤ 5 ∧ i = .int .i64 j ∧ (whichB l = true → j ≤ K) ∧ Below w.heap.size w wr) (fun i _ => 5 - (intOf i).toNat)
    case atStart => exact ⟨1, by omega, by omega, rfl, HST.out, Below.refl _ _⟩
    case round =>
      obtain ⟨j, hj1, hj5, rfl, hw, hbr⟩ := hrel
      have HWJ := Lib.hid hw
      clear hw
      by_cases hlt : j ≤ 4
      · have k := k3 j wr hbr
        have hlt' : (j : Int) ≤ 4 := by omega
        have HOJ := Lib.hid (HO.out j)
        have HWK := Lib.hid (fun (h : j = K) => (show whichB l = decide (openE l j N = 0) by rw [HW.out, h]))
        generalize openE l j N = E at *
        generalize openV l j N = X at *
        clear k3
        go_wp2_with fail
        refine k.mono ?_
        rintro e w2 ⟨A2, c2, rfl, hown2, hb2⟩
        have hB2 := below_then hbr hb2
        clear k hown2 hb2
        by_cases hE : E = 0
        · have hjk : (j : Int) = (K : Nat) := HOJ.out hE
          have hw : whichB l = true := by rw [HWK.out (by omega), decide_eq_true hE]
          have HWT := Lib.hid hw
          have hy := HY.out hw
          have HYY := Lib.hid hy
          have HJK := Lib.hid hjk
          subst hE
          clear hw hy hjk
          go_wp2
          go_ret3
          exact ⟨by rw [HWT.out, HYY.out.1, HYY.out.2, ← HJK.out]; rfl, hB2⟩
        · have dE : (E == 0) = false := by simpa using hE
          have HWN : Hid (whichB l = true → j + 1 ≤ K) := fun hw => by
            have h1 := HWJ.out hw
            rcases Nat.lt_or_ge j K with h2 | h2
            · omega
            · have h3 : j = K := by omega
              rw [HWK.out h3, decide_eq_false hE] at hw
              cases hw
          clear hE
          go_wp2
          go_roundw
          case rel => exact ⟨j + 1, by omega, by omega, by go_num, HWN.out, hB2⟩
          case measure => simp [intOf]; omega
      · have hw : whichB l = false := by
          cases hh : whichB l with
          | false => rfl
          | true =>
            have h1 := HWJ.out hh
            rw [HW.out] at hh
            have := HK4.out (of_decide_eq_true hh)
            omega
        have HWT := Lib.hid hw
        have hy := HN.out hw
        have HYY := Lib.hid hy
        have hge : ¬ ((j : Int) ≤ 4) := by omega
        clear hw hy
        go_wp2
        go_ret3
        exact ⟨by rw [HWT.out, HYY.out.1, HYY.out.2]; rfl, hbr⟩
  · have hw : whichB l = false := by unfold whichB; rw [decide_eq_false hl]; rfl
    rw [(which_no hw).1, (which_no hw).2, hw]
    have dl : ((l.length : Int) != 256) = true := by simp; omega
    clear hw hl
    go_enter Try.func45, Try.ntmps45
    go_wp2
    go_ret3
    exact ⟨rfl, Below.refl _ _⟩
end Go.Proofs.Ytilkcecjciiboaa
