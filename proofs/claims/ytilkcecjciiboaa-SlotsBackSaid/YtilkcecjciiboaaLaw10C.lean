/-
  Chapter 10's SlotsBack, walked.
-/
import Derived.Test.YtilkcecjciiboaaLaw10
namespace Go.Proofs.Ytilkcecjciiboaa
open Go.RowKit

theorem slots_yes {l : List S3} (h : slotsE l = 0) : slotsOK l = true ∧ slotsV l = slotsB l := by
  unfold slotsE at h
  split at h
  · rename_i hk
    exact ⟨hk, by unfold slotsV; rw [if_pos hk]⟩
  · cases h
theorem slotsE_cases (l : List S3) : slotsE l = 0 ∨ slotsE l = 1 := by unfold slotsE; split <;> simp
theorem rslE_cases (s : List UInt8) : rslE s = 0 ∨ (rslE s = 2 ∨ rslE s = 7) ∧ rslL s = [] := by
  by_cases h : rslE s = 0
  · exact .inl h
  · refine .inr ⟨?_, by unfold rslL; rw [if_neg h]⟩
    unfold rslE at *
    split at h
    · split at h
      · exact absurd rfl h
      · rename_i a b; rw [if_pos a, if_neg b]; exact .inl rfl
    · rename_i a; rw [if_neg a]; exact .inr rfl
theorem rdN_wf' (ps : List Part) (s : List UInt8) : ∀ n ∈ rdN ps s, (Lit.int .i64 n).wf = true := by
  unfold rdN
  split
  · exact unpB_wf s _ 0
  · intro n hn
    rw [List.mem_replicate] at hn
    rw [hn.2]
    rfl
theorem tri_wf (s : List UInt8) (k : Nat) : ∀ p ∈ trisS s k, (Lit.int .i64 p.1).wf = true ∧ (Lit.int .i64 p.2.1).wf = true ∧ (Lit.int .i64 p.2.2).wf = true := by
  intro p hp
  unfold trisS at hp
  obtain ⟨i, _, rfl⟩ := List.mem_map.1 hp
  have h := rdN_wf' slotPs (sAt s i)
  rw [tri_eq] at h
  exact ⟨h _ (by simp), h _ (by simp), h _ (by simp)⟩
theorem rslL_wf (s : List UInt8) : ∀ p ∈ rslL s, (Lit.int .i64 p.1).wf = true ∧ (Lit.int .i64 p.2.1).wf = true ∧ (Lit.int .i64 p.2.2).wf = true := by
  unfold rslL
  split
  · exact tri_wf s _
  · intro p hp
    exact absurd hp (by simp)
set_option maxRecDepth 100000 in
set_option maxHeartbeats 4000000 in
theorem law_SlotsBack (A0 : Option Addr) (c0 : Nat) (l0 : List S3) (A1 : Option Addr) (c1 : Nat) (l1 : List UInt8) (w : World) (_q0 : l0.length ≤ c0) (m0 : l0.length * 24 ≤ reachBytes) (f0 : ∀ p ∈ l0, (Lit.int .i64 p.1).wf = true ∧ (Lit.int .i64 p.2.1).wf = true ∧ (Lit.int .i64 p.2.2).wf = true) (r0 : Reads3 w w.heap.size A0 l0)
    (q1 : l1.length ≤ c1) (m1 : l1.length ≤ reachBytes) (r1 : Reads w w.heap.size A1 (bv l1)) :
    Calls Try.prog 14 #[.slice A0 l0.length c0, .slice A1 l1.length c1] w fun e w' => e = .returned (.bool true) ∧ Below w.heap.size w w' := by
  have mm0 := m0
  have mm := m1
  simp only [reachBytes] at mm mm0
  by_cases hl : 100 < l0.length
  · go_enter Try.func14, Try.ntmps14
    go_wp2_with fail
    refine (lives10 _).mono ?_
    rintro e w1 ⟨rfl, hb1⟩
    go_wp2
    go_ret
    exact ⟨rfl, hb1⟩
  · have r6 := r1.take 600
    rw [bv_take] at r6
    have hl6 : (l1.take 600).length = min 600 l1.length := List.length_take ..
    have k1 := sput_any A0 c0 l0 w f0 m0 r0
    go_enter Try.func14, Try.ntmps14
    go_upto_if 20 with fail
    go_cut [1] (fun s1 wx => w = wx ∧ ∃ s : List UInt8, s1 = .slice A1 s.length c1 ∧ s.length ≤ 600 ∧ s.length ≤ c1 ∧ Reads w w.heap.size A1 (bv s))
    case first =>
      by_cases h2 : 600 < l1.length
      · have d2 : decide (600 < (l1.length : Int)) = true := decide_eq_true (by omega)
        have q1' : (600 : Int) ≤ (c1 : Int) := by omega
        clear k1
        go_wp2
        go_meet
        exact ⟨rfl, l1.take 600, by rw [hl6, Nat.min_eq_left (by omega)], by omega, by omega, r6⟩
      · have d2 : decide (600 < (l1.length : Int)) = false := decide_eq_false (by omega)
        clear k1
        go_wp2
        go_meet
        exact ⟨rfl, l1, rfl, by omega, q1, r1⟩
    case rest =>
      obtain ⟨rfl, s, rfl, hs, hc, hr⟩ := hcut
      clear r1 r6 hl6 m1 mm q1
      have hm : s.length ≤ reachBytes := by simp only [reachBytes]; omega
      have HEC := Lib.hid (slotsE_cases l0)
      have HY := Lib.hid (show slotsE l0 = 0 → slotsOK l0 = true ∧ slotsV l0 = slotsB l0 from slots_yes)
      have HR := Lib.hid (show slotsOK l0 = true → rslE (slotsB l0) = 0 ∧ rslL (slotsB l0) = l0 from slots_read f0)
      have HL := Lib.hid (show slotsOK l0 = true → (slotsB l0).length = 244 from fun h => slotsB_len l0 (by simp only [slotsOK, Bool.and_eq_true, decide_eq_true_eq] at h; exact h.1))
      generalize slotsV l0 = X at *
      generalize slotsE l0 = E at *
      go_upto_if 29 with (go_at_call 47; refine k1.mono ?_; rintro e w1 ⟨Ab, cb, rfl, hown1, hb1⟩; rw [bv_len] at hown1; rw [bv_len])
      clear k1
      go_cut [5, 6, 7, 8, 9, 23, 25, 26, 27, 28, 29] (fun _ _ _ _ _ _ _ _ _ _ _ wx => Below w.heap.size w wx)
      case first =>
        rcases HEC.out with rfl | rfl
        · obtain ⟨hok, rfl⟩ := HY.out rfl
          obtain ⟨hR1, hR2⟩ := HR.out hok
          have hL := HL.out hok
          rw [hL] at hown1 ⊢
          have hcap := own_cap hown1 (by omega)
          have k3 := vslots_any Ab cb (slotsB l0) w1 (by omega) (by rw [hL]; decide) (Reads.of_own hown1)
          rw [hL, hR1, hR2] at k3
          clear hR1 hR2 hL HY HR HL HEC hok hown1 hcap
          go_wp2_with fail
          refine k3.mono ?_
          rintro e w2 ⟨A3, c3, rfl, hown3, hb3⟩
          have hB2 := below_then hb1 hb3
          have h3 := Reads3.of_own rfl hown3
          have h0 := (r0.below hB2).more hB2.size
          clear k3 hb1 hb3 hown3 hr r0
          have HB2 := Lib.hid hB2
          clear hB2
          have dL : ((l0.length : Int) != (l0.length : Int)) = false := by simp
          go_wp2_with fail
          go_loopw [9] (fun i wr => ∃ k m : Nat, k ≤ l0.length ∧ i = .int .i64 k ∧ wr = w2.drewN m) (fun i _ => l0.length - (intOf i).toNat)
          case atStart => exact ⟨0, 0, by omega, rfl, rfl⟩
          case round =>
            obtain ⟨k, m, hk, rfl, hwr⟩ := hrel
            have HWR := Lib.hid hwr
            by_cases hlt : k < l0.length
            · obtain ⟨b, o, rfl, _, hc⟩ := (show Reads3 (w2.drewN m) _ A3 l0 from h3) (by omega)
              obtain ⟨b2, o2, rfl, _, hc2⟩ := (show Reads3 (w2.drewN m) _ A0 l0 from h0) (by omega)
              have hp := List.getElem?_eq_getElem hlt
              obtain ⟨e0, e1, e2⟩ := hc k _ hp
              obtain ⟨g0, g1, g2⟩ := hc2 k _ hp
              rw [← hwr] at e0 e1 e2 g0 g1 g2
              clear hwr hc hc2 hp
              generalize l0[k].1 = x0 at *
              generalize l0[k].2.1 = x1 at *
              generalize l0[k].2.2 = x2 at *
              have hbk : (0 : Int) ≤ (k : Int) := by omega
              have hlt' : (k : Int) < (l0.length : Int) := by omega
              go_wp2_with fail
              go_quiet (fail)
              go_wp2
              go_roundw
              case rel => exact ⟨k + 1, _, by omega, by go_num, by rw [HWR.out, World.drewN_drewN]⟩
              case measure => simp [intOf]; omega
            · obtain rfl : k = l0.length := by omega
              clear hwr
              go_wp2
              go_meet
              rw [HWR.out]
              exact below_drewN HB2.out m
        · go_wp2
          go_meet
          exact hb1
      case rest =>
        have hx := hcut
        have hrx := hr.ext hx
        have k5 := vslots_any A1 c1 s _ hc hm hrx
        clear HY HR HL HEC hown1 hb1 hcut
        by_cases he : rslE s = 0
        · obtain ⟨hp1, hp2⟩ := slots_put he
          have hp3 : slotsV (rslL s) = s ∧ slotsE (rslL s) = 0 := by unfold slotsV slotsE; rw [hp1, hp2]; exact ⟨rfl, rfl⟩
          have hput := fun (A : Option Addr) (c : Nat) (W : World) (h : Reads3 W W.heap.size A (rslL s)) => sput_any A c (rslL s) W (rslL_wf s) (rslL_len s hs) h
          rw [hp3.1, hp3.2] at hput
          rw [he] at k5
          clear hp1 hp2 hp3 he
          generalize rslL s = L at *
          go_wp2_with fail
          refine k5.mono ?_
          rintro e w5 ⟨A5, c5, rfl, hown5, hb5⟩
          have hB5 := below_then hx hb5
          have k6 := hput A5 c5 w5 (Reads3.of_own rfl hown5)
          have hr5 := hr.ext hB5
          clear k5 hb5 hown5 hput
          go_wp2_with fail
          refine k6.mono ?_
          rintro e w6 ⟨A6, c6, rfl, hown6, hb6⟩
          rw [bv_len] at hown6
          rw [bv_len]
          have hB6 := below_then hB5 hb6
          have cv1 := run_conv_bytes (P := Try.prog) w6 22 9 5 Try.underlying22 Try.underlying5 Try.underlying9 s.length c6 rfl (Reads.of_own hown6)
          have cv2 := run_conv_bytes (P := Try.prog) w6 22 9 5 Try.underlying22 Try.underlying5 Try.underlying9 s.length c1 rfl (hr5.ext hb6)
          clear k6 hown6 hb6 hB5 hr5 hrx hr hx
          go_wp2_with fail
          refine (lives10 _).mono ?_
          rintro e w7 ⟨rfl, hb7⟩
          have hB7 := below_then hB6 hb7
          go_wp2
          go_ret
          exact ⟨rfl, hB7⟩
        · have hL : rslL s = [] := by unfold rslL; rw [if_neg he]
          have dE : (rslE s != 0) = true := by simpa using he
          rw [hL] at k5
          clear he hL
          generalize rslE s = E2 at *
          go_wp2_with fail
          refine k5.mono ?_
          rintro e w5 ⟨A5, c5, rfl, hown5, hb5⟩
          have hB5 := below_then hx hb5
          clear k5 hb5 hown5
          go_wp2_with fail
          refine (lives10 _).mono ?_
          rintro e w6 ⟨rfl, hb6⟩
          have hB6 := below_then hB5 hb6
          go_wp2
          go_ret
          exact ⟨rfl, hB6⟩
end Go.Proofs.Ytilkcecjciiboaa
