/-
  Chapter 9's BitsBack, walked.
-/
import Derived.Test.YtahomneljdjjjaaLaw09B
import Derived.BigQuiet
import Derived.Deep.QuietTactic
namespace Go.Proofs.Ytahomneljdjjjaa
open Go.RowKit

theorem own_empty (w : World) (e : TypeId) : (w.alloc (.cells #[] e)).ownsRow w.heap.size e 1 (.slice (some ⟨w.heap.size, 0, none⟩) 0 0) 0 [] :=
  ⟨rfl, .inr ⟨w.heap.size, 0, #[], rfl, Nat.le_refl _, heap_alloc_new _ _, Nat.le_refl _, by simp [maxLen], rfl, rfl⟩⟩
theorem iv_set (l : List Int) (k : Nat) (x : Int) : (iv l).set k (.int .i64 x) = iv (l.set k x) := by simp [iv, List.map_set]
theorem pos_at (a : Int) (n : Nat) (h : 0 < n) (hn : n ≤ 2000) : ∃ k : Nat, k < n ∧ (wrap64 (a.tmod n + n)).tmod n = (k : Int) := by
  have h1 : a.tmod n < n := Int.tmod_lt_of_pos a (by omega)
  have h2 : -(n : Int) < a.tmod n := Int.lt_tmod_of_pos a (by omega)
  generalize a.tmod n = t at *
  rw [show wrap64 (t + n) = t + n from by unfold wrap64; omega, Int.tmod_eq_emod_of_nonneg (by omega)]
  have h3 : 0 ≤ (t + n) % (n : Int) := Int.emod_nonneg _ (by omega)
  have h4 : (t + n) % (n : Int) < n := Int.emod_lt_of_pos _ (by omega)
  generalize (t + n) % (n : Int) = u at *
  exact ⟨u.toNat, by omega, by omega⟩
theorem cnts_set {l : List Int} (h : cntsB l = true) (k : Nat) (x : Int) (h0 : 0 ≤ x) (h3 : x ≤ 3) : cntsB (l.set k x) = true := by
  have h9 := cnts_len h
  have he := cnts_each h
  unfold cntsB
  simp only [Bool.and_eq_true, decide_eq_true_eq, List.length_set, List.all_eq_true]
  refine ⟨h9, fun n hn => ?_⟩
  rcases List.mem_or_eq_of_mem_set hn with hm | rfl
  · exact he n hm
  · exact ⟨h0, h3⟩
set_option maxRecDepth 100000 in
set_option maxHeartbeats 2000000 in
theorem law_BitsBack (A0 : Option Addr) (c0 : Nat) (l0 : List Int) (A1 : Option Addr) (c1 : Nat) (l1 : List UInt8) (a2 a3 : Int) (w : World) (_q0 : l0.length ≤ c0) (m0 : l0.length * 8 ≤ reachBytes) (_f0 : ∀ x ∈ l0, (Lit.int .i64 x).wf = true) (r0 : Reads w w.heap.size A0 (iv l0)) (_q1 : l1.length ≤ c1) (m1 : l1.length ≤ reachBytes) (r1 : Reads w w.heap.size A1 (bv l1)) (_w2 : (Lit.int .i64 a2).wf = true) (_w3 : (Lit.int .i64 a3).wf = true) :
    Calls Try.prog 11 #[.slice A0 l0.length c0, .slice A1 l1.length c1, .int .i64 a2, .int .i64 a3] w fun e w' => e = .returned (.bool true) ∧ Below w.heap.size w w' := by
  have mm := m0
  have mm1 := m1
  simp only [reachBytes] at mm mm1
  by_cases h1 : 2000 < l0.length
  · have d1 : decide (2000 < (l0.length : Int)) = true := decide_eq_true (by omega)
    go_enter Try.func11, Try.ntmps11
    go_wp2_with fail
    refine (lives09 _).mono ?_
    rintro e w1 ⟨rfl, hb⟩
    go_wp2
    go_ret
    exact ⟨rfl, hb⟩
  have d1 : decide (2000 < (l0.length : Int)) = false := decide_eq_false (by omega)
  have r6 := r1.take 600
  rw [bv_take] at r6
  have hl6 : (l1.take 600).length = min 600 l1.length := List.length_take ..
  go_enter Try.func11, Try.ntmps11
  go_upto_if 29 with fail
  go_cut [1] (fun s1 wx => w = wx ∧ ∃ s : List UInt8, s1 = .slice A1 s.length c1 ∧ s.length ≤ 600 ∧ Reads w w.heap.size A1 (bv s))
  case first =>
    by_cases h2 : 600 < l1.length
    · have d2 : decide (600 < (l1.length : Int)) = true := decide_eq_true (by omega)
      have q1 : (600 : Int) ≤ (c1 : Int) := by omega
      go_wp2
      go_meet
      exact ⟨rfl, l1.take 600, by rw [hl6, Nat.min_eq_left (by omega)], by omega, r6⟩
    · have d2 : decide (600 < (l1.length : Int)) = false := decide_eq_false (by omega)
      go_wp2
      go_meet
      exact ⟨rfl, l1, rfl, by omega, r1⟩
  case rest =>
    obtain ⟨rfl, s, rfl, hs, hr⟩ := hcut
    clear r1 r6 hl6 m1 mm1 _q1
    have hm : s.length ≤ reachBytes := by simp only [reachBytes]; omega
    have k1 := bput_any A0 c0 l0 w m0 r0
    have k2 := fun W hb => bread_any A1 c1 s W hm (hr.ext (w' := W) hb)
    have hL := brdL_len s
    have HPR := Lib.hid (put_read s)
    have HBAD := Lib.hid (show brdE s ≠ 0 → brdL s = [] from fun e => by unfold brdL; rw [if_neg e])
    generalize brdL s = L at *
    generalize brdE s = E at *
    go_upto_if 38 with ((go_at_call 42; refine k1.mono ?_; rintro e w1 ⟨Ab, cb, rfl, hown1, hb1⟩; rw [bv_len] at hown1; rw [bv_len]))
    clear k1
    go_cut [8, 9, 10] (fun s8 _ _ wx => s8 = .bool false ∧ Below w.heap.size w wx)
    case first =>
      by_cases hc : cntsB l0 = true
      case neg =>
        have hE : bitsE l0 = 1 := by unfold bitsE; rw [if_neg hc]
        rw [hE]
        go_wp2
        go_meet
        exact ⟨rfl, hb1⟩
      have hE : bitsE l0 = 0 := by unfold bitsE; rw [if_pos hc]
      have hV : bitsV l0 = bitsB l0 := by unfold bitsV; rw [if_pos hc]
      obtain ⟨p1, p2⟩ := read_put l0 hc
      have k3 := bread_any Ab cb (bitsB l0) w1 (by rw [bitsB_len]; simp [reachBytes]) (Reads.of_own (by rw [hV] at hown1; exact hown1))
      rw [p1, p2] at k3
      rw [hV, bitsB_len] at hown1
      rw [bitsB_len] at k3
      rw [hE, hV, bitsB_len]
      have HSET := Lib.hid (fun k x h0 h3 => cnts_set hc k x h0 h3)
      clear p1 p2 hE hV hc
      go_wp2_with fail
      refine k3.mono ?_
      rintro e w2 ⟨Am, cm, rfl, hown2, hb⟩
      rw [iv_len] at hown2
      rw [iv_len]
      have hb2 := below_then hb1 hb
      have ho1 := own_keep hown1 hb
      clear k3 hb hown1 hb1
      have d3 : ((l0.length : Int) != (l0.length : Int)) = false := by simp
      go_wp2_with fail
      go_loopw [8, 13] (fun s8 i wr => ∃ k : Nat, k ≤ l0.length ∧ s8 = .bool false ∧ i = .int .i64 k ∧ Below w.heap.size w wr ∧ Below w2.heap.size w2 wr) (fun _ i _ => l0.length - (intOf i).toNat)
      case atStart => exact ⟨0, by omega, rfl, rfl, hb2, Below.refl _ _⟩
      case round =>
        obtain ⟨k, hk, rfl, rfl, hbr, hbr2⟩ := hrel
        by_cases hlt : k < l0.length
        · obtain ⟨ad, rfl, _, hc⟩ := (r0.below hbr).num hlt
          obtain ⟨ad2, rfl, _, hc2⟩ := ((Reads.of_own hown2).below hbr2).num hlt
          have hbk : (0 : Int) ≤ (k : Int) := by omega
          have hlt' : (k : Int) < (l0.length : Int) := by omega
          go_wp2_with fail
          go_quiet (fail)
          go_wp2
          go_roundw
          case rel => exact ⟨k + 1, by omega, rfl, by go_num, below_drewN hbr _, below_drewN hbr2 _⟩
          case measure => simp [intOf]; omega
        · obtain rfl : k = l0.length := by omega
          clear hlt hk
          by_cases hpos : 0 < l0.length
          case neg =>
            have d4 : decide (0 < (l0.length : Int)) = false := decide_eq_false (by omega)
            go_wp2
            go_meet
            exact ⟨rfl, hbr⟩
          have d4 : decide (0 < (l0.length : Int)) = true := decide_eq_true (by omega)
          have d5 : ((l0.length : Int) == 0) = false := by rw [beq_eq_false_iff_ne]; omega
          obtain ⟨k, hk, hkv⟩ := pos_at a2 l0.length hpos (by have := of_decide_eq_false d1; omega)
          obtain ⟨i0', hi, hz0, hz1, hz2⟩ := info_parts Try.infoInt
          have r2 := r0.below (hbr.alloc hbr.size (.cells #[] 3))
          go_upto_region 18 with (at_builtin; refine wpList_append_to _ rfl (.tmp 86) (.tmp 87) _ rfl wr.heap.size 3 i0' _ 8 Try.underlying46 hi hz0 hz1 hz2 rfl _ 0 [] rfl (own_empty _ _) _ A0 _ c0 (iv l0) rfl (iv_len _).symm r2 (iv_one _) (by simp only [maxLen]; omega) (by omega) (by simp) ?_; intro A' c' w3 hown3 hg3 hb3 _)
          rw [Nat.zero_add, List.nil_append] at hown3
          obtain ⟨g, rfl, hcl⟩ := own_cells hown3 hpos
          have hcell := hcl k (.int .i64 l0[k]) (by rw [iv_get _ _ hk])
          generalize l0[k] = old at *
          clear hcl
          have hbw := (hbr.alloc hbr.size (.cells #[] 3)).trans (hb3.mono hbr.size)
          have hfz := hown3.frozenAt k
          have hst := fun x => hown3.stored k (.int .i64 x)
          have HST := Lib.hid hst
          have n0 : (0 : Int) ≤ (k : Int) := by omega
          have n1 : (k : Int) < (l0.length : Int) := by omega
          clear hst
          go_upto_region 19 with fail
          obtain ⟨ho4, hg4⟩ := HST.out (bits .and .i64 a3 3)
          have hx := i64_mask a3 2 (by omega) 3 rfl
          have hx0 : 0 ≤ bits .and .i64 a3 3 ∧ bits .and .i64 a3 3 ≤ 3 := by rw [hx]; omega
          have hw3 : wr.heap.size ≤ w3.heap.size := Nat.le_trans (below_alloc1 wr (.cells #[] 3)).size hb3.size
          have hb4 := below_of_grown hown3 hw3 hg4
          rw [iv_set] at ho4
          clear hx HST hg4 hfz hcell hown3
          generalize bits .and .i64 a3 3 = x at *
          generalize w3.setCell ⟨g, k, none⟩ (.int .i64 x) = w4 at *
          have hbw4 : Below w2.heap.size w2 w4 := ((hbr2.alloc hbr2.size (.cells #[] 3)).trans (hb3.mono hbr2.size)).trans (hb4.mono hbr2.size)
          have k6 := bput_any (some ⟨g, 0, none⟩) c' (l0.set k x) w4 (by rw [List.length_set]; exact m0) (Reads.of_own ho4)
          have hcs := HSET.out k x hx0.1 hx0.2
          rw [show bitsV (l0.set k x) = bitsB (l0.set k x) from by unfold bitsV; rw [if_pos hcs], show bitsE (l0.set k x) = 0 from by unfold bitsE; rw [if_pos hcs], List.length_set] at k6
          have HBS := Lib.hid (bits_set l0 k x)
          have HL2 := Lib.hid (bitsB_len (l0.set k x))
          have HL1 := Lib.hid (bitsB_len l0)
          clear hcs ho4 hb4 hb3 hbw hbr hbr2 hkv
          generalize bitsB (l0.set k x) = X at *
          generalize bitsB l0 = Y at *
          have d6 : ((244 : Int) != 244) = false := by decide
          go_wp2_with fail
          refine k6.mono ?_
          rintro e w5 ⟨A5, c5, rfl, hown5, hb⟩
          rw [bv_len, HL2.out] at hown5
          rw [bv_len, HL2.out]
          have hb5 := below_then hbw4 hb
          clear hbw4 hb k6
          go_wp2_with fail
          go_loopw [8, 18] (fun s8 i wq => ∃ j : Nat, j ≤ 244 ∧ s8 = .bool false ∧ i = .int .i64 j ∧ Below w2.heap.size w2 wq ∧ Below w5.heap.size w5 wq) (fun _ i _ => 244 - (intOf i).toNat)
          case atStart => exact ⟨0, by omega, rfl, rfl, hb5, Below.refl _ _⟩
          case round =>
            obtain ⟨j, hj, rfl, rfl, hq2, hq5⟩ := hrel
            by_cases hlt : j < 244
            · obtain ⟨ad, b, rfl, _, hbb, hc⟩ := byte_at ((Reads.of_own hown5).below hq5) (k := j) (by rw [HL2.out]; omega)
              obtain ⟨ad2, b2, rfl, _, hbb2, hc2⟩ := byte_at ((Reads.of_own ho1).below hq2) (k := j) (by rw [HL1.out]; omega)
              have j0 : (0 : Int) ≤ (j : Int) := by omega
              have j1 : (j : Int) < 244 := by omega
              by_cases he : j = 4 + k / 4
              · have d7 : ((j : Int) != 4 + (k : Int) / 4) = false := by rw [bne_eq_false_iff_eq]; omega
                clear hbb hbb2 he
                go_wp2_with fail
                go_quiet (fail)
                go_wp2
                go_roundw
                case rel => exact ⟨j + 1, by omega, rfl, by go_num, below_drewN hq2 _, below_drewN hq5 _⟩
                case measure => simp [intOf]; omega
              · have d7 : ((j : Int) != 4 + (k : Int) / 4) = true := by rw [bne_iff_ne]; omega
                have hee := HBS.out j he
                rw [hbb, hbb2] at hee
                injection hee with hee
                subst hee
                clear hbb hbb2 he
                have d8 : ((b.toNat : Int) != (b.toNat : Int)) = false := by simp
                generalize b.toNat = bn at *
                go_wp2_with fail
                go_quiet (fail)
                go_wp2
                go_roundw
                case rel => exact ⟨j + 1, by omega, rfl, by go_num, below_drewN hq2 _, below_drewN hq5 _⟩
                case measure => simp [intOf]; omega
            · obtain rfl : j = 244 := by omega
              go_wp2
              go_meet
              exact ⟨rfl, hb2.trans (hq2.mono hb2.size)⟩
    case rest =>
      obtain ⟨rfl, hbx⟩ := hcut
      clear hb1
      go_wp2_with fail
      refine (k2 _ hbx).mono ?_
      rintro e w2 ⟨A2, c2, rfl, hown2, hb⟩
      rw [iv_len] at hown2
      rw [iv_len]
      have hb2 := below_then hbx hb
      clear k2 hb hbx
      by_cases hE : E = 0
      case neg =>
        have hnil := HBAD.out hE
        have d2 : (E != 0) = true := by simpa using hE
        rw [hnil]
        clear HPR HBAD hnil
        go_wp2_with fail
        refine (lives09 _).mono ?_
        rintro e w4 ⟨rfl, hb⟩
        have hb4 := below_then hb2 hb
        go_wp2
        go_ret
        exact ⟨rfl, hb4⟩
      obtain ⟨p1, p2⟩ := HPR.out hE
      have hmL : L.length * 8 ≤ reachBytes := by simp only [reachBytes]; omega
      have k5 := bput_any A2 c2 L w2 hmL (Reads.of_own hown2)
      rw [show bitsV L = s from by unfold bitsV; rw [if_pos p1]; exact p2, show bitsE L = 0 from by unfold bitsE; rw [if_pos p1]] at k5
      subst hE
      clear HPR HBAD p1 p2
      go_wp2_with fail
      refine k5.mono ?_
      rintro e w3 ⟨A3, c3, rfl, hown3, hb⟩
      rw [bv_len] at hown3
      rw [bv_len]
      have hb3 := below_then hb2 hb
      have cv1 := run_conv_bytes (P := Try.prog) w3 24 9 5 Try.underlying24 Try.underlying5 Try.underlying9 s.length c3 rfl (Reads.of_own hown3)
      have cv2 := run_conv_bytes (P := Try.prog) w3 24 9 5 Try.underlying24 Try.underlying5 Try.underlying9 s.length c1 rfl (hr.below hb3)
      clear k5 hb hb2 hown3 hown2
      go_wp2_with fail
      refine (lives09 _).mono ?_
      rintro e w4 ⟨rfl, hb⟩
      have hb4 := below_then hb3 hb
      go_wp2
      go_ret
      exact ⟨rfl, hb4⟩
end Go.Proofs.Ytahomneljdjjjaa
