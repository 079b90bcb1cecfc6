/-
  Chapter 10: the reference's Read (under way).
-/
import Derived.Test.YtilkcecjciiboaaSlot3
namespace Go.Proofs.Ytilkcecjciiboaa
open Go.RowKit

set_option maxRecDepth 100000 in
set_option maxHeartbeats 2000000 in
theorem rslots_any (A : Option Addr) (c : Nat) (s : List UInt8) (w : World) (hq : s.length ≤ c) (hm : s.length ≤ reachBytes) (h : Reads w w.heap.size A (bv s)) :
    Calls Try.prog 50 #[.slice A s.length c] w (GivesT (rslL s) (rslE s) w) := by
  have hmm := hm
  simp only [reachBytes] at hmm
  by_cases hl : s.length = 244
  · have hget := rget_any A c s 0 4 w _ hm h
    rw [getV_cnt s hl, hl] at hget
    have HFM := Lib.hid (show formS s = (decide (cntS s ≤ 15) && zeroB (s.drop (4 + 16 * cntS s))) by unfold formS; rw [decide_eq_true hl]; rfl)
    obtain ⟨ad, rfl, _⟩ := h.at_ (k := 0) (by rw [bv_len]; omega)
    rw [hl]
    by_cases h15 : 15 < cntS s
    · have hno := rsl_no (s := s) (by rw [HFM.out, decide_eq_false (by omega)]; rfl)
      have HN := Lib.hid hno
      have d1 : decide ((15 : Int) < (cntS s : Int)) = true := decide_eq_true (by omega)
      clear hno HFM h15
      generalize cntS s = cnt at *
      go_enter Try.func50, Try.ntmps50
      go_wp2_with fail
      refine hget.mono ?_
      rintro e w1 ⟨rfl, rfl⟩
      go_wp2
      go_ret2
      exact ⟨none, 0, by rw [HN.out.1, HN.out.2]; rfl, by rw [HN.out.1]; exact World.ownsRow_nil _ _ _ _, Below.refl _ _⟩
    · have d1 : decide ((15 : Int) < (cntS s : Int)) = false := decide_eq_false (by omega)
      have hk1 : 4 + 16 * cntS s ≤ 244 := by omega
      obtain ⟨A3, hA3, hr3⟩ : ∃ A3, (if c = 4 + 16 * cntS s then some ad else some (ad.add (4 + 16 * cntS s))) = A3 ∧ Reads w w.heap.size A3 (bv (s.drop (4 + 16 * cntS s))) := by
        have hd := h.drop (k := 4 + 16 * cntS s) (cap := c) (by rw [bv_len]; exact hq)
        rw [bv_drop] at hd
        refine ⟨_, rfl, ?_⟩
        exact hd
      have hz := rzero_any A3 (c - (4 + 16 * cntS s)) (s.drop (4 + 16 * cntS s)) w _ (by rw [List.length_drop]; omega) hr3
      rw [show (s.drop (4 + 16 * cntS s)).length = 244 - (4 + 16 * cntS s) by rw [List.length_drop]; omega] at hz
      have hzero : c = 4 + 16 * cntS s → Calls Try.prog 85 #[.slice A3 (244 - (4 + 16 * cntS s)) 0] w fun e w' => e = .returned (.bool (zeroB (s.drop (4 + 16 * cntS s)))) ∧ w = w' := fun hc => by
        rw [show c - (4 + 16 * cntS s) = 0 by omega] at hz
        exact hz
      have HZ2 := Lib.hid hzero
      cases hzz : zeroB (s.drop (4 + 16 * cntS s)) with
      | false =>
        have HN := Lib.hid (rsl_no (s := s) (by rw [HFM.out, hzz, Bool.and_false]))
        rw [hzz] at hz HZ2
        clear hzz HFM hzero h15
        generalize cntS s = cnt at *
        go_enter Try.func50, Try.ntmps50
        go_wp2_with fail
        refine hget.mono ?_
        rintro e w1 ⟨rfl, rfl⟩
        go_wp2_with fail
        all_goals
          first | (have hcc : c = 4 + 16 * cnt := (by omega); refine (HZ2.out hcc).mono ?_) | refine hz.mono ?_
          rintro e w1 ⟨rfl, rfl⟩
          go_wp2
          go_ret2
          exact ⟨none, 0, by rw [HN.out.1, HN.out.2]; rfl, by rw [HN.out.1]; exact World.ownsRow_nil _ _ _ _, Below.refl _ _⟩
      | true =>
        have HFT := Lib.hid (show formS s = true by rw [HFM.out, hzz, decide_eq_true (by omega)]; rfl)
        rw [hzz] at hz HZ2
        have HC := Lib.hid h15
        clear hzz HFM hzero h15
        generalize hcnt : cntS s = cnt at *
        have HCN := Lib.hid hcnt
        clear hcnt
        go_enter Try.func50, Try.ntmps50
        go_wp2_with fail
        refine hget.mono ?_
        rintro e w1 ⟨rfl, rfl⟩
        go_upto_region 4 with fail
        go_cut [0, 25, 28] (fun s0 _ b wx => s0 = .slice (some ad) 244 c ∧ b = .bool false ∧ w = wx)
        case first =>
          go_wp2_with fail
          all_goals
            first | (have hcc : c = 4 + 16 * cnt := (by omega); refine (HZ2.out hcc).mono ?_) | refine hz.mono ?_
            rintro e w1 ⟨rfl, rfl⟩
            go_wp2
            go_meet
            exact ⟨by first | rfl | rw [show c = 4 + 16 * cnt by omega], rfl, rfl⟩
        case rest =>
          obtain ⟨rfl, rfl, rfl⟩ := hcut
          obtain ⟨iS, hi, hz0, hz1, hz2⟩ := info_parts Try.infoSlot
          have HBAD := Lib.hid (fun (k : Nat) (hk : k < cnt) (hh : rdE slotPs (sAt s k) ≠ 0) => rsl_bad HFT.out (by rw [HCN.out]; exact goodS_no hk hh))
          have HGOOD := Lib.hid (fun (hh : goodS s cnt = true) => (show rslL s = trisS s cnt ∧ rslE s = 0 by
            have := rsl_ok HFT.out (by rw [HCN.out]; exact hh)
            rw [HCN.out] at this
            exact this))
          clear hz HZ2 hget hA3 hr3
          go_wp2_with fail
          go_loopw [6, 7] (fun v i wr => ∃ k : Nat, k ≤ cnt ∧ i = .int .i64 k ∧ wr.ownsRow w.heap.size 66 3 v k (tv (trisS s k)) ∧ goodS s k = true ∧ Below w.heap.size w wr) (fun _ i _ => cnt - (intOf i).toNat)
          case atStart => exact ⟨0, by omega, rfl, World.ownsRow_nil _ _ _ _, rfl, Below.refl _ _⟩
          case round =>
            obtain ⟨k, hk, rfl, hown, hgo, hbr⟩ := hrel
            obtain ⟨Ao, co, rfl⟩ := own_form_s hown
            have HGO := Lib.hid hgo
            clear hgo
            by_cases hlt : k < cnt
            · skip
              have hrk := ((h.below hbr).drop (k := 4 + 16 * k) (cap := c) (by rw [bv_len]; exact hq)).take 16
              have hk15 : k < 15 := by have := HC.out; omega
              have hlen := sAt_len s k hl hk15
              have hrs := fun W => rreadSlot_any (sAt s k) W (by rw [hlen]; decide)
              rw [tri_eq] at hrs
              have hd := rd16 (sAt s k) hlen
              have HBK := Lib.hid (fun hh => HBAD.out k hlt hh)
              have HGS := Lib.hid (goodS_snoc s k)
              have HTS := Lib.hid (trisS_snoc s k)
              rw [if_neg (by omega), bv_drop, bv_take] at hrk
              have hrk' : Reads wr w.heap.size (some (ad.add (4 + 16 * k))) (bv (sAt s k)) := hrk
              have hcv := run_conv_bytes (P := Try.prog) wr 22 9 5 Try.underlying22 Try.underlying5 Try.underlying9 (20 + 16 * k - (4 + 16 * k)) (c - (4 + 16 * k)) (by rw [hlen]; omega) hrk'
              have hc1 : 20 + 16 * k ≤ c := by omega
              clear hrk hrk'
              generalize sAt s k = sk at *
              generalize (tri s k) = p3 at *
              obtain ⟨x0, x1, x2⟩ := p3
              generalize rdE slotPs sk = ee at *
              have hrs' : ∀ W, Calls Try.prog 86 #[.string ⟨sk.toArray⟩] W fun e w' => e = .returned (.tuple #[.agg #[.int .i64 x0, .int .i64 x1, .int .i64 x2], .int .i64 ee]) ∧ Below W.heap.size W w' := hrs
              clear hrs
              have i0 : (k : Int) < (cnt : Int) := by omega
              go_wp2_with fail
              refine (hrs' _).mono ?_
              rintro e w4 ⟨rfl, hb4⟩
              have hB4 := hbr.trans (hb4.mono hbr.size)
              have hown4 := own_keep_s hown hb4
              clear hrs' hb4 hown hbr hcv
              rcases hd with rfl | rfl
              · have hB5 := (hB4.alloc hB4.size (.cells #[.int .i64 x0, .int .i64 x1, .int .i64 x2] 66)).alloc (by have := hB4.size; simp; omega) (.cells #[.int .i64 x0, .int .i64 x1, .int .i64 x2] 66)
                have hown5 := (hown4.alloc (.cells #[.int .i64 x0, .int .i64 x1, .int .i64 x2] 66)).alloc (.cells #[.int .i64 x0, .int .i64 x1, .int .i64 x2] 66)
                have hr5 := Reads.new (w4.alloc (.cells #[.int .i64 x0, .int .i64 x1, .int .i64 x2] 66)) [.int .i64 x0, .int .i64 x1, .int .i64 x2] 66 (0, 0)
                rw [World.size_alloc] at hr5
                have hG : goodS s (k + 1) = true := by rw [HGS.out, HGO.out]; rfl
                have HG := Lib.hid hG
                clear hG hown4 hB4
                go_wp2_with (at_builtin; (refine wpList_append_to_s _ rfl (.tmp 49) (.tmp 51) _ rfl w.heap.size 3 66 iS _ 24 Try.underlying56 hi hz0 hz1 hz2 rfl (by decide) _ k _ rfl hown5 _ _ 1 1 [.int .i64 x0, .int .i64 x1, .int .i64 x2] rfl rfl hr5 (by simp [Value.oneCell']) (by simp only [maxLen]; omega) (by omega) hB5.size ?_); intro A6 c6 w6 hown6 hg6 hb6 _)
                go_roundw
                case rel => exact ⟨k + 1, by omega, by go_num, by rw [HTS.out, tv_append]; exact hown6, HG.out, hB5.trans hb6⟩
                case measure => simp [intOf]; omega
              · have HB2 := Lib.hid (HBK.out (by decide))
                have hB5 := hB4.alloc hB4.size (.cells #[.int .i64 x0, .int .i64 x1, .int .i64 x2] 66)
                clear hown4
                go_wp2
                go_ret2
                exact ⟨none, 0, by rw [HB2.out.1, HB2.out.2]; rfl, by rw [HB2.out.1]; exact World.ownsRow_nil _ _ _ _, hB5⟩
            · obtain rfl : k = cnt := by omega
              have HY := Lib.hid (HGOOD.out HGO.out)
              have HTL := Lib.hid (trisS_len s k)
              go_wp2
              go_ret2
              exact ⟨Ao, co, by rw [HY.out.1, HY.out.2, HTL.out]; rfl, by rw [HY.out.1, HTL.out]; exact hown, hbr⟩
  · have hno : formS s = false := by unfold formS; rw [decide_eq_false hl]; rfl
    have HN := Lib.hid (rsl_no hno)
    have d1 : ((s.length : Int) != 244) = true := by simp; omega
    clear hno hl
    go_enter Try.func50, Try.ntmps50
    go_wp2
    go_ret2
    exact ⟨none, 0, by rw [HN.out.1, HN.out.2]; rfl, by rw [HN.out.1]; exact World.ownsRow_nil _ _ _ _, Below.refl _ _⟩
end Go.Proofs.Ytilkcecjciiboaa
