/-
  Chapter 10: slots.Read (under way).
-/
import Derived.Test.YtilkcecjciiboaaSlotP
import Derived.Test.YtilkcecjciiboaaBase8
import Derived.Test.YtilkcecjciiboaaBase5
import Derived.Test.YtilkcecjciiboaaVal10
import Derived.BigQuiet
import Derived.Deep.DeepCutAuto
import Derived.Lib.BufferWrite
namespace Go.Proofs.Ytilkcecjciiboaa
open Go.RowKit
theorem Try.infoSlot : (Try.prog.info? 66).map (fun i => (i.zero, i.size, i.bytes)) = some (some (.agg #[.int .i64 0, .int .i64 0, .int .i64 0]), 3, 24) := by kernel_rfl
theorem tv_append (a b : List S3) : tv (a ++ b) = tv a ++ tv b := by
  induction a with
  | nil => rfl
  | cons p a ih =>
    obtain ⟨x, y, z⟩ := p
    simp [tv, ih]
theorem tv_len (a : List S3) : (tv a).length = 3 * a.length := by
  induction a with
  | nil => rfl
  | cons p a ih =>
    obtain ⟨x, y, z⟩ := p
    simp [tv, ih]
    omega
theorem bext (l : List UInt8) (a b : Nat) : (ByteArray.mk l.toArray).extract a b = ByteArray.mk ((l.take b).drop a).toArray := by
  apply ByteArray.ext
  rw [ByteArray.data_extract]
  apply Array.ext'
  simp [List.drop_take]
theorem next_any (r : Nat) (l : List UInt8) (w : World) (hl : 16 ≤ l.length) (hb : Boxed w r 9 (.string ⟨l.toArray⟩)) :
    Calls Try.prog 83 #[.pointer (some ⟨r, 0, none⟩)] w fun e w' => e = .returned (.string ⟨(l.take 16).toArray⟩) ∧ w' = w.setCell ⟨r, 0, none⟩ (.string ⟨(l.drop 16).toArray⟩) := by
  have hc := hb.cell
  have hf := hb.frozen
  have h16 : (16 : Int) ≤ (l.length : Int) := by omega
  go_enter Try.func83, Try.ntmps83
  go_wp2
  go_ret
  refine ⟨?_, ?_⟩
  · have := bext l 0 16
    rw [List.drop_zero] at this
    rw [← this]
    rfl
  · have := bext l 16 l.length
    rw [List.take_length] at this
    rw [← this]
theorem getV_cnt (s : List UInt8) (hl : s.length = 244) : getV s 0 4 = (((cntS s : Nat) : Int), 0) := by
  unfold getV
  have h := le_lt ((s.drop (0 : Int).toNat).take (4 : Int).toNat)
  have h2 : ((s.drop (0 : Int).toNat).take (4 : Int).toNat).length ≤ 4 := by rw [List.length_take]; omega
  have h3 : 256 ^ ((s.drop (0 : Int).toNat).take (4 : Int).toNat).length ≤ 256 ^ 4 := Nat.pow_le_pow_right (by decide) h2
  rw [if_pos (thereV_ok (by decide) (by omega) (by omega)), if_pos (by unfold getN; omega)]
  rfl
/-- slots of the call's own, beside an error's number -/
def GivesT (ls : List S3) (err : Int) (w : World) (en : Ending) (w' : World) : Prop :=
  ∃ A c, en = .returned (.tuple #[.slice A ls.length c, .int .i64 err]) ∧ w'.ownsRow w.heap.size 66 3 (.slice A ls.length c) ls.length (tv ls) ∧ Below w.heap.size w w'
theorem rsl_no {s : List UInt8} (h : formS s = false) : rslL s = [] ∧ rslE s = 7 := by
  have : rslE s = 7 := by unfold rslE; rw [h]; rfl
  unfold rslL
  rw [this]
  exact ⟨rfl, rfl⟩
theorem rsl_bad {s : List UInt8} (h : formS s = true) (h2 : goodS s (cntS s) = false) : rslL s = [] ∧ rslE s = 2 := by
  have : rslE s = 2 := by unfold rslE; rw [h, h2]; rfl
  unfold rslL
  rw [this]
  exact ⟨rfl, rfl⟩
theorem rsl_ok {s : List UInt8} (h : formS s = true) (h2 : goodS s (cntS s) = true) : rslL s = trisS s (cntS s) ∧ rslE s = 0 := by
  have : rslE s = 0 := by unfold rslE; rw [h, h2]; rfl
  unfold rslL
  rw [this]
  exact ⟨rfl, rfl⟩
set_option maxRecDepth 100000 in
set_option maxHeartbeats 2000000 in
theorem vslots_any (A : Option Addr) (c : Nat) (s : List UInt8) (w : World) (hq : s.length ≤ c) (hm : s.length ≤ reachBytes) (h : Reads w w.heap.size A (bv s)) :
    Calls Try.prog 49 #[.slice A s.length c] w (GivesT (rslL s) (rslE s) w) := by
  have hmm := hm
  simp only [reachBytes] at hmm
  by_cases hl : s.length = 244
  · have hget := get_any A c s 0 4 w _ hm h
    rw [getV_cnt s hl, hl] at hget
    have HFM := Lib.hid (show formS s = (decide (cntS s ≤ 15) && zeroB (s.drop (4 + 16 * cntS s))) by unfold formS; rw [decide_eq_true hl]; rfl)
    obtain ⟨ad, rfl, _⟩ := h.at_ (k := 0) (by rw [bv_len]; omega)
    rw [hl]
    by_cases h15 : 15 < cntS s
    · have hno := rsl_no (s := s) (by rw [HFM.out, decide_eq_false (by omega)]; rfl)
      have HN := Lib.hid hno
      have d1 : decide ((15 : Int) < (cntS s : Int)) = true := decide_eq_true (by omega)
      clear hno HFM h15
      generalize cntS s = cnt at *
      go_enter Try.func49, Try.ntmps49
      go_wp2_with fail
      refine hget.mono ?_
      rintro e w1 ⟨rfl, rfl⟩
      go_wp2
      go_ret2
      exact ⟨none, 0, by rw [HN.out.1, HN.out.2]; rfl, by rw [HN.out.1]; exact World.ownsRow_nil _ _ _ _, Below.refl _ _⟩
    · have d1 : decide ((15 : Int) < (cntS s : Int)) = false := decide_eq_false (by omega)
      have hk1 : 4 + 16 * cntS s ≤ 244 := by omega
      obtain ⟨A3, hA3, hr3⟩ : ∃ A3, (if c = 4 + cntS s * 16 then some ad else some (ad.add (4 + cntS s * 16))) = A3 ∧ Reads w w.heap.size A3 (bv (s.drop (4 + 16 * cntS s))) := by
        have hd := h.drop (k := 4 + 16 * cntS s) (cap := c) (by rw [bv_len]; exact hq)
        rw [bv_drop] at hd
        refine ⟨_, rfl, ?_⟩
        rw [show 4 + cntS s * 16 = 4 + 16 * cntS s by omega]
        exact hd
      have hz := zero_any A3 (c - (4 + cntS s * 16)) (s.drop (4 + 16 * cntS s)) w _ (by rw [List.length_drop]; omega) hr3
      rw [show (s.drop (4 + 16 * cntS s)).length = 244 - (4 + cntS s * 16) by rw [List.length_drop]; omega] at hz
      have hzero : c = 4 + cntS s * 16 → Calls Try.prog 82 #[.slice A3 (244 - (4 + cntS s * 16)) 0] w fun e w' => e = .returned (.bool (zeroB (s.drop (4 + 16 * cntS s)))) ∧ w = w' := fun hc => by
        rw [show c - (4 + cntS s * 16) = 0 by omega] at hz
        exact hz
      have HZ2 := Lib.hid hzero
      cases hzz : zeroB (s.drop (4 + 16 * cntS s)) with
      | false =>
        have HN := Lib.hid (rsl_no (s := s) (by rw [HFM.out, hzz, Bool.and_false]))
        rw [hzz] at hz HZ2
        clear hzz HFM hzero h15
        generalize cntS s = cnt at *
        go_enter Try.func49, Try.ntmps49
        go_wp2_with fail
        refine hget.mono ?_
        rintro e w1 ⟨rfl, rfl⟩
        go_wp2_with fail
        all_goals
          first | refine hz.mono ?_ | refine (HZ2.out (by first | assumption | rfl)).mono ?_
          rintro e w1 ⟨rfl, rfl⟩
          go_wp2
          go_ret2
          exact ⟨none, 0, by rw [HN.out.1, HN.out.2]; rfl, by rw [HN.out.1]; exact World.ownsRow_nil _ _ _ _, Below.refl _ _⟩
      | true =>
        have HFT := Lib.hid (show formS s = true by rw [HFM.out, hzz, decide_eq_true (by omega)]; rfl)
        rw [hzz] at hz HZ2
        have HC := Lib.hid h15
        clear hzz HFM hzero h15
        generalize hcnt : cntS s = cnt at *
        have HCN := Lib.hid hcnt
        clear hcnt
        go_enter Try.func49, Try.ntmps49
        go_wp2_with fail
        refine hget.mono ?_
        rintro e w1 ⟨rfl, rfl⟩
        go_upto_region 4 with fail
        go_cut [0, 26, 29] (fun s0 _ b wx => s0 = .slice (some ad) 244 c ∧ b = .bool false ∧ w = wx)
        case first =>
          go_wp2_with fail
          all_goals
            first | refine hz.mono ?_ | refine (HZ2.out (by first | assumption | rfl)).mono ?_
            rintro e w1 ⟨rfl, rfl⟩
            go_wp2
            go_meet
            exact ⟨by first | rfl | rw [show c = 4 + cnt * 16 by assumption], rfl, rfl⟩
        case rest =>
          obtain ⟨rfl, rfl, rfl⟩ := hcut
          have hrd4 := h.drop (k := 4) (cap := c) (by rw [bv_len]; exact hq)
          rw [if_neg (by omega), bv_drop] at hrd4
          have hrd4' : Reads w w.heap.size (some ⟨ad.block, ad.off + 4, none⟩) (bv (s.drop 4)) := hrd4
          have hcv := run_conv_bytes (P := Try.prog) w 22 9 5 Try.underlying22 Try.underlying5 Try.underlying9 240 (c - 4) (by rw [List.length_drop]; omega) hrd4'
          have c4 : 4 ≤ c := by omega
          have ci4 : (4 : Int) ≤ (c : Int) := by omega
          obtain ⟨iS, hi, hz0, hz1, hz2⟩ := info_parts Try.infoSlot
          have HBAD := Lib.hid (fun (k : Nat) (hk : k < cnt) (hh : rdE slotPs (sAt s k) ≠ 0) => rsl_bad HFT.out (by rw [HCN.out]; exact goodS_no hk hh))
          have HGOOD := Lib.hid (fun (hh : goodS s cnt = true) => (show rslL s = trisS s cnt ∧ rslE s = 0 by
            have := rsl_ok HFT.out (by rw [HCN.out]; exact hh)
            rw [HCN.out] at this
            exact this))
          have hbx := Boxed.new w 9 (.string ⟨(s.drop 4).toArray⟩)
          have hB0 := below_alloc1 w (.cells #[.string ⟨(s.drop 4).toArray⟩] 9)
          clear hz HZ2 hget hA3 hr3 hrd4 hrd4'
          go_wp2_with fail
          go_loopw [8, 35] (fun v i wr => ∃ k : Nat, k ≤ cnt ∧ i = .int .i64 k ∧ wr.ownsRow w.heap.size 66 3 v k (tv (trisS s k)) ∧ Boxed wr w.heap.size 9 (.string ⟨(s.drop (4 + 16 * k)).toArray⟩) ∧ goodS s k = true ∧ Below w.heap.size w wr) (fun _ i _ => cnt - (intOf i).toNat)
          case atStart => exact ⟨0, by omega, rfl, World.ownsRow_nil _ _ _ _, hbx, rfl, hB0⟩
          case round =>
            obtain ⟨k, hk, rfl, hown, hbox, hgo, hbr⟩ := hrel
            obtain ⟨Ao, co, rfl⟩ := own_form_s hown
            have HGO := Lib.hid hgo
            clear hgo
            by_cases hlt : k < cnt
            · have hnx := next_any w.heap.size (s.drop (4 + 16 * k)) wr (by rw [List.length_drop]; omega) hbox
              rw [List.drop_drop, show 4 + 16 * k + 16 = 4 + 16 * (k + 1) by omega] at hnx
              have hnx' : Calls Try.prog 83 #[.pointer (some ⟨w.heap.size, 0, none⟩)] wr fun e w' => e = .returned (.string ⟨(sAt s k).toArray⟩) ∧ w' = wr.setCell ⟨w.heap.size, 0, none⟩ (.string ⟨(s.drop (4 + 16 * (k + 1))).toArray⟩) := hnx
              have hk15 : k < 15 := by have := HC.out; omega
              have hlen := sAt_len s k hl hk15
              have hrs := fun W => vreadSlot_any (sAt s k) W (by rw [hlen]; decide)
              rw [tri_eq] at hrs
              have hd := rd16 (sAt s k) hlen
              have HBK := Lib.hid (fun hh => HBAD.out k hlt hh)
              have HGS := Lib.hid (goodS_snoc s k)
              have HTS := Lib.hid (trisS_snoc s k)
              have hbox2 := hbox.set (.string ⟨(s.drop (4 + 16 * (k + 1))).toArray⟩)
              have hown2 := hown.kept (Lib.grownBy_setCell wr w.heap.size 0 (.string ⟨(s.drop (4 + 16 * (k + 1))).toArray⟩)) (.inr (hbox.not_row (by decide) hown).symm)
              have hbr2 := hbr.setCell (p := ⟨w.heap.size, 0, none⟩) (Nat.le_refl _) (.string ⟨(s.drop (4 + 16 * (k + 1))).toArray⟩)
              clear hnx hlen hbox hown
              generalize sAt s k = sk at *
              generalize (tri s k) = p3 at *
              obtain ⟨x0, x1, x2⟩ := p3
              generalize rdE slotPs sk = ee at *
              have hrs' : ∀ W, Calls Try.prog 84 #[.string ⟨sk.toArray⟩] W fun e w' => e = .returned (.tuple #[.agg #[.int .i64 x0, .int .i64 x1, .int .i64 x2], .int .i64 ee]) ∧ Below W.heap.size W w' := hrs
              clear hrs
              have i0 : (k : Int) < (cnt : Int) := by omega
              go_wp2_with fail
              refine hnx'.mono ?_
              rintro e w3 ⟨rfl, rfl⟩
              clear hnx'
              generalize hW : wr.setCell ⟨w.heap.size, 0, none⟩ (.string ⟨(s.drop (4 + 16 * (k + 1))).toArray⟩) = w3 at *
              clear hW
              go_wp2_with fail
              refine (hrs' _).mono ?_
              rintro e w4 ⟨rfl, hb4⟩
              have hB4 := hbr2.trans (hb4.mono hbr2.size)
              have hbox4 : Boxed w4 w.heap.size 9 (.string ⟨(s.drop (4 + 16 * (k + 1))).toArray⟩) := heap_keep hbox2 hb4
              have hown4 := own_keep_s hown2 hb4
              clear hrs' hb4 hbox2 hown2 hbr2
              rcases hd with rfl | rfl
              · have hB5 := (hB4.alloc hB4.size (.cells #[.int .i64 x0, .int .i64 x1, .int .i64 x2] 66)).alloc (by have := hB4.size; simp; omega) (.cells #[.int .i64 x0, .int .i64 x1, .int .i64 x2] 66)
                have hown5 := (hown4.alloc (.cells #[.int .i64 x0, .int .i64 x1, .int .i64 x2] 66)).alloc (.cells #[.int .i64 x0, .int .i64 x1, .int .i64 x2] 66)
                have hbox5 := (hbox4.alloc (.cells #[.int .i64 x0, .int .i64 x1, .int .i64 x2] 66)).alloc (.cells #[.int .i64 x0, .int .i64 x1, .int .i64 x2] 66)
                have hr5 := Reads.new (w4.alloc (.cells #[.int .i64 x0, .int .i64 x1, .int .i64 x2] 66)) [.int .i64 x0, .int .i64 x1, .int .i64 x2] 66 (0, 0)
                rw [World.size_alloc] at hr5
                have hnr := hbox5.not_row (by decide) hown5
                have hG : goodS s (k + 1) = true := by rw [HGS.out, HGO.out]; rfl
                have HG := Lib.hid hG
                clear hG hown4 hbox4 hB4
                go_wp2_with (at_builtin; (refine wpList_append_to_s _ rfl (.tmp 46) (.tmp 48) _ rfl w.heap.size 3 66 iS _ 24 Try.underlying56 hi hz0 hz1 hz2 rfl (by decide) _ k _ rfl hown5 _ _ 1 1 [.int .i64 x0, .int .i64 x1, .int .i64 x2] rfl rfl hr5 (by simp [Value.oneCell']) (by simp only [maxLen]; omega) (by omega) hB5.size ?_); intro A6 c6 w6 hown6 hg6 hb6 _)
                go_roundw
                case rel => exact ⟨k + 1, by omega, by go_num, by rw [HTS.out, tv_append]; exact hown6, hbox5.kept hg6 hnr, HG.out, hB5.trans hb6⟩
                case measure => simp [intOf]; omega
              · have HB2 := Lib.hid (HBK.out (by decide))
                have hB5 := hB4.alloc hB4.size (.cells #[.int .i64 x0, .int .i64 x1, .int .i64 x2] 66)
                clear hown4 hbox4
                go_wp2
                go_ret2
                exact ⟨none, 0, by rw [HB2.out.1, HB2.out.2]; rfl, by rw [HB2.out.1]; exact World.ownsRow_nil _ _ _ _, hB5⟩
            · obtain rfl : k = cnt := by omega
              have HY := Lib.hid (HGOOD.out HGO.out)
              have HTL := Lib.hid (trisS_len s k)
              go_wp2
              go_ret2
              exact ⟨Ao, co, by rw [HY.out.1, HY.out.2, HTL.out]; rfl, by rw [HY.out.1, HTL.out]; exact hown, hbr⟩
  · have hno : formS s = false := by unfold formS; rw [decide_eq_false hl]; rfl
    have HN := Lib.hid (rsl_no hno)
    have d1 : ((s.length : Int) != 244) = true := by simp; omega
    clear hno hl
    go_enter Try.func49, Try.ntmps49
    go_wp2
    go_ret2
    exact ⟨none, 0, by rw [HN.out.1, HN.out.2]; rfl, by rw [HN.out.1]; exact World.ownsRow_nil _ _ _ _, Below.refl _ _⟩
end Go.Proofs.Ytilkcecjciiboaa
