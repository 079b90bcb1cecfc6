/-
  Chapter 4: the reference's Open, walked.
-/
import Derived.Test.YtilkcecjciiboaaSeal5
import Derived.Test.YtilkcecjciiboaaSeal4
import Derived.Test.YtilkcecjciiboaaRef1B
import Derived.Deep.DeepCutAuto
namespace Go.Proofs.Ytilkcecjciiboaa
open Go.RowKit

theorem tail_eq (l : List UInt8) (k : Int) (hl : l.length = 256) : (sumOK l k = true → l.drop 252 = leb 4 (sumW k (l.take 252))) ∧ (sumOK l k = false → l.drop 252 ≠ leb 4 (sumW k (l.take 252))) := by
  have h1 := leb_getN l 252 4 (by omega)
  rw [List.take_of_length_le (by rw [List.length_drop]; omega)] at h1
  have h1 : leb 4 (getN l 252 4) = l.drop 252 := h1
  constructor
  · intro h
    unfold sumOK at h
    rw [← of_decide_eq_true h, h1]
  · intro h he
    rw [← h1] at he
    have h2 := congrArg le he
    have hg : getN l 252 4 < 256 ^ 4 := by
      have := le_lt ((l.drop 252).take 4)
      have hq : ((l.drop 252).take 4).length = 4 := by rw [List.length_take, List.length_drop]; omega
      rw [hq] at this
      exact this
    have hs : sumW k (l.take 252) < 256 ^ 4 := sumW_lt k _
    rw [le_leb 4 _ hg, le_leb 4 _ hs] at h2
    unfold sumOK at h
    rw [decide_eq_true h2] at h
    cases h
theorem getN_67 (l : List UInt8) (hl : l.length = 256) : getN l 6 2 = (l[6]'(by omega)).toNat + 256 * (l[7]'(by omega)).toNat := by
  have e : (l.drop 6).take 2 = [l[6]'(by omega), l[7]'(by omega)] := by
    rw [List.drop_eq_getElem_cons (i := 6) (by omega), List.drop_eq_getElem_cons (i := 7) (by omega)]
    rfl
  show le ((l.drop 6).take 2) = _
  rw [e]
  simp [le]
set_option maxRecDepth 100000 in
set_option maxHeartbeats 4000000 in
theorem ropen_any (A : Option Addr) (c : Nat) (l : List UInt8) (k n : Int) (w : World) (hq : l.length ≤ c) (h : Reads w w.heap.size A (bv l)) :
    Calls Try.prog 43 #[.slice A l.length c, .int .i64 k, .int .i64 n] w (GivesE 5 (bv (openV l k n)) (openE l k n) w) := by
  have hk0 := fun W => rsknown_any k n W
  have bad : ∀ e : Int, e ≠ 0 → openE l k n = e → openV l k n = [] := fun e h0 h => openV_no h h0
  have HE := Lib.hid (@openE_at l k n)
  cases hk : knownK k n with
  | false =>
    have he := HE.out.1 (by unfold okO; omega) hk
    rw [bad 1 (by decide) he, he]
    rw [hk] at hk0
    clear bad hk he HE
    go_enter Try.func43, Try.ntmps43
    go_wp2_with fail
    refine (hk0 _).mono ?_
    rintro e w1 ⟨rfl, rfl⟩
    clear hk0
    go_wp2
    go_ret2
    exact ⟨none, 0, rfl, World.ownsRow_nil _ _ _ _, Below.refl _ _⟩
  | true =>
    rw [hk] at hk0
    by_cases hl : l.length = 256
    · have HK := Lib.hid hk
      have HLL := Lib.hid hl
      have HT := Lib.hid (tail_eq l k hl)
      have HBAD := Lib.hid bad
      have c256 : 256 ≤ c := by omega
      have hc252 : c ≠ 252 := by omega
      have hci : (252 : Int) ≤ (c : Int) := by omega
      have hl2 : (l.take 252).length = 252 := by rw [List.length_take]; omega
      have hl4 : (l.drop 252).length = 4 := by rw [List.length_drop]; omega
      have hrT := h.take 252
      rw [bv_take] at hrT
      have hrD := h.drop (k := 252) (cap := c) (by rw [bv_len]; omega)
      rw [if_neg (by omega), bv_drop] at hrD
      obtain ⟨ad, rfl, -, -⟩ := h.at_ (k := 0) (by rw [bv_len]; omega)
      replace hrD : Reads w w.heap.size (some ⟨ad.block, ad.off + 252, none⟩) (bv (l.drop 252)) := hrD
      have hsum := fun W (hb : Below w.heap.size w W) => rsum_any (some ad) 252 c (l.take 252) W _ hl2.symm (by rw [hl2]; decide) (hrT.ext hb)
      have hsalt := fun W => rsalt_any k W
      have hby := fun W => rbytes_any (sumW k (l.take 252)) (by have := sumW_lt k (l.take 252); omega) 4 (by omega) W
      have hx := i64_xorn (crcM 0 (l.take 252)) (saltV k) (crcM_lt 0 (by omega) _) (saltV_lt k)
      have HX : Hid (crcM 0 (l.take 252) ^^^ saltV k = sumW k (l.take 252)) := rfl
      have hc1 := crcM_lt 0 (by omega) (l.take 252)
      have hc2 := saltV_lt k
      have hsw := sumW_lt k (l.take 252)
      rw [HX.out] at hx
      rw [show ((4 : Nat) : Int) = 4 from rfl] at hby
      have HCV := Lib.hid (fun W (hb : Below w.heap.size w W) => run_conv_bytes (P := Try.prog) W 22 9 5 Try.underlying22 Try.underlying5 Try.underlying9 4 (c - 252) hl4.symm (hrD.ext hb))
      have HCB := Lib.hid (fun A c W (h : Reads W W.heap.size A (bv (leb 4 (sumW k (l.take 252))))) => run_conv_bytes (P := Try.prog) W 22 9 5 Try.underlying22 Try.underlying5 Try.underlying9 4 c (leb_len 4 _).symm h)
      have HL8 := Lib.hid (leb_len 4 (sumW k (l.take 252)))
      generalize sumW k (l.take 252) = S at *
      generalize crcM 0 (l.take 252) = X at *
      generalize saltV k = Y at *
      clear bad hk hl hl2 hl4 hrT hrD HX
      go_enter Try.func43, Try.ntmps43
      have HL0 := HLL.out
      rw [HL0] at hq
      have h256 : ((256 : Nat) : Int) = 256 := rfl
      go_upto_region 5 with (refine (hk0 _).mono ?_; rintro e w1 ⟨rfl, rfl⟩)
      go_cut [30] (fun s30 wx => s30 = .bool (!sumOK l k) ∧ Below w.heap.size w wx)
      case first =>
        have v0 := HCV.out w.drew (Below.refl _ _).drew
        have s0 := hsum w.drew (Below.refl _ _).drew
        have HB0 := Lib.hid (show Below w.heap.size w w.drew from (Below.refl _ _).drew)
        clear hsum h
        cases hs : sumOK l k with
        | true =>
          have hE := HT.out.1 hs
          rw [hE] at v0 HCV
          have HS := Lib.hid hs
          clear hs hE
          go_region_with (first | (go_at_call 66; refine s0.mono ?_; rintro e w1 ⟨rfl, rfl⟩) | (go_at_call 31; refine (hsalt _).mono ?_; rintro e w2 ⟨rfl, hb2⟩; have HB2 := Lib.hid (below_then HB0.out hb2); clear hb2; have v2 := HCV.out w2 HB2.out) | (go_at_call 65; refine (hby _).mono ?_; rintro e w3 ⟨A3, c3, rfl, hown3, hb3⟩; rw [bv_len, HL8.out] at hown3; rw [bv_len, HL8.out]; have HB3 := Lib.hid (below_then HB2.out hb3); clear hb3; have v3 := HCV.out w3 HB3.out; have v4 := HCB.out A3 c3 w3 (Reads.of_own hown3); clear hown3))
          all_goals
            go_wp2
            go_meet
            exact ⟨by rw [HS.out]; rfl, HB3.out⟩
        | false =>
          have hE := HT.out.2 hs
          have n1 : ((l.drop 252) == leb 4 S) = false := by simpa using hE
          have n2 : ((l.drop 252) != leb 4 S) = true := by simpa using hE
          generalize l.drop 252 = D at *
          generalize leb 4 S = D2 at *
          have HS := Lib.hid hs
          clear hs hE
          go_region_with (first | (go_at_call 66; refine s0.mono ?_; rintro e w1 ⟨rfl, rfl⟩) | (go_at_call 31; refine (hsalt _).mono ?_; rintro e w2 ⟨rfl, hb2⟩; have HB2 := Lib.hid (below_then HB0.out hb2); clear hb2; have v2 := HCV.out w2 HB2.out) | (go_at_call 65; refine (hby _).mono ?_; rintro e w3 ⟨A3, c3, rfl, hown3, hb3⟩; rw [bv_len, HL8.out] at hown3; rw [bv_len, HL8.out]; have HB3 := Lib.hid (below_then HB2.out hb3); clear hb3; have v3 := HCV.out w3 HB3.out; have v4 := HCB.out A3 c3 w3 (Reads.of_own hown3); clear hown3))
          all_goals
            go_wp2
            go_meet
            exact ⟨by rw [HS.out]; rfl, HB3.out⟩
      case rest =>
        obtain ⟨rfl, hB⟩ := hcut
        clear hsum hsalt hby hx hc1 hc2 HCV HCB HL8 hsw
        have HB := Lib.hid hB
        have hr := h.ext hB
        cases hs : sumOK l k with
        | false =>
          have he := HE.out.2.2.1 ⟨fun _ => HK.out, fun _ => HLL.out, by omega, by omega, by omega, by omega⟩ hs
          have HV := Lib.hid (HBAD.out 4 (by decide) he)
          have HE4 := Lib.hid he
          clear hs he hr h hB
          go_wp2
          go_ret2
          exact ⟨none, 0, by rw [HE4.out, HV.out]; rfl, by rw [HV.out]; exact World.ownsRow_nil _ _ _ _, HB.out⟩
        | true =>
          have HS := Lib.hid hs
          have g1 := fun W (h : Reads W W.heap.size (some ad) (bv l)) => rget_any (some ad) c l 0 4 W _ (by rw [HL0]; decide) h
          have g2 := fun W (h : Reads W W.heap.size (some ad) (bv l)) => rget_any (some ad) c l 4 2 W _ (by rw [HL0]; decide) h
          rw [getV_256 l 0 4 HL0 (by decide) (by decide) (by decide), HL0] at g1
          rw [getV_256 l 4 2 HL0 (by decide) (by decide) (by decide), HL0] at g2
          have hg1 : Calls Try.prog 78 #[.slice (some ad) 256 c, .int .i64 0, .int .i64 4] wc fun e w' => e = .returned (.tuple #[.int .i64 (getN l 0 4 : Nat), .int .i64 0]) ∧ wc = w' := g1 _ hr
          have hg2 : Calls Try.prog 78 #[.slice (some ad) 256 c, .int .i64 4, .int .i64 2] wc fun e w' => e = .returned (.tuple #[.int .i64 (getN l 4 2 : Nat), .int .i64 0]) ∧ wc = w' := g2 _ hr
          have h67 := getN_67 l HL0
          obtain ⟨p6, b6, hp6, -, hb6, hc6⟩ := byte_at hr (k := 6) (by omega)
          obtain ⟨p7, b7, hp7, -, hb7, hc7⟩ := byte_at hr (k := 7) (by omega)
          injection hp6 with hp6
          injection hp7 with hp7
          subst hp6
          subst hp7
          rw [List.getElem?_eq_getElem (by omega)] at hb6 hb7
          injection hb6 with hb6
          injection hb7 with hb7
          rw [hb6, hb7] at h67
          replace hc6 : wc.cell? ⟨ad.block, ad.off + 6, none⟩ = some (.int .u8 (b6.toNat : Int)) := hc6
          replace hc7 : wc.cell? ⟨ad.block, ad.off + 7, none⟩ = some (.int .u8 (b7.toNat : Int)) := hc7
          have H67 := Lib.hid h67
          have l6 := b6.toNat_lt
          have l7 := b7.toNat_lt
          generalize b6.toNat = x6 at *
          generalize b7.toNat = x7 at *
          have H3 := Lib.hid (HE.out.2.2.2.1 ⟨fun _ => HK.out, fun _ => HLL.out, fun _ => HS.out, by omega, by omega, by omega⟩)
          have HE3 := Lib.hid (fun h => HE.out.2.2.2.2.1 ⟨fun _ => HK.out, fun _ => HLL.out, fun _ => HS.out, fun _ => h, by omega, by omega⟩)
          have HE5 := Lib.hid (fun h h2 => HE.out.2.2.2.2.2.1 ⟨fun _ => HK.out, fun _ => HLL.out, fun _ => HS.out, fun _ => h, fun _ => h2, by omega⟩)
          have HE6 := Lib.hid (fun h h2 h3 => HE.out.2.2.2.2.2.2 ⟨fun _ => HK.out, fun _ => HLL.out, fun _ => HS.out, fun _ => h, fun _ => h2, fun _ => h3⟩)
          have HV : Hid (openE l k n = 0 → openV l k n = (l.drop 8).take 244) := fun h => by unfold openV; rw [if_pos h]
          rw [H67.out] at HE5 HE6
          clear h67 hb6 hb7 g1 g2 hs HE H67 HT hB h
          generalize getN l 0 4 = N at *
          generalize getN l 4 2 = K at *
          by_cases hN : (N : Int) = n
          · have HN := Lib.hid hN
            have dN : ((N : Int) != n) = false := by rw [hN]; simp
            clear hN
            by_cases hK : (K : Int) = k
            · have HKK := Lib.hid hK
              have dK : ((K : Int) != k) = false := by rw [hK]; simp
              clear hK
              by_cases hx6 : x6 = 0
              · subst hx6
                by_cases hx7 : x7 = 0
                · subst hx7
                  have he := HE6.out HN.out HKK.out rfl
                  have hv := HV.out he
                  have HEF := Lib.hid he
                  have HVF := Lib.hid hv
                  have h244 : ((l.drop 8).take 244).length = 244 := by rw [List.length_take, List.length_drop]; omega
                  have H244 := Lib.hid h244
                  have hc8 : c ≠ 8 := by omega
                  have hD := hr.drop (k := 8) (cap := c) (by rw [bv_len]; omega)
                  rw [if_neg hc8, bv_drop] at hD
                  have hD2 := hD.take 244
                  rw [bv_take] at hD2
                  replace hD2 : Reads wc wc.heap.size (some ⟨ad.block, ad.off + 8, none⟩) (bv ((l.drop 8).take 244)) := hD2
                  have hD3 := hD2.alloc (Nat.le_refl _) (.cells #[] 5)
                  have hown0 := World.ownsRow_lit (e := 5) (size := 1) (base := w.heap.size) wc #[] 0 HB.out.size (by simp) (by rfl)
                  obtain ⟨i0, hi, hz0, hz1, hz2⟩ := info_parts Try.infoU8
                  clear he hv hD hD2 hr HE3 HE5 HE6 H3
                  generalize (l.drop 8).take 244 = D at *
                  go_wp2_with (first | (go_at_call 78; first | (refine hg1.mono ?_; rintro e w1 ⟨rfl, rfl⟩; clear hg1) | (refine hg2.mono ?_; rintro e w1 ⟨rfl, rfl⟩; clear hg2)) | (at_builtin; refine wpList_append_to _ rfl (.tmp 57) (.tmp 59) _ rfl w.heap.size 5 i0 _ 1 Try.underlying22 hi hz0 hz1 hz2 rfl _ 0 [] rfl hown0 _ _ 244 _ (bv D) rfl (by rw [bv_len, h244]) hD3 (bv_one _) (by simp only [maxLen]; omega) (by omega) (by have := HB.out.size; simp; omega) ?_; intro A9 c9 w9 hown9 hg9 hb9 _; have hB9 := (HB.out.alloc HB.out.size _).trans hb9; clear hg9 hb9))
                  go_ret2
                  simp only [Nat.zero_add, List.nil_append] at hown9
                  exact ⟨A9, c9, by rw [HEF.out, HVF.out, bv_len, H244.out]; rfl, by rw [HVF.out, bv_len, H244.out]; exact hown9, hB9⟩
                · have he := HE5.out HN.out HKK.out (by omega)
                  have hv := HBAD.out 7 (by decide) he
                  have HEF := Lib.hid he
                  have HVF := Lib.hid hv
                  have d7 : ((x7 : Int) != 0) = true := by simp; omega
                  clear he hv hr HE3 HE5 HE6 H3 hx7
                  go_wp2_with (go_at_call 78; first | (refine hg1.mono ?_; rintro e w1 ⟨rfl, rfl⟩; clear hg1) | (refine hg2.mono ?_; rintro e w1 ⟨rfl, rfl⟩; clear hg2))
                  go_ret2
                  exact ⟨none, 0, by rw [HEF.out, HVF.out]; rfl, by rw [HVF.out]; exact World.ownsRow_nil _ _ _ _, HB.out⟩
              · have he := HE5.out HN.out HKK.out (by omega)
                have hv := HBAD.out 7 (by decide) he
                have HEF := Lib.hid he
                have HVF := Lib.hid hv
                have d6 : ((x6 : Int) != 0) = true := by simp; omega
                clear he hv hr HE3 HE5 HE6 H3 hx6
                go_wp2_with (go_at_call 78; first | (refine hg1.mono ?_; rintro e w1 ⟨rfl, rfl⟩; clear hg1) | (refine hg2.mono ?_; rintro e w1 ⟨rfl, rfl⟩; clear hg2))
                go_ret2
                exact ⟨none, 0, by rw [HEF.out, HVF.out]; rfl, by rw [HVF.out]; exact World.ownsRow_nil _ _ _ _, HB.out⟩
            · have he := HE3.out HN.out hK
              have hv := HBAD.out 6 (by decide) he
              have HEF := Lib.hid he
              have HVF := Lib.hid hv
              have dK : ((K : Int) != k) = true := by simpa using hK
              clear he hv hr HE3 HE5 HE6 H3 hK
              go_wp2_with (go_at_call 78; first | (refine hg1.mono ?_; rintro e w1 ⟨rfl, rfl⟩; clear hg1) | (refine hg2.mono ?_; rintro e w1 ⟨rfl, rfl⟩; clear hg2))
              go_ret2
              exact ⟨none, 0, by rw [HEF.out, HVF.out]; rfl, by rw [HVF.out]; exact World.ownsRow_nil _ _ _ _, HB.out⟩
          · have he := H3.out hN
            have hv := HBAD.out 5 (by decide) he
            have HEF := Lib.hid he
            have HVF := Lib.hid hv
            have dN : ((N : Int) != n) = true := by simpa using hN
            clear he hv hr HE3 HE5 HE6 H3 hN
            go_wp2_with (go_at_call 78; refine hg1.mono ?_; rintro e w1 ⟨rfl, rfl⟩)
            go_ret2
            exact ⟨none, 0, by rw [HEF.out, HVF.out]; rfl, by rw [HVF.out]; exact World.ownsRow_nil _ _ _ _, HB.out⟩
    · have he := HE.out.2.1 ⟨fun _ => hk, by omega, by omega, by omega, by omega, by omega⟩ hl
      rw [bad 7 (by decide) he, he]
      have hl' : ((l.length : Int) != 256) = true := by simp; omega
      clear bad hk he HE hl
      go_enter Try.func43, Try.ntmps43
      go_wp2_with fail
      refine (hk0 _).mono ?_
      rintro e w1 ⟨rfl, rfl⟩
      clear hk0
      go_wp2
      go_ret2
      exact ⟨none, 0, rfl, World.ownsRow_nil _ _ _ _, Below.refl _ _⟩
end Go.Proofs.Ytilkcecjciiboaa
