/-
  Chapter 45's PackReads, walked.
-/
import Derived.Test.YtcnalndhlonblaaLaw45
import Derived.Test.YtcnalndhlonblaaPk4
import Derived.Test.YtcnalndhlonblaaPk8
import Derived.Deep.RegionLaw
namespace Go.Proofs.Ytcnalndhlonblaa
open Go.RowKit
theorem Reads.at_kept {w w' : World} {B b : Nat} {xs : List Value} (h : Reads w B (some ⟨b, 0, none⟩) xs) {row : Option Nat} (hg : w.grownBy w' row) (hb : b < w.heap.size) (hr : row ≠ some b) : Reads w' B (some ⟨b, 0, none⟩) xs := fun hn => by
  obtain ⟨ad, e, hlt, hc⟩ := h hn
  injection e with e
  subst e
  exact ⟨_, rfl, hlt, fun j u hu => (World.cell?_of_block (a := (⟨b, 0, none⟩ : Addr).add j) (by rw [block_add]; exact hg.block b hb (fun e => hr e.symm))).trans (hc j u hu)⟩
set_option maxRecDepth 100000 in
set_option maxHeartbeats 4000000 in
theorem law_PackReads (A0 : Option Addr) (c0 : Nat) (l0 : List UInt8) (a1 : Bool) (w : World) (q0 : l0.length ≤ c0) (_m0 : l0.length ≤ reachBytes) (r0 : Reads w w.heap.size A0 (bv l0)) :
    Calls Try.prog 8 #[.slice A0 l0.length c0, .bool a1] w fun e w' => e = .returned (.bool true) ∧ Below w.heap.size w w' := by
  obtain ⟨i0, hi, hz0, hz1, hz2⟩ := info_parts Try.infoByte
  go_enter Try.func8, Try.ntmps8
  by_cases h1 : 4000 < l0.length
  · have d1 : decide (4000 < (l0.length : Int)) = true := decide_eq_true (by omega)
    clear r0
    go_wp2_with fail
    refine (lives45 _).mono ?_
    rintro e w5 ⟨rfl, hb⟩
    go_wp2
    go_ret
    exact ⟨rfl, hb⟩
  have d1 : decide (4000 < (l0.length : Int)) = false := decide_eq_false (by omega)
  go_upto_region 3 with fail
  go_cut [18] (fun s18 wx => w = wx ∧ ∃ q : Bool, s18 = .bool q ∧ (q = true → 4 ≤ l0.length))
  case first =>
    cases a1 with
    | false =>
      go_wp2
      go_meet
      exact ⟨rfl, _, rfl, fun h => by cases h⟩
    | true =>
      by_cases h4 : 4 ≤ l0.length
      · have i3 : (4 : Int) ≤ (l0.length : Int) := by omega
        have H4 := Lib.hid h4
        go_wp2
        go_meet
        exact ⟨rfl, _, rfl, fun _ => H4.out⟩
      · have d2 : decide ((4 : Int) ≤ (l0.length : Int)) = false := decide_eq_false (by omega)
        have H4 := Lib.hid h4
        clear h4
        go_wp2
        go_meet
        exact ⟨rfl, _, rfl, fun h => by cases h⟩
  case rest =>
  obtain ⟨rfl, q, rfl, hq⟩ := hcut
  go_upto_if 18 with fail
  go_cut [0] (fun s0 wx => ∃ (s : List UInt8) (A : Option Addr) (c : Nat), s0 = .slice A s.length c ∧ s.length ≤ 4000 ∧ s.length ≤ c ∧ Reads wx wx.heap.size A (bv s) ∧ Below w.heap.size w wx)
  case first =>
    cases q with
    | false =>
      have HFIN := Lib.hid (show ∃ (s : List UInt8) (A : Option Addr) (c : Nat), Value.slice A0 l0.length c0 = .slice A s.length c ∧ s.length ≤ 4000 ∧ s.length ≤ c ∧ Reads w w.heap.size A (bv s) ∧ Below w.heap.size w w from ⟨l0, A0, c0, rfl, by omega, q0, r0, Below.refl _ _⟩)
      clear r0
      go_wp2
      go_meet
      exact HFIN.out
    | true =>
      have h4 := hq rfl
      obtain ⟨k, hk⟩ : ∃ k, l0.length = k + 4 := ⟨l0.length - 4, by omega⟩
      have hkl : (l0.take k).length = k := by rw [List.length_take]; omega
      have KS := sealed_any A0 c0 (l0.take k) w (by omega) (by rw [← bv_take]; exact r0.take k)
      rw [hkl] at KS
      have HSL := Lib.hid (show (sumB (l0.take k)).length = k + 4 by rw [sumB_len, hkl])
      obtain ⟨T, hT⟩ : ∃ T, T = sumB (l0.take k) := ⟨_, rfl⟩
      rw [← hT] at KS HSL
      have KS := Lib.hid KS
      rw [hk] at h1 d1 q0
      rw [hk]
      have i1 : (k : Int) ≤ (c0 : Int) := by omega
      have i2 : k ≤ c0 := by omega
      have i3 : (4 : Int) ≤ (k : Int) + 4 := by omega
      clear hk hkl hT r0 h4 hq
      go_wp2_with fail
      refine KS.out.mono ?_
      rintro e w1 ⟨A1, c1, rfl, hown1, hb1⟩
      rw [bv_len, HSL.out] at hown1
      rw [bv_len, HSL.out]
      have HC := Lib.hid (own_capP hown1 (by omega))
      have HR := Lib.hid (Reads.of_own hown1)
      have HB := Lib.hid hb1
      clear hown1 hb1 KS
      go_wp2
      go_meet
      exact ⟨T, A1, c1, by rw [HSL.out], by rw [HSL.out]; omega, by rw [HSL.out]; exact HC.out, HR.out, HB.out⟩
  case rest =>
    obtain ⟨s, A, c, rfl, hs4, hsc, hr, hB⟩ := hcut
    have HR1 := Lib.hid hr
    have HB1 := Lib.hid hB
    clear r0 hr hB h1 d1 q0
    go_upto_region 5 with fail
    go_cut [51] (fun s51 wx => wc = wx ∧ ∃ q : Bool, s51 = .bool q ∧ (q = true → 16 ≤ s.length))
    case first =>
      by_cases h16 : 16 ≤ s.length
      · obtain ⟨ad, rfl, -, c8⟩ := HR1.out.byte (show 8 < s.length by omega)
        obtain ⟨ad9, e9, -, c9⟩ := HR1.out.byte (show 9 < s.length by omega)
        obtain rfl : ad = ad9 := by injection e9
        obtain ⟨ad10, e10, -, c10⟩ := HR1.out.byte (show 10 < s.length by omega)
        obtain rfl : ad = ad10 := by injection e10
        obtain ⟨ad11, e11, -, c11⟩ := HR1.out.byte (show 11 < s.length by omega)
        obtain rfl : ad = ad11 := by injection e11
        have i1 : (16 : Int) ≤ (s.length : Int) := by omega
        have i2 : 16 ≤ s.length := h16
        have c8' : wc.cell? ⟨ad.block, ad.off + 8, none⟩ = _ := c8
        have c9' : wc.cell? ⟨ad.block, ad.off + 9, none⟩ = _ := c9
        have c10' : wc.cell? ⟨ad.block, ad.off + 10, none⟩ = _ := c10
        have c11' : wc.cell? ⟨ad.block, ad.off + 11, none⟩ = _ := c11
        clear c8 c9 c10 c11
        generalize s[8].toNat = x8 at *
        generalize s[9].toNat = x9 at *
        generalize s[10].toNat = x10 at *
        generalize s[11].toNat = x11 at *
        clear e9 e10 e11
        have H16 := Lib.hid h16
        cases h9 : decide (1 < x9) <;> cases h10 : decide (0 < x10) <;> cases h11 : decide (0 < x11) <;> cases h8 : decide (1 < x8)
        all_goals
          go_wp2
          all_goals
            go_meet
            exact ⟨rfl, _, rfl, fun _ => H16.out⟩
      · have d2 : decide ((16 : Int) ≤ (s.length : Int)) = false := decide_eq_false (by omega)
        go_wp2
        go_meet
        exact ⟨rfl, _, rfl, fun h => by cases h⟩
    case rest =>
      obtain ⟨rfl, q, rfl, hq⟩ := hcut
      go_upto_if 51 with fail
      go_cut [0] (fun s0 wx => ∃ (s : List UInt8) (A : Option Addr) (c : Nat), s0 = .slice A s.length c ∧ s.length ≤ 4000 ∧ s.length ≤ c ∧ Reads wx wx.heap.size A (bv s) ∧ Below w.heap.size w wx)
      case first =>
        cases q with
        | false =>
          go_wp2
          go_meet
          exact ⟨s, A, c, rfl, hs4, hsc, HR1.out, HB1.out⟩
        | true =>
          have h16 := hq rfl
          obtain ⟨k, hk⟩ : ∃ k, s.length = k + 12 := ⟨s.length - 12, by omega⟩
          have hkl : (s.drop 12).length = k := by rw [List.length_drop]; omega
          obtain ⟨ad, rfl, -⟩ := HR1.out.at_ (k := 0) (by rw [bv_len]; omega)
          have HR9 := Lib.hid (show Reads wc wc.heap.size (some ad) (bv (s.take 9)) by rw [← bv_take]; exact HR1.out.take 9)
          have HL9 := Lib.hid (show 9 = (bv (s.take 9)).length by rw [bv_len, List.length_take]; omega)
          have HRD := Lib.hid (HR1.out.drop' (k := 12) hsc)
          have HLD := Lib.hid (show k = (bv (s.drop 12)).length by rw [bv_len, hkl])
          obtain ⟨T9, hT9⟩ : ∃ T, T = s.take 9 := ⟨_, rfl⟩
          obtain ⟨TD, hTD⟩ : ∃ T, T = s.drop 12 := ⟨_, rfl⟩
          rw [← hT9] at HR9 HL9
          rw [← hTD] at HRD HLD
          rw [hk] at hs4 hsc
          rw [hk]
          have i1 : (9 : Int) ≤ (c : Int) := by omega
          have i2 : (12 : Int) ≤ (c : Int) := by omega
          clear hk hkl hT9 hTD hq h16
          have HOA := Lib.hid (World.ownsRow_lit (e := 5) (size := 1) (base := wc.heap.size) wc #[] 0 (by simp) (by simp) (by rfl)).drew
          have HOB := Lib.hid ((World.ownsRow_lit (e := 5) (size := 1) (base := wc.heap.size) wc #[] 0 (by simp) (by simp) (by rfl)).alloc (.cells #[.int .u8 0, .int .u8 0, .int .u8 0] 5)).drew
          have hsZ : (wc.alloc (.cells #[.int .u8 0, .int .u8 0, .int .u8 0] 5)).heap.size = wc.heap.size + 1 := by simp
          have hsE : (wc.alloc (.cells #[] 5)).heap.size = wc.heap.size + 1 := by simp
          have hoc := (World.ownsRow_lit (e := 5) (size := 1) (base := wc.heap.size) (wc.alloc (.cells #[.int .u8 0, .int .u8 0, .int .u8 0] 5)) #[] 0 (by simp) (by simp) (by rfl)).drew
          rw [hsZ] at hoc
          have HOC := Lib.hid hoc
          clear hoc
          have HBA := Lib.hid ((((Below.refl wc.heap.size wc)).alloc (Nat.le_refl _) (.cells #[] 5)).drew)
          have HBB := Lib.hid (((((Below.refl wc.heap.size wc)).alloc (Nat.le_refl _) (.cells #[] 5)).alloc (by simp) (.cells #[.int .u8 0, .int .u8 0, .int .u8 0] 5)).drew)
          have HBC := Lib.hid (((((Below.refl wc.heap.size wc)).alloc (Nat.le_refl _) (.cells #[.int .u8 0, .int .u8 0, .int .u8 0] 5)).alloc (by simp) (.cells #[] 5)).drew)
          have hzb := (Reads.new (wc.alloc (.cells #[] 5)) [Value.int .u8 0, .int .u8 0, .int .u8 0] 5 (0, 0)).drew
          rw [hsE] at hzb
          have HZB := Lib.hid hzb
          clear hzb hsZ hsE
          have HZC := Lib.hid (((Reads.new wc [Value.int .u8 0, .int .u8 0, .int .u8 0] 5 (0, 0)).alloc (by simp) (.cells #[] 5)).drew)
          have i3 : (12 : Int) ≤ (k : Int) + 12 := by omega
          have hx : ∃ AX : Option Addr, Hid (Reads wc wc.heap.size AX (bv TD)) ∧ ((c = 12 ∧ k = 0 ∧ AX = some ad) ∨ (¬ c = 12 ∧ AX = some ⟨ad.block, ad.off + 12, none⟩)) := by
            by_cases hc12 : c = 12
            · rw [if_pos hc12] at HRD
              exact ⟨_, HRD, .inl ⟨hc12, by omega, rfl⟩⟩
            · rw [if_neg hc12] at HRD
              exact ⟨_, HRD, .inr ⟨hc12, rfl⟩⟩
          clear HRD
          obtain ⟨AX, HRD, hsplit⟩ := hx
          rcases hsplit with ⟨rfl, rfl, rfl⟩ | ⟨hc12, rfl⟩
          all_goals
            go_wp2_with fail
            go_region_law (first
              | (refine step_append_loc _ rfl (.tmp 52) (.tmp 54) _ rfl wc.heap.size 5 i0 _ 1 Try.underlying43 hi hz0 hz1 hz2 rfl _ 0 [] rfl HOA.out _ _ 9 _ (bv T9) rfl HL9.out (HR9.out.below HBA.out) (bv_one _) (by simp only [maxLen]; omega) (by omega) (by simp) ?_; intro A7 c7 w7 hown7 hg7 hb7 hl7; rw [Nat.zero_add, List.nil_append] at hown7; have HO7 := Lib.hid (hown7.alloc (.cells #[.int .u8 0, .int .u8 0, .int .u8 0] 5)); have HB7 := Lib.hid ((HBA.out.trans hb7).alloc (HBA.out.trans hb7).size (.cells #[.int .u8 0, .int .u8 0, .int .u8 0] 5)); have HN7 := Lib.hid (Reads.new w7 [Value.int .u8 0, .int .u8 0, .int .u8 0] 5 (0, 0)); clear hown7 hg7 hb7 hl7)
              | (refine step_append_loc _ rfl (.tmp 52) (.tmp 54) _ rfl wc.heap.size 5 i0 _ 1 Try.underlying43 hi hz0 hz1 hz2 rfl _ 0 [] rfl HOB.out _ _ 9 _ (bv T9) rfl HL9.out (HR9.out.below HBB.out) (bv_one _) (by simp only [maxLen]; omega) (by omega) (by simp; omega) ?_; intro A7 c7 w7 hown7 hg7 hb7 hl7; rw [Nat.zero_add, List.nil_append] at hown7; have HO7 := Lib.hid hown7; have HB7 := Lib.hid (HBB.out.trans hb7); have HN7 := Lib.hid (HZB.out.at_kept (row := some wc.heap.size) hg7 (by simp) (by simp)); clear hown7 hg7 hb7 hl7)
              | (refine step_append_loc _ rfl (.tmp 52) (.tmp 54) _ rfl wc.heap.size 5 i0 _ 1 Try.underlying43 hi hz0 hz1 hz2 rfl _ 0 [] rfl HOC.out _ _ 9 _ (bv T9) rfl HL9.out (HR9.out.below HBC.out) (bv_one _) (by simp only [maxLen]; omega) (by omega) (by simp; omega) ?_; intro A7 c7 w7 hown7 hg7 hb7 hl7; rw [Nat.zero_add, List.nil_append] at hown7; have HO7 := Lib.hid hown7; have HB7 := Lib.hid (HBC.out.trans hb7); have HN7 := Lib.hid (HZC.out.at_kept (row := some (wc.heap.size + 1)) hg7 (by simp; omega) (by simp)); clear hown7 hg7 hb7 hl7)
              | (refine step_append_loc _ rfl (.tmp 55) (.tmp 56) _ rfl wc.heap.size 5 i0 _ 1 Try.underlying43 hi hz0 hz1 hz2 rfl _ 9 (bv T9) rfl HO7.out _ _ 3 3 [Value.int .u8 0, .int .u8 0, .int .u8 0] rfl rfl HN7.out (by simp [Value.oneCell']) (by simp only [maxLen]; omega) (by omega) HB7.out.size ?_; intro A8 c8 w8 hown8 hg8 hb8 hl8; have HO8 := Lib.hid hown8; have HB8 := Lib.hid (HB7.out.trans hb8); have HRD8 := Lib.hid (HRD.out.below (HB7.out.trans hb8)); clear hown8 hg8 hb8 hl8)
              | (refine step_append_loc _ rfl (.tmp 57) (.tmp 59) _ rfl wc.heap.size 5 i0 _ 1 Try.underlying43 hi hz0 hz1 hz2 rfl _ 12 _ rfl HO8.out _ _ _ _ (bv TD) rfl HLD.out HRD8.out (bv_one _) (by simp only [maxLen]; omega) (by omega) HB8.out.size ?_; intro A9 c9 w9 hown9 hg9 hb9 hl9; have HO9 := Lib.hid hown9; have HB9 := Lib.hid (HB8.out.trans hb9); clear hown9 hg9 hb9 hl9))
            all_goals
              go_wp2
              go_meet
              have h9 := HO9.out
              rw [show bv T9 ++ [Value.int .u8 0, .int .u8 0, .int .u8 0] ++ bv TD = bv (T9 ++ [0, 0, 0] ++ TD) by simp [bv]] at h9
              have hl := HL9.out
              have hl2 := HLD.out
              rw [bv_len] at hl hl2
              have hln : (T9 ++ [0, 0, 0] ++ TD).length = 12 + TD.length := by rw [List.length_append, List.length_append, ← hl]; show 9 + 3 + TD.length = _; omega
              rw [← hl2] at hln
              exact ⟨T9 ++ [0, 0, 0] ++ TD, A9, c9, by rw [hln], by rw [hln]; omega, by rw [hln]; exact own_capP h9 (by omega), Reads.of_own h9, below_then HB1.out HB9.out⟩
      case rest =>
        clear HR1 HB1 hs4 hsc hq
        obtain ⟨s, A, c, rfl, hs4, hsc, hr, hB⟩ := hcut
        have HR2 := Lib.hid hr
        have HB2 := Lib.hid hB
        have KU := Lib.hid (unpackI_any A c s (by omega) hsc wc hr)
        have KR := Lib.hid (fun W (hb : Below wc.heap.size wc W) => runp_any A c s (by omega) hsc W (hr.ext hb))
        have HPU := Lib.hid (show ∀ L, upE s = (L, 0) → Each L from fun L h => (pack_up h).2.1)
        obtain ⟨U, hU⟩ : ∃ U, U = upE s := ⟨_, rfl⟩
        rw [← hU] at KU KR HPU
        clear hr hB hU
        go_wp2_with fail
        refine KU.out.mono ?_
        rintro e W3 ⟨v, rfl, hb3, h30, h31⟩
        have K4 := Lib.hid (KR.out _ hb3)
        have HB3 := Lib.hid (below_then HB2.out hb3)
        have H30 := Lib.hid h30
        have H31 := Lib.hid h31
        clear hb3 h30 h31 KU KR
        go_wp2_with fail
        refine K4.out.mono ?_
        rintro e W4 ⟨v2, rfl, hb4, h40, h41⟩
        have HB4 := Lib.hid (below_then HB3.out hb4)
        have HW4 := Lib.hid hb4
        have H40 := Lib.hid h40
        have H41 := Lib.hid h41
        clear hb4 h40 h41 K4
        obtain ⟨L, E⟩ := U
        by_cases hE : E = 0
        · subst hE
          obtain ⟨g, Ai, ci, rfl, hI⟩ := H30.out rfl
          obtain ⟨g2, A2, c2, rfl, hR⟩ := H40.out rfl
          have HE := Lib.hid (HPU.out L rfl)
          have HI := Lib.hid (hI.below HW4.out)
          have HR := Lib.hid hR
          have b1 := Lib.hid (fun W (hb : Below W4.heap.size W4 W) => ibytes_any (HI.out.below hb))
          have b2 := Lib.hid (fun W (hb : Below W4.heap.size W4 W) => rbytes_img (HR.out.below hb) HE.out)
          have HB := Lib.hid ((Below.refl W4.heap.size W4).drew)
          obtain ⟨X, hX⟩ : ∃ X, X = L.flatten := ⟨_, rfl⟩
          rw [← hX] at b1 b2
          clear H30 H31 H40 H41 HPU hI hR HE HI HR hX
          go_wp2_with fail
          go_region_with (first
            | (go_at_call 30; refine (b1.out _ HB.out).mono ?_; rintro e w3 ⟨A3, c3, rfl, hown3, hb⟩; rw [bv_len] at hown3; rw [bv_len]; (try replace HC := Lib.hid (HC.out.ext hb)); (try clear cv2); (try have cv2 := run_conv_bytes (P := Try.prog) w3 43 9 5 Try.underlying43 Try.underlying5 Try.underlying9 X.length c4 rfl HC.out); have HA := Lib.hid (Reads.of_own hown3); have cv1 := run_conv_bytes (P := Try.prog) w3 43 9 5 Try.underlying43 Try.underlying5 Try.underlying9 X.length c3 rfl HA.out; replace HB := Lib.hid (below_then HB.out hb); clear hown3 hb)
            | (go_at_call 31; refine (b2.out _ HB.out).mono ?_; rintro e w4 ⟨A4, c4, rfl, hown4, hb⟩; rw [bv_len] at hown4; rw [bv_len]; (try replace HA := Lib.hid (HA.out.ext hb)); (try clear cv1); (try have cv1 := run_conv_bytes (P := Try.prog) w4 43 9 5 Try.underlying43 Try.underlying5 Try.underlying9 X.length c3 rfl HA.out); have HC := Lib.hid (Reads.of_own hown4); have cv2 := run_conv_bytes (P := Try.prog) w4 43 9 5 Try.underlying43 Try.underlying5 Try.underlying9 X.length c4 rfl HC.out; replace HB := Lib.hid (below_then HB.out hb); clear hown4 hb)
            | (go_at_call 19; refine (lives45 _).mono ?_; rintro e w5 ⟨rfl, hb⟩; replace HB := Lib.hid (below_then HB.out hb); clear hb))
          all_goals
            have hBf := below_then HB4.out HB.out
            go_wp2
            go_ret
            exact ⟨rfl, hBf⟩
        · obtain rfl : v = none := H31.out hE
          obtain rfl : v2 = none := H41.out hE
          have d3 : (E != E) = false := by simp
          clear H30 H31 H40 H41 hE
          go_wp2_with fail
          refine (lives45 _).mono ?_
          rintro e w5 ⟨rfl, hb⟩
          have hBf := below_then HB4.out hb
          go_wp2
          go_ret
          exact ⟨rfl, hBf⟩
end Go.Proofs.Ytcnalndhlonblaa
