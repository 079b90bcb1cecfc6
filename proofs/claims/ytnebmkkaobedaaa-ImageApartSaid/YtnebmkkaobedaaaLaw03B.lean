/-
  Chapter 3's ImageOthers, walked.
-/
import Derived.Test.YtnebmkkaobedaaaLaw03
import Derived.Test.YtnebmkkaobedaaaImg2
namespace Go.Proofs.Ytnebmkkaobedaaa
open Go.RowKit

theorem imgOf_small (b : List UInt8) (h : b.length ≤ 6000) : (imgOf b).length / 256 = b.length / 256 ∧ ∀ i, i < b.length / 256 → ((imgOf b).drop (i * 256)).take 256 = (b.drop (i * 256)).take 256 := by
  have hm : min (b.length / 256) 14400 = b.length / 256 := by omega
  unfold imgOf
  rw [hm]
  refine ⟨by rw [List.length_take]; omega, fun i hi => ?_⟩
  rw [List.drop_take, List.take_take]
  congr 1
  omega
set_option maxRecDepth 20000 in
theorem others_read (b c : List UInt8) (k : Int) (h : b.length ≤ 6000) (i : Nat) (hi : i < b.length / 256) :
    irdE (wrB (imgOf b) k c).length i = 0 ∧ irdB (wrB (imgOf b) k c) i = if wrE (imgOf b).length k c.length = 0 ∧ (i : Int) = k then c else (b.drop (i * 256)).take 256 := by
  obtain ⟨h1, h2⟩ := imgOf_small b h
  have hE : irdE (wrB (imgOf b) k c).length i = 0 := irdE_zero.2 ⟨by omega, by rw [wrB_len, h1]; omega⟩
  refine ⟨hE, ?_⟩
  unfold irdB
  rw [if_pos hE, Int.toNat_natCast]
  by_cases hw : wrE (imgOf b).length k c.length = 0
  · obtain ⟨g1, g2, g3⟩ := wrE_zero.1 hw
    obtain ⟨m, rfl⟩ := Int.eq_ofNat_of_zero_le g1
    have hwb : wrB (imgOf b) (m : Int) c = putBlk (imgOf b) m c := by unfold wrB; rw [if_pos hw]; rfl
    rw [hwb]
    have hl : (imgOf b).length / 256 = b.length / 256 := h1
    have hml : m * 256 + 256 ≤ (imgOf b).length := by omega
    unfold putBlk
    by_cases hik : (i : Int) = m
    · rw [if_pos ⟨hw, hik⟩]
      obtain rfl : i = m := by omega
      rw [List.drop_append_of_le_length (by rw [List.length_take]; omega), List.drop_of_length_le (by rw [List.length_take]; omega), List.nil_append, List.take_append_of_le_length (by omega), List.take_of_length_le (by omega)]
    · rw [if_neg (fun hh => hik hh.2), ← h2 i hi]
      rcases Nat.lt_or_ge i m with hlt | hge
      · rw [List.drop_append_of_le_length (by rw [List.length_take]; omega), List.take_append_of_le_length (by rw [List.length_drop, List.length_take]; omega), List.drop_take, List.take_take]
        congr 1
        omega
      · have : m < i := by omega
        rw [← List.append_assoc, List.drop_append]
        have hlen : (List.take (m * 256) (imgOf b) ++ c).length = m * 256 + 256 := by rw [List.length_append, List.length_take]; omega
        rw [hlen, List.drop_of_length_le (by omega), List.nil_append, List.drop_drop]
        congr 2
        omega
  · have hwb : wrB (imgOf b) k c = imgOf b := by unfold wrB; rw [if_neg hw]
    rw [hwb, if_neg (fun hh => hw hh.1), h2 i hi]
set_option maxRecDepth 100000 in
set_option maxHeartbeats 1000000 in
theorem law_ImageOthers (A0 : Option Addr) (c0 : Nat) (l0 : List UInt8) (a1 : Int) (A2 : Option Addr) (c2 : Nat) (l2 : List UInt8) (w : World)
    (q0 : l0.length ≤ c0) (m0 : l0.length ≤ reachBytes) (r0 : Reads w w.heap.size A0 (bv l0)) (_w1 : (Lit.int .i64 a1).wf = true) (_q2 : l2.length ≤ c2) (m2 : l2.length ≤ reachBytes) (r2 : Reads w w.heap.size A2 (bv l2)) :
    Calls Try.prog 12 #[.slice A0 l0.length c0, .int .i64 a1, .slice A2 l2.length c2] w fun e w' => e = .returned (.bool true) ∧ Below w.heap.size w w' := by
  have mm0 := m0
  have mm2 := m2
  simp only [reachBytes] at mm0 mm2
  by_cases h1 : 6000 < l0.length
  · have d1 : decide (6000 < (l0.length : Int)) = true := decide_eq_true (by omega)
    go_enter Try.func12, Try.ntmps12
    go_wp2_with fail
    refine (lives03 _).mono ?_
    rintro e w1 ⟨rfl, hb⟩
    go_wp2
    go_ret
    exact ⟨rfl, hb⟩
  by_cases h2 : 600 < l2.length
  · have d1 : decide (6000 < (l0.length : Int)) = false := decide_eq_false (by omega)
    have d2 : decide (600 < (l2.length : Int)) = true := decide_eq_true (by omega)
    go_enter Try.func12, Try.ntmps12
    go_wp2_with fail
    refine (lives03 _).mono ?_
    rintro e w1 ⟨rfl, hb⟩
    go_wp2
    go_ret
    exact ⟨rfl, hb⟩
  have d1 : decide (6000 < (l0.length : Int)) = false := decide_eq_false (by omega)
  have d2 : decide (600 < (l2.length : Int)) = false := decide_eq_false (by omega)
  have hof := iof_any A0 c0 l0 w q0 m0 r0
  have HS := Lib.hid (imgOf_small l0 (by omega)).1
  have HO := Lib.hid (fun k c => others_read l0 c k (by omega))
  go_enter Try.func12, Try.ntmps12
  go_wp2_with fail
  refine hof.mono ?_
  rintro e w1 ⟨g, A, c, rfl, hI, hB⟩
  clear hof
  have hw := iwrite_any hI a1 A2 c2 l2 (r2.below hB)
  go_wp2_with fail
  refine hw.mono ?_
  rintro e w2 ⟨rfl, hI2, hg⟩
  have hB2 : Below w.heap.size w w2 := hB.grown hg hB.size (fun k hk => (hI.2.1.lt k hk).1)
  have hbl := blocks_any hI2
  have hwe := @wrE_zero (imgOf l0).length l2.length a1
  rw [wrB_len] at hbl
  rw [HS.out] at hbl hwe
  have HR := Lib.hid (HO.out a1 l2)
  clear hw hg hI hB HO HS d1 d2
  generalize wrE (imgOf l0).length a1 l2.length = e0 at *
  go_upto_region 7 with fail
  go_cut [45] (fun s45 wx => s45 = .bool false ∧ w2 = wx)
  case first =>
    by_cases k0 : 0 ≤ a1
    · have b1 : decide (0 ≤ a1) = true := decide_eq_true k0
      by_cases k1 : a1 < ((l0.length / 256 : Nat) : Int)
      · have b2 : decide (a1 < ((l0.length / 256 : Nat) : Int)) = true := decide_eq_true k1
        by_cases k2 : l2.length = 256
        · have b3 : ((l2.length : Int) == 256) = true := by simp; omega
          have b4 : (e0 == 0) = true := beq_iff_eq.2 (hwe.2 ⟨k0, k1, k2⟩)
          clear hwe k2
          generalize l0.length / 256 = n at *
          go_wp2_with fail
          refine hbl.mono ?_
          rintro e w3 ⟨rfl, rfl⟩
          go_wp2
          go_meet
          exact ⟨rfl, rfl⟩
        · have b3 : ((l2.length : Int) == 256) = false := by simp; omega
          have b4 : (e0 == 0) = false := beq_eq_false_iff_ne.2 (fun h => k2 (hwe.1 h).2.2)
          clear hwe k2
          generalize l0.length / 256 = n at *
          go_wp2_with fail
          refine hbl.mono ?_
          rintro e w3 ⟨rfl, rfl⟩
          go_wp2
          go_meet
          exact ⟨rfl, rfl⟩
      · have b2 : decide (a1 < ((l0.length / 256 : Nat) : Int)) = false := decide_eq_false k1
        have b4 : (e0 == 0) = false := beq_eq_false_iff_ne.2 (fun h => k1 (hwe.1 h).2.1)
        clear hwe
        generalize l0.length / 256 = n at *
        go_wp2_with fail
        refine hbl.mono ?_
        rintro e w3 ⟨rfl, rfl⟩
        go_wp2
        go_meet
        exact ⟨rfl, rfl⟩
    · have b1 : decide (0 ≤ a1) = false := decide_eq_false k0
      have b4 : (e0 == 0) = false := beq_eq_false_iff_ne.2 (fun h => k0 (hwe.1 h).1)
      clear hwe
      go_wp2
      go_meet
      exact ⟨rfl, rfl⟩
  case rest =>
    obtain ⟨rfl, rfl⟩ := hcut
    have HW := Lib.hid hwe
    clear hwe hbl
    go_wp2_with fail
    go_loopw [9] (fun i wr => ∃ k : Nat, k ≤ l0.length / 256 ∧ i = .int .i64 k ∧ Below w2.heap.size w2 wr) (fun i _ => l0.length - (intOf i).toNat)
    case atStart => exact ⟨0, by omega, rfl, Below.refl _ _⟩
    case round =>
      obtain ⟨k, hk, rfl, hbr⟩ := hrel
      by_cases hlt : k < l0.length / 256
      · obtain ⟨hE, hX⟩ := HR.out k hlt
        have hrd := iread_any (hI2.below hbr) (k : Int)
        rw [hE, hX] at hrd
        clear hX hE
        have hBr := hB2.trans (hbr.mono hB2.size)
        have hXl : ((l0.drop (k * 256)).take 256).length = 256 := by rw [List.length_take, List.length_drop]; omega
        have hrX : Reads w w.heap.size (if c0 = 256 * k then A0 else A0.map (·.add (256 * k))) (bv ((l0.drop (k * 256)).take 256)) := by
          rw [← bv_take, ← bv_drop, Nat.mul_comm]
          exact (r0.drop (by rw [bv_len]; exact q0)).take 256
        rw [if_neg (by omega)] at hrX
        obtain ⟨ad, rfl, hadb, _⟩ := r0.at_ (k := 0) (by rw [bv_len]; omega)
        have hrX : Reads w w.heap.size (some (ad.add (256 * k))) (bv ((l0.drop (k * 256)).take 256)) := hrX
        generalize (l0.drop (k * 256)).take 256 = X at *
        have t1 : decide ((k : Int) < (l0.length : Int) / 256) = true := decide_eq_true (by omega)
        have t2 : (256 : Int) * k + 256 ≤ l0.length := by omega
        have HXL := Lib.hid hXl
        clear hXl
        have cvX := Lib.hid (fun W (hb : Below w.heap.size w W) => run_conv_bytes (P := Try.prog) W 30 9 5 Try.underlying30 Try.underlying5 Try.underlying9 256 (c0 - 256 * k) HXL.out.symm (hrX.below hb))
        by_cases hc : e0 = 0 ∧ (k : Int) = a1
        · rw [if_pos hc] at hrd
          obtain ⟨rfl, hka⟩ := hc
          have t3 : ((k : Int) == a1) = true := by simp [hka]
          have h256 : l2.length = 256 := (HW.out.1 rfl).2.2
          have H256 := Lib.hid h256
          clear hka h256
          go_wp2_with fail
          refine hrd.mono ?_
          rintro e w3 ⟨A3, c3, rfl, hown, hb3⟩
          clear hrd
          rw [bv_len] at *
          have hB3 := hBr.trans (hb3.mono hBr.size)
          have cv1 := cvX.out _ hB3
          have cv2 := run_conv_bytes (P := Try.prog) w3 30 9 5 Try.underlying30 Try.underlying5 Try.underlying9 l2.length c2 rfl (r2.below hB3)
          have cv3 := conv_own l2 rfl hown
          clear hown
          go_wp2
          go_roundw
          case rel => exact ⟨k + 1, by omega, by go_num, hbr.trans (hb3.mono hbr.size)⟩
          case measure => simp [intOf]; omega
        · rw [if_neg hc] at hrd
          by_cases he : e0 = 0
          · subst he
            have t3 : ((k : Int) == a1) = false := beq_eq_false_iff_ne.2 (fun h => hc ⟨rfl, h⟩)
            clear hc
            go_wp2_with fail
            refine hrd.mono ?_
            rintro e w3 ⟨A3, c3, rfl, hown, hb3⟩
            clear hrd
            rw [bv_len] at *
            have hB3 := hBr.trans (hb3.mono hBr.size)
            have cv1 := cvX.out _ hB3
            have cv3 := conv_own X rfl hown
            clear hown
            go_wp2
            go_roundw
            case rel => exact ⟨k + 1, by omega, by go_num, hbr.trans (hb3.mono hbr.size)⟩
            case measure => simp [intOf]; omega
          · have t3 : (e0 == 0) = false := beq_eq_false_iff_ne.2 he
            clear hc he
            go_wp2_with fail
            refine hrd.mono ?_
            rintro e w3 ⟨A3, c3, rfl, hown, hb3⟩
            clear hrd
            rw [bv_len] at *
            have hB3 := hBr.trans (hb3.mono hBr.size)
            have cv1 := cvX.out _ hB3
            have cv3 := conv_own X rfl hown
            clear hown
            go_wp2
            go_roundw
            case rel => exact ⟨k + 1, by omega, by go_num, hbr.trans (hb3.mono hbr.size)⟩
            case measure => simp [intOf]; omega
      · obtain rfl : k = l0.length / 256 := by omega
        have t1 : decide (((l0.length / 256 : Nat) : Int) < (l0.length : Int) / 256) = false := decide_eq_false (by omega)
        have hBr := hB2.trans (hbr.mono hB2.size)
        go_wp2_with fail
        refine (lives03 _).mono ?_
        rintro e w3 ⟨rfl, hb3⟩
        have hB3 := hBr.trans (hb3.mono hBr.size)
        go_wp2
        go_ret
        exact ⟨rfl, hB3⟩
end Go.Proofs.Ytnebmkkaobedaaa
