/-
  The statement CrcBurst of chapter 2, walked: the law's call returns true and leaves all that was there as it was.
-/
import Derived.Test.YtnebmkkaobedaaaLaw02
namespace Go.Proofs.Ytnebmkkaobedaaa
open Go.RowKit

set_option maxRecDepth 100000 in
set_option maxHeartbeats 2000000 in
theorem law_CrcBurst (A0 : Option Addr) (c0 : Nat) (l0 : List UInt8) (a1 a2 : Int) (w : World) (m0 : l0.length ≤ reachBytes) (r0 : Reads w w.heap.size A0 (bv l0)) (w1 : (Lit.int .i64 a1).wf = true) (w2 : (Lit.int .u32 a2).wf = true) :
    Calls Try.prog 4 #[.slice A0 l0.length c0, .int .i64 a1, .int .u32 a2] w fun e w' => e = .returned (.bool true) ∧ Below w.heap.size w w' := by
  simp only [reachBytes] at m0
  have hb2 : 0 ≤ a2 ∧ a2 < 4294967296 := by
    simp [Lit.wf, IntKind.min, IntKind.max, IntKind.bits, IntKind.signed] at w2; omega
  have hw1 := wf_i64 w1
  clear w1 w2
  by_cases hg : 3000 < l0.length ∨ a2 = 0 ∨ a1 < 0 ∨ 8 * (l0.length : Int) < a1
  · by_cases h1 : 3000 < l0.length
    · go_enter Try.func4, Try.ntmps4
      go_wp2_with fail
      refine (lives02 _).mono ?_
      rintro e w1 ⟨rfl, hb1⟩
      go_wp2
      go_ret
      exact ⟨rfl, hb1⟩
    · by_cases h2 : a2 = 0
      · subst h2
        clear hg
        go_enter Try.func4, Try.ntmps4
        go_wp2_with fail
        refine (lives02 _).mono ?_
        rintro e w1 ⟨rfl, hb1⟩
        go_wp2
        go_ret
        exact ⟨rfl, hb1⟩
      · have h2' : (a2 == 0) = false := by simpa using h2
        by_cases h3 : a1 < 0
        · clear hg h2
          go_enter Try.func4, Try.ntmps4
          go_wp2_with fail
          refine (lives02 _).mono ?_
          rintro e w1 ⟨rfl, hb1⟩
          go_wp2
          go_ret
          exact ⟨rfl, hb1⟩
        · have h4 : 8 * (l0.length : Int) < a1 := by omega
          clear hg h2
          go_enter Try.func4, Try.ntmps4
          go_wp2_with fail
          refine (lives02 _).mono ?_
          rintro e w1 ⟨rfl, hb1⟩
          go_wp2
          go_ret
          exact ⟨rfl, hb1⟩
  · obtain ⟨at_, rfl⟩ := Int.eq_ofNat_of_zero_le (show 0 ≤ a1 by omega)
    obtain ⟨bits, rfl⟩ := Int.eq_ofNat_of_zero_le hb2.1
    have hl : l0.length ≤ 3000 := by omega
    have hat : at_ ≤ 8 * l0.length := by omega
    have hbit : bits < 4294967296 := by omega
    have hz : ((bits : Int) == 0) = false := by simp; omega
    clear hg hw1 hb2 m0
    obtain ⟨i0, hi, hz0, hz1, hz2⟩ := info_parts Try.infoU8
    go_enter Try.func4, Try.ntmps4
    have hown0 := World.ownsRow_lit (e := 5) (size := 1) (base := w.heap.size) w #[] 0 (Nat.le_refl _) (by simp) (by rfl)
    go_wp2_with (at_builtin; refine wpList_append_to _ rfl (.tmp 29) (.tmp 30) _ rfl w.heap.size 5 i0 _ 1 Try.underlying30 hi hz0 hz1 hz2 rfl _ 0 [] rfl hown0 _ A0 l0.length c0 (bv l0) rfl (bv_len l0).symm (r0.alloc (Nat.le_refl _) _) (bv_one _) (by simp only [maxLen]; omega) (by omega) (by simp) ?_; intro A' c' w2 hown2 hg2 hb2 _)
    simp only [Nat.zero_add, List.nil_append] at hown2
    have hB2 : Below w.heap.size w w2 := (below_alloc1 w _).trans hb2
    clear hg2 hb2 hown0
    go_loopw [8, 9] (fun v i wr => ∃ (k : Nat) (lk : List UInt8), k ≤ 32 ∧ i = .int .i64 k ∧ lk.length = l0.length ∧ le lk = le l0 ^^^ (2 ^ at_ * (bits % 2 ^ k)) ∧ wr.ownsRow w.heap.size 5 1 (.slice A' l0.length c') l0.length (bv lk) ∧ v = .bool (decide (bits % 2 ^ k ≠ 0)) ∧ Below w.heap.size w wr) (fun _ i _ => 32 - (intOf i).toNat)
    case atStart => exact ⟨0, l0, by omega, rfl, rfl, by simp [Nat.mod_one], hown2, by simp [Nat.mod_one], hB2⟩
    case round =>
      obtain ⟨k, lk, hk, rfl, hlk, hle, hown, rfl, hbr⟩ := hrel
      have HLE := Lib.hid hle
      have HLK := Lib.hid hlk
      by_cases hgo : k < 32 ∧ at_ + k < 8 * l0.length
      · obtain ⟨hk1, hk2⟩ := hgo
        have hi1 : (at_ + k) / 8 < l0.length := by omega
        obtain ⟨g, rfl⟩ : ∃ g, A' = some ⟨g, 0, none⟩ := by
          obtain ⟨g, cap, hv, _, _⟩ := hown.form (by omega)
          injection hv with h1
          exact ⟨g, h1⟩
        have hcell := hown.cellAt ((at_ + k) / 8) (by omega)
        rw [bv_get lk _ (by omega)] at hcell
        have hfro := hown.frozenAt ((at_ + k) / 8)
        have hset := le_set lk ((at_ + k) / 8) (by omega) ((at_ + k) % 8) (by omega)
        have HSET := Lib.hid hset
        have hyb := lk[(at_ + k) / 8].toNat_lt
        clear hset
        generalize hy : lk[(at_ + k) / 8] = y at *
        clear hy
        clear hle hlk hk hi1 hown2
        generalize hsm : decide (bits % 2 ^ k ≠ 0) = sm at *
        have HSM := Lib.hid (show Value.bool sm = .bool (decide (bits % 2 ^ k ≠ 0)) by rw [hsm])
        clear hsm
        generalize hyn : y.toNat = yn at *
        have HYN := Lib.hid hyn
        clear hyn
        have hbt : Go.bits .and .u32 ((bits : Int) / 2 ^ k) 1 = ((bits / 2 ^ k % 2 : Nat) : Int) := by
          rw [show ((bits : Int) / 2 ^ k) = ((bits / 2 ^ k : Nat) : Int) by simp]
          exact u32_and1 _ (Nat.lt_of_le_of_lt (Nat.div_le_self _ _) hbit)
        have hst : Go.bits .xor .u8 (yn : Int) ((2 : Int) ^ ((at_ + k) % 8) % 256) = ((yn ^^^ 2 ^ ((at_ + k) % 8) : Nat) : Int) := by
          have hp : (2 : Nat) ^ ((at_ + k) % 8) < 256 := Nat.lt_of_lt_of_le (Nat.pow_lt_pow_right (by omega) (show (at_ + k) % 8 < 8 by omega)) (by decide)
          rw [show ((2 : Int) ^ ((at_ + k) % 8) % 256) = ((2 ^ ((at_ + k) % 8) : Nat) : Int) by
            rw [show ((2 : Int) ^ ((at_ + k) % 8)) = ((2 ^ ((at_ + k) % 8) : Nat) : Int) by simp]
            exact Int.emod_eq_of_lt (Int.natCast_nonneg _) (Int.ofNat_lt.2 hp)]
          exact u8_xor_nat _ _ hyb hp
        have HB0 : Hid (bits / 2 ^ k % 2 = 0 → bits % 2 ^ (k + 1) = bits % 2 ^ k) := burst_zero bits k
        have HB1 : Hid (bits / 2 ^ k % 2 = 1 → bits % 2 ^ (k + 1) ≠ 0) := burst_pos bits k
        have HB2 : Hid (bits / 2 ^ k % 2 = 1 → le l0 ^^^ (2 ^ at_ * (bits % 2 ^ k)) ^^^ 2 ^ (at_ + k) = le l0 ^^^ (2 ^ at_ * (bits % 2 ^ (k + 1)))) := burst_succ (le l0) at_ bits k
        have ht2 : bits / 2 ^ k % 2 < 2 := by omega
        generalize bits / 2 ^ k % 2 = t at *
        by_cases ht : t = 1
        · subst ht
          go_wp2_with fail
          go_region
          have hst2 := (hown.stored ((at_ + k) / 8) (.int .u8 ((yn ^^^ 2 ^ ((at_ + k) % 8) : Nat) : Int))).1
          have hB3 := (hbr.setCell (p := ⟨g, (at_ + k) / 8, none⟩) (hown.lt g rfl).1 (.int .u8 ((yn ^^^ 2 ^ ((at_ + k) % 8) : Nat) : Int))).drew
          have hst3 := hst2.drew
          clear hst2 hst hbt hcell hfro
          generalize (wr.setCell ⟨g, (at_ + k) / 8, none⟩ (.int .u8 ((yn ^^^ 2 ^ ((at_ + k) % 8) : Nat) : Int))).drew = w3 at *
          go_wp2
          go_roundw
          case rel =>
            refine ⟨k + 1, lk.set ((at_ + k) / 8) (y ^^^ UInt8.ofNat (2 ^ ((at_ + k) % 8))), by omega, by go_num, by rw [List.length_set]; exact HLK.out, ?_, ?_, ?_, hB3⟩
            · rw [HSET.out, HLE.out, show 8 * ((at_ + k) / 8) + (at_ + k) % 8 = at_ + k by omega]
              exact HB2.out trivial
            · have he : (bv lk).set ((at_ + k) / 8) (.int .u8 ((yn ^^^ 2 ^ ((at_ + k) % 8) : Nat) : Int)) = bv (lk.set ((at_ + k) / 8) (y ^^^ UInt8.ofNat (2 ^ ((at_ + k) % 8)))) := by
                unfold bv
                rw [List.map_set]
                congr 2
                rw [UInt8.toNat_xor, HYN.out, UInt8.toNat_ofNat', Nat.mod_eq_of_lt (show 2 ^ ((at_ + k) % 8) < 2 ^ 8 from Nat.pow_lt_pow_right (by omega) (by omega))]
              rw [← he]
              exact hst3
            · rw [decide_eq_true (HB1.out trivial)]
          case measure => simp [intOf]; omega
        · obtain rfl : t = 0 := by omega
          clear ht
          go_wp2
          go_roundw
          case rel => exact ⟨k + 1, lk, by omega, by go_num, HLK.out, by rw [HB0.out rfl]; exact HLE.out, hown, by rw [HB0.out rfl]; exact HSM.out, hbr⟩
          case measure => simp [intOf]; omega
      · have HK := Lib.hid (show ¬ (k < 32 ∧ at_ + k < 8 * l0.length) from hgo)
        have hiff := crc_burst l0 lk at_ (bits % 2 ^ k) hlk hat (Nat.lt_of_le_of_lt (Nat.mod_le _ _) hbit) hle
        have hrk := Reads.of_own hown
        have hr0 := (r0.below hbr).more hbr.size
        have hfk : lk.length ≤ maxLen := by simp only [maxLen]; omega
        have hf0 : l0.length ≤ maxLen := by simp only [maxLen]; omega
        have hc1 := crcM_lt 0 (by omega) lk
        have hc2 := crcM_lt 0 (by omega) l0
        clear hle hlk hown hown2
        have key : ∃ sm : Bool, decide (bits % 2 ^ k ≠ 0) = sm ∧ (((crcM 0 lk : Nat) : Int) != ((crcM 0 l0 : Nat) : Int)) = sm := by
          refine ⟨_, rfl, ?_⟩
          by_cases h0 : bits % 2 ^ k = 0
          · have := hiff.2 h0
            simp [h0, this]
          · have : crcM 0 lk ≠ crcM 0 l0 := fun e => h0 (hiff.1 e)
            simp [h0]
            omega
        obtain ⟨sm, hsm1, hsm2⟩ := key
        rw [hsm1]
        clear hsm1 hiff
        have HSM2 := Lib.hid hsm2
        clear hsm2
        go_wp2_with fail
        all_goals
          refine (sum_any _ 1 _ [lk] _ rfl (by simp [maxLen]) ((Pieces.one 30 _ _ HLK.out.symm hrk hfk).more (by simp))).mono ?_
          rintro e w3 ⟨rfl, hb3⟩
          have hb3' := below_then (below_alloc1 wr _) hb3
          have hB3 := hbr.trans (hb3'.mono hbr.size)
          have hr3 := hr0.ext hb3'
          clear hb3 hb3' hr0 hrk
          rw [show [lk].flatten = lk by simp]
          go_wp2_with fail
          refine (sum_any _ 1 _ [l0] _ rfl (by simp [maxLen]) ((Pieces.one 30 _ _ rfl hr3 hf0).more (by simp))).mono ?_
          rintro e w4 ⟨rfl, hb4⟩
          have hb4' := below_then (below_alloc1 w3 _) hb4
          have hB4 := hB3.trans (hb4'.mono hB3.size)
          clear hb4 hb4' hr3 hB3
          rw [show [l0].flatten = l0 by simp]
          have hne := HSM2.out
          generalize ((crcM 0 lk : Nat) : Int) = x at *
          generalize ((crcM 0 l0 : Nat) : Int) = y at *
          go_wp2_with fail
          refine (lives02 _).mono ?_
          rintro e w5 ⟨rfl, hb5⟩
          go_wp2
          go_ret
          exact ⟨rfl, hB4.trans (hb5.mono hB4.size)⟩
end Go.Proofs.Ytnebmkkaobedaaa
