/-
  Chapter 4's SealBack, walked.
-/
import Derived.Test.YtilkcecjciiboaaSeal7
import Derived.Test.YtilkcecjciiboaaLaw04
import Derived.BigRegion
namespace Go.Proofs.Ytilkcecjciiboaa
open Go.RowKit

theorem seal_whichB {k n : Int} (hk : knownK k n = true) (l : List UInt8) (h : l.length ≤ 244) : whichB (sealB k n l) = true ∧ wkV (sealB k n l) = k ∧ wnV (sealB k n l) = n := by
  obtain ⟨h1, h2, _⟩ := seal_no hk l
  have hw : whichB (sealB k n l) = true := by
    unfold whichB
    rw [sealB_len k n l h, h1, h2, seal_open hk l h]
    rfl
  obtain ⟨e1, e2⟩ := which_yes hw
  exact ⟨hw, by rw [e1, h2], by rw [e2, h1]⟩
theorem sealE_known {k n : Int} {l : List UInt8} (h : sealE k n l = 0) : knownK k n = true ∧ l.length ≤ 244 := by
  unfold sealE at h
  split at h
  · rename_i hk
    split at h
    · rename_i hl; exact ⟨hk, hl⟩
    · cases h
  · cases h
theorem sealE_no {k n : Int} {l : List UInt8} (h : sealE k n l ≠ 0) : sealV k n l = [] := by unfold sealV; rw [if_neg h]
set_option maxRecDepth 100000 in
set_option maxHeartbeats 4000000 in
theorem law_SealBack (a0 a1 : Int) (A2 : Option Addr) (c2 : Nat) (l2 : List UInt8) (a3 a4 : Int) (w : World) (w0 : (Lit.int .i64 a0).wf = true) (w1 : (Lit.int .i64 a1).wf = true) (q2 : l2.length ≤ c2) (_m2 : l2.length ≤ reachBytes) (r2 : Reads w w.heap.size A2 (bv l2)) (w3 : (Lit.int .i64 a3).wf = true) (w4 : (Lit.int .u32 a4).wf = true) :
    Calls Try.prog 11 #[.int .i64 a0, .int .i64 a1, .slice A2 l2.length c2, .int .i64 a3, .int .u32 a4] w fun e w' => e = .returned (.bool true) ∧ Below w.heap.size w w' := by
  have r6 := r2.take 600
  rw [bv_take] at r6
  have hl6 : (l2.take 600).length = min 600 l2.length := List.length_take ..
  go_enter Try.func11, Try.ntmps11
  go_upto_if 29 with fail
  go_cut [2] (fun s2 wx => w = wx ∧ ∃ s : List UInt8, s2 = .slice A2 s.length c2 ∧ s.length ≤ c2 ∧ Reads w w.heap.size A2 (bv s))
  case first =>
    by_cases h1 : 600 < l2.length
    · have d1 : decide (600 < (l2.length : Int)) = true := decide_eq_true (by omega)
      have q1 : (600 : Int) ≤ (c2 : Int) := by omega
      go_wp2
      go_meet
      exact ⟨rfl, l2.take 600, by rw [hl6, Nat.min_eq_left (by omega)], by omega, r6⟩
    · have d1 : decide (600 < (l2.length : Int)) = false := decide_eq_false (by omega)
      go_wp2
      go_meet
      exact ⟨rfl, l2, rfl, q2, r2⟩
  case rest =>
    obtain ⟨rfl, s, rfl, hc, hr⟩ := hcut
    clear r2 r6 hl6 q2
    have k1 := seal_any a0 a1 A2 c2 s w w0 w1 hr
    by_cases he : sealE a0 a1 s = 0
    · obtain ⟨hk, hl⟩ := sealE_known he
      have hV : sealV a0 a1 s = sealB a0 a1 s := by unfold sealV; rw [if_pos he]
      rw [he, hV] at k1
      obtain ⟨y1, y2, y3⟩ := seal_whichB hk s hl
      have hSL := sealB_len a0 a1 s hl
      have k2 := fun A c W (hc : 256 ≤ c) (h : Reads W W.heap.size A (bv (sealB a0 a1 s))) => open_any A c (sealB a0 a1 s) a0 a1 W (by omega) h
      have k3 := fun A c W (hc : 256 ≤ c) (h : Reads W W.heap.size A (bv (sealB a0 a1 s))) => which_any A c (sealB a0 a1 s) W (by omega) h
      have k4 := fun A c W (hc : 256 ≤ c) (h : Reads W W.heap.size A (bv (sealB a0 a1 s))) => open_any A c (sealB a0 a1 s) a0 ((a1 + 1) % 14400) W (by omega) h
      have k5 := fun A c W (hc : 256 ≤ c) (h : Reads W W.heap.size A (bv (sealB a0 a1 s))) => open_any A c (sealB a0 a1 s) (a0 % 4 + 1) a1 W (by omega) h
      rw [hSL, seal_open hk s hl, seal_openV hk s hl] at k2
      rw [hSL, y1, y2, y3] at k3
      rw [hSL, seal_next hk s hl, openV_no (seal_next hk s hl) (by decide)] at k4
      rw [hSL, seal_kind hk s hl, openV_no (seal_kind hk s hl) (by decide)] at k5
      have k6 := fun A c W (hc : 256 ≤ c) (C : List UInt8) (hC : C.length = 256) (at_ m : Nat) (ha : at_ ≤ 2048) (hm : m < 4294967296) (he : le C = le (sealB a0 a1 s) ^^^ (2 ^ at_ * m)) (h : Reads W W.heap.size A (bv C)) => (show Calls Try.prog 42 #[.slice A 256 c, .int .i64 a0, .int .i64 a1] W (GivesE 5 (bv (openV C a0 a1)) (if m = 0 then 0 else 4) W) from by
        have := open_any A c C a0 a1 W (by omega) h
        rw [open_burst hk s hl C at_ m hC ha hm he, hC] at this
        exact this)
      have HK := Lib.hid (knownK_iff.1 hk)
      obtain ⟨pl, hpl⟩ : ∃ pl, pl = s ++ List.replicate (244 - s.length) 0 := ⟨_, rfl⟩
      have hpl2 : pl.length = 244 := by rw [hpl, List.length_append, List.length_replicate]; omega
      have HPT := Lib.hid (show pl.take s.length = s by rw [hpl]; exact List.take_left' rfl)
      have HPZ := Lib.hid (show ∀ i, s.length ≤ i → i < 244 → pl[i]? = some 0 by
        intro i h1 h2
        rw [hpl, List.getElem?_append_right h1, List.getElem?_replicate, if_pos (by omega)])
      rw [← hpl] at k2
      have HPL := Lib.hid hpl2
      have HSL := Lib.hid hSL
      clear he hV y1 y2 y3 hSL hk hpl hpl2
      generalize sealB a0 a1 s = SB at *
      go_wp2_with fail
      refine k1.mono ?_
      rintro e w5 ⟨A1, c1, rfl, hown1, hb1⟩
      rw [bv_len, HSL.out] at hown1
      rw [bv_len, HSL.out]
      have hcap := own_cap' hown1 (by omega)
      have hr1 := Reads.of_own hown1
      have q := k2 A1 c1 w5 hcap hr1
      clear k1 k2
      go_wp2_with fail
      refine q.mono ?_
      rintro e w6 ⟨A6, c6, rfl, hown6, hb6⟩
      rw [bv_len, HPL.out] at hown6
      rw [bv_len, HPL.out]
      have hcap6 := own_cap' hown6 (by omega)
      have hr6 := Reads.of_own hown6
      have hown1 := own_keep hown1 hb6
      have hB6 := below_then hb1 hb6
      have hrs6 := hr.ext hB6
      have q := k3 A1 c1 w6 hcap (Reads.of_own hown1)
      clear hb1 hb6 hr1 k3 hr hown6
      go_wp2_with fail
      refine q.mono ?_
      rintro e w7 ⟨rfl, hb7⟩
      have hown1 := own_keep hown1 hb7
      have hr7 := hr6.ext hb7
      have hrs7 := hrs6.ext hb7
      have hB7 := below_then hB6 hb7
      have hrt7 := hr7.take s.length
      rw [bv_take, HPT.out] at hrt7
      have hcs : (s.length : Int) ≤ (c6 : Int) := by omega
      clear hb7 hr6 hrs6 q hB6
      have cvA := fun m => run_conv_bytes (P := Try.prog) (w7.drewN m) 22 9 5 Try.underlying22 Try.underlying5 Try.underlying9 s.length c6 rfl (show Reads (w7.drewN m) w7.heap.size A6 (bv s) from hrt7)
      have cvB := fun m => run_conv_bytes (P := Try.prog) (w7.drewN m) 22 9 5 Try.underlying22 Try.underlying5 Try.underlying9 s.length c2 rfl (show Reads (w7.drewN m) w7.heap.size A2 (bv s) from hrs7)
      have HR7 := Lib.hid (show ∀ m, Reads (w7.drewN m) w7.heap.size A6 (bv pl) from fun m => hr7)
      have HOWN := Lib.hid (show ∀ m, (w7.drewN m).ownsRow w.heap.size 5 1 (.slice A1 256 c1) 256 (bv SB) from fun m => own_keep hown1 (below_drewN (Below.refl _ w7) m))
      have HB7 := Lib.hid (show ∀ m, Below w.heap.size w (w7.drewN m) from fun m => below_drewN hB7 m)
      clear hown1 hrs7 hrt7 hr7 hB7
      go_wp2_with fail
      go_quiet (fail)
      have hrx := HR7.out nq
      have hown := HOWN.out nq
      have hbx := HB7.out nq
      clear cvA cvB HR7 HOWN HB7
      generalize w7.drewN nq = w8 at *
      go_wp2_with fail
      go_loopw [18] (fun i wr => ∃ k : Nat, s.length ≤ k ∧ k ≤ 244 ∧ i = .int .i64 k ∧ wr = w8) (fun i _ => 244 - (intOf i).toNat)
      case atStart => exact ⟨s.length, by omega, hl, rfl, rfl⟩
      case round =>
        obtain ⟨k, hk1, hk2, rfl, rfl⟩ := hrel
        by_cases hlt : k < 244
        · obtain ⟨ad, b, rfl, -, hb, hcell⟩ := byte_at hrx (k := k) (by rw [HPL.out]; exact hlt)
          rw [HPZ.out k hk1 hlt] at hb
          injection hb with hb
          subst hb
          have hcell : wr.cell? (ad.add k) = some (.int .u8 0) := hcell
          have i0 : (0 : Int) ≤ (k : Int) := by omega
          have i1 : (k : Int) < 244 := by omega
          go_wp2
          go_roundw
          case rel => exact ⟨k + 1, by omega, by omega, by go_num, trivial⟩
          case measure => simp [intOf]; omega
        · obtain rfl : k = 244 := by omega
          obtain ⟨g1, g2, g3, g4⟩ := HK.out
          have q := k4 A1 c1 wr hcap (Reads.of_own hown)
          clear k4 hrx
          go_wp2_with fail
          refine q.mono ?_
          rintro e w9 ⟨A9, c9, rfl, -, hb9⟩
          have hown := own_keep hown hb9
          have hB9 := below_then hbx hb9
          have q := k5 A1 c1 w9 hcap (Reads.of_own hown)
          clear k5 hb9 hbx
          go_wp2_with fail
          refine q.mono ?_
          rintro e w10 ⟨A10, c10, rfl, -, hb10⟩
          have hown := own_keep hown hb10
          have hB10 := below_then hB9 hb10
          have HO := Lib.hid hown
          have HBX := Lib.hid hB10
          clear hb10 hB9 q hown hB10 g1 g2 g3 g4
          have hb2 : 0 ≤ a4 ∧ a4 < 4294967296 := by
            simp [Lit.wf, IntKind.min, IntKind.max, IntKind.bits, IntKind.signed] at w4; omega
          clear w4
          by_cases hat : 0 ≤ a3 ∧ a3 < 2048
          · obtain ⟨at_, rfl⟩ := Int.eq_ofNat_of_zero_le hat.1
            obtain ⟨bits, rfl⟩ := Int.eq_ofNat_of_zero_le hb2.1
            have hat2 : at_ < 2048 := by omega
            have hbit : bits < 4294967296 := by omega
            clear hat hb2 w3
            go_wp2_with fail
            go_loopw [23, 24] (fun v i wr => ∃ (k : Nat) (lk : List UInt8), k ≤ 32 ∧ i = .int .i64 k ∧ lk.length = 256 ∧ le lk = le SB ^^^ (2 ^ at_ * (bits % 2 ^ k)) ∧ wr.ownsRow w.heap.size 5 1 (.slice A1 256 c1) 256 (bv lk) ∧ v = .bool (decide (bits % 2 ^ k ≠ 0)) ∧ Below w.heap.size w wr) (fun _ i _ => 32 - (intOf i).toNat)
            case atStart => exact ⟨0, SB, by omega, rfl, HSL.out, by simp [Nat.mod_one], HO.out, by simp [Nat.mod_one], HBX.out⟩
            case round =>
              obtain ⟨k, lk, hk, rfl, hlk, hle, hown, rfl, hbr⟩ := hrel
              have HLE := Lib.hid hle
              have HLK := Lib.hid hlk
              by_cases hgo : k < 32 ∧ at_ + k < 2048
              · obtain ⟨hk3, hk4⟩ := hgo
                have hi1 : (at_ + k) / 8 < 256 := by omega
                obtain ⟨g, rfl⟩ : ∃ g, A1 = some ⟨g, 0, none⟩ := by
                  obtain ⟨g, cap, hv, _, _⟩ := hown.form (by omega)
                  injection hv with h1
                  exact ⟨g, h1⟩
                have hcell := hown.cellAt ((at_ + k) / 8) (by omega)
                rw [bv_get lk _ (by omega)] at hcell
                have hfro := hown.frozenAt ((at_ + k) / 8)
                have hset := le_set lk ((at_ + k) / 8) (by omega) ((at_ + k) % 8) (by omega)
                have HSET := Lib.hid hset
                have hyb := lk[(at_ + k) / 8].toNat_lt
                clear hset
                generalize hy : lk[(at_ + k) / 8] = y at *
                clear hy
                clear hle hlk hk k6
                generalize hsm : decide (bits % 2 ^ k ≠ 0) = sm at *
                have HSM := Lib.hid (show Value.bool sm = .bool (decide (bits % 2 ^ k ≠ 0)) by rw [hsm])
                clear hsm
                generalize hyn : y.toNat = yn at *
                have HYN := Lib.hid hyn
                clear hyn
                have hbt : Go.bits .and .u32 ((bits : Int) / 2 ^ k) 1 = ((bits / 2 ^ k % 2 : Nat) : Int) := by
                  rw [show ((bits : Int) / 2 ^ k) = ((bits / 2 ^ k : Nat) : Int) by simp]
                  exact u32_and1 _ (Nat.lt_of_le_of_lt (Nat.div_le_self _ _) hbit)
                have hst : Go.bits .xor .u8 (yn : Int) ((2 : Int) ^ ((at_ + k) % 8) % 256) = ((yn ^^^ 2 ^ ((at_ + k) % 8) : Nat) : Int) := by
                  have hp : (2 : Nat) ^ ((at_ + k) % 8) < 256 := Nat.lt_of_lt_of_le (Nat.pow_lt_pow_right (by omega) (show (at_ + k) % 8 < 8 by omega)) (by decide)
                  rw [show ((2 : Int) ^ ((at_ + k) % 8) % 256) = ((2 ^ ((at_ + k) % 8) : Nat) : Int) by
                    rw [show ((2 : Int) ^ ((at_ + k) % 8)) = ((2 ^ ((at_ + k) % 8) : Nat) : Int) by simp]
                    exact Int.emod_eq_of_lt (Int.natCast_nonneg _) (Int.ofNat_lt.2 hp)]
                  exact u8_xor_nat _ _ hyb hp
                have HB0 : Hid (bits / 2 ^ k % 2 = 0 → bits % 2 ^ (k + 1) = bits % 2 ^ k) := burst_zero bits k
                have HB1 : Hid (bits / 2 ^ k % 2 = 1 → bits % 2 ^ (k + 1) ≠ 0) := burst_pos bits k
                have HB2 : Hid (bits / 2 ^ k % 2 = 1 → le SB ^^^ (2 ^ at_ * (bits % 2 ^ k)) ^^^ 2 ^ (at_ + k) = le SB ^^^ (2 ^ at_ * (bits % 2 ^ (k + 1)))) := burst_succ (le SB) at_ bits k
                have ht2 : bits / 2 ^ k % 2 < 2 := by omega
                generalize bits / 2 ^ k % 2 = t at *
                by_cases ht : t = 1
                · subst ht
                  go_wp2_with fail
                  go_region
                  have hst2 := (hown.stored ((at_ + k) / 8) (.int .u8 ((yn ^^^ 2 ^ ((at_ + k) % 8) : Nat) : Int))).1
                  have hB3 := (hbr.setCell (p := ⟨g, (at_ + k) / 8, none⟩) (hown.lt g rfl).1 (.int .u8 ((yn ^^^ 2 ^ ((at_ + k) % 8) : Nat) : Int))).drew
                  have hst3 := hst2.drew
                  clear hst2 hst hbt hcell hfro
                  generalize (wr.setCell ⟨g, (at_ + k) / 8, none⟩ (.int .u8 ((yn ^^^ 2 ^ ((at_ + k) % 8) : Nat) : Int))).drew = w3 at *
                  go_wp2
                  go_roundw
                  case rel =>
                    refine ⟨k + 1, lk.set ((at_ + k) / 8) (y ^^^ UInt8.ofNat (2 ^ ((at_ + k) % 8))), by omega, by go_num, by rw [List.length_set]; exact HLK.out, ?_, ?_, ?_, hB3⟩
                    · rw [HSET.out, HLE.out, show 8 * ((at_ + k) / 8) + (at_ + k) % 8 = at_ + k by omega]
                      exact HB2.out trivial
                    · have he : (bv lk).set ((at_ + k) / 8) (.int .u8 ((yn ^^^ 2 ^ ((at_ + k) % 8) : Nat) : Int)) = bv (lk.set ((at_ + k) / 8) (y ^^^ UInt8.ofNat (2 ^ ((at_ + k) % 8)))) := by
                        unfold bv
                        rw [List.map_set]
                        congr 2
                        rw [UInt8.toNat_xor, HYN.out, UInt8.toNat_ofNat', Nat.mod_eq_of_lt (show 2 ^ ((at_ + k) % 8) < 2 ^ 8 from Nat.pow_lt_pow_right (by omega) (by omega))]
                      rw [← he]
                      exact hst3
                    · rw [decide_eq_true (HB1.out trivial)]
                  case measure => simp [intOf]; omega
                · obtain rfl : t = 0 := by omega
                  clear ht
                  go_wp2
                  go_roundw
                  case rel => exact ⟨k + 1, lk, by omega, by go_num, HLK.out, by rw [HB0.out rfl]; exact HLE.out, hown, by rw [HB0.out rfl]; exact HSM.out, hbr⟩
                  case measure => simp [intOf]; omega
              · have q := k6 A1 c1 wr hcap lk hlk at_ (bits % 2 ^ k) (by omega) (Nat.lt_of_le_of_lt (Nat.mod_le _ _) hbit) hle (Reads.of_own hown)
                clear k6 hle hlk hown
                generalize openV lk a0 a1 = Y at *
                by_cases h0 : bits % 2 ^ k = 0
                · rw [if_pos h0] at q
                  rw [show decide (bits % 2 ^ k ≠ 0) = false from decide_eq_false (fun h => h h0)]
                  clear h0
                  by_cases hk3 : k < 32
                  · have hk4 : ¬ (at_ + k < 2048) := fun h => hgo ⟨hk3, h⟩
                    clear hgo
                    go_wp2_with fail
                    refine q.mono ?_
                    rintro e w11 ⟨A11, c11, rfl, -, hb11⟩
                    have hB11 := below_then hbr hb11
                    clear q
                    go_wp2_with fail
                    refine (lives04 _).mono ?_
                    rintro e w12 ⟨rfl, hb12⟩
                    have hB12 := below_then hB11 hb12
                    go_wp2
                    go_ret
                    exact ⟨rfl, hB12⟩
                  · clear hgo
                    go_wp2_with fail
                    refine q.mono ?_
                    rintro e w11 ⟨A11, c11, rfl, -, hb11⟩
                    have hB11 := below_then hbr hb11
                    clear q
                    go_wp2_with fail
                    refine (lives04 _).mono ?_
                    rintro e w12 ⟨rfl, hb12⟩
                    have hB12 := below_then hB11 hb12
                    go_wp2
                    go_ret
                    exact ⟨rfl, hB12⟩
                · rw [if_neg h0] at q
                  rw [show decide (bits % 2 ^ k ≠ 0) = true from decide_eq_true h0]
                  clear h0
                  by_cases hk3 : k < 32
                  · have hk4 : ¬ (at_ + k < 2048) := fun h => hgo ⟨hk3, h⟩
                    clear hgo
                    go_wp2_with fail
                    refine q.mono ?_
                    rintro e w11 ⟨A11, c11, rfl, -, hb11⟩
                    have hB11 := below_then hbr hb11
                    clear q
                    go_wp2_with fail
                    refine (lives04 _).mono ?_
                    rintro e w12 ⟨rfl, hb12⟩
                    have hB12 := below_then hB11 hb12
                    go_wp2
                    go_ret
                    exact ⟨rfl, hB12⟩
                  · clear hgo
                    go_wp2_with fail
                    refine q.mono ?_
                    rintro e w11 ⟨A11, c11, rfl, -, hb11⟩
                    have hB11 := below_then hbr hb11
                    clear q
                    go_wp2_with fail
                    refine (lives04 _).mono ?_
                    rintro e w12 ⟨rfl, hb12⟩
                    have hB12 := below_then hB11 hb12
                    go_wp2
                    go_ret
                    exact ⟨rfl, hB12⟩
          · have q := k6 A1 c1 w10 hcap SB HSL.out 0 0 (by omega) (by omega) (by simp) (Reads.of_own HO.out)
            rw [if_pos rfl] at q
            clear k6
            generalize openV SB a0 a1 = Y at *
            have d3 : decide (0 ≤ a3) = false ∨ (decide (0 ≤ a3) = true ∧ decide (a3 < 2048) = false) := by
              by_cases h : 0 ≤ a3
              · exact .inr ⟨decide_eq_true h, decide_eq_false (by omega)⟩
              · exact .inl (decide_eq_false h)
            have hB10 := HBX.out
            clear hat hb2 w3
            go_wp2_with fail
            go_loopw [23, 24] (fun v i wr => v = .bool false ∧ i = .int .i64 0 ∧ wr = w10) (fun _ i _ => 0)
            case atStart => exact ⟨rfl, rfl, rfl⟩
            case round =>
              obtain ⟨rfl, rfl, rfl⟩ := hrel
              rcases d3 with d3 | ⟨d3, d4⟩
              all_goals
                go_wp2_with fail
                refine q.mono ?_
                rintro e w11 ⟨A11, c11, rfl, -, hb11⟩
                have hB11 := below_then hB10 hb11
                clear q
                go_wp2_with fail
                refine (lives04 _).mono ?_
                rintro e w12 ⟨rfl, hb12⟩
                have hB12 := below_then hB11 hb12
                go_wp2
                go_ret
                exact ⟨rfl, hB12⟩
    · rw [sealE_no he] at k1
      have dE : (sealE a0 a1 s != 0) = true := by simpa using he
      generalize sealE a0 a1 s = E at *
      clear he
      go_wp2_with fail
      refine k1.mono ?_
      rintro e w3 ⟨A3, c3, rfl, hown3, hb3⟩
      clear k1 hown3 hr
      go_wp2_with fail
      refine (lives04 _).mono ?_
      rintro e w4 ⟨rfl, hb4⟩
      have hB4 := below_then hb3 hb4
      go_wp2
      go_ret
      exact ⟨rfl, hB4⟩
end Go.Proofs.Ytilkcecjciiboaa
