/-
  The reference's Read of layer 9, walked.
-/
import Derived.Test.YtahomneljdjjjaaBits3
namespace Go.Proofs.Ytahomneljdjjjaa
open Go.RowKit

theorem quad (b r : Nat) : b / 4 ^ r / 4 = b / 4 ^ (r + 1) := by rw [Nat.div_div_eq_div_mul, Nat.pow_succ]
set_option maxRecDepth 100000 in
set_option maxHeartbeats 2000000 in
theorem rread9_any (A : Option Addr) (c : Nat) (s : List UInt8) (w : World) (hm : s.length ≤ reachBytes) (h : Reads w w.heap.size A (bv s)) :
    Calls Try.prog 51 #[.slice A s.length c] w (GivesE 3 (iv (brdL s)) (brdE s) w) := by
  have bad : brdE s = 7 → brdL s = [] := fun e => by unfold brdL; rw [e, if_neg (by decide)]
  by_cases hl : s.length = 244
  case neg =>
    have hE : brdE s = 7 := by unfold brdE; rw [if_neg hl]
    rw [bad hE, hE]
    simp only [reachBytes] at hm
    have d1 : ((s.length : Int) != 244) = true := by simp; omega
    clear bad hE
    go_enter Try.func51, Try.ntmps51
    go_wp2
    go_ret2
    exact ⟨none, 0, rfl, World.ownsRow_nil _ _ _ _, Below.refl _ _⟩
  have hg := rget_any A c s 0 4 w _ hm h
  have hg2 : (getV s 0 4).2 = 0 := by
    have ht : thereV s.length 0 4 = 0 := thereV_ok rfl (by omega) (by omega)
    have hlt : getN s 0 4 < 4294967296 := by
      unfold getN
      have := le_lt ((s.drop (0 : Int).toNat).take (4 : Int).toNat)
      have h4 : ((s.drop (0 : Int).toNat).take (4 : Int).toNat).length = 4 := by simp [hl]
      rw [h4] at this
      exact this
    unfold getV
    rw [if_pos ht, if_pos (by omega)]
  rw [hg2, show (getV s 0 4).1 = rdCnt s from rfl] at hg
  obtain ⟨n0, n1⟩ := rdCnt_nn s
  rw [hl] at hg
  have d1 : ((s.length : Int) != 244) = false := by simp [hl]
  by_cases hc : rdCnt s ≤ 960
  case neg =>
    have hE : brdE s = 7 := by unfold brdE; rw [if_pos hl, if_neg hc]
    rw [bad hE, hE]
    have d2 : decide (960 < rdCnt s) = true := decide_eq_true (by omega)
    rw [hl]
    clear bad hE hg2 hl d1
    generalize rdCnt s = n at *
    go_enter Try.func51, Try.ntmps51
    go_wp2_with fail
    refine hg.mono ?_
    rintro e w1 ⟨rfl, rfl⟩
    go_wp2
    go_ret2
    exact ⟨none, 0, rfl, World.ownsRow_nil _ _ _ _, Below.refl _ _⟩
  obtain ⟨i0', hi, hz0, hz1, hz2⟩ := info_parts Try.infoInt
  have hE : brdE s = if restB s = true then 0 else 7 := by unfold brdE; rw [if_pos hl, if_pos hc]
  have hbd := bits_digs s hl hc
  have hLL : brdE s = 0 → brdL s = digs s (rdCnt s).toNat := fun e => by unfold brdL; rw [if_pos e]
  have hcb := digs_cnts s (rdCnt s).toNat (by omega)
  have hdl := digs_len s (rdCnt s).toNat
  have HSH : ∀ i b, s[4 + i / 4]? = some b → ((rdDig s i : Nat) : Int) = ((b.toNat / 4 ^ (i % 4) % 4 : Nat) : Int) := fun i b hb => by
    unfold rdDig; rw [List.getD_eq_getElem?_getD, hb]; rfl
  have HSH := Lib.hid HSH
  obtain ⟨m, hmn⟩ := Int.eq_ofNat_of_zero_le n0
  rw [hmn] at hg hc hLL n1 hbd hcb hdl
  rw [Int.toNat_natCast] at hLL hbd hcb hdl
  have HE := Lib.hid hE
  have HBAD := Lib.hid bad
  have HL := Lib.hid hLL
  have HBD := Lib.hid hbd
  have HCB := Lib.hid hcb
  have HDL := Lib.hid hdl
  have d2 : decide (960 < (m : Int)) = false := decide_eq_false (by omega)
  rw [hl]
  clear bad hE hg2 d1 hmn n0 hbd hLL hcb hdl
  go_enter Try.func51, Try.ntmps51
  go_wp2_with fail
  refine hg.mono ?_
  rintro e w1 ⟨rfl, rfl⟩
  clear hg
  go_wp2_with fail
  go_loopw [6, 7] (fun v i wr => ∃ k : Nat, k ≤ m ∧ i = .int .i64 k ∧ wr.ownsRow w.heap.size 3 1 v k (iv (digs s k)) ∧ Below w.heap.size w wr) (fun _ i _ => m - (intOf i).toNat)
  case atStart => exact ⟨0, by omega, rfl, World.ownsRow_nil _ _ _ _, Below.refl _ _⟩
  case round =>
    obtain ⟨k, hk, rfl, hown, hbr⟩ := hrel
    obtain ⟨Ao, co, rfl⟩ := own_form hown
    by_cases hlt : k < m
    · obtain ⟨ad, b, rfl, _, hb, hcell⟩ := byte_at (h.below hbr) (k := 4 + k / 4) (by omega)
      have hdig := HSH.out k b hb
      have HDG := Lib.hid hdig
      have HDK := Lib.hid (digs_snoc s k)
      have hm4 : k % 4 < 4 := Nat.mod_lt _ (by omega)
      clear hb hdig
      have hbl : b.toNat < 256 := UInt8.toNat_lt b
      generalize b.toNat = bn at *
      have j0 : (0 : Int) ≤ 4 + (k : Int) / 4 := by omega
      have j1 : (4 : Int) + (k : Int) / 4 < 244 := by omega
      have j2 : ((4 : Int) + (k : Int) / 4).toNat = 4 + k / 4 := by omega
      obtain ⟨wo, rfl⟩ : ∃ wo : World, wo = wr := ⟨_, rfl⟩
      go_wp2_with fail
      go_loop [8, 9] (fun x y => ∃ (r q : Nat), r ≤ k % 4 ∧ y = .int .i64 r ∧ x = .int .i64 q ∧ q = bn / 4 ^ r ∧ q ≤ 255) (fun _ y => 4 - (intOf y).toNat)
      case atStart => exact ⟨0, bn, by omega, rfl, by first | rfl | (simp; done) | (simp [wrap64]; omega), by simp, by omega⟩
      case round =>
        obtain ⟨r, q, hr, rfl, rfl, hq, hq2⟩ := hrel
        have HQ := Lib.hid hq
        clear hq
        by_cases hrk : r < k % 4
        · have d5 : decide ((r : Int) < (k : Int) % 4) = true := decide_eq_true (by omega)
          go_wp2
          go_round
          case rel => exact ⟨r + 1, q / 4, by omega, by go_num, by go_num, by rw [HQ.out, quad], by omega⟩
          case measure => simp [intOf]; omega
        · have d5 : decide ((r : Int) < (k : Int) % 4) = false := decide_eq_false (by omega)
          obtain rfl : r = k % 4 := by omega
          have hr2 := Reads.new wo (iv [((q % 4 : Nat) : Int)]) 3 (0, 0)
          have hsz := hbr.size
          have hq4 : ((q % 4 : Nat) : Int) = ((rdDig s k : Nat) : Int) := by rw [HQ.out]; exact HDG.out.symm
          have hq5 : ((q : Int) % 4) = ((rdDig s k : Nat) : Int) := by rw [← hq4]; omega
          have HQ5 := Lib.hid hq5
          clear hq4 hq5
          have hr2 := Reads.new wo (iv [((q : Int) % 4)]) 3 (0, 0)
          go_wp2_with (at_builtin; refine wpList_append_to _ rfl (.tmp 42) (.tmp 45) _ rfl w.heap.size 3 i0' _ 8 Try.underlying46 hi hz0 hz1 hz2 rfl _ k (iv (digs s k)) rfl (hown.alloc _) _ _ 1 1 (iv [((q : Int) % 4)]) rfl rfl hr2 (iv_one _) (by simp only [maxLen]; omega) (by omega) (by simp; omega) ?_; intro A' c' w3 hown3 hg3 hb3 _)
          go_roundw
          case rel => exact ⟨k + 1, by omega, by go_num, by rw [HDK.out, iv_append, ← HQ5.out]; exact hown3, (hbr.alloc hsz _).trans hb3⟩
          case measure => simp [intOf]; omega
    · obtain rfl : k = m := by omega
      have hp := rput9_any Ao co (digs s k) wr (by rw [HDL.out]; simp only [reachBytes]; omega) (Reads.of_own hown)
      have hcb := HCB.out
      have hv : bitsV (digs s k) = bitsB (digs s k) ∧ bitsE (digs s k) = 0 := ⟨by unfold bitsV; rw [hcb]; rfl, by unfold bitsE; rw [hcb]; rfl⟩
      rw [hv.1, hv.2, HDL.out] at hp
      have HBL := Lib.hid (bitsB_len (digs s k))
      have HOW := Lib.hid hown
      clear hcb hv hown
      go_wp2_with fail
      refine hp.mono ?_
      rintro e w2 ⟨A2, c2, rfl, hown2, hb2⟩
      rw [bv_len, HBL.out] at hown2
      rw [bv_len, HBL.out]
      have hbr2 := hbr.trans (hb2.mono hbr.size)
      have HO2 := Lib.hid (own_keep HOW.out hb2)
      have cv1 := run_conv_bytes (P := Try.prog) w2 24 9 5 Try.underlying24 Try.underlying5 Try.underlying9 244 c2 HBL.out.symm (Reads.of_own hown2)
      have cv2 := run_conv_bytes (P := Try.prog) w2 24 9 5 Try.underlying24 Try.underlying5 Try.underlying9 244 c hl.symm (h.below hbr2)
      clear hp hown2 hb2 hbr
      by_cases hr : restB s = true
      · have hbs := HBD.out.2 hr
        rw [hbs] at cv1
        have hE0 : brdE s = 0 := by rw [HE.out, if_pos hr]
        have hL0 := HL.out hE0
        have HE0 := Lib.hid hE0
        have HL0 := Lib.hid hL0
        clear hbs hE0 hL0 hr
        go_wp2
        go_ret2
        exact ⟨Ao, co, by rw [HE0.out, HL0.out, iv_len, HDL.out]; rfl, by rw [HL0.out, iv_len, HDL.out]; exact HO2.out, hbr2⟩
      · have hne : bitsB (digs s k) ≠ s := fun hh => hr (HBD.out.1 hh)
        have hE7 : brdE s = 7 := by rw [HE.out, if_neg hr]
        have hL7 := HBAD.out hE7
        have HE7 := Lib.hid hE7
        have HL7 := Lib.hid hL7
        clear hE7 hL7 hr
        generalize bitsB (digs s k) = x at *
        have d6 : (x == s) = false := by simpa using hne
        have d7 : (!(x == s)) = true := by rw [d6]; rfl
        go_wp2
        go_ret2
        exact ⟨none, 0, by rw [HE7.out, HL7.out]; rfl, by rw [HL7.out]; exact World.ownsRow_nil _ _ _ _, hbr2⟩
end Go.Proofs.Ytahomneljdjjjaa
