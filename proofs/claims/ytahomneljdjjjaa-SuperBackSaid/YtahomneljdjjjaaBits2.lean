/-
  bits.Read and the reference's Free, walked.
-/
import Derived.Test.YtahomneljdjjjaaBits
import Derived.Test.YtahomneljdjjjaaBitsP2
import Derived.Deep.DeepCutAuto
namespace Go.Proofs.Ytahomneljdjjjaa
open Go.RowKit

theorem and_dig (bn r d : Nat) (hb : bn < 256) (hd : d = bn / 4 ^ r % 4) : bits .and .i64 (wrap64 ((bn : Int) / 2 ^ (r * 2))) 3 = (d : Int) := by
  have h1 : (2 : Int) ^ (r * 2) = ((4 ^ r : Nat) : Int) := by
    rw [Nat.mul_comm, Int.pow_mul]
    simp
  have h2 : bn / 4 ^ r ≤ bn := Nat.div_le_self _ _
  have h3 : (bn : Int) / ((4 ^ r : Nat) : Int) = ((bn / 4 ^ r : Nat) : Int) := by rw [Int.natCast_ediv]
  rw [h1, h3, hd]
  generalize bn / 4 ^ r = q at *
  have h4 : wrap64 (q : Int) = (q : Int) := by unfold wrap64; omega
  rw [h4, i64_mask _ 2 (by omega) 3 rfl]
  omega
set_option maxRecDepth 100000 in
set_option maxHeartbeats 2000000 in
theorem bread_any (A : Option Addr) (c : Nat) (s : List UInt8) (w : World) (hm : s.length ≤ reachBytes) (h : Reads w w.heap.size A (bv s)) :
    Calls Try.prog 50 #[.slice A s.length c] w (GivesE 3 (iv (brdL s)) (brdE s) w) := by
  have bad : brdE s = 7 → brdL s = [] := fun e => by unfold brdL; rw [e, if_neg (by decide)]
  by_cases hl : s.length = 244
  case neg =>
    have hE : brdE s = 7 := by unfold brdE; rw [if_neg hl]
    rw [bad hE, hE]
    simp only [reachBytes] at hm
    have d1 : ((s.length : Int) != 244) = true := by simp; omega
    clear bad hE
    go_enter Try.func50, Try.ntmps50
    go_wp2
    go_ret2
    exact ⟨none, 0, rfl, World.ownsRow_nil _ _ _ _, Below.refl _ _⟩
  have hg := get_any A c s 0 4 w _ hm h
  have hg2 : (getV s 0 4).2 = 0 := by
    have ht : thereV s.length 0 4 = 0 := thereV_ok rfl (by omega) (by omega)
    have hlt : getN s 0 4 < 4294967296 := by
      unfold getN
      have := le_lt ((s.drop (0 : Int).toNat).take (4 : Int).toNat)
      have h4 : ((s.drop (0 : Int).toNat).take (4 : Int).toNat).length = 4 := by simp [hl]
      rw [h4] at this
      exact this
    unfold getV
    rw [if_pos ht, if_pos (by omega)]
  rw [hg2, show (getV s 0 4).1 = rdCnt s from rfl] at hg
  obtain ⟨n0, n1⟩ := rdCnt_nn s
  rw [hl] at hg
  have d1 : ((s.length : Int) != 244) = false := by simp [hl]
  by_cases hc : rdCnt s ≤ 960
  case neg =>
    have hE : brdE s = 7 := by unfold brdE; rw [if_pos hl, if_neg hc]
    rw [bad hE, hE]
    have d2 : decide (960 < rdCnt s) = true := decide_eq_true (by omega)
    rw [hl]
    clear bad hE hg2 hl d1
    generalize rdCnt s = n at *
    go_enter Try.func50, Try.ntmps50
    go_wp2_with fail
    refine hg.mono ?_
    rintro e w1 ⟨rfl, rfl⟩
    go_wp2
    go_ret2
    exact ⟨none, 0, rfl, World.ownsRow_nil _ _ _ _, Below.refl _ _⟩
  obtain ⟨i0', hi, hz0, hz1, hz2⟩ := info_parts Try.infoInt
  have hE : brdE s = if restB s = true then 0 else 7 := by unfold brdE; rw [if_pos hl, if_pos hc]
  have HE := Lib.hid hE
  have HBAD := Lib.hid bad
  have HL : brdE s = 0 → brdL s = digs s (rdCnt s).toNat := fun e => by unfold brdL; rw [if_pos e]
  have HL := Lib.hid HL
  have HR := Lib.hid (rest_iff s)
  have HDL := Lib.hid (fun i => rdDig_lt s i)
  have HSH : ∀ i b, s[4 + i / 4]? = some b → rdDig s i = b.toNat / 4 ^ (i % 4) % 4 := fun i b hb => by
    unfold rdDig; rw [List.getD_eq_getElem?_getD, hb]; rfl
  have HSH := Lib.hid HSH
  obtain ⟨m, hmn⟩ := Int.eq_ofNat_of_zero_le n0
  rw [hmn] at hg hc HR HL n1
  have d2 : decide (960 < (m : Int)) = false := decide_eq_false (by omega)
  rw [hl]
  clear bad hE hg2 d1 hmn n0
  go_enter Try.func50, Try.ntmps50
  go_wp2_with fail
  refine hg.mono ?_
  rintro e w1 ⟨rfl, rfl⟩
  clear hg
  go_wp2_with fail
  go_loopw [6, 19] (fun v i wr => ∃ k : Nat, k ≤ 960 ∧ i = .int .i64 k ∧ wr.ownsRow w.heap.size 3 1 v (min k m) (iv (digs s (min k m))) ∧ (∀ j : Nat, j < k → m ≤ j → rdDig s j = 0) ∧ Below w.heap.size w wr) (fun _ i _ => 960 - (intOf i).toNat)
  case atStart => exact ⟨0, by omega, rfl, by rw [Nat.zero_min]; exact World.ownsRow_nil _ _ _ _, by intro j hj; omega, Below.refl _ _⟩
  case round =>
    obtain ⟨k, hk, rfl, hown, hz, hbr⟩ := hrel
    have HZ := Lib.hid hz
    clear hz
    obtain ⟨Ao, co, rfl⟩ := own_form hown
    by_cases hlt : k < 960
    · have d3 : decide ((k : Int) < 960) = true := decide_eq_true (by omega)
      obtain ⟨ad, b, rfl, _, hb, hcell⟩ := byte_at (h.below hbr) (k := 4 + k / 4) (by omega)
      have hdig := HSH.out k b hb
      have hd4 := HDL.out k
      have hm4 : k % 4 < 4 := Nat.mod_lt _ (by omega)
      have HAND := Lib.hid (and_dig b.toNat (k % 4) (rdDig s k) (UInt8.toNat_lt b) hdig)
      have HDK := Lib.hid (digs_snoc s k)
      clear hb hdig
      have hbl : b.toNat < 256 := UInt8.toNat_lt b
      have hdk0 := HZ.out
      generalize hdd : rdDig s k = d at *
      have HDD := Lib.hid hdd
      clear hdd hdk0
      generalize b.toNat = bn at *
      have j0 : (0 : Int) ≤ 4 + (k : Int) / 4 := by omega
      have j1 : (4 : Int) + (k : Int) / 4 < 244 := by omega
      have j2 : ((4 : Int) + (k : Int) / 4).toNat = 4 + k / 4 := by omega
      by_cases hkm : k < m
      · have d4 : decide ((k : Int) < (m : Int)) = true := decide_eq_true (by omega)
        go_upto_region 11 with fail
        rw [HAND.out]
        generalize wrap64 ((bn : Int) / 2 ^ (k % 4 * 2)) = y1
        generalize (bn : Int) / 2 ^ (k % 4 * 2) = y2
        have hmin : min k m = k := by omega
        have hmin2 : min (k + 1) m = k + 1 := by omega
        rw [hmin] at hown ⊢
        have HM2 := Lib.hid hmin2
        have hr2 := Reads.new wr (iv [(d : Int)]) 3 (0, 0)
        have hsz := hbr.size
        clear hmin hmin2
        go_wp2_with (at_builtin; refine wpList_append_to _ rfl (.tmp 38) (.tmp 40) _ rfl w.heap.size 3 i0' _ 8 Try.underlying46 hi hz0 hz1 hz2 rfl _ k (iv (digs s k)) rfl (hown.alloc _) _ _ 1 1 (iv [(d : Int)]) rfl rfl hr2 (iv_one _) (by simp only [maxLen]; omega) (by omega) (by simp; omega) ?_; intro A' c' w3 hown3 hg3 hb3 _)
        go_roundw
        case rel => exact ⟨k + 1, by omega, by go_num, by rw [HM2.out, HDK.out, iv_append]; exact hown3, fun j hj hmj => by omega, (hbr.alloc hsz _).trans hb3⟩
        case measure => simp [intOf]; omega
      · have d4 : decide ((k : Int) < (m : Int)) = false := decide_eq_false (by omega)
        have hmin : min k m = m := by omega
        have hmin2 : min (k + 1) m = m := by omega
        go_upto_region 11 with fail
        rw [HAND.out]
        generalize wrap64 ((bn : Int) / 2 ^ (k % 4 * 2)) = y1
        generalize (bn : Int) / 2 ^ (k % 4 * 2) = y2
        rw [hmin] at hown ⊢
        have HM2 := Lib.hid hmin2
        clear hmin hmin2
        by_cases hd0 : d = 0
        · have HZ2 : ∀ j : Nat, j < k + 1 → m ≤ j → rdDig s j = 0 := fun j hj hmj => by
            rcases Nat.lt_or_ge j k with h1 | h1
            · exact HZ.out j h1 hmj
            · obtain rfl : j = k := by omega
              rw [HDD.out, hd0]
          have HZ2 := Lib.hid HZ2
          subst hd0
          rw [show ((0 : Nat) : Int) = 0 from rfl]
          go_wp2
          go_roundw
          case rel => exact ⟨k + 1, by omega, by go_num, by rw [HM2.out]; exact hown, HZ2.out, hbr⟩
          case measure => simp [intOf]; omega
        · have d5 : ((d : Int) != 0) = true := by simp; omega
          have hE7 : brdE s = 7 := by
            rw [HE.out, if_neg]
            intro hh
            exact hd0 (by rw [← HDD.out]; exact HR.out.1 hh k hlt (by omega))
          have HE7 := Lib.hid hE7
          have HB7 := Lib.hid (HBAD.out hE7)
          clear hE7 hd0
          go_wp2
          go_ret2
          exact ⟨none, 0, by rw [HE7.out, HB7.out]; rfl, by rw [HB7.out]; exact World.ownsRow_nil _ _ _ _, hbr⟩
    · obtain rfl : k = 960 := by omega
      have hmin : min 960 m = m := by omega
      rw [hmin] at hown ⊢
      have hE0 : brdE s = 0 := by
        rw [HE.out, if_pos]
        exact HR.out.2 (fun i hi hc => HZ.out i hi (by omega))
      have hL0 := HL.out hE0
      rw [Int.toNat_natCast] at hL0
      have HE0 := Lib.hid hE0
      have HL0 := Lib.hid hL0
      have HLN := Lib.hid (digs_len s m)
      clear hE0 hL0 hmin
      go_wp2
      go_ret2
      exact ⟨Ao, co, by rw [HE0.out, HL0.out, iv_len, HLN.out]; rfl, by rw [HL0.out, iv_len, HLN.out]; exact hown, hbr⟩
end Go.Proofs.Ytahomneljdjjjaa
