/-
  Chapter 1's CodeJoins, walked.
-/
import Derived.Test.YtahomneljdjjjaaLaw01B
import Derived.Test.YtahomneljdjjjaaLaw01C
namespace Go.Proofs.Ytahomneljdjjjaa
open Go.RowKit

theorem get_at (pre suf : List UInt8) (w n : Int) (hw : (Lit.int .i64 n).wf = true) (hk : knownB w = true) (hf : fitsB n w = true) :
    getV (pre ++ (leb w.toNat n.toNat ++ suf)) pre.length w = (n, 0) := by
  obtain ⟨m, rfl⟩ := fitsB_ok hf hk
  have hlt := fits_lt hw hk hf
  have hx := (knownB_iff w).1 hk
  have hg : getN (pre ++ (leb w.toNat (m : Int).toNat ++ suf)) pre.length w = m := by
    unfold getN
    rw [Int.toNat_natCast, Int.toNat_natCast, List.drop_left', List.take_left' (leb_len _ _), le_leb _ _ hlt]
    rfl
  unfold getV
  rw [thereV_ok hk (by omega) (by simp only [List.length_append, leb_len]; omega), if_pos rfl, hg, if_pos (by have := (wf_i64 hw).2; omega)]
theorem unp_pack (a : List (Int × Int)) : ∀ (pre suf : List UInt8), packE a = 0 → (∀ p ∈ a, (Lit.int .i64 p.2).wf = true) →
    unpE (pre ++ (packB a ++ suf)) pre.length (a.map (·.1)) = 0 ∧ unpB (pre ++ (packB a ++ suf)) pre.length (a.map (·.1)) = a.map (·.2) := by
  induction a with
  | nil => intro pre suf _ _; simp [unpE, unpB]
  | cons q a ih =>
    obtain ⟨w, n⟩ := q
    intro pre suf he hw
    simp only [packE] at he
    split at he
    · rename_i hk
      split at he
      · rename_i hf
        have hx := (knownB_iff w).1 hk
        have hg := get_at pre (packB a ++ suf) w n (hw (w, n) (by simp)) hk hf
        have hL : ((pre ++ leb w.toNat n.toNat).length : Int) = (pre.length : Int) + w := by rw [List.length_append, leb_len]; omega
        obtain ⟨i1, i2⟩ := ih (pre ++ leb w.toNat n.toNat) suf he (fun p hp => hw p (by simp [hp]))
        rw [hL, List.append_assoc] at i1 i2
        simp only [packB, List.map_cons, unpE, unpB, List.append_assoc, hg, if_pos, i1, i2, and_self]
      · cases he
    · cases he

set_option maxRecDepth 100000 in
set_option maxHeartbeats 2000000 in
theorem law_CodeJoins (A0 : Option Addr) (c0 : Nat) (l0 : List (Int × Int)) (A1 : Option Addr) (c1 : Nat) (l1 : List (Int × Int)) (A2 : Option Addr) (c2 : Nat) (l2 : List UInt8) (w : World)
    (_q0 : l0.length ≤ c0) (m0 : l0.length * 16 ≤ reachBytes) (f0 : ∀ p ∈ l0, (Lit.int .i64 p.1).wf = true ∧ (Lit.int .i64 p.2).wf = true) (r0 : Reads2 w w.heap.size A0 l0)
    (_q1 : l1.length ≤ c1) (m1 : l1.length * 16 ≤ reachBytes) (f1 : ∀ p ∈ l1, (Lit.int .i64 p.1).wf = true ∧ (Lit.int .i64 p.2).wf = true) (r1 : Reads2 w w.heap.size A1 l1)
    (_q2 : l2.length ≤ c2) (m2 : l2.length ≤ reachBytes) (r2 : Reads w w.heap.size A2 (bv l2)) :
    Calls Try.prog 7 #[.slice A0 l0.length c0, .slice A1 l1.length c1, .slice A2 l2.length c2] w fun e w' => e = .returned (.bool true) ∧ Below w.heap.size w w' := by
  have mm0 := m0
  have mm1 := m1
  have mm2 := m2
  simp only [reachBytes] at mm0 mm1 mm2
  obtain ⟨i0, hi, hz0, hz1, hz2⟩ := info_parts Try.infoCF
  obtain ⟨j0, hj, hy0, hy1, hy2⟩ := info_parts Try.infoU8
  obtain ⟨k0, hk, hx0, hx1, hx2⟩ := info_parts Try.infoInt
  have F0 : Hid (∀ p ∈ l0, (Lit.int .i64 p.2).wf = true) := fun p hp => (f0 p hp).2
  have F1 : Hid (∀ p ∈ l1, (Lit.int .i64 p.2).wf = true) := fun p hp => (f1 p hp).2
  clear f0 f1
  by_cases hl0 : 500 < l0.length + l1.length
  · go_enter Try.func7, Try.ntmps7
    go_wp2_with fail
    refine (lives01 _).mono ?_
    rintro e w1 ⟨rfl, hb1⟩
    go_wp2
    go_ret
    exact ⟨rfl, hb1⟩
  by_cases hl2 : 1000 < l2.length
  · go_enter Try.func7, Try.ntmps7
    go_wp2_with fail
    refine (lives01 _).mono ?_
    rintro e w1 ⟨rfl, hb1⟩
    go_wp2
    go_ret
    exact ⟨rfl, hb1⟩
  have m01 : (l0 ++ l1).length * 16 ≤ reachBytes := by rw [List.length_append]; simp only [reachBytes]; omega
  have F01 : Hid (∀ p ∈ l0 ++ l1, (Lit.int .i64 p.2).wf = true) := fun p hp => by
    rcases List.mem_append.1 hp with h | h
    · exact F0.out p h
    · exact F1.out p h
  have b1 : (0 : Int) ≤ (l0.length : Int) + (l1.length : Int) ∧ (l0.length : Int) + (l1.length : Int) ≤ 500 := by omega
  go_enter Try.func7, Try.ntmps7
  go_wp2_with fail
  refine (pack_any A0 c0 l0 w m0 F0.out r0).mono ?_
  rintro e w1 ⟨A3, c3, rfl, hown3, hb1⟩
  have R3 := Reads.of_own hown3
  have hL3 := packB_len l0
  rw [bv_len]
  clear hown3
  go_wp2_with fail
  refine (pack_any A1 c1 l1 w1 m1 F1.out ((r1.below hb1).more hb1.size)).mono ?_
  rintro e w2 ⟨A4, c4, rfl, hown4, hb2⟩
  have hB2 := below_then hb1 hb2
  have R3' := R3.ext hb2
  have R4 := Reads.of_own hown4
  rw [bv_len]
  clear hown4 hb1 hb2 R3
  have hown0 := World.ownsRow_lit (e := 49) (size := 2) (base := w2.heap.size) w2 #[] 0 (Nat.le_refl _) (by simp) (by rfl)
  have hBa := below_alloc1 w2 (.cells #[] 49)
  have t0 := (r0.below (hB2.trans (hBa.mono hB2.size))).flat
  go_wp2_with (first | (at_builtin; refine wpList_append_to_s _ rfl (.tmp 41) (.tmp 42) _ rfl w2.heap.size 2 49 i0 _ 16 Try.underlying47 hi hz0 hz1 hz2 rfl (by decide) _ 0 [] rfl hown0 _ A0 l0.length c0 (fv l0) rfl (fv_len _) t0 (fv_one _) (by simp only [maxLen]; omega) (by omega) hBa.size ?_; intro A5 c5 w5 hown5 hg5 hb5 hk5; simp only [Nat.zero_add, List.nil_append] at hown5; have hBb := hBa.trans hb5; have t1 := (r1.below (hB2.trans (hBb.mono hB2.size))).flat; clear hg5 hk5) | (at_builtin; refine wpList_append_to_s _ rfl (.tmp 43) (.tmp 44) _ rfl w2.heap.size 2 49 i0 _ 16 Try.underlying47 hi hz0 hz1 hz2 rfl (by decide) _ l0.length (fv l0) rfl hown5 _ A1 l1.length c1 (fv l1) rfl (fv_len _) t1 (fv_one _) (by simp only [maxLen]; omega) (by omega) hBb.size ?_; intro A6 c6 w6 hown6 hg6 hb6 hk6; clear hg6 hk6))
  rw [← fv_append] at hown6
  have hll : l0.length + l1.length = (l0 ++ l1).length := List.length_append.symm
  rw [hll] at hown6 ⊢
  have R6 := Reads2.of_own rfl hown6
  have hBc := hBb.trans hb6
  have R3 := R3'.ext hBc
  have R4' := R4.ext hBc
  have hB6 := below_then hB2 hBc
  clear hll hown5 hown6 hown0 t0 t1 hBa hb5 hBb hb6 hBc hB2 R3' R4
  refine (pack_any A6 c6 (l0 ++ l1) w6 m01 F01.out R6).mono ?_
  rintro e w7 ⟨A7, c7, rfl, hown7, hb7⟩
  have hB7 := below_then hB6 hb7
  have R3' := R3.ext hb7
  have R4 := R4'.ext hb7
  have R7 := Reads.of_own hown7
  rw [bv_len]
  clear hown7 hb7 hB6 R3 R4' R6 b1
  by_cases he0 : packE l0 = 0
  · by_cases he1 : packE l1 = 0
    · have hl := packB_len l0 he0
      have hly := packB_len l1 he1
      have hz : packE (l0 ++ l1) = 0 := by rw [packE_append, if_pos he0, he1]
      have hv0 : packV l0 = packB l0 := by unfold packV; rw [if_pos he0]
      have hv1 : packV l1 = packB l1 := by unfold packV; rw [if_pos he1]
      have hvz : packV (l0 ++ l1) = packV l0 ++ packV l1 := by rw [hv0, hv1]; unfold packV; rw [if_pos hz, packB_append]
      obtain ⟨hu1, hu2⟩ := unp_pack l0 [] l2 he0 F0.out
      simp only [List.nil_append, List.length_nil] at hu1 hu2
      rw [← hv0] at hu1 hu2 hl
      rw [← hv1] at hly
      have hxy : (packV l0).length + (packV l1).length ≤ 9223372036854775807 := by omega
      clear hly
      have HU1 := Lib.hid (show unpE (packV l0 ++ l2) 0 (l0.map (·.1)) = 0 by simpa using hu1)
      have HU2 := Lib.hid (show unpV (packV l0 ++ l2) 0 (l0.map (·.1)) = l0.map (·.2) by unfold unpV; rw [if_pos (by simpa using hu1)]; simpa using hu2)
      rw [hvz] at R7 ⊢
      rw [he0, he1, hz]
      have hE := Lib.hid (bv_append (packV l0) (packV l1))
      clear hz hv0 hv1 hvz hu1 hu2 he0 he1
      generalize packV l0 = x at *
      generalize packV l1 = y at *
      go_wp2_with fail
      go_loopw [13, 14] (fun v i wr => ∃ k : Nat, k ≤ l0.length ∧ i = .int .i64 k ∧ wr.ownsRow w7.heap.size 3 1 v k (iv ((l0.take k).map (·.1))) ∧ Below w7.heap.size w7 wr) (fun _ i _ => l0.length - (intOf i).toNat)
      case atStart => exact ⟨0, by omega, rfl, World.ownsRow_nil _ _ _ _, Below.refl _ _⟩
      case round =>
        obtain ⟨k, hk', rfl, hown, hbr⟩ := hrel
        by_cases hlt : k < l0.length
        · obtain ⟨b, o, rfl, hbb, hc⟩ := r0.below (below_then hB7 hbr) (by omega)
          obtain ⟨hc1, hc2⟩ := hc k _ (List.getElem?_eq_getElem hlt)
          have HF := Lib.hid (show iv ((l0.take (k + 1)).map (·.1)) = iv ((l0.take k).map (·.1)) ++ iv [l0[k].1] by rw [take_snoc l0 k hlt, List.map_append, iv_append]; rfl)
          clear hc
          generalize l0[k] = q at *
          obtain ⟨q1, q2⟩ := q
          simp only at hc1 hc2
          have hr2 := Reads.new wr (iv [q1]) 3 (0, 0)
          go_wp2_with (at_builtin; refine wpList_append_to _ rfl (.tmp 71) (.tmp 77) _ rfl w7.heap.size 3 k0 _ 8 Try.underlying46 hk hx0 hx1 hx2 rfl _ k (iv ((l0.take k).map (·.1))) rfl (hown.alloc _) _ _ 1 1 (iv [q1]) rfl rfl hr2 (iv_one _) (by simp only [maxLen]; omega) (by omega) (by have := hbr.size; simp; omega) ?_; intro A' c' wn hown2 hg2 hb2 _)
          go_roundw
          case rel => exact ⟨k + 1, by omega, by go_num, by rw [HF.out]; exact hown2, (hbr.trans ((below_alloc1 wr _).mono hbr.size)).trans hb2⟩
          case measure => simp [intOf]; omega
        · obtain rfl : k = l0.length := by omega
          obtain ⟨A8, c8, rfl⟩ := own_form hown
          rw [List.take_length] at hown
          have hB8 := below_then hB7 hbr
          have R3 := R3'.ext hbr
          have R4' := R4.ext hbr
          have R7' := R7.ext hbr
          have R8 := Reads.of_own hown
          clear hown R3' R4 R7
          have hown0 := World.ownsRow_lit (e := 5) (size := 1) (base := wr.heap.size) wr #[] 0 (Nat.le_refl _) (by simp) (by rfl)
          have hBa := below_alloc1 wr (.cells #[] 5)
          have t3 := R3.below hBa
          have hL2 : l2.length ≤ 1000 := by omega
          have hL0 : l0.length ≤ 500 := by omega
          have hxl : x.length ≤ 4000 := by omega
          have hmap : (l0.map (·.1)).length = l0.length := List.length_map _
          have hmap2 : (l0.map (·.2)).length = l0.length := List.length_map _
          clear hl
          go_wp2_with (first | (at_builtin; refine wpList_append_to _ rfl (.tmp 80) (.tmp 81) _ rfl wr.heap.size 5 j0 _ 1 Try.underlying24 hj hy0 hy1 hy2 rfl _ 0 [] rfl hown0 _ A3 x.length c3 (bv x) rfl (bv_len _).symm t3 (bv_one _) (by simp only [maxLen]; omega) (by omega) hBa.size ?_; intro A9 c9 w9 hown9 hg9 hb9 hk9; simp only [Nat.zero_add, List.nil_append] at hown9; have hBb := hBa.trans hb9; have t4 := r2.below (hB8.trans (hBb.mono hB8.size)); clear hg9 hk9) | (at_builtin; refine wpList_append_to _ rfl (.tmp 82) (.tmp 83) _ rfl wr.heap.size 5 j0 _ 1 Try.underlying24 hj hy0 hy1 hy2 rfl _ x.length (bv x) rfl hown9 _ A2 l2.length c2 (bv l2) rfl (bv_len _).symm t4 (bv_one _) (by simp only [maxLen]; omega) (by omega) hBb.size ?_; intro A10 c10 w10 hown10 hg10 hb10 hk10; clear hg10 hk10))
          rw [← bv_append] at hown10
          have hll : x.length + l2.length = (x ++ l2).length := List.length_append.symm
          have hBc := hBb.trans hb10
          have R10 := Reads.of_own hown10
          have R3' := R3.ext hBc
          have R4 := R4'.ext hBc
          have R7 := R7'.ext hBc
          have R8' := R8.ext hBc
          have hB10 := below_then hB8 hBc
          have hu := unpack_any A10 c10 (x ++ l2) A8 c8 (l0.map (·.1)) w10 (by rw [← hll]; simp only [reachBytes]; omega) (by rw [hmap]; simp only [reachBytes]; omega) R10 R8'
          rw [hmap, HU1.out, HU2.out] at hu
          rw [hll]
          clear hll hBa hbr hB8 hb9 hb10 hBb hBc R3 R4' R7' R8 R8' R10 hown0 hown9 hown10 t3 t4 hmap HU1 HU2
          refine hu.mono ?_
          rintro e w11 ⟨A11, c11, rfl, hown11, hb11⟩
          have hB11 := below_then hB10 hb11
          have R3 := R3'.ext hb11
          have R4' := R4.ext hb11
          have R7' := R7.ext hb11
          have R11 := Reads.of_own hown11
          rw [iv_len, hmap2]
          clear hu hown11 hb11 hB10 R3' R4 R7
          go_wp2_with fail
          go_loopw [17] (fun i wr => ∃ k : Nat, k ≤ l0.length ∧ i = .int .i64 k ∧ Below w11.heap.size w11 wr) (fun i _ => l0.length - (intOf i).toNat)
          case atStart => exact ⟨0, by omega, rfl, Below.refl _ _⟩
          case round =>
            obtain ⟨k, hk', rfl, hbr⟩ := hrel
            by_cases hlt : k < l0.length
            · obtain ⟨b, o, rfl, hbb, hc⟩ := r0.below (below_then hB11 hbr) (by omega)
              obtain ⟨hc1, hc2⟩ := hc k _ (List.getElem?_eq_getElem hlt)
              obtain ⟨ad, rfl, _, hcc⟩ := (R11.below hbr).num (k := k) (by rw [hmap2]; exact hlt)
              rw [List.getElem_map] at hcc
              clear hc
              generalize l0[k] = q at *
              obtain ⟨q1, q2⟩ := q
              simp only at hc1 hc2 hcc
              have i0' : (0 : Int) ≤ (k : Int) := by omega
              have i1' : (k : Int) < (l0.length : Int) := by omega
              go_wp2_with fail
              go_quiet (fail)
              go_wp2
              go_roundw
              case rel => exact ⟨k + 1, by omega, by go_num, below_drewN hbr _⟩
              case measure => simp [intOf]; omega
            · obtain rfl : k = l0.length := by omega
              have hB12 := below_then hB11 hbr
              have hcv1 := run_conv_bytes (P := Try.prog) wr 24 9 5 Try.underlying24 Try.underlying5 Try.underlying9 x.length c3 rfl (R3.ext hbr)
              have hcv2 := run_conv_bytes (P := Try.prog) wr 24 9 5 Try.underlying24 Try.underlying5 Try.underlying9 y.length c4 rfl (R4'.ext hbr)
              have hcv3 := run_conv_bytes (P := Try.prog) wr 24 9 5 Try.underlying24 Try.underlying5 Try.underlying9 (x.length + y.length) c7 List.length_append.symm (R7'.ext hbr)
              have hcat : (ByteArray.mk x.toArray) ++ (ByteArray.mk y.toArray) = ByteArray.mk (x ++ y).toArray := by
                apply ByteArray.ext
                rw [ByteArray.data_append]
                simp
              have htl : (ByteArray.mk x.toArray ++ ByteArray.mk y.toArray).toList = x ++ y := by rw [hcat]; rw [ByteArray.toList_eq]
              clear hcat
              have hxy2 : ¬ 9223372036854775807 < x.length + y.length := by omega
              go_wp2_with fail
              refine (lives01 _).mono ?_
              rintro e w12 ⟨rfl, hb13⟩
              have hB13 := below_then hB12 hb13
              clear hb13 hcv1 hcv2 hcv3
              go_wp2
              go_ret
              exact ⟨rfl, hB13⟩
    · have hv1 : packV l1 = [] := by unfold packV; rw [if_neg he1]
      have hz : packE (l0 ++ l1) = packE l1 := by rw [packE_append, if_pos he0]
      have hvz : packV (l0 ++ l1) = [] := by unfold packV; rw [hz, if_neg he1]
      rw [hvz, hz, he0]
      have d1 : (packE l1 != 0) = true := by simpa using he1
      clear hv1 hz hvz he1 R3' R4 R7
      generalize packE l1 = pe at *
      go_wp2_with fail
      refine (lives01 _).mono ?_
      rintro e w8 ⟨rfl, hb8⟩
      have hB8 := below_then hB7 hb8
      clear hb8
      go_wp2
      go_ret
      exact ⟨rfl, hB8⟩
  · have hz : packE (l0 ++ l1) = packE l0 := by rw [packE_append, if_neg he0]
    have hvz : packV (l0 ++ l1) = [] := by unfold packV; rw [hz, if_neg he0]
    rw [hvz, hz]
    have d1 : (packE l0 != 0) = true := by simpa using he0
    clear hz hvz he0 R3' R4 R7
    generalize packE l0 = pe at *
    go_wp2_with fail
    refine (lives01 _).mono ?_
    rintro e w8 ⟨rfl, hb8⟩
    have hB8 := below_then hB7 hb8
    clear hb8
    go_wp2
    go_ret
    exact ⟨rfl, hB8⟩
end Go.Proofs.Ytahomneljdjjjaa
