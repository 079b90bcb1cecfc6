/-
  The statements of chapter 2 (crc), walked: each law's call returns true and leaves all that was there as it was.
-/
import Derived.Test.YtnebmkkaobedaaaCrcP
import Derived.Deep.RegionHeld3
import Derived.Deep.DrawnRows
namespace Go.Proofs.Ytnebmkkaobedaaa
open Go.RowKit

theorem crc_example : crcM 0 [49, 50, 51, 52, 53, 54, 55, 56, 57] = 3808858755 := by decide +kernel
theorem lives02 (w : World) : Calls Try.prog 25 #[] w fun e w' => e = .returned (.bool true) ∧ Below w.heap.size w w' := by
  have kc := fun (w : World) (C : Array Value) (n c : Nat) => Lib.run_convert_bytes_const (P := Try.prog) w 30 5 C n c Try.underlying30 Try.underlying5
  have hR := Reads.new w (bv [49, 50, 51, 52, 53, 54, 55, 56, 57]) 5 (9, 10)
  have hP := Pieces.one (w := w.alloc (.cells (bv [49, 50, 51, 52, 53, 54, 55, 56, 57]).toArray 5 (9, 10))) 30 9 9 rfl (hR.more (by simp)) (by simp [maxLen])
  rw [World.size_alloc] at hP
  have HP := Lib.hid hP
  clear hP hR
  go_enter Try.func25, Try.ntmps25
  go_wp2_with fail
  clear kc
  refine (sum_any _ 1 _ [[49, 50, 51, 52, 53, 54, 55, 56, 57]] _ rfl (by simp [maxLen]) (HP.out.more (by simp))).mono ?_
  rintro e w1 ⟨rfl, hb1⟩
  have hB := below_then (below_alloc2 w _ _) hb1
  clear hb1 HP
  go_wp2
  go_ret
  exact ⟨ret_bool (by simp [crc_example]), hB⟩

set_option maxHeartbeats 1000000 in
theorem law_CrcSums (A0 : Option Addr) (c0 : Nat) (l0 : List UInt8) (a1 : Int) (w : World) (m00 : l0.length ≤ reachBytes) (h0 : Reads w w.heap.size A0 (bv l0)) (_w1 : (Lit.int .i64 a1).wf = true) :
    Calls Try.prog 5 #[.slice A0 l0.length c0, .int .i64 a1] w fun e w' => e = .returned (.bool true) ∧ Below w.heap.size w w' := by
  have m0' : l0.length ≤ maxLen := by simp only [reachBytes, maxLen] at *; omega
  have m0 := m0'
  unfold maxLen at m0
  clear m00
  by_cases hlen : 3000 < l0.length
  · go_enter Try.func5, Try.ntmps5
    go_wp2_with fail
    refine (lives02 _).mono ?_
    rintro e w1 ⟨rfl, hb1⟩
    go_wp2
    go_ret
    exact ⟨rfl, hb1⟩
  · go_enter Try.func5, Try.ntmps5
    go_wp2_with fail
    refine (sum_any _ 1 _ [l0] _ rfl (by simp [maxLen]) ((Pieces.one 30 _ _ rfl h0 m0').more (by simp))).mono ?_
    rintro e w1 ⟨rfl, hb1⟩
    have hB1 := below_then (below_alloc1 w _) hb1
    clear hb1
    rw [show [l0].flatten = l0 by simp]
    have hr1 := h0.ext hB1
    go_wp2_with fail
    refine (rsum_any A0 _ c0 l0 _ _ rfl m0' hr1).mono ?_
    rintro e w2 ⟨rfl, rfl⟩
    go_wp2_with fail
    refine (more_any a1 A0 _ c0 l0 _ rfl m0' hr1).mono ?_
    rintro e w2 ⟨rfl, hb2⟩
    have hB2 := below_then hB1 hb2
    have hr2 := hr1.ext hb2
    clear hb2 hr1 hB1
    go_wp2_with fail
    refine (rmore_any a1 A0 _ c0 l0 _ _ rfl m0' hr2).mono ?_
    rintro e w3 ⟨rfl, rfl⟩
    go_wp2_with fail
    refine (sum_any none 0 0 [] _ rfl (by simp [maxLen]) (Pieces.nil_ _ _ _)).mono ?_
    rintro e w4 ⟨rfl, hb4⟩
    rw [show crcM 0 (([] : List (List UInt8)).flatten) = 0 by decide +kernel]
    have hB4 := below_then hB2 hb4
    clear hb4 hr2 hB2
    go_wp2_with fail
    refine (lives02 _).mono ?_
    rintro e w5 ⟨rfl, hb5⟩
    have hB5 := below_then hB4 hb5
    clear hb5
    go_wp2
    go_ret
    exact ⟨rfl, hB5⟩

theorem Try.infoInt : (Try.prog.info? 3).map (fun i => (i.zero, i.size, i.bytes)) = some (some (.int .i64 0), 1, 8) := by kernel_rfl
theorem Try.infoU8 : (Try.prog.info? 5).map (fun i => (i.zero, i.size, i.bytes)) = some (some (.int .u8 0), 1, 1) := by kernel_rfl

/-- what becomes of the registers below k by eight steps -/
def tabOf (k : Nat) : List Int := (List.range k).map fun n => ((stN 8 n : Nat) : Int)
theorem tabOf_succ (k : Nat) : tabOf (k + 1) = tabOf k ++ [((stN 8 k : Nat) : Int)] := by simp [tabOf, List.range_succ]
theorem tabOf_len (k : Nat) : (tabOf k).length = k := by simp [tabOf]

set_option maxRecDepth 100000 in
set_option maxHeartbeats 1000000 in
theorem table_any (w : World) : Calls Try.prog 30 #[] w (Gives 3 (iv (tabOf 256)) w) := by
  obtain ⟨i0, hi, hz0, hz1, hz2⟩ := info_parts Try.infoInt
  go_enter Try.func30, Try.ntmps30
  go_wp2_with fail
  go_loopw [1, 3] (fun v i wr => ∃ k : Nat, k ≤ 256 ∧ i = .int .i64 k ∧ wr.ownsRow w.heap.size 3 1 v k (iv (tabOf k)) ∧ Below w.heap.size w wr) (fun _ i _ => 256 - (intOf i).toNat)
  case atStart => exact ⟨0, by omega, rfl, World.ownsRow_nil _ _ _ _, Below.refl _ _⟩
  case round =>
    obtain ⟨k, hk, rfl, hown, hbr⟩ := hrel
    by_cases hlt : k < 256
    · have hrd := Reads.new wr (bv [0]) 5 (0, 0)
      go_wp2_with fail
      refine (run_any k (by omega) _ 1 1 [0] _ rfl (by simp [maxLen]) (hrd.more (by simp))).mono ?_
      rintro e w1 ⟨rfl, hb1⟩
      have hb1' := below_then (below_alloc1 wr _) hb1
      have hown1 := hown.kept (w' := w1) (row := none) ⟨hb1'.os, hb1'.tape, hb1'.output, hb1'.size, fun i hi _ => hb1'.block i hi⟩ (by cases hv : u1.ownBlock <;> simp)
      have hB1 := hbr.trans (hb1'.mono hbr.size)
      have HV := Lib.hid (show tabOf (k + 1) = tabOf k ++ [((crcR k [0] : Nat) : Int)] by rw [tabOf_succ]; simp [crcR])
      clear hb1 hb1' hrd hown hbr
      have hx := crcR_lt k (by omega) [0]
      generalize crcR k [0] = x at *
      have hr2 := Reads.new w1 (iv [(x : Int)]) 3 (0, 0)
      go_wp2_with (at_builtin; refine wpList_append_to _ rfl (.tmp 6) (.tmp 12) _ rfl w.heap.size 3 i0 _ 8 Try.underlying42 hi hz0 hz1 hz2 rfl u1 k (iv (tabOf k)) rfl (hown1.alloc _) _ _ 1 1 (iv [(x : Int)]) rfl rfl hr2 (iv_one _) (by simp only [maxLen]; omega) (by omega) (by have := hB1.size; simp; omega) ?_; intro A' c' w2 hown2 hg2 hb2 _)
      go_roundw
      case rel => exact ⟨k + 1, by omega, by go_num, by rw [HV.out, iv_append]; exact hown2, hB1.trans (((below_alloc1 w1 _).mono hB1.size).trans hb2)⟩
      case measure => simp [intOf]; omega
    · have HK := Lib.hid (show k = 256 by omega)
      obtain ⟨A, c, rfl⟩ := own_form hown
      have HO := Lib.hid hown
      clear hown
      go_wp2
      go_ret
      exact ⟨A, c, by rw [iv_len, tabOf_len, ← HK.out]; rfl, by rw [iv_len, tabOf_len, ← HK.out]; exact HO.out, hbr⟩

attribute [local go_sem ↓] Go.wp_at_zero Go.wp_at_succ
set_option maxHeartbeats 1000000 in
theorem law_CrcTable (a0 : Int) (w : World) (_w0 : (Lit.int .i64 a0).wf = true) :
    Calls Try.prog 7 #[.int .i64 a0] w fun e w' => e = .returned (.bool true) ∧ Below w.heap.size w w' := by
  have hm : bits .and .i64 a0 255 = a0 % 256 := i64_mask a0 8 (by omega) 255 rfl
  have hk0 : 0 ≤ a0 % 256 := Int.emod_nonneg _ (by omega)
  have hk1 : a0 % 256 < 256 := Int.emod_lt_of_pos _ (by omega)
  obtain ⟨k, hk⟩ := Int.eq_ofNat_of_zero_le hk0
  rw [hk] at hm hk1
  clear hk hk0
  go_enter Try.func7, Try.ntmps7
  go_wp2_with fail
  refine (table_any _).mono ?_
  rintro e w1 ⟨A, c, rfl, hown, hb1⟩
  rw [iv_len, tabOf_len] at hown ⊢
  obtain ⟨ad, rfl, hadb, hc⟩ := (Reads.of_own hown).num (k := k) (by rw [tabOf_len]; omega)
  have hv : (tabOf 256)[k]'(by rw [tabOf_len]; omega) = ((stN 8 k : Nat) : Int) := by simp [tabOf]
  rw [hv] at hc
  clear hv hown
  go_wp2_with fail
  have hs := step_any k (by omega)
  have hl := lives02
  have heq : (((stN 8 k : Nat) : Int) == ((stN 8 k : Nat) : Int)) = true := by simp
  go_region_held3 (fun w' => w'.cell? (ad.add k) = some (.int .i64 (stN 8 k : Nat))) (first | go_keep | exact keep_cell hb2 (by assumption)) (first | (go_at_call 31; refine (hs _).mono ?_; rintro e w' ⟨rfl, rfl⟩) | (go_at_call 25; refine (hl _).mono ?_; rintro e w' ⟨rfl, hb2⟩))
  have hB := below_then hb1 (show Below w1.heap.size w1 w' from ((Below.refl _ w1).drew).trans hb2)
  clear hb2
  go_wp2
  go_ret
  exact ⟨rfl, hB⟩

theorem flat_len_take (ps : List (List UInt8)) (k : Nat) (h : k < ps.length) : (ps.take (k + 1)).flatten = (ps.take k).flatten ++ ps[k] := by
  rw [take_snoc ps k h, List.flatten_append]; simp
theorem flat_len_le (R : Nat) (ps : List (List UInt8)) (h : ∀ l ∈ ps, l.length ≤ R) (k : Nat) : (ps.take k).flatten.length ≤ k * R := by
  induction k with
  | zero => simp
  | succ k ih =>
    by_cases hk : k < ps.length
    · rw [flat_len_take ps k hk, List.length_append, Nat.succ_mul]
      have := h ps[k] (List.getElem_mem hk)
      omega
    · rw [List.take_of_length_le (by omega)] at *
      rw [Nat.succ_mul]
      omega
theorem flat_mono (ps : List (List UInt8)) (k : Nat) : (ps.take k).flatten.length ≤ ps.flatten.length := by
  conv => rhs; rw [← List.take_append_drop k ps, List.flatten_append, List.length_append]
  omega
theorem crcM_more (xs l : List UInt8) : crcM (crcM 0 xs) l = crcM 0 (xs ++ l) := by
  unfold crcM
  rw [Nat.xor_assoc, Nat.xor_self, Nat.xor_zero]
  simp [crcR]

/-- the first loop: how many bytes the first hundred and one pieces have -/
def flatN (ps : List (List UInt8)) (k : Nat) : Nat := (ps.take k).flatten.length

set_option maxRecDepth 100000 in
set_option maxHeartbeats 2000000 in
theorem law_CrcPieces (A0 : Option Addr) (c0 : Nat) (l0 : List (List UInt8)) (w : World) (m0 : l0.length * 24 ≤ reachBytes) (f0 : ∀ l ∈ l0, l.length ≤ reachBytes) (r0 : Pieces w w.heap.size A0 l0) :
    Calls Try.prog 6 #[.slice A0 l0.length c0] w fun e w' => e = .returned (.bool true) ∧ Below w.heap.size w w' := by
  have hmx : l0.length ≤ maxLen := by simp only [reachBytes, maxLen] at *; omega
  have HN : Hid (∀ k, k ≤ 101 → flatN l0 k ≤ 101 * reachBytes) := fun k hk => Nat.le_trans (flat_len_le reachBytes l0 f0 k) (Nat.mul_le_mul_right _ hk)
  have HS : Hid (∀ k (h : k < l0.length), flatN l0 (k + 1) = flatN l0 k + l0[k].length) := fun k h => by unfold flatN; rw [flat_len_take l0 k h, List.length_append]
  simp only [reachBytes] at m0 HN
  clear f0
  obtain ⟨i0, hi, hz0, hz1, hz2⟩ := info_parts Try.infoU8
  go_enter Try.func6, Try.ntmps6
  go_wp2_with fail
  go_loop [3, 4] (fun n i => ∃ k : Nat, k ≤ l0.length ∧ k ≤ 101 ∧ i = .int .i64 k ∧ n = .int .i64 (flatN l0 k : Nat)) (fun _ i => 101 - (intOf i).toNat)
  case atStart => exact ⟨0, by omega, by omega, rfl, rfl⟩
  case round =>
    obtain ⟨k, hk, hk2, rfl, rfl⟩ := hrel
    have hn := HN.out k hk2
    by_cases hlt : k < l0.length
    · by_cases hlt2 : k < 101
      · obtain ⟨ad, rfl, hadb, hc⟩ := r0 (by omega)
        obtain ⟨a, cc, hcell, hrd, hlen⟩ := hc k _ (List.getElem?_eq_getElem hlt)
        have hs := HS.out k hlt
        have hn' := HN.out (k + 1) (by omega)
        rw [hs] at hn'
        have HE := Lib.hid hs
        clear hc hs hrd hlen
        generalize l0[k].length = ln at *
        generalize flatN l0 k = n at *
        go_wp2
        go_round
        case rel => exact ⟨k + 1, by omega, by omega, by go_num, by rw [HE.out]; go_num⟩
        case measure => simp [intOf]; omega
      · have h1 : (100 : Int) < (l0.length : Int) := by omega
        clear hn
        generalize flatN l0 k = n at *
        go_wp2_with fail
        refine (lives02 _).mono ?_
        rintro e w1 ⟨rfl, hb1⟩
        go_wp2
        go_ret
        exact ⟨rfl, hb1⟩
    · obtain rfl : k = l0.length := by omega
      by_cases h1 : 100 < l0.length
      · generalize flatN l0 l0.length = n at *
        go_wp2_with fail
        refine (lives02 _).mono ?_
        rintro e w1 ⟨rfl, hb1⟩
        go_wp2
        go_ret
        exact ⟨rfl, hb1⟩
      · by_cases h2 : 3000 < flatN l0 l0.length
        · generalize flatN l0 l0.length = n at *
          go_wp2_with fail
          refine (lives02 _).mono ?_
          rintro e w1 ⟨rfl, hb1⟩
          go_wp2
          go_ret
          exact ⟨rfl, hb1⟩
        · have hT : ∀ k, flatN l0 k ≤ 3000 := fun k => Nat.le_trans (flat_mono l0 k) (by unfold flatN at h2; rw [List.take_length] at h2; omega)
          have HT := Lib.hid hT
          clear hT
          generalize flatN l0 l0.length = n at *
          go_wp2_with fail
          go_loopw [5, 6, 7] (fun v x i wr => ∃ k : Nat, k ≤ l0.length ∧ i = .int .i64 k ∧ wr.ownsRow w.heap.size 5 1 v (flatN l0 k) (bv (l0.take k).flatten) ∧ x = .int .i64 (crcM 0 (l0.take k).flatten : Nat) ∧ Below w.heap.size w wr) (fun _ _ i _ => l0.length - (intOf i).toNat)
          case atStart => exact ⟨0, by omega, rfl, World.ownsRow_nil _ _ _ _, by rw [List.take_zero]; rfl, Below.refl _ _⟩
          case round =>
            obtain ⟨k, hk, rfl, hown, rfl, hbr⟩ := hrel
            by_cases hlt : k < l0.length
            · obtain ⟨ad, rfl, hadb, hc⟩ := r0.below hbr (by omega)
              obtain ⟨a, cc, hcell, hrd, hlen⟩ := hc k _ (List.getElem?_eq_getElem hlt)
              clear hc
              have hT1 := HT.out (k + 1)
              have hE := HS.out k hlt
              rw [hE] at hT1
              have HE := Lib.hid hE
              have HJ := Lib.hid (flat_len_take l0 k hlt)
              clear hE
              have hx := crcM_lt 0 (by omega) (l0.take k).flatten
              have HV := Lib.hid (show crcV (crcM 0 (l0.take k).flatten : Nat) l0[k] = ((crcM 0 (l0.take (k + 1)).flatten : Nat) : Int) by
                unfold crcV
                rw [if_neg (by omega), Int.toNat_natCast, crcM_more, HJ.out])
              have hk1 : l0[k].length ≤ 3000 := by omega
              generalize l0[k] = l at *
              generalize crcM 0 (l0.take k).flatten = x at *
              generalize flatN l0 k = m at *
              go_wp2_with (at_builtin; refine wpList_append_to _ rfl (.tmp 39) (.tmp 43) _ rfl w.heap.size 5 i0 _ 1 Try.underlying30 hi hz0 hz1 hz2 rfl _ m (bv (l0.take k).flatten) rfl hown _ a l.length cc (bv l) rfl (bv_len l).symm hrd (bv_one _) (by simp only [maxLen]; omega) (by omega) hbr.size ?_; intro A' c' w2 hown2 hg2 hb2 _; have hcell2 := (hb2.cell (p := ad.add k) (by rw [block_add]; exact hadb)).trans hcell)
              have hrd2 := (hrd.below hb2).more (Nat.le_trans hbr.size hg2.size)
              refine (more_any _ _ _ _ l _ rfl hlen hrd2).mono ?_
              rintro e w3 ⟨rfl, hb3⟩
              have hB2 := hbr.trans hb2
              have hB3 := hB2.trans (hb3.mono hB2.size)
              have hown3 := own_keep hown2 hb3
              clear hg2 hb2 hb3 hown2 hB2 hrd2 hrd hown hcell2 hcell
              rw [HV.out]
              clear HV
              have hx3 := crcM_lt 0 (by omega) (l0.take (k + 1)).flatten
              have HX := Lib.hid (show ((crcM 0 (l0.take (k + 1)).flatten : Nat) : Int) = ((crcM 0 (l0.take (k + 1)).flatten : Nat) : Int) from rfl)
              generalize hq : crcM 0 (l0.take (k + 1)).flatten = x3 at *
              have HQ := Lib.hid hq
              clear hq HX
              go_wp2
              go_roundw
              case rel => exact ⟨k + 1, by omega, by go_num, by rw [HE.out, HJ.out, bv_append]; exact hown3, by rw [HQ.out], hB3⟩
              case measure => simp [intOf]; omega
            · obtain rfl : k = l0.length := by omega
              have hpr := (r0.below hbr).more hbr.size
              have HL := Lib.hid (show flatN l0 l0.length = l0.flatten.length by unfold flatN; rw [List.take_length])
              have hl2 := HT.out l0.length
              rw [List.take_length] at hown ⊢
              rw [HL.out] at hown hl2
              obtain ⟨A1, c1, rfl⟩ := own_form hown
              have hrd := Reads.of_own hown
              clear hown
              generalize hfl : l0.flatten = fl at *
              have HFL := Lib.hid hfl
              clear hfl
              go_wp2_with fail
              refine (sum_any A0 _ c0 l0 _ rfl hmx hpr).mono ?_
              rintro e w1 ⟨rfl, hb1⟩
              rw [HFL.out]
              have hB1 := hbr.trans (hb1.mono hbr.size)
              have hrd1 := hrd.ext hb1
              clear hb1 hrd hpr hbr
              have hfm : fl.length ≤ maxLen := by simp only [maxLen]; omega
              go_wp2_with fail
              refine (sum_any _ 1 _ [fl] _ rfl (by simp [maxLen]) ((Pieces.one 30 _ _ rfl hrd1 hfm).more (by simp))).mono ?_
              rintro e w2 ⟨rfl, hb2⟩
              have hb2' := below_then (below_alloc1 w1 _) hb2
              have hB2 := hB1.trans (hb2'.mono hB1.size)
              have hrd2 := hrd1.ext hb2'
              clear hb2 hb2' hrd1 hB1
              rw [show [fl].flatten = fl by simp]
              go_wp2_with fail
              refine (sum_any _ 1 _ [fl] _ rfl (by simp [maxLen]) ((Pieces.one 30 _ _ rfl hrd2 hfm).more (by simp))).mono ?_
              rintro e w3 ⟨rfl, hb3⟩
              have hb3' := below_then (below_alloc1 w2 _) hb3
              have hB3 := hB2.trans (hb3'.mono hB2.size)
              clear hb3 hb3' hrd2 hB2
              rw [show [fl].flatten = fl by simp]
              go_wp2_with fail
              refine (lives02 _).mono ?_
              rintro e w4 ⟨rfl, hb4⟩
              go_wp2
              go_ret
              exact ⟨rfl, hB3.trans (hb4.mono hB3.size)⟩
end Go.Proofs.Ytnebmkkaobedaaa
