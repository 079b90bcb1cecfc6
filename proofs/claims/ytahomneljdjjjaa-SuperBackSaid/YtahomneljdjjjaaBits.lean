/-
  What package bits' functions compute, walked.
-/
import Derived.Test.YtahomneljdjjjaaCode3
import Derived.Test.YtahomneljdjjjaaBitsP
import Derived.Test.YtahomneljdjjjaaVal6
namespace Go.Proofs.Ytahomneljdjjjaa
open Go.RowKit

theorem bad1_any (n : Int) (w : World) : Calls Try.prog 85 #[.int .i64 n] w fun e w' => e = .returned (.bool (!decide (0 ≤ n ∧ n ≤ 3))) ∧ w = w' := by
  by_cases h0 : n < 0
  · have hv : (!decide (0 ≤ n ∧ n ≤ 3)) = true := by simp; omega
    have d1 : decide (n < 0) = true := decide_eq_true h0
    rw [hv]
    clear hv
    go_enter Try.func85, Try.ntmps85
    go_wp2
    go_ret
    exact ⟨rfl, rfl⟩
  · have d1 : decide (n < 0) = false := decide_eq_false h0
    by_cases h3 : 3 < n
    · have hv : (!decide (0 ≤ n ∧ n ≤ 3)) = true := by simp; omega
      have d2 : decide (3 < n) = true := decide_eq_true h3
      rw [hv]
      clear hv
      go_enter Try.func85, Try.ntmps85
      go_wp2
      go_ret
      exact ⟨rfl, rfl⟩
    · have hv : (!decide (0 ≤ n ∧ n ≤ 3)) = false := by simp; omega
      have d2 : decide (3 < n) = false := decide_eq_false h3
      rw [hv]
      clear hv
      go_enter Try.func85, Try.ntmps85
      go_wp2
      go_ret
      exact ⟨rfl, rfl⟩
theorem made_zeros (n : Nat) : (madeCells (Value.int .u8 0).cells (n * 1)).toList = bv (List.replicate n 0) := by
  rw [Nat.mul_one]
  apply List.ext_getElem
  · simp [madeCells, bv]
  · intro i h1 h2
    simp [madeCells, bv, Value.cells, Nat.mod_one]
theorem copied (l : List Int) : (bv (List.replicate 244 0)).take 0 ++ ((bv (leb 4 l.length)).take (244 - 0) ++ (bv (List.replicate 244 0)).drop (0 + (bv (leb 4 l.length)).length)) = bv (leb 4 l.length ++ bodyB (l.take 0)) := by
  rw [List.take_zero, List.nil_append, bv_append, List.take_zero, bodyB_nil]
  rw [List.take_of_length_le (by rw [bv_len, leb_len]; omega), bv_drop]
  congr 1
theorem ofInt_u8 (a : Nat) (ha : a < 256) : (BitVec.ofInt 8 (a : Int)).toNat = a := by
  rw [BitVec.ofInt_natCast, BitVec.toNat_ofNat]; exact Nat.mod_eq_of_lt (by omega)
theorem u8_or_n (a b : Nat) (ha : a < 256) (hb : b < 256) : bits .or .u8 (a : Int) (b : Int) = ((a ||| b : Nat) : Int) := by
  have hx : a ||| b < 2 ^ 8 := Nat.or_lt_two_pow (by omega) (by omega)
  show IntKind.u8.wrap ((BitVec.ofInt 8 (a : Int) ||| BitVec.ofInt 8 (b : Int)).toNat : Int) = _
  rw [BitVec.toNat_or, ofInt_u8 a ha, ofInt_u8 b hb, IntKind.wrap_u8]
  omega
theorem put_bit (old n r : Nat) (hn : n ≤ 3) (hr : r < 4) (ho : old < 4 ^ r) : bits .or .u8 (old : Int) (wrap64 ((n : Int) * 2 ^ (r * 2)) % 256) = ((old + n * 4 ^ r : Nat) : Int) := by
  have h1 : (2 : Int) ^ (r * 2) = ((4 ^ r : Nat) : Int) := by
    rw [Nat.mul_comm, Int.pow_mul]
    simp
  have h4 : 4 ^ r ≤ 64 := by
    obtain rfl | rfl | rfl | rfl : r = 0 ∨ r = 1 ∨ r = 2 ∨ r = 3 := by omega
    all_goals decide
  have h5 : n * 4 ^ r ≤ 3 * 64 := Nat.mul_le_mul hn h4
  have h2 : wrap64 ((n : Int) * 2 ^ (r * 2)) % 256 = ((n * 4 ^ r : Nat) : Int) := by
    rw [h1, ← Int.natCast_mul]
    unfold wrap64
    omega
  rw [h2, u8_or_n _ _ (by omega) (by omega), Nat.or_comm]
  have h6 : (4 : Nat) ^ r = 2 ^ (2 * r) := by rw [Nat.pow_mul]
  have h7 := Nat.two_pow_add_eq_or_of_lt (i := 2 * r) (b := old) (by rw [← h6]; exact ho) n
  rw [← h6, Nat.mul_comm] at h7
  rw [← h7, Nat.add_comm]
theorem row_set (l : List Int) (k : Nat) (hk : k < l.length) (h9 : l.length ≤ 960) (hE : ∀ n ∈ l, 0 ≤ n ∧ n ≤ 3) : (bv (leb 4 l.length ++ bodyB (l.take k))).set (4 + k / 4) (.int .u8 (byteN (l.take (k + 1)) (k / 4) : Nat)) = bv (leb 4 l.length ++ bodyB (l.take (k + 1))) := by
  have hlt := byteN_lt (l := l.take (k + 1)) (fun n hn => hE n (List.mem_of_mem_take hn)) (k / 4)
  rw [bodyB_snoc l k hk h9]
  have : (Value.int .u8 (byteN (l.take (k + 1)) (k / 4) : Nat)) = (fun b : UInt8 => Value.int .u8 (b.toNat : Int)) (UInt8.ofNat (byteN (l.take (k + 1)) (k / 4))) := by
    simp only [UInt8.toNat_ofNat', Nat.mod_eq_of_lt hlt]
  rw [this]
  unfold bv
  rw [← List.map_set, List.set_append_right _ _ (by rw [leb_len]; omega), leb_len, Nat.add_sub_cancel_left]
/-- all of them counts? -/
def allC (l : List Int) : Bool := l.all fun n => decide (0 ≤ n ∧ n ≤ 3)
theorem allC_no (l : List Int) (k : Nat) (n : Int) (hb : l[k]? = some n) (hn : decide (0 ≤ n ∧ n ≤ 3) = false) : allC l = false := by
  unfold allC
  rw [List.all_eq_false]
  exact ⟨n, List.mem_of_getElem? hb, by rw [hn]; simp⟩
theorem allC_yes (l : List Int) (h : ∀ j, j < l.length → ∀ n, l[j]? = some n → decide (0 ≤ n ∧ n ≤ 3) = true) : allC l = true := by
  unfold allC
  rw [List.all_eq_true]
  intro b hb
  obtain ⟨j, hj, rfl⟩ := List.getElem_of_mem hb
  exact h j hj _ (List.getElem?_eq_getElem hj)
set_option maxHeartbeats 1000000 in
theorem idxI_any (A : Option Addr) (c : Nat) (l : List Int) (w : World) (B : Nat) (hm : l.length * 8 ≤ reachBytes) (h : Reads w B A (iv l)) :
    Calls Try.prog 93 #[.slice A l.length c, .func (.func 85) #[] #[]] w fun e w' => ∃ r : Int, e = .returned (.int .i64 r) ∧ decide (0 ≤ r) = !allC l ∧ w = w' := by
  simp only [reachBytes] at hm
  go_enter Try.func93, Try.ntmps93
  go_wp2_with fail
  go_loop [8] (fun i => ∃ k : Nat, k ≤ l.length ∧ i = .int .i64 k ∧ ∀ j, j < k → ∀ n, l[j]? = some n → decide (0 ≤ n ∧ n ≤ 3) = true) (fun i => l.length - (intOf i).toNat)
  case atStart => exact ⟨0, by omega, rfl, by intro j hj; omega⟩
  case round =>
    obtain ⟨k, hk, rfl, hz⟩ := hrel
    have HZ := Lib.hid hz
    clear hz
    by_cases hlt : k < l.length
    · obtain ⟨ad, rfl, _, hc⟩ := h.num hlt
      have HB := Lib.hid (show l[k]? = some l[k] from List.getElem?_eq_getElem hlt)
      have hbad := bad1_any l[k]
      cases hx : decide (0 ≤ l[k] ∧ l[k] ≤ 3) with
      | true =>
        rw [hx] at hbad
        have HX := Lib.hid hx
        clear hx
        generalize l[k] = x at *
        go_wp2_with fail
        refine (hbad _).mono ?_
        rintro e w1 ⟨rfl, rfl⟩
        clear hbad
        go_wp2
        go_round
        case rel => exact ⟨k + 1, by omega, by go_num, fun j hj n hn => by
          rcases Nat.lt_or_ge j k with h1 | h1
          · exact HZ.out j h1 n hn
          · obtain rfl : j = k := by omega
            have := HB.out
            rw [this] at hn
            injection hn with hn
            rw [← hn]
            exact HX.out⟩
        case measure => simp [intOf]; omega
      | false =>
        rw [hx] at hbad
        have HA := Lib.hid (allC_no l k _ HB.out hx)
        clear hx
        generalize l[k] = x at *
        go_wp2_with fail
        refine (hbad _).mono ?_
        rintro e w1 ⟨rfl, rfl⟩
        clear hbad
        go_wp2
        go_ret
        exact ⟨k, rfl, by rw [HA.out]; simp, rfl⟩
    · obtain rfl : k = l.length := by omega
      have HA := Lib.hid (allC_yes l (fun j hj => HZ.out j hj))
      go_wp2
      go_ret
      exact ⟨-1, rfl, by rw [HA.out]; rfl, rfl⟩
theorem cfi_any (A : Option Addr) (c : Nat) (l : List Int) (w : World) (B : Nat) (hm : l.length * 8 ≤ reachBytes) (h : Reads w B A (iv l)) :
    Calls Try.prog 84 #[.slice A l.length c, .func (.func 85) #[] #[]] w fun e w' => e = .returned (.bool (!allC l)) ∧ w = w' := by
  go_enter Try.func84, Try.ntmps84
  go_wp2_with fail
  refine (idxI_any A c l w B hm h).mono ?_
  rintro e w1 ⟨r, rfl, hr, rfl⟩
  have HR := Lib.hid hr
  clear hr
  go_wp2
  go_ret
  exact ⟨ret_bool HR.out, rfl⟩
set_option maxHeartbeats 1000000 in
theorem bfree_any (A : Option Addr) (c : Nat) (l : List Int) (w : World) (B : Nat) (hm : l.length * 8 ≤ reachBytes) (h : Reads w B A (iv l)) :
    Calls Try.prog 44 #[.slice A l.length c] w fun e w' => e = .returned (.tuple #[.int .i64 (zerosN l), .int .i64 (firstN l)]) ∧ w = w' := by
  simp only [reachBytes] at hm
  go_enter Try.func44, Try.ntmps44
  go_wp2_with fail
  go_loop [4, 5, 12] (fun z f i => ∃ (k : Nat) (x : Nat), k ≤ l.length ∧ i = .int .i64 k ∧ z = .int .i64 (zerosN (l.take k)) ∧ f = .int .i64 x ∧ (zerosN (l.take k) = 0 ∧ x = l.length ∨ 0 < zerosN (l.take k) ∧ x = firstN l)) (fun _ _ i => l.length - (intOf i).toNat)
  case atStart => exact ⟨0, l.length, by omega, rfl, rfl, rfl, .inl ⟨rfl, rfl⟩⟩
  case round =>
    obtain ⟨k, x, hk, rfl, rfl, rfl, hx⟩ := hrel
    by_cases hlt : k < l.length
    · obtain ⟨ad, rfl, _, hc⟩ := h.num hlt
      have hzs := zeros_snoc l k hlt
      have hzl := zeros_le l k
      by_cases h0 : l[k] = 0
      · rw [if_pos h0] at hzs
        have hfa : zerosN (l.take k) = 0 → firstN l = k := fun hz => first_at hlt (fun j hj hl => zeros_none hz j hj hl) h0
        have HZS := Lib.hid hzs
        have HFA := Lib.hid hfa
        have HX := Lib.hid hx
        rw [h0] at hc
        clear hzs hfa hx h0
        by_cases hz : zerosN (l.take k) = 0
        · have d1 : ((zerosN (l.take k) : Int) == 0) = true := by simp [hz]
          have HZ := Lib.hid hz
          clear hz
          generalize zerosN (l.take k) = z at *
          go_wp2
          refine ⟨⟨k + 1, k, by omega, by go_num, by rw [HZS.out]; go_num, rfl, .inr ⟨by rw [HZS.out]; omega, (HFA.out HZ.out).symm⟩⟩, by simp [intOf]; omega⟩
        · have d1 : ((zerosN (l.take k) : Int) == 0) = false := by simp; omega
          have hxf : x = firstN l := by rcases HX.out with h | h; exact absurd h.1 hz; exact h.2
          have HXF := Lib.hid hxf
          clear hxf HX HFA
          generalize zerosN (l.take k) = z at *
          go_wp2
          refine ⟨⟨k + 1, x, by omega, by go_num, by rw [HZS.out]; go_num, rfl, .inr ⟨by rw [HZS.out]; omega, HXF.out⟩⟩, by simp [intOf]; omega⟩
      · rw [if_neg h0, Nat.add_zero] at hzs
        have d1 : (l[k] != 0) = true := by simpa using h0
        have HZS := Lib.hid hzs
        have HX := Lib.hid hx
        clear hzs hx h0
        generalize l[k] = y at *
        go_wp2
        go_round
        case rel => exact ⟨k + 1, x, by omega, by go_num, by rw [HZS.out]; rfl, rfl, by rw [HZS.out]; exact HX.out⟩
        case measure => simp [intOf]; omega
    · obtain rfl : k = l.length := by omega
      rw [List.take_length] at hx
      have hxf : x = firstN l := by
        rcases hx with h | h
        · rw [h.2]
          refine (first_none fun j hj => ?_).symm
          refine zeros_none (k := l.length) ?_ j hj hj
          rw [List.take_length]
          exact h.1
        · exact h.2
      subst hxf
      have HT := Lib.hid (show l.take l.length = l from List.take_length)
      clear hx
      go_wp2
      go_ret2
      exact ⟨by first | rfl | (rw [HT.out]; rfl), rfl⟩
set_option maxRecDepth 100000 in
set_option maxHeartbeats 2000000 in
theorem bput_any (A : Option Addr) (c : Nat) (l : List Int) (w : World) (hm : l.length * 8 ≤ reachBytes) (h : Reads w w.heap.size A (iv l)) :
    Calls Try.prog 42 #[.slice A l.length c] w (GivesE 5 (bv (bitsV l)) (bitsE l) w) := by
  have mm := hm
  simp only [reachBytes] at mm
  by_cases h9 : 960 < l.length
  · have hv : bitsV l = [] ∧ bitsE l = 1 := by
      have : cntsB l = false := by simp [cntsB]; omega
      exact ⟨by unfold bitsV; rw [this]; rfl, by unfold bitsE; rw [this]; rfl⟩
    rw [hv.1, hv.2]
    have d1 : decide ((960 : Int) < (l.length : Int)) = true := decide_eq_true (by omega)
    clear hv
    go_enter Try.func42, Try.ntmps42
    go_wp2
    go_ret2
    exact ⟨none, 0, rfl, World.ownsRow_nil _ _ _ _, Below.refl _ _⟩
  have d1 : decide ((960 : Int) < (l.length : Int)) = false := decide_eq_false (by omega)
  have hcf := cfi_any A c l w _ hm h
  cases ha : allC l with
  | false =>
    have hv : bitsV l = [] ∧ bitsE l = 1 := by
      have : cntsB l = false := by unfold cntsB; rw [show (l.all fun n => decide (0 ≤ n ∧ n ≤ 3)) = false from ha]; simp
      exact ⟨by unfold bitsV; rw [this]; rfl, by unfold bitsE; rw [this]; rfl⟩
    rw [hv.1, hv.2]
    rw [ha] at hcf
    clear hv ha
    go_enter Try.func42, Try.ntmps42
    go_wp2_with fail
    refine hcf.mono ?_
    rintro e w1 ⟨rfl, rfl⟩
    go_wp2
    go_ret2
    exact ⟨none, 0, rfl, World.ownsRow_nil _ _ _ _, Below.refl _ _⟩
  | true =>
    have hcb : cntsB l = true := by unfold cntsB; rw [show (l.all fun n => decide (0 ≤ n ∧ n ≤ 3)) = true from ha]; simp; omega
    have hv : bitsV l = bitsB l ∧ bitsE l = 0 := ⟨by unfold bitsV; rw [hcb]; rfl, by unfold bitsE; rw [hcb]; rfl⟩
    rw [hv.1, hv.2]
    rw [ha] at hcf
    obtain ⟨i0', hi, hz0, hz1, hz2⟩ := info_parts Try.infoU8
    have hpk : packE [(4, (l.length : Int))] = 0 ∧ packV [(4, (l.length : Int))] = leb 4 l.length := by
      have : packE [(4, (l.length : Int))] = 0 := by simp [packE, knownB, fitsB]; omega
      exact ⟨this, by unfold packV; rw [if_pos this]; simp [packB]⟩
    have hpa := fun A W h => pack_any A 1 [(4, (l.length : Int))] W (by simp [reachBytes]) (by intro p hp; simp at hp; subst hp; simp [Lit.wf, IntKind.min, IntKind.max, IntKind.bits, IntKind.signed]; omega) h
    rw [hpk.1, hpk.2] at hpa
    have hR : Reads2 (w.alloc (.cells #[.int .i64 4, .int .i64 l.length] 49)) (w.heap.size + 1) (some ⟨w.heap.size, 0, none⟩) [(4, (l.length : Int))] := fun _ => by
      refine ⟨_, 0, rfl, Nat.lt_succ_self _, fun j p hj => ?_⟩
      have hjl := (List.getElem?_eq_some_iff.1 hj).1
      simp at hjl
      subst hjl
      rw [World.cell?_alloc_mark, World.cell?_alloc_mark]
      simp at hj
      subst hj
      exact ⟨rfl, rfl⟩
    clear hv ha hpk
    go_enter Try.func42, Try.ntmps42
    go_wp2_with fail
    refine hcf.mono ?_
    rintro e w1 ⟨rfl, rfl⟩
    clear hcf
    go_wp2_with fail
    refine (hpa _ _ (hR.more (by simp))).mono ?_
    rintro e w2 ⟨A2, c2, rfl, hown2, hb2⟩
    rw [bv_len, leb_len] at hown2
    rw [bv_len, leb_len]
    have hB2 := below_then (below_alloc1 w _) hb2
    have hr2 := Reads.of_own hown2
    have HLB := Lib.hid (show (bv (leb 4 l.length)).length = 4 by rw [bv_len, leb_len])
    have HM := Lib.hid (show (madeCells (Value.int .u8 0).cells (244 * 1)).toList = bv (List.replicate 244 0) from made_zeros 244)
    have hsz : (Try.prog.info? 5).map (·.size) = some 1 := by kernel_rfl
    have HX := Lib.hid (copied l)
    have hown0 : True := trivial
    clear hpa hown2 hb2 hR
    go_wp2_with (first | (at_make; refine wpList_make_full _ rfl (.const _) (.const _) _ rfl w.heap.size 5 i0' _ 1 Try.underlying24 hi hz0 hz1 .i64 .i64 244 244 244 rfl rfl (by omega) (by omega) (by rw [hz2]; omega) (by simp only [maxLen]; omega) hB2.size ?_; intro w3 hown3 hg3; rw [HM.out] at hown3; have hB3 : Below w.heap.size w w3 := hB2.grown hg3 hB2.size (fun k hk => by cases hk); have hr3 := hr2.grown hg3 (Nat.le_refl _) (fun k hk => by cases hk)) | (with_reducible refine wpList_copy_to rfl (.tmp 25) (.tmp 26) 24 24 rfl 5 Try.underlying24 hsz w.heap.size w2.heap.size 244 244 (bv (List.replicate 244 0)) hown3 0 (by omega) (some ⟨w2.heap.size, 0, none⟩) 244 244 rfl rfl (fun _ => rfl) w2.heap.size A2 4 c2 (bv (leb 4 l.length)) rfl HLB.out.symm hr3 (bv_one _) hB3.size ?_; intro w4 hown4 hg4 hb4 hs4))
    rw [HX.out] at hown4
    have hB2s : w.heap.size ≤ w2.heap.size := hB2.size
    clear hr2 hr3 hown3 hg3 HM HX HLB hB2
    have hB4 := hB3.trans hb4
    have hE := cnts_each hcb
    go_loopw [30] (fun i wr => ∃ k : Nat, k ≤ l.length ∧ i = .int .i64 k ∧ wr.ownsRow w.heap.size 5 1 (.slice (some ⟨w2.heap.size, 0, none⟩) 244 244) 244 (bv (leb 4 l.length ++ bodyB (l.take k))) ∧ Below w.heap.size w wr) (fun i _ => l.length - (intOf i).toNat)
    case atStart => exact ⟨0, by omega, rfl, hown4, hB4⟩
    case round =>
      obtain ⟨k, hk, rfl, hown, hbr⟩ := hrel
      by_cases hlt : k < l.length
      · obtain ⟨ad, rfl, _, hc⟩ := (h.below hbr).num hlt
        have hn := hE l[k] (List.getElem_mem hlt)
        have hkq : k / 4 < 240 := by omega
        have hold : wr.cell? ⟨w2.heap.size, 4 + k / 4, none⟩ = some (.int .u8 (byteN (l.take k) (k / 4) : Nat)) := by
          rw [hown.cellAt _ (by omega), bv_get _ _ (by rw [List.length_append, leb_len, bodyB_len]; omega)]
          have hlt2 := byteN_lt (l := l.take k) (fun n hn => hE n (List.mem_of_mem_take hn)) (k / 4)
          rw [List.getElem_append_right (by rw [leb_len]; omega)]
          simp only [leb_len, Nat.add_sub_cancel_left, bodyB, List.getElem_map, List.getElem_range, UInt8.toNat_ofNat', Nat.mod_eq_of_lt hlt2]
        have hfz := hown.frozenAt (4 + k / 4)
        have hdg0 := dg_val hE k hlt
        generalize l[k] = x at *
        obtain ⟨n, rfl⟩ := Int.eq_ofNat_of_zero_le hn.1
        have hdg : dg l k = n := by omega
        clear hdg0
        have j0 : (0 : Int) ≤ 4 + (k : Int) / 4 := by omega
        have j1 : (4 : Int) + (k : Int) / 4 < 244 := by omega
        have j2 : ((4 : Int) + (k : Int) / 4).toNat = 4 + k / 4 := by omega
        have hbs : byteN (l.take (k + 1)) (k / 4) = byteN (l.take k) (k / 4) + n * 4 ^ (k % 4) ∧ byteN (l.take k) (k / 4) < 4 ^ (k % 4) := by
          rcases byteN_snoc l k hlt with hh | hh
          · rw [hdg] at hh
            exact hh
          · exact absurd hE hh
        have PB := Lib.hid (put_bit (byteN (l.take k) (k / 4)) n (k % 4) (by omega) (Nat.mod_lt _ (by omega)) hbs.2)
        have HBS := Lib.hid hbs.1
        obtain ⟨ho2, hgr⟩ := hown.stored (4 + k / 4) (.int .u8 (byteN (l.take (k + 1)) (k / 4) : Nat))
        rw [row_set l k hlt (by omega) hE] at ho2
        have HO3 := Lib.hid ho2
        have hs0 := hB2s
        clear hbs ho2 hdg
        generalize byteN (l.take k) (k / 4) = old at *
        go_wp2_with fail
        go_region
        go_wp2
        rw [PB.out, ← HBS.out]
        refine ⟨⟨k + 1, by omega, by go_num, HO3.out, (hbr.setCell (p := ⟨w2.heap.size, 4 + k / 4, none⟩) hs0 _).drew⟩, by simp [intOf]; omega⟩
      · obtain rfl : k = l.length := by omega
        rw [List.take_length] at hown
        have HBL := Lib.hid (bitsB_len l)
        go_wp2
        go_ret2
        exact ⟨some ⟨w2.heap.size, 0, none⟩, 244, by rw [bv_len, HBL.out]; rfl, by rw [bv_len, HBL.out]; exact hown, hbr⟩
end Go.Proofs.Ytahomneljdjjjaa
