/-
  Chapter 4: the reference's Salt, known, Seal, walked.
-/
import Derived.Test.YtilkcecjciiboaaSeal2
import Derived.Test.YtilkcecjciiboaaRef1
namespace Go.Proofs.Ytilkcecjciiboaa
open Go.RowKit

theorem rsalt_any (k : Int) (w : World) : Calls Try.prog 31 #[.int .i64 k] w fun e w' => e = .returned (.int .i64 (saltV k : Nat)) ∧ Below w.heap.size w w' := by
  have hB := below_alloc1 w (.cells #[.int .i64 0, .int .i64 160774, .int .i64 121107, .int .i64 240779, .int .i64 160478] 3)
  by_cases h : k < 0 ∨ 4 < k
  · have hv : saltV k = 0 := by unfold saltV; rw [if_neg (by omega), if_neg (by omega), if_neg (by omega), if_neg (by omega)]
    rw [hv]
    by_cases h1 : k < 0
    · go_enter Try.func31, Try.ntmps31
      go_wp2
      go_ret
      exact ⟨rfl, hB⟩
    · have h2 : 4 < k := by omega
      clear h
      go_enter Try.func31, Try.ntmps31
      go_wp2
      go_ret
      exact ⟨rfl, hB⟩
  · have : k = 0 ∨ k = 1 ∨ k = 2 ∨ k = 3 ∨ k = 4 := by omega
    clear h
    rcases this with rfl | rfl | rfl | rfl | rfl <;>
    · go_enter Try.func31, Try.ntmps31
      go_wp2
      go_ret
      exact ⟨rfl, hB⟩
theorem rsknown_any (k n : Int) (w : World) : Calls Try.prog 64 #[.int .i64 k, .int .i64 n] w fun e w' => e = .returned (.bool (knownK k n)) ∧ w = w' := by
  rw [knownK_eq]
  cases d1 : decide (1 ≤ k) <;> cases d2 : decide (k ≤ 4) <;> cases d3 : decide (0 ≤ n) <;> cases d4 : decide (n < 14400) <;>
  · go_enter Try.func64, Try.ntmps64
    go_wp2
    go_ret
    exact ⟨rfl, rfl⟩
def preB (k n : Int) (l : List UInt8) (i : Nat) : List UInt8 := leb 4 n.toNat ++ (leb 2 k.toNat ++ ([0, 0] ++ (l ++ List.replicate i 0)))
theorem preB_len (k n : Int) (l : List UInt8) (i : Nat) : (preB k n l i).length = 8 + l.length + i := by
  simp [preB, leb_len]
  omega
theorem preB_succ (k n : Int) (l : List UInt8) (i : Nat) : preB k n l (i + 1) = preB k n l i ++ [0] := by
  unfold preB
  rw [List.replicate_succ']
  simp
theorem preB_full (k n : Int) (l : List UInt8) : preB k n l (244 - l.length) = headB k n l := rfl
def sliceLen : Value → Nat
  | .slice _ n _ => n
  | _ => 0
set_option maxRecDepth 100000 in
set_option maxHeartbeats 2000000 in
theorem rseal_any (k n : Int) (A : Option Addr) (c : Nat) (l : List UInt8) (w : World) (h : Reads w w.heap.size A (bv l)) :
    Calls Try.prog 29 #[.int .i64 k, .int .i64 n, .slice A l.length c] w (GivesE 5 (bv (sealV k n l)) (sealE k n l) w) := by
  have hk0 := fun W => rsknown_any k n W
  cases hk : knownK k n with
  | false =>
    have hv : sealV k n l = [] ∧ sealE k n l = 1 := by
      have : sealE k n l = 1 := by unfold sealE; rw [hk]; rfl
      unfold sealV
      rw [this]
      exact ⟨rfl, rfl⟩
    rw [hv.1, hv.2]
    rw [hk] at hk0
    clear hv hk
    go_enter Try.func29, Try.ntmps29
    go_wp2_with fail
    refine (hk0 _).mono ?_
    rintro e w1 ⟨rfl, rfl⟩
    clear hk0
    go_wp2
    go_ret2
    exact ⟨none, 0, rfl, World.ownsRow_nil _ _ _ _, Below.refl _ _⟩
  | true =>
    by_cases hl : l.length ≤ 244
    · have hE : sealE k n l = 0 := by unfold sealE; rw [if_pos hk, if_pos hl]
      have hV : sealV k n l = sealB k n l := by unfold sealV; rw [if_pos hE]
      have HV := Lib.hid hV
      have HE := Lib.hid hE
      rw [hk] at hk0
      rw [knownK_iff] at hk
      obtain ⟨hk1, hk2, hk3, hk4⟩ := hk
      obtain ⟨k', rfl⟩ := Int.eq_ofNat_of_zero_le (show 0 ≤ k by omega)
      obtain ⟨n', rfl⟩ := Int.eq_ofNat_of_zero_le hk3
      have b1 := fun W => rbytes_any n' (by omega) 4 (by omega) W
      have b2 := fun W => rbytes_any k' (by omega) 2 (by omega) W
      have b3 := fun W => rbytes_any (sumW k' (headB k' n' l)) (by have := sumW_lt k' (headB k' n' l); omega) 4 (by omega) W
      have b4 := fun W => rsalt_any k' W
      have hx := i64_xorn (crcM 0 (headB k' n' l)) (saltV k') (crcM_lt 0 (by omega) _) (saltV_lt k')
      have HX : Hid (crcM 0 (headB k' n' l) ^^^ saltV k' = sumW k' (headB k' n' l)) := rfl
      have hc := crcM_lt 0 (by omega) (headB k' n' l)
      have hv := saltV_lt k'
      have hsw := sumW_lt k' (headB k' n' l)
      rw [HX.out] at hx
      have b5 := fun A c W (h : Reads W W.heap.size A (bv (headB k' n' l))) => rsum_any A 252 c (headB k' n' l) W _ (headB_len k' n' l hl).symm (by rw [headB_len k' n' l hl]; decide) h
      have HSB : Hid (sealB k' n' l = headB k' n' l ++ leb 4 (sumW k' (headB k' n' l))) := rfl
      have HHL := Lib.hid (headB_len k' n' l hl)
      have HPF := Lib.hid (preB_full k' n' l)
      have HSL := Lib.hid (sealB_len k' n' l hl)
      obtain ⟨i0, hi, hz0, hz1, hz2⟩ := info_parts Try.infoU8
      have hl' : decide (244 < (l.length : Int)) = false := decide_eq_false (by omega)
      generalize sumW k' (headB k' n' l) = S at *
      generalize crcM 0 (headB k' n' l) = X at *
      generalize saltV k' = Y at *
      rw [show ((4 : Nat) : Int) = 4 from rfl] at b1 b3
      rw [show ((2 : Nat) : Int) = 2 from rfl] at b2
      clear hE hV hk1 hk2 hk3 hk4 HX
      go_enter Try.func29, Try.ntmps29
      go_wp2_with fail
      refine (hk0 _).mono ?_
      rintro e w1 ⟨rfl, rfl⟩
      clear hk0
      go_wp2_with fail
      refine (b1 _).mono ?_
      rintro e w1 ⟨A1, c1, rfl, hown1, hb1⟩
      rw [bv_len, leb_len] at hown1
      rw [bv_len, leb_len]
      clear b1
      go_wp2_with fail
      refine (b2 _).mono ?_
      rintro e w2 ⟨A2, c2, rfl, hown2, hb2⟩
      rw [bv_len, leb_len] at hown2
      rw [bv_len, leb_len]
      clear b2
      have hownK := own_keep hown1 hb2
      have hB2 := below_then hb1 hb2
      have hr2 := Reads.of_own hown2
      have hr := h.below hB2
      clear hown1 hown2 hb1 hb2 h
      go_wp2_with (first
        | (at_builtin; refine wpList_append_to _ rfl (.tmp 18) (.tmp 20) _ rfl w.heap.size 5 i0 _ 1 Try.underlying22 hi hz0 hz1 hz2 rfl _ 4 (bv (leb 4 n')) rfl hownK _ A2 2 c2 (bv (leb 2 k')) rfl (by rw [bv_len, leb_len]) hr2 (bv_one _) (by simp only [maxLen]; omega) (by omega) hB2.size ?_; intro A3 c3 w3 hown3 hg3 hb3 _; have hB3 := hB2.trans hb3; have hr3 := hr.below hb3; clear hg3 hownK hr2)
        | (at_builtin; refine wpList_append_to _ rfl (.tmp 22) (.tmp 23) _ rfl w.heap.size 5 i0 _ 1 Try.underlying22 hi hz0 hz1 hz2 rfl _ 6 (bv (leb 4 n') ++ bv (leb 2 k')) rfl (hown3.alloc _) _ _ 2 2 [.int .u8 0, .int .u8 0] rfl rfl (Reads.new w3 [.int .u8 0, .int .u8 0] 5 (0, 0)) (by simp [Value.oneCell']) (by simp only [maxLen]; omega) (by omega) (by have := hB3.size; simp; omega) ?_; intro A4 c4 w4 hown4 hg4 hb4 _; have hB4 := (hB3.alloc hB3.size _).trans hb4; have hr4 := (hr3.alloc hB3.size _).below hb4; clear hg4 hown3)
        | (at_builtin; refine wpList_append_to _ rfl (.tmp 25) (.tmp 26) _ rfl w.heap.size 5 i0 _ 1 Try.underlying22 hi hz0 hz1 hz2 rfl _ 8 (bv (leb 4 n') ++ bv (leb 2 k') ++ [Value.int .u8 0, Value.int .u8 0]) rfl hown4 _ A l.length c (bv l) rfl (bv_len l).symm hr4 (bv_one _) (by simp only [maxLen]; omega) (by omega) hB4.size ?_; intro A5 c5 w5 hown5 hg5 hb5 _; have hB5 := hB4.trans hb5; clear hg5 hown4))
      have hp0 : bv (leb 4 n') ++ bv (leb 2 k') ++ [Value.int .u8 0, Value.int .u8 0] ++ bv l = bv (preB k' n' l 0) := by
        unfold preB
        rw [bv_append, bv_append, bv_append]
        simp [bv]
      rw [hp0] at hown5
      clear hr hr3 hr4 hb3 hb4 hb5 hB2 hB3 hB4 hp0
      have HSU := Lib.hid (preB_succ k' n' l)
      go_loopw [8] (fun b wr => ∃ (j m : Nat) (A' : Option Addr) (c' : Nat), m = 8 + l.length + j ∧ m ≤ 252 ∧ b = .slice A' m c' ∧ wr.ownsRow w.heap.size 5 1 (.slice A' m c') m (bv (preB k' n' l j)) ∧ Below w.heap.size w wr) (fun b _ => 252 - sliceLen b)
      case atStart => exact ⟨0, 8 + l.length, _, _, rfl, by omega, rfl, hown5, hB5⟩
      case round =>
        obtain ⟨j, m, A', c', hm, hm2, rfl, hown, hbr⟩ := hrel
        have HM := Lib.hid hm
        clear hm hown5 hB5
        by_cases hlt : m < 252
        · clear b3 b4 b5
          go_wp2_with (at_builtin; refine wpList_append_to _ rfl (.tmp 31) (.tmp 32) _ rfl w.heap.size 5 i0 _ 1 Try.underlying22 hi hz0 hz1 hz2 rfl _ m (bv (preB k' n' l j)) rfl (hown.alloc _) _ _ 1 1 [Value.int .u8 0] rfl rfl (Reads.new wr [Value.int .u8 0] 5 (0, 0)) (by simp [Value.oneCell']) (by simp only [maxLen]; omega) (by omega) (by have := hbr.size; simp; omega) ?_; intro A7 c7 w7 hown7 hg7 hb7 _; have hB7 := (hbr.alloc hbr.size _).trans hb7; clear hg7 hown hb7)
          go_roundw
          case rel => exact ⟨j + 1, m + 1, A7, c7, by rw [HM.out]; omega, by omega, rfl, by rw [HSU.out, bv_append]; exact hown7, hB7⟩
          case measure => simp [sliceLen]; omega
        · obtain rfl : m = 252 := by omega
          have hj : j = 244 - l.length := by have := HM.out; omega
          subst hj
          rw [HPF.out] at hown
          have q5 := b5 A' c' wr (Reads.of_own hown)
          clear b5 HM
          go_wp2_with fail
          refine q5.mono ?_
          rintro e w6 ⟨rfl, rfl⟩
          clear q5
          go_wp2_with fail
          refine (b4 _).mono ?_
          rintro e w7 ⟨rfl, hb7⟩
          have hown7 := own_keep hown hb7
          have hB7 := below_then hbr hb7
          clear b4 hb7 hown hbr
          go_wp2_with fail
          refine (b3 _).mono ?_
          rintro e w8 ⟨A8, c8, rfl, hown8, hb8⟩
          rw [bv_len, leb_len] at hown8
          rw [bv_len, leb_len]
          have hownF := own_keep hown7 hb8
          have hB8 := below_then hB7 hb8
          have hr8 := Reads.of_own hown8
          clear b3 hb8 hown7 hown8 hB7
          go_wp2_with (at_builtin; refine wpList_append_to _ rfl (.tmp 34) (.tmp 40) _ rfl w.heap.size 5 i0 _ 1 Try.underlying22 hi hz0 hz1 hz2 rfl _ 252 (bv (headB k' n' l)) rfl hownF _ A8 4 c8 (bv (leb 4 S)) rfl (by rw [bv_len, leb_len]) hr8 (bv_one _) (by simp only [maxLen]; omega) (by omega) hB8.size ?_; intro A9 c9 w9 hown9 hg9 hb9 _; have hB9 := hB8.trans hb9; clear hg9 hownF hb9)
          go_ret2
          rw [← bv_append, ← HSB.out] at hown9
          exact ⟨A9, c9, by rw [HE.out, HV.out, bv_len, HSL.out]; rfl, by rw [HV.out, bv_len, HSL.out]; exact hown9, hB9⟩
    · have hv : sealV k n l = [] ∧ sealE k n l = 2 := by
        have : sealE k n l = 2 := by unfold sealE; rw [if_pos hk, if_neg hl]
        unfold sealV
        rw [this]
        exact ⟨rfl, rfl⟩
      rw [hv.1, hv.2]
      rw [hk] at hk0
      clear hv hk
      have hl' : decide (244 < (l.length : Int)) = true := decide_eq_true (by omega)
      go_enter Try.func29, Try.ntmps29
      go_wp2_with fail
      refine (hk0 _).mono ?_
      rintro e w1 ⟨rfl, rfl⟩
      clear hk0
      go_wp2
      go_ret2
      exact ⟨none, 0, rfl, World.ownsRow_nil _ _ _ _, Below.refl _ _⟩
end Go.Proofs.Ytilkcecjciiboaa
