/-
  Chapter 4: seal.Seal, walked.
-/
import Derived.Test.YtilkcecjciiboaaSeal
import Derived.Test.YtilkcecjciiboaaBase5
import Derived.Test.YtilkcecjciiboaaBase2
namespace Go.Proofs.Ytilkcecjciiboaa
open Go.RowKit

def stg (k n : Int) (l : List UInt8) (j : Nat) : List UInt8 := if j = 0 then zeroS l else if j = 1 then put1 n l else put2 k n l
theorem stg_len (k n : Int) (l : List UInt8) (h : l.length ≤ 244) (j : Nat) : (stg k n l j).length = 256 := by
  unfold stg
  split
  · exact zeroS_len l h
  · split
    · exact put1_len n l h
    · exact put2_len k n l h
theorem zeros_step (l : List UInt8) (h : l.length ≤ 244) : (bv (List.replicate 256 0)).take 8 ++ ((bv l).take (256 - 8) ++ (bv (List.replicate 256 0)).drop (8 + (bv l).length)) = bv (zeroS l) := by
  rw [bv_len, bv_take, bv_take, bv_drop, ← bv_append, ← bv_append]
  unfold zeroS
  rw [List.take_replicate, List.drop_replicate, List.take_of_length_le (by omega)]
  congr 4
  omega
theorem made_zeros2 (n : Nat) : (madeCells (Value.int .u8 0).cells (n * 1)).toList = bv (List.replicate n 0) := by
  rw [Nat.mul_one]
  apply List.ext_getElem
  · simp [madeCells, bv]
  · intro i h1 h2
    simp [madeCells, bv, Value.cells, Nat.mod_one]
theorem own_cap' {w : World} {B n c : Nat} {e : TypeId} {A : Option Addr} {xs : List Value} (h : w.ownsRow B e 1 (.slice A n c) n xs) (hn : 0 < n) : n ≤ c := by
  rcases h.2 with ⟨hv, hz⟩ | ⟨g', cap, cur, hv, _, _, hnc, _⟩
  · omega
  · injection hv with e1 e2 e3
    omega
set_option maxRecDepth 100000 in
set_option maxHeartbeats 2000000 in
theorem seal_any (k n : Int) (A : Option Addr) (c : Nat) (l : List UInt8) (w : World) (wk : (Lit.int .i64 k).wf = true) (wn : (Lit.int .i64 n).wf = true) (h : Reads w w.heap.size A (bv l)) :
    Calls Try.prog 28 #[.int .i64 k, .int .i64 n, .slice A l.length c] w (GivesE 5 (bv (sealV k n l)) (sealE k n l) w) := by
  have hk0 := fun W => sknown_any k n W
  cases hk : knownK k n with
  | false =>
    have hv : sealV k n l = [] ∧ sealE k n l = 1 := by
      have : sealE k n l = 1 := by unfold sealE; rw [hk]; rfl
      unfold sealV
      rw [this]
      exact ⟨rfl, rfl⟩
    rw [hv.1, hv.2]
    rw [hk] at hk0
    clear hv hk
    go_enter Try.func28, Try.ntmps28
    go_wp2_with fail
    refine (hk0 _).mono ?_
    rintro e w1 ⟨rfl, rfl⟩
    clear hk0
    go_wp2
    go_ret2
    exact ⟨none, 0, rfl, World.ownsRow_nil _ _ _ _, Below.refl _ _⟩
  | true =>
    by_cases hl : l.length ≤ 244
    · have hE : sealE k n l = 0 := by unfold sealE; rw [if_pos hk, if_pos hl]
      have hV : sealV k n l = sealB k n l := by unfold sealV; rw [if_pos hE]
      rw [hE, hV]
      rw [hk] at hk0
      obtain ⟨⟨p1, p2⟩, ⟨p3, p4⟩, p5⟩ := seal_puts hk l hl
      have q1 := fun A c W (h : Reads W W.heap.size A (bv (stg k n l 0))) => put_any A c (stg k n l 0) 0 4 n W _ (Nat.le_refl _) wn (by rw [stg_len k n l hl]; decide) h
      have q2 := fun A c W (h : Reads W W.heap.size A (bv (stg k n l 1))) => put_any A c (stg k n l 1) 4 2 k W _ (Nat.le_refl _) wk (by rw [stg_len k n l hl]; decide) h
      have hsb := sumW_lt k (headB k n l)
      have q3 := fun A c W (h : Reads W W.heap.size A (bv (stg k n l 2))) => put_any A c (stg k n l 2) 252 4 (sumW k (headB k n l) : Nat) W _ (Nat.le_refl _) (by simp [Lit.wf, IntKind.min, IntKind.max, IntKind.bits, IntKind.signed]; omega) (by rw [stg_len k n l hl]; decide) h
      have q4 := fun A c W (hq : 256 ≤ c) (h : Reads W W.heap.size A (bv (stg k n l 2))) => ssum_any A c (stg k n l 2) k W (stg_len k n l hl 2) hq h
      rw [show (stg k n l 2).take 252 = headB k n l from put2_take k n l hl] at q4
      rw [show putV (stg k n l 0) 0 4 n = stg k n l 1 from p2, show putE (stg k n l 0) 0 4 n = 0 from p1, stg_len k n l hl] at q1
      rw [show putV (stg k n l 1) 4 2 k = stg k n l 2 from p4, show putE (stg k n l 1) 4 2 k = 0 from p3, stg_len k n l hl] at q2
      rw [show putV (stg k n l 2) 252 4 (sumW k (headB k n l) : Nat) = sealB k n l from (p5 _ hsb).2, show putE (stg k n l 2) 252 4 (sumW k (headB k n l) : Nat) = 0 from (p5 _ hsb).1, stg_len k n l hl] at q3
      have HM := Lib.hid (show (madeCells (Value.int .u8 0).cells (256 * 1)).toList = bv (List.replicate 256 0) from made_zeros2 256)
      have HZ := Lib.hid (zeros_step l hl)
      have HZ0 : Hid (zeroS l = stg k n l 0) := rfl
      have HL := Lib.hid (stg_len k n l hl)
      have HSL := Lib.hid (sealB_len k n l hl)
      have hsz : (Try.prog.info? 5).map (·.size) = some 1 := by kernel_rfl
      obtain ⟨i0, hi, hz0, hz1, hz2⟩ := info_parts Try.infoU8
      have hl' : decide (244 < (l.length : Int)) = false := decide_eq_false (by omega)
      generalize sumW k (headB k n l) = S at *
      generalize sealB k n l = SB at *
      clear hE hV p1 p2 p3 p4 p5 hk wk wn
      go_enter Try.func28, Try.ntmps28
      go_wp2_with fail
      refine (hk0 _).mono ?_
      rintro e w1 ⟨rfl, rfl⟩
      clear hk0
      go_wp2_with (at_make; refine wpList_make_full _ rfl (.const _) (.const _) _ rfl w.heap.size 5 i0 _ 1 Try.underlying22 hi hz0 hz1 .i64 .i64 256 256 256 rfl rfl (by omega) (by omega) (by rw [hz2]; omega) (by simp only [maxLen]; omega) (Nat.le_refl _) ?_; intro w4 hown4 hg4; rw [HM.out] at hown4; have hB4 : Below w.heap.size w w4 := (Below.refl _ _).grown hg4 (Nat.le_refl _) (fun k hk => by cases hk); have hr4 := h.grown hg4 (Nat.le_refl _) (fun k hk => by cases hk); obtain ⟨w5, hrun5, hown5, hg5, hs5⟩ := run_copy_to w4 22 22 3 5 Try.underlying22 hsz w.heap.size w.heap.size 256 256 (bv (List.replicate 256 0)) hown4 8 (by decide) (some ⟨w.heap.size, 8, none⟩) 248 248 (by decide) (fun _ => rfl) w.heap.size A l.length c (bv l) (bv_len l).symm hr4 (bv_one _); rw [HZ.out, HZ0.out] at hown5; have hB5 : Below w.heap.size w w5 := hB4.grown hg5 hB4.size (fun k hk => by cases hk; omega); have hrun5 : (Builtin.copy_ #[22, 22] 3 #[.slice (some ⟨w.heap.size, 8, none⟩) 248 248, .slice A l.length c]).run Try.prog w4 = .ok (goInt (min l.length (256 - 8) : Nat)) w5 := hrun5; clear hs5)
      have hrow := heap_alloc_new w5 (.cells #[.int .i64 0, .int .i64 4, .int .i64 n, .int .i64 4, .int .i64 2, .int .i64 k] 85)
      have hB6 := hB5.alloc hB5.size (.cells #[.int .i64 0, .int .i64 4, .int .i64 n, .int .i64 4, .int .i64 2, .int .i64 k] 85)
      have hown6 := hown5.alloc (.cells #[.int .i64 0, .int .i64 4, .int .i64 n, .int .i64 4, .int .i64 2, .int .i64 k] 85)
      clear hrun5 hg5 hown5 hr4 hg4 hown4 hB4 hB5 HM HZ HZ0 hz0 hz1 hz2 hi hsz h
      go_loopw [8, 10, 29] (fun b _ i wr => ∃ (j : Nat) (A' : Option Addr) (c' : Nat), j ≤ 2 ∧ i = .int .i64 j ∧ b = .slice A' 256 c' ∧ wr.heap[w5.heap.size]? = some (.cells #[.int .i64 0, .int .i64 4, .int .i64 n, .int .i64 4, .int .i64 2, .int .i64 k] 85) ∧ wr.ownsRow w.heap.size 5 1 (.slice A' 256 c') 256 (bv (stg k n l j)) ∧ Below w.heap.size w wr) (fun _ _ i _ => 2 - (intOf i).toNat)
      case atStart => exact ⟨0, _, _, by omega, rfl, rfl, hrow, hown6, hB6⟩
      case round =>
        obtain ⟨j, A', c', hj, rfl, rfl, hrw, hown, hbr⟩ := hrel
        clear hrow hown6 hB6
        have hj : j = 0 ∨ j = 1 ∨ j = 2 := by omega
        rcases hj with rfl | rfl | rfl
        · have e0 := heap_cell hrw 0 rfl
          have e1 := heap_cell hrw 1 rfl
          have e2 := heap_cell hrw 2 rfl
          have q := q1 A' c' (wr.alloc (.cells #[.int .i64 0, .int .i64 4, .int .i64 n] 85)) ((Reads.of_own hown).ext (below_alloc1 _ _))
          clear q1 q2 q3 q4
          go_wp2_with fail
          refine q.mono ?_
          rintro e w6 ⟨A2, c2, rfl, hown2, hb2⟩
          rw [bv_len, HL.out 1] at hown2
          rw [bv_len, HL.out 1]
          have hB7 := below_then (hbr.alloc hbr.size (.cells #[.int .i64 0, .int .i64 4, .int .i64 n] 85)) hb2
          have hrw2 := heap_keep (heap_alloc' hrw (.cells #[.int .i64 0, .int .i64 4, .int .i64 n] 85)) hb2
          have hown3 := own_mono hown2 (show w.heap.size ≤ (wr.alloc (.cells #[.int .i64 0, .int .i64 4, .int .i64 n] 85)).heap.size by have := hbr.size; simp; omega)
          clear q hown2 hb2 hrw hown hbr e0 e1 e2
          go_wp2
          go_roundw
          case rel => exact ⟨1, A2, c2, by omega, by go_num, rfl, hrw2, hown3, hB7⟩
          case measure => simp [intOf]
        · have e3 := heap_cell hrw 3 rfl
          have e4 := heap_cell hrw 4 rfl
          have e5 := heap_cell hrw 5 rfl
          have q := q2 A' c' (wr.alloc (.cells #[.int .i64 4, .int .i64 2, .int .i64 k] 85)) ((Reads.of_own hown).ext (below_alloc1 _ _))
          clear q1 q2 q3 q4
          go_wp2_with fail
          refine q.mono ?_
          rintro e w6 ⟨A2, c2, rfl, hown2, hb2⟩
          rw [bv_len, HL.out 2] at hown2
          rw [bv_len, HL.out 2]
          have hB7 := below_then (hbr.alloc hbr.size (.cells #[.int .i64 4, .int .i64 2, .int .i64 k] 85)) hb2
          have hrw2 := heap_keep (heap_alloc' hrw (.cells #[.int .i64 4, .int .i64 2, .int .i64 k] 85)) hb2
          have hown3 := own_mono hown2 (show w.heap.size ≤ (wr.alloc (.cells #[.int .i64 4, .int .i64 2, .int .i64 k] 85)).heap.size by have := hbr.size; simp; omega)
          clear q hown2 hb2 hrw hown hbr e3 e4 e5
          go_wp2
          go_roundw
          case rel => exact ⟨2, A2, c2, by omega, by go_num, rfl, hrw2, hown3, hB7⟩
          case measure => simp [intOf]
        · have hcap := own_cap' hown (by omega)
          have q := q4 A' c' wr hcap (Reads.of_own hown)
          clear q1 q2 q4 hrw
          go_wp2_with fail
          refine q.mono ?_
          rintro e w6 ⟨rfl, hb6⟩
          have hB6 := below_then hbr hb6
          have q5 := q3 A' c' w6 ((Reads.of_own hown).ext hb6)
          clear q q3 hown hb6 hbr
          go_wp2_with fail
          refine q5.mono ?_
          rintro e w7 ⟨A7, c7, rfl, hown7, hb7⟩
          rw [bv_len, HSL.out] at hown7
          rw [bv_len, HSL.out]
          have hB7 := below_then hB6 hb7
          have hown8 := own_mono hown7 hB6.size
          clear q5 hown7 hb7 hB6
          go_wp2
          go_ret2
          exact ⟨A7, c7, by rw [bv_len, HSL.out]; rfl, by rw [bv_len, HSL.out]; exact hown8, hB7⟩
    · have hv : sealV k n l = [] ∧ sealE k n l = 2 := by
        have : sealE k n l = 2 := by unfold sealE; rw [if_pos hk, if_neg hl]
        unfold sealV
        rw [this]
        exact ⟨rfl, rfl⟩
      rw [hv.1, hv.2]
      rw [hk] at hk0
      clear hv hk
      have hl' : decide (244 < (l.length : Int)) = true := decide_eq_true (by omega)
      go_enter Try.func28, Try.ntmps28
      go_wp2_with fail
      refine (hk0 _).mono ?_
      rintro e w1 ⟨rfl, rfl⟩
      clear hk0
      go_wp2
      go_ret2
      exact ⟨none, 0, rfl, World.ownsRow_nil _ _ _ _, Below.refl _ _⟩
end Go.Proofs.Ytilkcecjciiboaa
