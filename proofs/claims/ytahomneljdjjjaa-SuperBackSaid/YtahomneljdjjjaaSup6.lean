/-
  Chapter 6: the reference's Put (under way).
-/
import Derived.Test.YtahomneljdjjjaaSupR
import Derived.Test.YtahomneljdjjjaaSup5
import Derived.Test.YtahomneljdjjjaaRef1
import Derived.Lib.SlBytesConst
namespace Go.Proofs.Ytahomneljdjjjaa
open Go.RowKit

def superL (n : Nat → Int) : List Int := [1, n 0, n 1, n 2, n 3, n 4, n 5, n 6, n 7, n 8, n 9, n 10]
def flatL (l : List Int) : List UInt8 := l.flatMap fun x => leb 4 x.toNat
theorem flatL_snoc (l : List Int) (k : Nat) (h : k < l.length) : flatL (l.take (k + 1)) = flatL (l.take k) ++ leb 4 l[k].toNat := by
  unfold flatL
  rw [take_snoc l k h, List.flatMap_append]
  simp
theorem superL_flat (n : Nat → Int) : packB (fldS n 11) = flatL (superL n) := rfl
theorem superL_ok {n : Nat → Int} (h : okS n 11 = true) (i : Nat) (hi : i < (superL n).length) : 0 ≤ (superL n)[i] ∧ (superL n)[i] < 4294967296 := by
  have h12 : i < 12 := hi
  have : i = 0 ∨ i = 1 ∨ i = 2 ∨ i = 3 ∨ i = 4 ∨ i = 5 ∨ i = 6 ∨ i = 7 ∨ i = 8 ∨ i = 9 ∨ i = 10 ∨ i = 11 := by omega
  rcases this with rfl | rfl | rfl | rfl | rfl | rfl | rfl | rfl | rfl | rfl | rfl | rfl
  · show (0 : Int) ≤ 1 ∧ (1 : Int) < 4294967296
    decide
  · exact okS_num h (show 0 < 11 by omega)
  · exact okS_num h (show 1 < 11 by omega)
  · exact okS_num h (show 2 < 11 by omega)
  · exact okS_num h (show 3 < 11 by omega)
  · exact okS_num h (show 4 < 11 by omega)
  · exact okS_num h (show 5 < 11 by omega)
  · exact okS_num h (show 6 < 11 by omega)
  · exact okS_num h (show 7 < 11 by omega)
  · exact okS_num h (show 8 < 11 by omega)
  · exact okS_num h (show 9 < 11 by omega)
  · exact okS_num h (show 10 < 11 by omega)
def lenV : Value → Nat
  | .slice _ n _ => n
  | _ => 0
set_option maxRecDepth 100000 in
set_option maxHeartbeats 2000000 in
theorem rput_super (n : Nat → Int) (w : World) :
    Calls Try.prog 18 #[.agg (supC n)] w (GivesE 5 (bv (superV n)) (superE n) w) := by
  have hra := fun W => rright_any n W
  obtain ⟨iU, hi, hz0, hz1, hz2⟩ := info_parts Try.infoU8
  have hss : (Try.prog.info? 23).map (·.size) = some (supC n).size := by
    rw [show (supC n).size = 11 from rfl]
    kernel_rfl
  have hs0 := heap_alloc_new w (.cells (supC n) 23)
  cases hok : okS n 11 with
  | false =>
    have hv : superV n = [] ∧ superE n = 1 := by unfold superV superE; rw [hok]; exact ⟨rfl, rfl⟩
    rw [hv.1, hv.2]
    rw [hok] at hra
    clear hv hok
    generalize supC n = C at *
    go_enter Try.func18, Try.ntmps18
    go_wp2_with (refine wpList_load_row rfl 23 _ rfl w.heap.size rfl 23 _ _ _ hs0 Try.underlying23 rfl hss ?_)
    refine (hra _).mono ?_
    rintro e w1 ⟨rfl, hb1⟩
    have hB := below_then (below_alloc1 w _) hb1
    clear hra hb1
    go_wp2
    go_ret2
    exact ⟨none, 0, rfl, World.ownsRow_nil _ _ _ _, hB⟩
  | true =>
    have hv : superV n = superB n ∧ superE n = 0 := by unfold superV superE; rw [hok]; exact ⟨rfl, rfl⟩
    rw [hv.1, hv.2]
    rw [hok] at hra
    have HL := Lib.hid (superL_ok hok)
    have HSN := Lib.hid (flatL_snoc (superL n))
    have HBL := Lib.hid (superB_len n)
    have HSB : Hid (superB n = magicB ++ (flatL ((superL n).take 12) ++ List.replicate 188 0)) := rfl
    have HLEN : Hid ((superL n).length = 12) := rfl
    have HIV : Hid (iv (superL n) = [.int .i64 1, .int .i64 (n 0), .int .i64 (n 1), .int .i64 (n 2), .int .i64 (n 3), .int .i64 (n 4), .int .i64 (n 5), .int .i64 (n 6), .int .i64 (n 7), .int .i64 (n 8), .int .i64 (n 9), .int .i64 (n 10)]) := rfl
    have hcel : ∀ W : World, W.heap[w.heap.size]? = some (.cells (supC n) 23) → ∀ k, k < 11 → W.cell? ⟨w.heap.size, k, none⟩ = some (.int .i64 (n k)) := fun W h k hk => heap_cell h k (supC_at n k hk)
    have HCEL := Lib.hid hcel
    clear hv hok hcel
    generalize supC n = C at *
    generalize superL n = L at *
    generalize superB n = SB at *
    go_enter Try.func18, Try.ntmps18
    go_wp2_with (refine wpList_load_row rfl 23 _ rfl w.heap.size rfl 23 _ _ _ hs0 Try.underlying23 rfl hss ?_)
    refine (hra _).mono ?_
    rintro e w1 ⟨rfl, hb1⟩
    have hs1 := heap_keep hs0 hb1
    have hB := below_then (below_alloc1 w _) hb1
    have c0 := HCEL.out w1 hs1 0 (by omega)
    have c1 := HCEL.out w1 hs1 1 (by omega)
    have c2 := HCEL.out w1 hs1 2 (by omega)
    have c3 := HCEL.out w1 hs1 3 (by omega)
    have c4 := HCEL.out w1 hs1 4 (by omega)
    have c5 := HCEL.out w1 hs1 5 (by omega)
    have c6 := HCEL.out w1 hs1 6 (by omega)
    have c7 := HCEL.out w1 hs1 7 (by omega)
    have c8 := HCEL.out w1 hs1 8 (by omega)
    have c9 := HCEL.out w1 hs1 9 (by omega)
    have c10 := HCEL.out w1 hs1 10 (by omega)
    have hrd := Reads.new w1 [.int .i64 1, .int .i64 (n 0), .int .i64 (n 1), .int .i64 (n 2), .int .i64 (n 3), .int .i64 (n 4), .int .i64 (n 5), .int .i64 (n 6), .int .i64 (n 7), .int .i64 (n 8), .int .i64 (n 9), .int .i64 (n 10)] 3 (0, 0)
    rw [← HIV.out] at hrd
    have hB1 := hB.trans ((below_alloc1 w1 (.cells (iv L).toArray 3)).mono hB.size)
    have hcv := fun (W : World) (C : Array Value) (n c : Nat) => Lib.run_convert_bytes_const (P := Try.prog) W 24 5 C n c Try.underlying24 Try.underlying5
    have hW2 : w1.alloc (.cells #[.int .i64 1, .int .i64 (n 0), .int .i64 (n 1), .int .i64 (n 2), .int .i64 (n 3), .int .i64 (n 4), .int .i64 (n 5), .int .i64 (n 6), .int .i64 (n 7), .int .i64 (n 8), .int .i64 (n 9), .int .i64 (n 10)] 3) = w1.alloc (.cells (iv L).toArray 3) := by rw [HIV.out]
    have hkc := hcv (w1.alloc (.cells #[.int .i64 1, .int .i64 (n 0), .int .i64 (n 1), .int .i64 (n 2), .int .i64 (n 3), .int .i64 (n 4), .int .i64 (n 5), .int .i64 (n 6), .int .i64 (n 7), .int .i64 (n 8), .int .i64 (n 9), .int .i64 (n 10)] 3)) #[.int .u8 83, .int .u8 67, .int .u8 65, .int .u8 78, .int .u8 84, .int .u8 76, .int .u8 73, .int .u8 78] 8 8
    rw [World.size_alloc] at hkc
    have HW2 := Lib.hid hW2
    clear hra hb1 hs0 hss hs1 HCEL hcv hW2
    go_wp2_with fail
    rw [HW2.out]
    obtain ⟨W1, hW1⟩ : ∃ W1, w1.alloc (.cells (iv L).toArray 3) = W1 := ⟨_, rfl⟩
    have hsz : W1.heap.size = w1.heap.size + 1 := by rw [← hW1]; simp
    have hrd' : Reads W1 W1.heap.size (some ⟨w1.heap.size, 0, none⟩) (iv L) := by rw [hsz, ← hW1]; exact hrd
    have hBW : Below w.heap.size w W1 := by rw [← hW1]; exact hB1
    have hh := Hold.const W1 W1.heap.size 5 [.int .u8 83, .int .u8 67, .int .u8 65, .int .u8 78, .int .u8 84, .int .u8 76, .int .u8 73, .int .u8 78] (8, 9) (by decide) (by decide)
    rw [hW1, ← hsz]
    have HSZ := Lib.hid hsz
    clear hkc hrd hB1 hW1 HW2 hB c0 c1 c2 c3 c4 c5 c6 c7 c8 c9 c10 hsz HIV
    generalize w1.heap.size = gL at *
    go_loopw [5, 6] (fun v i wr => ∃ k m : Nat, k ≤ 12 ∧ m = 8 + 4 * k ∧ i = .int .i64 k ∧ Hold wr W1.heap.size 5 v m (bv (magicB ++ flatL (L.take k))) ∧ Below W1.heap.size W1 wr ∧ (0 < k → wr.ownsRow W1.heap.size 5 1 v m (bv (magicB ++ flatL (L.take k))))) (fun _ i _ => 12 - (intOf i).toNat)
    case atStart => exact ⟨0, 8, by omega, rfl, rfl, hh, below_alloc1 _ _, fun h => absurd h (by omega)⟩
    case round =>
      obtain ⟨k, m, hk, hm, rfl, hho, hbr, hoo⟩ := hrel
      obtain ⟨Ab, cb, rfl⟩ := hho.form
      by_cases hlt : k < 12
      · have hlt' : k < L.length := by rw [HLEN.out]; exact hlt
        obtain ⟨ad, had, _, hc⟩ := (hrd'.below hbr).num hlt'
        obtain rfl : ad = ⟨gL, 0, none⟩ := by injection had with h; exact h.symm
        rw [add_plain, Nat.zero_add] at hc
        clear had
        have hx := HL.out k hlt'
        have hsn := HSN.out k hlt'
        have i0 : (0 : Int) ≤ (k : Int) := by omega
        have i1 : (k : Int) < 12 := by omega
        obtain ⟨x, hxe⟩ := Int.eq_ofNat_of_zero_le hx.1
        rw [hxe] at hc hsn hx
        rw [Int.toNat_natCast] at hsn
        have hrb := fun W => rbytes_any x (by omega) 4 (by omega) W
        rw [show ((4 : Nat) : Int) = 4 from rfl] at hrb
        have HSX := Lib.hid hsn
        have HM := Lib.hid hm
        have m0 : m + 4 ≤ 300 := by omega
        clear hxe hsn hx hlt' hm hoo
        go_wp2_with fail
        refine (hrb _).mono ?_
        rintro e w4 ⟨A4, c4, rfl, hown4, hb4⟩
        rw [bv_len, leb_len] at hown4 ⊢
        have hho4 := hho.keep hb4
        have hbr4 := hbr.trans (hb4.mono hbr.size)
        have hr4 := Reads.of_own hown4
        clear hown4 hb4 hho hbr hrb
        go_wp2_with (at_builtin; go_loud (refine wpList_append_hold rfl (.tmp 41) (.tmp 46) _ rfl W1.heap.size 5 iU _ 1 Try.underlying24 hi hz0 hz1 hz2 rfl _ m _ rfl hho4 _ A4 4 c4 (bv (leb 4 x)) rfl (by rw [bv_len, leb_len]) (by omega) hr4 (bv_one _) (by simp only [maxLen]; omega) (by omega) hbr4.size ?_); intro A5 c5 w5 hown5 hb5)
        go_roundw
        case rel =>
          have hown6 : w5.ownsRow W1.heap.size 5 1 (.slice A5 (m + 4) c5) (m + 4) (bv (magicB ++ flatL (L.take (k + 1)))) := by rw [HSX.out, ← List.append_assoc, bv_append]; exact hown5
          exact ⟨k + 1, m + 4, by omega, by have := HM.out; omega, by go_num, .inl hown6, hbr4.trans hb5, fun _ => hown6⟩
        case measure => simp [intOf]; omega
      · obtain rfl : k = 12 := by omega
        subst hm
        have hoo := hoo (by omega)
        clear hho
        go_wp2_with fail
        go_loopw [5] (fun v wr => ∃ j m : Nat, j ≤ 188 ∧ m = 56 + j ∧ wr.ownsRow W1.heap.size 5 1 v m (bv (magicB ++ flatL (L.take 12) ++ List.replicate j 0)) ∧ Below W1.heap.size W1 wr) (fun v _ => 244 - lenV v)
        case atStart => exact ⟨0, 56, by omega, rfl, by simpa using hoo, hbr⟩
        case round =>
          obtain ⟨j, m, hj, hm, hho2, hbr2⟩ := hrel
          obtain ⟨Ab2, cb2, rfl⟩ := own_form hho2
          by_cases hlt2 : j < 188
          · have hr2 := Reads.new wr [Value.int .u8 0] 5 (0, 0)
            have hh2 : Hold _ _ _ _ _ _ := .inl (hho2.alloc (.cells #[Value.int .u8 0] 5))
            have hb2 := hbr2.alloc hbr2.size (.cells #[Value.int .u8 0] 5)
            have m0 : (m : Int) < 244 := by omega
            have m1 : m + 1 ≤ 300 := by omega
            have HM := Lib.hid hm
            clear hm
            go_wp2_with (at_builtin; refine wpList_append_hold rfl (.tmp 51) (.tmp 52) _ rfl W1.heap.size 5 iU _ 1 Try.underlying24 hi hz0 hz1 hz2 rfl _ m _ rfl hh2 _ _ 1 1 [Value.int .u8 0] rfl rfl (by omega) hr2 (by simp [Value.oneCell']) (by simp only [maxLen]; omega) (by omega) hb2.size ?_; intro A5 c5 w5 hown5 hb5)
            go_roundw
            case rel => exact ⟨_, _, _, _, _, _, _, ⟨j + 1, m + 1, by omega, by have := HM.out; omega, by rw [List.replicate_succ', ← List.append_assoc, bv_append]; exact hown5, hb2.trans hb5⟩, rfl⟩
            case measure => simp [lenV]; omega
          · obtain rfl : j = 188 := by omega
            subst hm
            have hbb := hBW.trans (hbr2.mono hBW.size)
            have hown2 := own_mono hho2 hBW.size
            go_wp2
            go_ret2
            exact ⟨Ab2, cb2, by rw [bv_len, HBL.out]; rfl, by rw [bv_len, HBL.out, HSB.out, ← List.append_assoc]; exact hown2, hbb⟩
end Go.Proofs.Ytahomneljdjjjaa
