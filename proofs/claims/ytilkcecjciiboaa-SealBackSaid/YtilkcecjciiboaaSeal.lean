/-
  Chapter 4: the small functions of seal, walked.
-/
import Derived.Test.YtilkcecjciiboaaSealP
import Derived.Test.YtilkcecjciiboaaCrc
import Derived.Test.YtilkcecjciiboaaCode2
import Derived.BigQuiet
import Derived.Deep.QuietTactic
namespace Go.Proofs.Ytilkcecjciiboaa
open Go.RowKit

theorem salt_any (k : Int) (w : World) : Calls Try.prog 30 #[.int .i64 k] w fun e w' => e = .returned (.int .i64 (saltV k : Nat)) ∧ w = w' := by
  by_cases h1 : k = 1
  · subst h1
    go_enter Try.func30, Try.ntmps30
    go_wp2
    go_ret
    exact ⟨rfl, rfl⟩
  · by_cases h2 : k = 2
    · subst h2
      go_enter Try.func30, Try.ntmps30
      go_wp2
      go_ret
      exact ⟨rfl, rfl⟩
    · by_cases h3 : k = 3
      · subst h3
        go_enter Try.func30, Try.ntmps30
        go_wp2
        go_ret
        exact ⟨rfl, rfl⟩
      · by_cases h4 : k = 4
        · subst h4
          go_enter Try.func30, Try.ntmps30
          go_wp2
          go_ret
          exact ⟨rfl, rfl⟩
        · have hv : saltV k = 0 := by unfold saltV; rw [if_neg h1, if_neg h2, if_neg h3, if_neg h4]
          rw [hv]
          clear hv
          have d1 : (k == 1) = false := by simpa using h1
          have d2 : (k == 2) = false := by simpa using h2
          have d3 : (k == 3) = false := by simpa using h3
          have d4 : (k == 4) = false := by simpa using h4
          clear h1 h2 h3 h4
          go_enter Try.func30, Try.ntmps30
          go_wp2
          go_ret
          exact ⟨rfl, rfl⟩
theorem knownK_eq (k n : Int) : knownK k n = (decide (1 ≤ k) && (decide (k ≤ 4) && (decide (0 ≤ n) && decide (n < 14400)))) := by
  unfold knownK
  simp only [Bool.decide_and]
theorem sknown_any (k n : Int) (w : World) : Calls Try.prog 61 #[.int .i64 k, .int .i64 n] w fun e w' => e = .returned (.bool (knownK k n)) ∧ w = w' := by
  rw [knownK_eq]
  cases d1 : decide (1 ≤ k) <;> cases d2 : decide (k ≤ 4) <;> cases d3 : decide (0 ≤ n) <;> cases d4 : decide (n < 14400) <;>
  · go_enter Try.func61, Try.ntmps61
    go_wp2
    go_ret
    exact ⟨rfl, rfl⟩
theorem told_any (A : Option Addr) (c : Nat) (l : List UInt8) (a x : Int) (w : World) (B : Nat) (hm : l.length ≤ reachBytes) (h : Reads w B A (bv l)) :
    Calls Try.prog 73 #[.slice A l.length c, .int .i64 a, .int .i64 x] w fun e w' => e = .returned (.int .i64 (getV l a x).1) ∧ w = w' := by
  have k := get_any A c l a x w B hm h
  generalize (getV l a x).1 = g at *
  generalize (getV l a x).2 = g2 at *
  go_enter Try.func73, Try.ntmps73
  go_wp2_with fail
  refine k.mono ?_
  rintro e w1 ⟨rfl, rfl⟩
  go_wp2
  go_ret
  exact ⟨rfl, rfl⟩
theorem i64_xorn (a b : Nat) (ha : a < 4294967296) (hb : b < 4294967296) : bits .xor .i64 (a : Int) (b : Int) = ((a ^^^ b : Nat) : Int) := i64_xor_n a b (by omega) (by omega)
set_option maxHeartbeats 1000000 in
theorem ssum_any (A : Option Addr) (c : Nat) (l : List UInt8) (k : Int) (w : World) (hl : l.length = 256) (hq : 256 ≤ c) (h : Reads w w.heap.size A (bv l)) :
    Calls Try.prog 63 #[.slice A 256 c, .int .i64 k] w fun e w' => e = .returned (.int .i64 (sumW k (l.take 252) : Nat)) ∧ Below w.heap.size w w' := by
  have hq' : (252 : Int) ≤ (c : Int) := by omega
  have h2 := h.take 252
  rw [bv_take] at h2
  have hl2 : (l.take 252).length = 252 := by rw [List.length_take]; omega
  have hs := sum_any (some ⟨w.heap.size, 0, none⟩) 1 1 [l.take 252] (w.alloc (.cells #[.slice A 252 c] 22)) rfl (by simp [maxLen]) ((Pieces.one 22 _ _ hl2.symm h2 (by simp only [maxLen]; omega)).more (by simp))
  rw [show [l.take 252].flatten = l.take 252 by simp] at hs
  have hx := i64_xorn (crcM 0 (l.take 252)) (saltV k) (crcM_lt 0 (by omega) _) (saltV_lt k)
  have hc := crcM_lt 0 (by omega) (l.take 252)
  have hv := saltV_lt k
  have HX := Lib.hid (show crcM 0 (l.take 252) ^^^ saltV k = sumW k (l.take 252) from rfl)
  have hlt := sumW_lt k (l.take 252)
  have k2 := fun W => salt_any k W
  rw [HX.out] at hx
  generalize sumW k (l.take 252) = S at *
  generalize crcM 0 (l.take 252) = x at *
  generalize saltV k = y at *
  clear HX
  go_enter Try.func63, Try.ntmps63
  go_wp2_with fail
  refine hs.mono ?_
  rintro e w1 ⟨rfl, hb1⟩
  have hb1' := below_then (below_alloc1 w _) hb1
  clear hb1 hs h2
  go_wp2_with fail
  refine (k2 _).mono ?_
  rintro e w2 ⟨rfl, rfl⟩
  go_wp2
  go_ret
  exact ⟨rfl, hb1'⟩
end Go.Proofs.Ytilkcecjciiboaa
