/-
  The table of crc.halves, walked once.
-/
import Derived.Test.YtcnalndhlonblaaChecked
import Derived.Test.YtcnalndhlonblaaBase
namespace Go.Proofs.Ytcnalndhlonblaa
open Go.RowKit

/-- one step of a register -/
def st1 (r : Nat) : Nat := if r % 2 = 1 then (r / 2) ^^^ 2197175160 else r / 2
def stN : Nat → Nat → Nat
  | 0, r => r
  | k + 1, r => st1 (stN k r)
theorem st1_lt (r : Nat) (h : r < 4294967296) : st1 r < 4294967296 := by
  unfold st1
  split
  · exact Nat.xor_lt_two_pow (n := 32) (by omega) (by omega)
  · omega
theorem stN_lt (k r : Nat) (h : r < 4294967296) : stN k r < 4294967296 := by
  induction k with
  | zero => exact h
  | succ k ih => exact st1_lt _ ih
/-- the table, filled below k -/
def tabA : Nat → Array Value
  | 0 => Array.replicate 16 (.int .u32 0)
  | k + 1 => (tabA k).setIfInBounds k (.int .u32 (stN 4 k : Nat))
theorem tabA_size (k : Nat) : (tabA k).size = 16 := by
  induction k with
  | zero => rfl
  | succ k ih => simp [tabA, ih]
def tabL : Array Value := #[.int .u32 0, .int .u32 (stN 4 1 : Nat), .int .u32 (stN 4 2 : Nat), .int .u32 (stN 4 3 : Nat), .int .u32 (stN 4 4 : Nat), .int .u32 (stN 4 5 : Nat), .int .u32 (stN 4 6 : Nat), .int .u32 (stN 4 7 : Nat),
  .int .u32 (stN 4 8 : Nat), .int .u32 (stN 4 9 : Nat), .int .u32 (stN 4 10 : Nat), .int .u32 (stN 4 11 : Nat), .int .u32 (stN 4 12 : Nat), .int .u32 (stN 4 13 : Nat), .int .u32 (stN 4 14 : Nat), .int .u32 (stN 4 15 : Nat)]
theorem tabA_16 : tabA 16 = tabL := by rfl
theorem tabL_get (i : Nat) (h : i < 16) : tabL[i]? = some (.int .u32 (stN 4 i : Nat)) := by
  have : i = 0 ∨ i = 1 ∨ i = 2 ∨ i = 3 ∨ i = 4 ∨ i = 5 ∨ i = 6 ∨ i = 7 ∨ i = 8 ∨ i = 9 ∨ i = 10 ∨ i = 11 ∨ i = 12 ∨ i = 13 ∨ i = 14 ∨ i = 15 := by omega
  rcases this with h | h | h | h | h | h | h | h | h | h | h | h | h | h | h | h <;> subst h <;> rfl

theorem tabL_one : ∀ v ∈ tabL.toList, v.oneCell' = true := by
  intro v hv
  simp only [tabL, List.mem_cons, List.not_mem_nil, or_false] at hv
  rcases hv with h | h | h | h | h | h | h | h | h | h | h | h | h | h | h | h <;> subst h <;> rfl
theorem u32_and1 (r : Nat) (h : r < 4294967296) : bits .and .u32 (r : Int) 1 = ((r % 2 : Nat) : Int) := by
  rw [show (1 : Int) = ((1 : Nat) : Int) from rfl, u32_and_nat r 1 h (by omega), nat_mask1]
theorem u32_xorp (r : Nat) (h : r < 4294967296) : bits .xor .u32 ((r : Int) / 2) 2197175160 = ((r / 2 ^^^ 2197175160 : Nat) : Int) := by
  rw [show ((r : Int) / 2) = ((r / 2 : Nat) : Int) from by omega, show (2197175160 : Int) = ((2197175160 : Nat) : Int) from rfl, u32_xor_nat _ _ (by omega) (by omega)]

set_option maxHeartbeats 1000000 in
theorem halves_any (w : World) :
    Calls Try.prog 87 #[] w fun e w' => e = .returned (.agg tabL) ∧ Below w.heap.size w w' := by
  go_enter Try.func87, Try.ntmps87
  go_wp2
  go_loopw [5] (fun i wr => ∃ k : Nat, k ≤ 16 ∧ i = .int .i64 k ∧ wr = (w.alloc (.cells (Array.replicate 16 (.int .u32 0)) 136)).alloc (.cells (tabA k) 136))
    (fun i _ => 16 - (intOf i).toNat)
  case atStart => exact ⟨0, by omega, rfl, rfl⟩
  case round =>
    obtain ⟨k, hk, rfl, rfl⟩ := hrel
    by_cases hlt : k < 16
    · go_wp2
      go_loop [3, 10] (fun r j => ∃ m : Nat, m ≤ 4 ∧ j = .int .i64 m ∧ r = .int .u32 (stN m k : Nat)) (fun _ j => 4 - (intOf j).toNat)
      case atStart => exact ⟨0, by omega, rfl, rfl⟩
      case round =>
        obtain ⟨m, hm, rfl, rfl⟩ := hrel
        have hb := stN_lt m k (by omega)
        have H := u32_and1 _ hb
        have Hx := u32_xorp _ hb
        by_cases hlt2 : m < 4
        · go_wp2
          · have h1 : (((stN m k : Nat) : Int) % 2 == 1) = true := by assumption
            go_round
            case rel => exact ⟨m + 1, by omega, by go_num, by simp [stN, st1]; rw [if_pos (by simp at h1; omega)]⟩
            case measure => simp [intOf]; omega
          · have h1 : (((stN m k : Nat) : Int) % 2 == 1) = false := by assumption
            go_round
            case rel => exact ⟨m + 1, by omega, by go_num, by simp [stN, st1]; rw [if_neg (by simp at h1; omega)]; simp⟩
            case measure => simp [intOf]; omega
        · obtain rfl : m = 4 := by omega
          clear H Hx
          have hsz := tabA_size k
          have hc : ∃ v, (tabA k)[k]? = some v := ⟨_, Array.getElem?_eq_getElem (by omega)⟩
          obtain ⟨v0, hv0⟩ := hc
          go_wp2
          go_roundw
          case rel => exact ⟨k + 1, by omega, by go_num, rfl⟩
          case measure => simp [intOf]; omega
    · obtain rfl : k = 16 := by omega
      have hg1 := heap_alloc2_new w (.cells (Array.replicate 16 (.int .u32 0)) 136) (.cells tabL 136)
      have hg0 := heap_alloc2_old w (.cells (Array.replicate 16 (.int .u32 0)) 136) (.cells tabL 136)
      have hb2 : Below w.heap.size w ((w.alloc (.cells (Array.replicate 16 (.int .u32 0)) 136)).alloc (.cells tabL 136)) := ((Below.refl _ _).alloc (Nat.le_refl _) _).alloc (by simp) _
      rw [tabA_16]
      generalize (w.alloc (.cells (Array.replicate 16 (.int .u32 0)) 136)).alloc (.cells tabL 136) = W2 at *
      go_wp2_with (first | (refine wpList_load_row rfl 136 _ rfl (w.heap.size + 1) rfl 136 _ _ _ hg1 Try.underlying136 rfl (by kernel_rfl) ?_) | (refine wpList_store_whole rfl 136 _ _ rfl w.heap.size tabL rfl rfl _ 136 hg0 (by rfl) (by kernel_rfl) tabL_one ?_; intro W3 h3 hg3 hs3))
      exact bodyPost_ret (v := .agg tabL) (results_cell_row rfl _ _ w.heap.size 136 tabL _ _ rfl h3 Try.underlying136 rfl (by kernel_rfl)) rfl ⟨rfl, hb2.grown hg3 hb2.size (fun k hk => by injection hk; omega)⟩
end Go.Proofs.Ytcnalndhlonblaa
