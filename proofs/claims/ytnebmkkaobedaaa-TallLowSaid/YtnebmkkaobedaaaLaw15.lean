/-
  Chapter 15's three laws, walked.
-/
import Derived.Test.YtnebmkkaobedaaaTall3
namespace Go.Proofs.Ytnebmkkaobedaaa
open Go.RowKit

/-- a level's sizes; none if there is no such level -/
def sizesI (n m : Int) : List Nat := if n < 0 ∨ 32768 < n ∨ m < 1 then [] else sizesV n.toNat m.toNat
theorem sizesI_len (n m : Int) : (sizesI n m).length ≤ 40000 := by
  unfold sizesI
  split
  · simp
  · rw [sizesV_len]
    have := overV_le n.toNat m.toNat
    omega
theorem sizesI_any (n m : Int) (hm : m ≤ 9223372036854775807) (w : World) : Calls Try.prog 53 #[.int .i64 n, .int .i64 m] w (Gives 3 (nv (sizesI n m)) w) := by
  unfold sizesI
  split
  · rename_i h
    refine (sizes_bad n m h w).mono ?_
    rintro e w' ⟨rfl, rfl⟩
    exact ⟨none, 0, rfl, World.ownsRow_nil _ _ _ _, Below.refl _ _⟩
  · rename_i h
    obtain ⟨a, rfl⟩ := Int.eq_ofNat_of_zero_le (show 0 ≤ n by omega)
    obtain ⟨b, rfl⟩ := Int.eq_ofNat_of_zero_le (show 0 ≤ m by omega)
    exact sizes_ok a b (by omega) (by omega) (by omega) w
theorem rsizesI_any (n m : Int) (hm : m ≤ 9223372036854775807) (w : World) : Calls Try.prog 54 #[.int .i64 n, .int .i64 m] w (Gives 3 (nv (sizesI n m)) w) := by
  unfold sizesI
  split
  · rename_i h
    refine (rsizes_bad n m h w).mono ?_
    rintro e w' ⟨rfl, rfl⟩
    exact ⟨none, 0, rfl, World.ownsRow_nil _ _ _ _, Below.refl _ _⟩
  · rename_i h
    obtain ⟨a, rfl⟩ := Int.eq_ofNat_of_zero_le (show 0 ≤ n by omega)
    obtain ⟨b, rfl⟩ := Int.eq_ofNat_of_zero_le (show 0 ≤ m by omega)
    exact rsizes_ok a b (by omega) (by omega) (by omega) w
theorem sameN_any (A : Option Addr) (c : Nat) (A2 : Option Addr) (c2 : Nat) (l : List Nat) (w : World) (B B2 : Nat) (hm : l.length ≤ 40000) (h : Reads w B A (nv l)) (h2 : Reads w B2 A2 (nv l)) :
    Calls Try.prog 33 #[.slice A l.length c, .slice A2 l.length c2] w fun e w' => e = .returned (.bool true) ∧ Below w.heap.size w w' := by
  have := sameI_any A c A2 c2 (l.map fun n : Nat => (n : Int)) w B B2 (by rw [List.length_map]; simp only [reachBytes]; omega) h h2
  rwa [List.length_map] at this
theorem levels_example : levelsV 2 200 = [17, 1] ∧ sizesI 5 2 = [2, 2, 1] := by decide +kernel
theorem lives15 (w : World) : Calls Try.prog 42 #[] w fun e w' => e = .returned (.bool true) ∧ Below w.heap.size w w' := by
  have hl := levels_any 2 200 w
  have hs := fun W => sizesI_any 5 2 (by omega) W
  rw [levels_example.1] at hl
  rw [levels_example.2] at hs
  go_enter Try.func42, Try.ntmps42
  go_wp2_with fail
  refine hl.mono ?_
  rintro e w1 ⟨A1, c1, rfl, hown, hb1⟩
  rw [nv_len]
  have hr1 := (Reads.of_own hown).alloc (Nat.le_refl _) (.cells (nv [17, 1]).toArray 3)
  have k1 := sameN_any A1 c1 (some ⟨w1.heap.size, 0, none⟩) 2 [17, 1] _ _ _ (by simp) hr1 (Reads.new w1 (nv [17, 1]) 3 (0, 0))
  have hb2 := hb1.alloc hb1.size (.cells (nv [17, 1]).toArray 3)
  clear hl hown hr1 hb1
  go_wp2_with fail
  refine k1.mono ?_
  rintro e w2 ⟨rfl, hb⟩
  have hb3 := below_then hb2 hb
  clear k1 hb hb2
  go_wp2_with fail
  refine (hs _).mono ?_
  rintro e w3 ⟨A3, c3, rfl, hown, hb⟩
  rw [nv_len]
  have hb4 := below_then hb3 hb
  have hr1 := (Reads.of_own hown).alloc (Nat.le_refl _) (.cells (nv [2, 2, 1]).toArray 3)
  have k1 := sameN_any A3 c3 (some ⟨w3.heap.size, 0, none⟩) 3 [2, 2, 1] _ _ _ (by simp) hr1 (Reads.new w3 (nv [2, 2, 1]) 3 (0, 0))
  have hb5 := hb4.alloc hb4.size (.cells (nv [2, 2, 1]).toArray 3)
  clear hs hown hr1 hb3 hb hb4
  go_wp2_with fail
  refine k1.mono ?_
  rintro e w4 ⟨rfl, hb⟩
  have hb6 := below_then hb5 hb
  go_wp2
  go_ret
  exact ⟨rfl, hb6⟩
set_option maxHeartbeats 1000000 in
theorem law_TallTells (a0 a1 a2 : Int) (w : World) (_w0 : (Lit.int .i64 a0).wf = true) (_w1 : (Lit.int .i64 a1).wf = true) (w2 : (Lit.int .i64 a2).wf = true) :
    Calls Try.prog 13 #[.int .i64 a0, .int .i64 a1, .int .i64 a2] w fun e w' => e = .returned (.bool true) ∧ Below w.heap.size w w' := by
  have hm := (wf_i64 w2).2
  have k1 := fun W => levels_any a0 a1 W
  have k2 := fun W => rlevels_any a0 a1 W
  have k3 := fun W => nodes_any a0 a1 W
  have k4 := fun W => rnodes_any a0 a1 W
  have k5 := fun W => sizesI_any a1 a2 hm W
  have k6 := fun W => rsizesI_any a1 a2 hm W
  have b1 := (levels_bound a0 a1).1
  have b2 := sizesI_len a1 a2
  generalize levelsV a0 a1 = L at *
  generalize nodesV a0 a1 = K at *
  generalize sizesI a1 a2 = S at *
  have d1 : ((K : Int) == (K : Int)) = true := by simp
  clear hm _w0 _w1 w2
  go_enter Try.func13, Try.ntmps13
  go_wp2_with fail
  refine (k1 _).mono ?_
  rintro e w1 ⟨A1, c1, rfl, hown1, hb1⟩
  rw [nv_len] at hown1
  rw [nv_len]
  go_wp2_with fail
  refine (k2 _).mono ?_
  rintro e w2 ⟨A2, c2, rfl, hown2, hb⟩
  rw [nv_len] at hown2
  rw [nv_len]
  have hb2 := below_then hb1 hb
  have hs := sameN_any A1 c1 A2 c2 L w2 _ _ b1 (Reads.of_own (own_keep hown1 hb)) (Reads.of_own hown2)
  clear k1 k2 hown1 hown2 hb hb1
  go_wp2_with fail
  refine hs.mono ?_
  rintro e w3 ⟨rfl, hb⟩
  have hb3 := below_then hb2 hb
  clear hs hb hb2
  go_wp2_with fail
  refine (k3 _).mono ?_
  rintro e w4 ⟨rfl, hb⟩
  have hb4 := below_then hb3 hb
  clear k3 hb hb3
  go_wp2_with fail
  refine (k4 _).mono ?_
  rintro e w5 ⟨rfl, hb⟩
  have hb5 := below_then hb4 hb
  clear k4 hb hb4
  go_wp2_with fail
  refine (k5 _).mono ?_
  rintro e w6 ⟨A6, c6, rfl, hown6, hb⟩
  rw [nv_len] at hown6
  rw [nv_len]
  have hb6 := below_then hb5 hb
  clear k5 hb hb5
  go_wp2_with fail
  refine (k6 _).mono ?_
  rintro e w7 ⟨A7, c7, rfl, hown7, hb⟩
  rw [nv_len] at hown7
  rw [nv_len]
  have hb7 := below_then hb6 hb
  have hs := sameN_any A6 c6 A7 c7 S w7 _ _ b2 (Reads.of_own (own_keep hown6 hb)) (Reads.of_own hown7)
  clear k6 hown6 hown7 hb hb6
  go_wp2_with fail
  refine hs.mono ?_
  rintro e w8 ⟨rfl, hb⟩
  have hb8 := below_then hb7 hb
  clear hs hb hb7
  go_wp2_with fail
  refine (lives15 _).mono ?_
  rintro e w9 ⟨rfl, hb⟩
  have hb9 := below_then hb8 hb
  go_wp2
  go_ret
  exact ⟨rfl, hb9⟩
end Go.Proofs.Ytnebmkkaobedaaa
