/-
  Plain: how many nodes a packed tree has. No program stands here.
-/
import Derived.Test.YtilkcecjciiboaaBase6
namespace Go.Proofs.Ytilkcecjciiboaa
open Go.RowKit
/-- how many bytes a value has; how many keys there can be -/
def widthV (t : Int) (leaf : Bool) : Int := if t < 1 ∨ 5 < t then 0 else if leaf = false then 4 else if t = 2 then 8 else if t = 3 then 24 else if t = 4 then 16 else 4
def maxV (t : Int) (leaf : Bool) : Nat := if t < 1 ∨ 5 < t then 0 else if leaf = false then 18 else if t = 2 then 12 else if t = 3 then 6 else if t = 4 then 9 else 18
theorem maxV_inner (t : Int) : maxV t false = 0 ∨ maxV t false = 18 := by unfold maxV; split <;> simp
theorem maxV_leaf (t : Int) : maxV t true ≤ 18 := by
  unfold maxV
  split
  · omega
  · rw [if_neg (by simp)]
    split
    · omega
    · split
      · omega
      · split <;> omega
theorem maxV_both (t : Int) (h : maxV t true ≠ 0) : maxV t false = 18 ∧ 6 ≤ maxV t true := by
  unfold maxV at *
  split at h
  · exact absurd rfl h
  · rename_i hn
    rw [if_neg hn, if_pos rfl]
    refine ⟨rfl, ?_⟩
    rw [if_neg hn, if_neg (by simp)]
    split
    · omega
    · split
      · omega
      · split <;> omega
/-- parts of m of n things: one at least -/
def overV (n m : Nat) : Nat := (n - 1) / m + 1
theorem overV_max (n m : Nat) (hm : 0 < m) : max 1 ((n + m - 1) / m) = overV n m := by
  unfold overV
  rcases Nat.eq_zero_or_pos n with h | h
  · subst h
    have : (0 + m - 1) / m = 0 := Nat.div_eq_of_lt (by omega)
    rw [this]
    simp
  · have : n + m - 1 = (n - 1) + m := by omega
    rw [this, Nat.add_div_right _ hm]
    generalize (n - 1) / m = q
    omega
theorem overV_mono {a b m : Nat} (h : a ≤ b) : overV a m ≤ overV b m := by
  unfold overV
  have := Nat.div_le_div_right (c := m) (show a - 1 ≤ b - 1 by omega)
  omega
theorem overV_lt {k m : Nat} (hm : 2 ≤ m) (hk : 1 < k) : overV k m < k := by
  unfold overV
  have : (k - 1) / m ≤ (k - 1) / 2 := Nat.div_le_div_left hm (by omega)
  omega
theorem overV_le (k m : Nat) : overV k m ≤ k + 1 := by
  unfold overV
  have := Nat.div_le_self (k - 1) m
  omega
theorem overV_over (n a b : Nat) : overV (overV n a) b = overV n (a * b) := by
  unfold overV
  rw [Nat.add_sub_cancel, Nat.div_div_eq_div_mul]
/-- a level's sizes -/
def sizesV (n m : Nat) : List Nat := List.replicate ((n - 1) / m) m ++ [n - (n - 1) / m * m]
theorem sizesV_len (n m : Nat) : (sizesV n m).length = overV n m := by simp [sizesV, overV]
theorem sizes_bounds (n m : Nat) (hm : 0 < m) : (n - 1) / m * m ≤ n ∧ n ≤ (n - 1) / m * m + m ∧ (0 < n → (n - 1) / m * m < n) := by
  have h1 := Nat.div_mul_le_self (n - 1) m
  have h2 := Nat.lt_div_mul_add (a := n - 1) hm
  refine ⟨by omega, by omega, fun h => by omega⟩
theorem sizesV_get (n m : Nat) (hm : 0 < m) (i : Nat) (hi : i < overV n m) : (sizesV n m)[i]? = some (min m (n - i * m)) := by
  obtain ⟨h1, h2, h3⟩ := sizes_bounds n m hm
  unfold overV at hi
  unfold sizesV
  rcases Nat.lt_or_ge i ((n - 1) / m) with h | h
  · rw [List.getElem?_append_left (by simpa using h), List.getElem?_replicate, if_pos h]
    have : (i + 1) * m ≤ (n - 1) / m * m := Nat.mul_le_mul_right _ h
    rw [Nat.add_mul, Nat.one_mul] at this
    rw [Nat.min_eq_left (by omega)]
  · obtain rfl : i = (n - 1) / m := by omega
    rw [List.getElem?_append_right (by simp), List.length_replicate, Nat.sub_self]
    simp only [List.getElem?_cons_zero, Option.some.injEq]
    rw [Nat.min_eq_right (by omega)]
theorem sizesV_big (n m : Nat) (L : Nat) (hn : n ≤ L) (hL : 0 < L) (hm : L ≤ m) : sizesV n m = sizesV n L := by
  have h1 : (n - 1) / m = 0 := Nat.div_eq_of_lt (by omega)
  have h2 : (n - 1) / L = 0 := Nat.div_eq_of_lt (by omega)
  unfold sizesV
  rw [h1, h2]
  simp
theorem sizesV_sum (n m : Nat) (hm : 0 < m) : (sizesV n m).sum = n := by
  obtain ⟨h1, _, _⟩ := sizes_bounds n m hm
  unfold sizesV
  rw [List.sum_append, List.sum_replicate_nat]
  simp
  omega
/-- the levels above k nodes, k among them -/
def lvF (m : Nat) : Nat → Nat → List Nat
  | 0, k => [k]
  | f + 1, k => if 1 < k then k :: lvF m f (overV k m) else [k]
theorem lvF_any (m : Nat) (hm : 2 ≤ m) : ∀ (f g k : Nat), k ≤ f → k ≤ g → lvF m f k = lvF m g k := by
  intro f
  induction f with
  | zero =>
    intro g k h1 h2
    obtain rfl : k = 0 := by omega
    cases g with
    | zero => rfl
    | succ g => simp [lvF]
  | succ f ih =>
    intro g k h1 h2
    cases g with
    | zero =>
      obtain rfl : k = 0 := by omega
      simp [lvF]
    | succ g =>
      simp only [lvF]
      split
      · rename_i hk
        have := overV_lt hm hk
        rw [ih g (overV k m) (by omega) (by omega)]
      · rfl
def lvl (m k : Nat) : List Nat := lvF m k k
theorem lvl_more (m k : Nat) (hm : 2 ≤ m) (hk : 1 < k) : lvl m k = k :: lvl m (overV k m) := by
  unfold lvl
  obtain ⟨j, rfl⟩ : ∃ j, k = j + 1 := ⟨k - 1, by omega⟩
  have := overV_lt hm hk
  simp only [lvF, if_pos hk]
  rw [lvF_any m hm j (overV (j + 1) m) _ (by omega) (Nat.le_refl _)]
theorem lvl_one (m k : Nat) (hk : ¬ 1 < k) : lvl m k = [k] := by
  unfold lvl
  cases k with
  | zero => rfl
  | succ j => simp only [lvF, if_neg hk]
theorem lvl_len (m : Nat) (hm : 2 ≤ m) : ∀ k, (lvl m k).length ≤ k + 1 := by
  intro k
  induction k using Nat.strongRecOn with
  | ind k ih =>
    by_cases hk : 1 < k
    · rw [lvl_more m k hm hk, List.length_cons]
      have h1 := overV_lt hm hk
      have := ih _ h1
      omega
    · rw [lvl_one m k hk]; simp
theorem lvl_sum (m : Nat) (hm : 2 ≤ m) : ∀ k, (lvl m k).sum ≤ k * k + 1 := by
  intro k
  induction k using Nat.strongRecOn with
  | ind k ih =>
    by_cases hk : 1 < k
    · rw [lvl_more m k hm hk, List.sum_cons]
      have h1 := overV_lt hm hk
      have h2 := ih _ h1
      have h3 : overV k m * overV k m ≤ (k - 1) * (k - 1) := Nat.mul_le_mul (by omega) (by omega)
      obtain ⟨j, rfl⟩ : ∃ j, k = j + 1 := ⟨k - 1, by omega⟩
      rw [Nat.add_sub_cancel] at h3
      have h4 : (j + 1) * (j + 1) = j * j + 2 * j + 1 := by rw [Nat.add_mul, Nat.mul_add]; omega
      omega
    · rw [lvl_one m k hk]; simp; omega
theorem lvl_mono (m : Nat) (hm : 2 ≤ m) : ∀ b a, a ≤ b → (lvl m a).sum ≤ (lvl m b).sum := by
  intro b
  induction b using Nat.strongRecOn with
  | ind b ih =>
    intro a h
    by_cases hb : 1 < b
    · rw [lvl_more m b hm hb, List.sum_cons]
      by_cases ha : 1 < a
      · rw [lvl_more m a hm ha, List.sum_cons]
        have := ih _ (overV_lt hm hb) _ (overV_mono (m := m) h)
        omega
      · rw [lvl_one m a ha]; simp; omega
    · rw [lvl_one m b hb, lvl_one m a (by omega)]; simpa using h
/-- all levels of a packed tree -/
def levelsV (t n : Int) : List Nat := if maxV t true = 0 ∨ n < 0 ∨ 32768 < n then [] else lvl 18 (overV n.toNat (maxV t true))
def nodesV (t n : Int) : Nat := (levelsV t n).sum
end Go.Proofs.Ytilkcecjciiboaa
