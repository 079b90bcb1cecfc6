/-
  Plain: counts of two bits in bytes. No program stands here.
-/
import Derived.Test.YtahomneljdjjjaaCodeP
namespace Go.Proofs.Ytahomneljdjjjaa
/-- may these be counts? -/
def cntsB (l : List Int) : Bool := decide (l.length ≤ 960) && l.all fun n => decide (0 ≤ n ∧ n ≤ 3)
/-- a digit of a list; 0 behind it -/
def dg (l : List Int) (i : Nat) : Nat := (l.getD i 0).toNat
/-- four digits in a byte -/
def four4 (a b c d : Nat) : Nat := a + 4 * b + 16 * c + 64 * d
def byteN (l : List Int) (j : Nat) : Nat := four4 (dg l (4 * j)) (dg l (4 * j + 1)) (dg l (4 * j + 2)) (dg l (4 * j + 3))
def bodyB (l : List Int) : List UInt8 := (List.range 240).map fun j => UInt8.ofNat (byteN l j)
def bitsB (l : List Int) : List UInt8 := leb 4 l.length ++ bodyB l
def bitsE (l : List Int) : Int := if cntsB l = true then 0 else 1
def bitsV (l : List Int) : List UInt8 := if cntsB l = true then bitsB l else []
theorem bodyB_len (l : List Int) : (bodyB l).length = 240 := by simp [bodyB]
theorem bitsB_len (l : List Int) : (bitsB l).length = 244 := by simp [bitsB, bodyB_len, leb_len]
theorem cnts_len {l : List Int} (h : cntsB l = true) : l.length ≤ 960 := by
  simp only [cntsB, Bool.and_eq_true, decide_eq_true_eq] at h
  exact h.1
theorem cnts_each {l : List Int} (h : cntsB l = true) : ∀ n ∈ l, 0 ≤ n ∧ n ≤ 3 := by
  simp only [cntsB, Bool.and_eq_true, List.all_eq_true, decide_eq_true_eq] at h
  exact h.2
theorem dg_lt {l : List Int} (h : ∀ n ∈ l, 0 ≤ n ∧ n ≤ 3) (i : Nat) : dg l i < 4 := by
  unfold dg
  rw [List.getD_eq_getElem?_getD]
  rcases Nat.lt_or_ge i l.length with h1 | h1
  · rw [List.getElem?_eq_getElem h1]
    have := h _ (List.getElem_mem h1)
    simp only [Option.getD_some]
    omega
  · rw [List.getElem?_eq_none h1]
    simp
theorem dg_val {l : List Int} (h : ∀ n ∈ l, 0 ≤ n ∧ n ≤ 3) (i : Nat) (hi : i < l.length) : ((dg l i : Nat) : Int) = l[i] := by
  unfold dg
  rw [List.getD_eq_getElem?_getD, List.getElem?_eq_getElem hi]
  have := h _ (List.getElem_mem hi)
  simp only [Option.getD_some]
  omega
theorem byteN_lt {l : List Int} (h : ∀ n ∈ l, 0 ≤ n ∧ n ≤ 3) (j : Nat) : byteN l j < 256 := by
  have h0 := dg_lt h (4 * j)
  have h1 := dg_lt h (4 * j + 1)
  have h2 := dg_lt h (4 * j + 2)
  have h3 := dg_lt h (4 * j + 3)
  unfold byteN four4
  omega
theorem dg_take (l : List Int) (k i : Nat) : dg (l.take k) i = if i < k then dg l i else 0 := by
  unfold dg
  rw [List.getD_eq_getElem?_getD, List.getD_eq_getElem?_getD, List.getElem?_take]
  split <;> rfl
theorem dg_snoc (l : List Int) (k : Nat) (hk : k < l.length) (i : Nat) : dg (l.take (k + 1)) i = if i = k then dg l k else dg (l.take k) i := by
  rw [dg_take, dg_take]
  rcases Nat.lt_trichotomy i k with h | h | h
  · rw [if_pos (by omega), if_neg (by omega), if_pos h]
  · subst h
    rw [if_pos (by omega), if_pos rfl]
  · rw [if_neg (by omega), if_neg (by omega), if_neg (by omega)]
/-- one more digit: what its byte becomes -/
theorem byteN_snoc (l : List Int) (k : Nat) (hk : k < l.length) : byteN (l.take (k + 1)) (k / 4) = byteN (l.take k) (k / 4) + dg l k * 4 ^ (k % 4) ∧ byteN (l.take k) (k / 4) < 4 ^ (k % 4) ∨ ¬ (∀ n ∈ l, 0 ≤ n ∧ n ≤ 3) := by
  by_cases hall : ∀ n ∈ l, 0 ≤ n ∧ n ≤ 3
  · left
    have hz : ∀ i, k ≤ i → dg (l.take k) i = 0 := fun i hi => by rw [dg_take, if_neg (by omega)]
    have hlt := dg_lt (l := l.take k) (fun n hn => hall n (List.mem_of_mem_take hn))
    have h0 := hlt (4 * (k / 4))
    have h1 := hlt (4 * (k / 4) + 1)
    have h2 := hlt (4 * (k / 4) + 2)
    unfold byteN four4
    simp only [dg_snoc l k hk]
    have hk4 : k = 4 * (k / 4) + k % 4 := by omega
    have hm : k % 4 < 4 := Nat.mod_lt _ (by omega)
    generalize k % 4 = r at *
    generalize k / 4 = q at *
    obtain rfl | rfl | rfl | rfl : r = 0 ∨ r = 1 ∨ r = 2 ∨ r = 3 := by omega
    · rw [if_pos (by omega), if_neg (by omega), if_neg (by omega), if_neg (by omega), hz (4 * q) (by omega), hz (4 * q + 1) (by omega), hz (4 * q + 2) (by omega), hz (4 * q + 3) (by omega)]
      omega
    · rw [if_neg (by omega), if_pos (by omega), if_neg (by omega), if_neg (by omega), hz (4 * q + 1) (by omega), hz (4 * q + 2) (by omega), hz (4 * q + 3) (by omega)]
      omega
    · rw [if_neg (by omega), if_neg (by omega), if_pos (by omega), if_neg (by omega), hz (4 * q + 2) (by omega), hz (4 * q + 3) (by omega)]
      omega
    · rw [if_neg (by omega), if_neg (by omega), if_neg (by omega), if_pos (by omega), hz (4 * q + 3) (by omega)]
      omega
  · exact .inr hall
theorem byteN_other (l : List Int) (k : Nat) (hk : k < l.length) (j : Nat) (hj : j ≠ k / 4) : byteN (l.take (k + 1)) j = byteN (l.take k) j := by
  unfold byteN
  simp only [dg_snoc l k hk]
  rw [if_neg (by omega), if_neg (by omega), if_neg (by omega), if_neg (by omega)]
/-- the bytes behind k digits, laid -/
theorem bodyB_snoc (l : List Int) (k : Nat) (hk : k < l.length) (h9 : l.length ≤ 960) : bodyB (l.take (k + 1)) = (bodyB (l.take k)).set (k / 4) (UInt8.ofNat (byteN (l.take (k + 1)) (k / 4))) := by
  apply List.ext_getElem?
  intro i
  rw [List.getElem?_set]
  simp only [bodyB, List.getElem?_map, List.length_map, List.length_range]
  by_cases hi : k / 4 = i
  · subst hi
    rw [if_pos rfl, if_pos (by omega), List.getElem?_range (by omega)]
    rfl
  · rw [if_neg hi]
    rcases Nat.lt_or_ge i 240 with h | h
    · rw [List.getElem?_range h]
      simp only [Option.map_some, Option.some.injEq]
      rw [byteN_other l k hk i (fun e => hi e.symm)]
    · rw [List.getElem?_eq_none (by simpa using h)]
      rfl
theorem bodyB_nil : bodyB [] = List.replicate 240 0 := by decide +kernel
/-- how many are 0, and where the first one stands -/
def zerosN (l : List Int) : Nat := (l.filter (· == 0)).length
def firstN (l : List Int) : Nat := l.findIdx (· == 0)
theorem zeros_snoc (l : List Int) (k : Nat) (hk : k < l.length) : zerosN (l.take (k + 1)) = zerosN (l.take k) + if l[k] = 0 then 1 else 0 := by
  unfold zerosN
  rw [List.take_succ_eq_append_getElem hk, List.filter_append, List.length_append]
  congr 1
  by_cases h : l[k] = 0 <;> simp [h]
theorem zeros_le (l : List Int) (k : Nat) : zerosN (l.take k) ≤ k := by
  unfold zerosN
  exact Nat.le_trans (List.length_filter_le _ _) (List.length_take_le _ _)
theorem zeros_none {l : List Int} {k : Nat} (h : zerosN (l.take k) = 0) (j : Nat) (hj : j < k) (hl : j < l.length) : l[j] ≠ 0 := by
  intro e
  unfold zerosN at h
  have h1 : (l.take k).filter (· == 0) = [] := List.eq_nil_of_length_eq_zero h
  rw [List.filter_eq_nil_iff] at h1
  have h2 : l[j] ∈ l.take k := by
    rw [List.mem_take_iff_getElem]
    exact ⟨j, by omega, rfl⟩
  have := h1 _ h2
  simp [e] at this
theorem first_at {l : List Int} {k : Nat} (hk : k < l.length) (h : ∀ j, j < k → ∀ hj : j < l.length, l[j] ≠ 0) (h0 : l[k] = 0) : firstN l = k := by
  unfold firstN
  rw [List.findIdx_eq hk]
  refine ⟨by simp [h0], fun j hj => ?_⟩
  have := h j hj (by omega)
  simpa using this
theorem first_none {l : List Int} (h : ∀ j, ∀ hj : j < l.length, l[j] ≠ 0) : firstN l = l.length := by
  unfold firstN
  rw [List.findIdx_eq_length]
  intro x hx
  obtain ⟨j, hj, rfl⟩ := List.getElem_of_mem hx
  simpa using h j hj
end Go.Proofs.Ytahomneljdjjjaa
