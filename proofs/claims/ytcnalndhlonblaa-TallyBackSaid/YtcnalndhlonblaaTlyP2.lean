/-
  Chapter 21, plain: how lists are joined; no program stands here.
-/
import Derived.Test.YtcnalndhlonblaaTlyP
namespace Go.Proofs.Ytcnalndhlonblaa
/-- the places of threes, among the first k -/
def openK (o : List Int) : Nat → List Int
  | 0 => []
  | k + 1 => if o.getD k 0 = 3 then openK o k ++ [(k : Int)] else openK o k
def openL (o : List Int) : List Int := openK o o.length
theorem openK_mem (o : List Int) (x : Int) : ∀ k, x ∈ openK o k ↔ ∃ p : Nat, p < k ∧ x = (p : Int) ∧ o.getD p 0 = 3
  | 0 => ⟨(fun h => by cases h), (fun ⟨p, h, _⟩ => absurd h (by omega))⟩
  | k + 1 => by
    unfold openK
    have ih := openK_mem o x k
    split
    · rename_i h3
      rw [List.mem_append, ih]
      constructor
      · rintro (⟨p, h1, h2⟩ | h)
        · exact ⟨p, by omega, h2⟩
        · simp at h
          exact ⟨k, by omega, h, h3⟩
      · rintro ⟨p, h1, h2, h4⟩
        rcases Nat.lt_or_ge p k with h5 | h5
        · exact .inl ⟨p, h5, h2, h4⟩
        · obtain rfl : p = k := by omega
          exact .inr (by simp [h2])
    · rename_i h3
      rw [ih]
      constructor
      · rintro ⟨p, h1, h2⟩
        exact ⟨p, by omega, h2⟩
      · rintro ⟨p, h1, h2, h4⟩
        rcases Nat.lt_or_ge p k with h5 | h5
        · exact ⟨p, h5, h2, h4⟩
        · obtain rfl : p = k := by omega
          exact absurd h4 h3
theorem openL_mem {o : List Int} {x : Int} : x ∈ openL o ↔ ∃ p : Nat, p < o.length ∧ x = (p : Int) ∧ o.getD p 0 = 3 := openK_mem o x _
theorem openK_nodup (o : List Int) : ∀ k, (openK o k).Nodup
  | 0 => List.nodup_nil
  | k + 1 => by
    unfold openK
    split
    · rw [List.nodup_append]
      refine ⟨openK_nodup o k, by simp, fun a ha b hb => ?_⟩
      obtain ⟨p, h1, h2, _⟩ := (openK_mem o a k).1 ha
      simp at hb
      omega
    · exact openK_nodup o k
theorem openL_nodup (o : List Int) : (openL o).Nodup := openK_nodup o _
theorem openK_low (o : List Int) (y : Int) : ∀ k, k ≤ o.length → openK (o ++ [y]) k = openK o k
  | 0, _ => rfl
  | k + 1, h => by
    unfold openK
    rw [openK_low o y k (by omega), List.getD_eq_getElem?_getD, List.getElem?_append_left (by omega), ← List.getD_eq_getElem?_getD]
theorem openL_snoc (o : List Int) (y : Int) : openL (o ++ [y]) = if y = 3 then openL o ++ [(o.length : Int)] else openL o := by
  unfold openL
  rw [List.length_append]
  have hs : openK (o ++ [y]) (o.length + 1) = if (o ++ [y]).getD o.length 0 = 3 then openK (o ++ [y]) o.length ++ [(o.length : Int)] else openK (o ++ [y]) o.length := rfl
  show openK (o ++ [y]) (o.length + 1) = _
  rw [hs, openK_low o y _ (Nat.le_refl _)]
  have : (o ++ [y]).getD o.length 0 = y := by simp [List.getD_eq_getElem?_getD]
  rw [this]
theorem openL_not_mem (o : List Int) : (o.length : Int) ∉ openL o := by
  rw [openL_mem]
  rintro ⟨p, h1, h2, _⟩
  omega
theorem openK_len (o : List Int) : ∀ k, (openK o k).length ≤ k
  | 0 => Nat.le_refl _
  | k + 1 => by
    have := openK_len o k
    unfold openK
    split
    · simp; omega
    · omega
/-- may a list of counts stand there? -/
def okLen (n i : Nat) (l : List Int) : Bool := decide (l.length ≤ 960 ∧ l.length ≠ 0 ∧ (i + 1 = n ∨ l.length = 960))
def okElems (l : List Int) : Bool := l.all fun x => decide (0 ≤ x ∧ x ≤ 3)
def formB (bits : List (List Int)) : Bool := (List.range bits.length).all fun i => okLen bits.length i (bits.getD i []) && okElems (bits.getD i [])
theorem formB_iff (bits : List (List Int)) : formB bits = true ↔ ∀ i, i < bits.length → okLen bits.length i (bits.getD i []) = true ∧ okElems (bits.getD i []) = true := by
  unfold formB
  rw [List.all_eq_true]
  constructor
  · intro h i hi
    have := h i (List.mem_range.2 hi)
    rw [Bool.and_eq_true] at this
    exact this
  · intro h i hi
    rw [Bool.and_eq_true]
    exact h i (List.mem_range.1 hi)
theorem formB_len {bits : List (List Int)} {i : Nat} (hi : i < bits.length) (h : okLen bits.length i (bits.getD i []) = false) : formB bits = false := by
  cases hf : formB bits with
  | false => rfl
  | true => rw [((formB_iff bits).1 hf i hi).1] at h; cases h
theorem formB_elem {bits : List (List Int)} {i j : Nat} (hi : i < bits.length) (hj : j < (bits.getD i []).length) (h : (bits.getD i []).getD j 0 < 0 ∨ 3 < (bits.getD i []).getD j 0) : formB bits = false := by
  cases hf : formB bits with
  | false => rfl
  | true =>
    have h1 := ((formB_iff bits).1 hf i hi).2
    unfold okElems at h1
    rw [List.all_eq_true] at h1
    have h2 := h1 ((bits.getD i []).getD j 0) (by rw [List.getD_eq_getElem?_getD (l := bits.getD i []), List.getElem?_eq_getElem hj]; exact List.getElem_mem hj)
    rw [decide_eq_true_iff] at h2
    omega
theorem okElems_of {l : List Int} (h : ∀ j, j < l.length → 0 ≤ l.getD j 0 ∧ l.getD j 0 ≤ 3) : okElems l = true := by
  unfold okElems
  rw [List.all_eq_true]
  intro x hx
  obtain ⟨i, hi, rfl⟩ := List.mem_iff_getElem.1 hx
  have := h i hi
  rw [List.getD_eq_getElem?_getD, List.getElem?_eq_getElem hi] at this
  rw [decide_eq_true_iff]
  exact this
theorem flat_next {bits : List (List Int)} {k : Nat} (h : k < bits.length) : (bits.take (k + 1)).flatten = (bits.take k).flatten ++ bits.getD k [] := by
  rw [List.take_add_one, List.getElem?_eq_getElem h, List.flatten_append, List.getD_eq_getElem?_getD, List.getElem?_eq_getElem h]
  simp
theorem take_next {l : List Int} {k : Nat} (h : k < l.length) : l.take (k + 1) = l.take k ++ [l.getD k 0] := by
  rw [List.take_add_one, List.getElem?_eq_getElem h, List.getD_eq_getElem?_getD, List.getElem?_eq_getElem h]
  rfl
end Go.Proofs.Ytcnalndhlonblaa
