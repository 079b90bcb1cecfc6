/-
  Chapter 21, plain: what the joined counts are, place by place; no program stands here.
-/
import Derived.Test.YtcnalndhlonblaaTlyP3
namespace Go.Proofs.Ytcnalndhlonblaa
theorem errJ_at {b : List Int} {over : List EntL} : ∀ {k : Nat}, errJ b over k = 0 → ∀ i, i < k → errJ b over i = 0 ∧ lastK over i < keyA over i ∧ keyA over i ∈ openL b ∧ rdE [countP] (valA over i) = 0
  | 0, _, i, hi => absurd hi (by omega)
  | k + 1, h, i, hi => by
    obtain ⟨h0, h1⟩ := errJ_back h
    rcases Nat.lt_or_ge i k with h2 | h2
    · exact errJ_at h0 i h2
    · obtain rfl : i = k := by omega
      exact ⟨h0, entE_zero h1⟩
theorem key_inj {b : List Int} {over : List EntL} {k : Nat} (h : errJ b over k = 0) {i j : Nat} (hi : i < k) (hj : j < k) (e : keyA over i = keyA over j) : i = j := by
  rcases Nat.lt_trichotomy i j with h1 | h1 | h1
  · obtain ⟨h2, h3, _⟩ := errJ_at h j hj
    have := lastK_ge h2 i h1
    omega
  · exact h1
  · obtain ⟨h2, h3, _⟩ := errJ_at h i hi
    have := lastK_ge h2 j h1
    omega
theorem outJ_other {b : List Int} {over : List EntL} {p : Nat} : ∀ {k : Nat}, errJ b over k = 0 → (∀ i, i < k → keyA over i ≠ (p : Int)) → (outJ b over k).getD p 0 = b.getD p 0
  | 0, _, _ => rfl
  | k + 1, h, hn => by
    obtain ⟨h0, h1⟩ := errJ_back h
    obtain ⟨_, h3, _⟩ := entE_zero h1
    obtain ⟨q, _, hq, _⟩ := openL_mem.1 h3
    have := hn k (by omega)
    unfold outJ
    rw [List.getD_eq_getElem?_getD, List.getElem?_set_ne (by omega), ← List.getD_eq_getElem?_getD]
    exact outJ_other h0 (fun i hi => hn i (by omega))
theorem outJ_key {b : List Int} {over : List EntL} {p i : Nat} (hp : p < b.length) : ∀ {k : Nat}, errJ b over k = 0 → i < k → keyA over i = (p : Int) → (outJ b over k).getD p 0 = rd1 countP (valA over i)
  | 0, _, hi, _ => absurd hi (by omega)
  | k + 1, h, hi, hk => by
    obtain ⟨h0, h1⟩ := errJ_back h
    rcases Nat.lt_or_ge i k with h2 | h2
    · have hne : keyA over k ≠ (p : Int) := fun e => by
        have := key_inj h (i := i) (j := k) hi (by omega) (by rw [hk, e])
        omega
      obtain ⟨_, h3, _⟩ := entE_zero h1
      obtain ⟨q, _, hq, _⟩ := openL_mem.1 h3
      unfold outJ
      rw [List.getD_eq_getElem?_getD, List.getElem?_set_ne (by omega), ← List.getD_eq_getElem?_getD]
      exact outJ_key hp h0 h2 hk
    · obtain rfl : i = k := by omega
      unfold outJ
      rw [hk, Int.toNat_natCast, List.getD_eq_getElem?_getD, List.getElem?_set_self (by rw [outJ_len]; exact hp)]
      rfl
theorem join_hole {bits : List (List Int)} {over : List EntL} (h : formB bits = true) (h0 : errJ bits.flatten over over.length = 0) {p : Nat} (hp : p < bits.flatten.length) (h3 : bits.flatten.getD p 0 = 3) (hn : ∀ i, i < over.length → keyA over i ≠ (p : Int)) :
    joinE bits over = 13 ∧ joinV bits over = [] := by
  refine (join_end h h0).1 (fun he => ?_)
  have hm : (p : Int) ∈ openJ bits.flatten over over.length := openJ_mem.2 ⟨openL_mem.2 ⟨p, hp, rfl, h3⟩, fun i hi e => hn i hi e.symm⟩
  rw [List.length_eq_zero_iff] at he
  rw [he] at hm
  cases hm
theorem join_full {bits : List (List Int)} {over : List EntL} (h : formB bits = true) (h0 : errJ bits.flatten over over.length = 0) (hf : ∀ p, p < bits.flatten.length → bits.flatten.getD p 0 = 3 → ∃ i, i < over.length ∧ keyA over i = (p : Int)) :
    joinE bits over = 0 ∧ joinV bits over = outJ bits.flatten over over.length := by
  refine (join_end h h0).2 ?_
  rw [List.length_eq_zero_iff, List.eq_nil_iff_forall_not_mem]
  intro x hx
  obtain ⟨h1, h2⟩ := openJ_mem.1 hx
  obtain ⟨p, hp, rfl, h3⟩ := openL_mem.1 h1
  obtain ⟨i, hi, hk⟩ := hf p hp h3
  exact h2 i hi hk.symm
/-- counts filled up to place k -/
def mixJ (O b : List Int) (k : Nat) : List Int := O.take k ++ b.drop k
theorem mixJ_len {O b : List Int} (h : O.length = b.length) {k : Nat} (hk : k ≤ b.length) : (mixJ O b k).length = b.length := by
  unfold mixJ
  rw [List.length_append, List.length_take, List.length_drop]
  omega
theorem mixJ_at {O b : List Int} (h : O.length = b.length) {k : Nat} (hk : k < b.length) : (mixJ O b k).getD k 0 = b.getD k 0 := by
  unfold mixJ
  rw [List.getD_eq_getElem?_getD, List.getElem?_append_right (by rw [List.length_take]; omega), List.length_take, show k - min k O.length = 0 by omega, List.getElem?_drop, Nat.add_zero, ← List.getD_eq_getElem?_getD]
theorem mixJ_set {O b : List Int} (h : O.length = b.length) {k : Nat} (hk : k < b.length) : (mixJ O b k).set k (O.getD k 0) = mixJ O b (k + 1) := by
  unfold mixJ
  rw [List.set_append_right _ _ (by rw [List.length_take]; omega), List.length_take, show k - min k O.length = 0 by omega, List.drop_eq_getElem_cons hk, List.set_cons_zero, List.take_add_one, List.getElem?_eq_getElem (by omega), List.getD_eq_getElem?_getD, List.getElem?_eq_getElem (by omega), List.append_assoc]
  rfl
theorem mixJ_same {O b : List Int} (h : O.length = b.length) {k : Nat} (hk : k < b.length) (he : O.getD k 0 = b.getD k 0) : mixJ O b k = mixJ O b (k + 1) := by
  rw [← mixJ_set h hk, he, ← mixJ_at h hk]
  apply List.ext_getElem?
  intro i
  by_cases hi : i = k
  · subst hi
    have hlt : i < (mixJ O b i).length := by rw [mixJ_len h (by omega)]; exact hk
    rw [List.getElem?_set_self hlt, List.getElem?_eq_getElem hlt, List.getD_eq_getElem?_getD, List.getElem?_eq_getElem hlt]
    rfl
  · rw [List.getElem?_set_ne (by omega)]
theorem mixJ_end {O b : List Int} (h : O.length = b.length) : mixJ O b b.length = O := by
  unfold mixJ
  rw [List.drop_length, List.append_nil, ← h, List.take_length]
end Go.Proofs.Ytcnalndhlonblaa
