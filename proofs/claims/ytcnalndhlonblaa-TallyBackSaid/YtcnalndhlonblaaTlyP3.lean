/-
  Chapter 21, plain: entries joined to lists; no program stands here.
-/
import Derived.Test.YtcnalndhlonblaaTlyP2
import Derived.Test.YtcnalndhlonblaaTly6
import Derived.Test.YtcnalndhlonblaaVal8
namespace Go.Proofs.Ytcnalndhlonblaa
def zE : EntL := ⟨0, [], 0⟩
def keyA (over : List EntL) (k : Nat) : Int := (over.getD k zE).key
def valA (over : List EntL) (k : Nat) : List UInt8 := (over.getD k zE).val
def lastK (over : List EntL) : Nat → Int
  | 0 => -1
  | k + 1 => keyA over k
def entE (b : List Int) (last key : Int) (val : List UInt8) : Int := if key ≤ last then 8 else if key ∈ openL b then rdE [countP] val else 13
def errJ (b : List Int) (over : List EntL) : Nat → Int
  | 0 => 0
  | k + 1 => if errJ b over k = 0 then entE b (lastK over k) (keyA over k) (valA over k) else errJ b over k
def outJ (b : List Int) (over : List EntL) : Nat → List Int
  | 0 => b
  | k + 1 => (outJ b over k).set (keyA over k).toNat (rd1 countP (valA over k))
def openJ (b : List Int) (over : List EntL) : Nat → List Int
  | 0 => openL b
  | k + 1 => (openJ b over k).filter fun y => decide (y ≠ keyA over k)
def joinE (bits : List (List Int)) (over : List EntL) : Int :=
  if formB bits = true then (if errJ bits.flatten over over.length = 0 then (if (openL bits.flatten).length = over.length then 0 else 13) else errJ bits.flatten over over.length) else 7
def joinV (bits : List (List Int)) (over : List EntL) : List Int := if joinE bits over = 0 then outJ bits.flatten over over.length else []
theorem errJ_stop {b : List Int} {over : List EntL} {i : Nat} : ∀ k, i < k → errJ b over i = 0 → entE b (lastK over i) (keyA over i) (valA over i) ≠ 0 → errJ b over k = entE b (lastK over i) (keyA over i) (valA over i)
  | 0, h, _, _ => absurd h (by omega)
  | k + 1, h, h0, h1 => by
    unfold errJ
    rcases Nat.lt_or_ge i k with h2 | h2
    · rw [errJ_stop k h2 h0 h1, if_neg h1]
    · obtain rfl : i = k := by omega
      rw [if_pos h0]
theorem errJ_next {b : List Int} {over : List EntL} {k : Nat} (h : errJ b over k = 0) (h1 : entE b (lastK over k) (keyA over k) (valA over k) = 0) : errJ b over (k + 1) = 0 := by unfold errJ; rw [if_pos h, h1]
theorem errJ_back {b : List Int} {over : List EntL} {k : Nat} (h : errJ b over (k + 1) = 0) : errJ b over k = 0 ∧ entE b (lastK over k) (keyA over k) (valA over k) = 0 := by
  unfold errJ at h
  split at h
  · rename_i h0; exact ⟨h0, h⟩
  · rename_i h0; exact absurd h h0
theorem entE_zero {b : List Int} {last key : Int} {val : List UInt8} (h : entE b last key val = 0) : last < key ∧ key ∈ openL b ∧ rdE [countP] val = 0 := by
  unfold entE at h
  split at h
  · cases h
  · split at h
    · rename_i h1 h2; exact ⟨by omega, h2, h⟩
    · cases h
theorem lastK_ge {b : List Int} {over : List EntL} : ∀ {k : Nat}, errJ b over k = 0 → ∀ i, i < k → keyA over i ≤ lastK over k
  | 0, _, i, hi => absurd hi (by omega)
  | k + 1, h, i, hi => by
    obtain ⟨h0, h1⟩ := errJ_back h
    have := (entE_zero h1).1
    rcases Nat.lt_or_ge i k with h2 | h2
    · have h3 := lastK_ge h0 i h2
      show keyA over i ≤ keyA over k
      omega
    · obtain rfl : i = k := by omega
      exact Int.le_refl _
theorem openJ_mem {b : List Int} {over : List EntL} {x : Int} : ∀ {k : Nat}, x ∈ openJ b over k ↔ x ∈ openL b ∧ ∀ i, i < k → x ≠ keyA over i
  | 0 => ⟨(fun h => ⟨h, fun i hi => absurd hi (by omega)⟩), (fun h => h.1)⟩
  | k + 1 => by
    unfold openJ
    rw [List.mem_filter, openJ_mem, decide_eq_true_iff]
    constructor
    · rintro ⟨⟨h1, h2⟩, h3⟩
      refine ⟨h1, fun i hi => ?_⟩
      rcases Nat.lt_or_ge i k with h4 | h4
      · exact h2 i h4
      · obtain rfl : i = k := by omega
        exact h3
    · rintro ⟨h1, h2⟩
      exact ⟨⟨h1, fun i hi => h2 i (by omega)⟩, h2 k (by omega)⟩
theorem openJ_above {b : List Int} {over : List EntL} {k : Nat} (h : errJ b over k = 0) {x : Int} (hx : lastK over k < x) : x ∈ openJ b over k ↔ x ∈ openL b := by
  rw [openJ_mem]
  exact ⟨fun h1 => h1.1, fun h1 => ⟨h1, fun i hi e => by have := lastK_ge h i hi; omega⟩⟩
theorem openJ_nodup (b : List Int) (over : List EntL) : ∀ k, (openJ b over k).Nodup
  | 0 => openL_nodup b
  | k + 1 => (openJ_nodup b over k).filter _
theorem openJ_len {b : List Int} {over : List EntL} : ∀ {k : Nat}, errJ b over k = 0 → (openJ b over k).length + k = (openL b).length
  | 0, _ => rfl
  | k + 1, h => by
    obtain ⟨h0, h1⟩ := errJ_back h
    obtain ⟨h2, h3, _⟩ := entE_zero h1
    have h4 := filter_ne_len (keyA over k) _ (openJ_nodup b over k) ((openJ_above h0 h2).2 h3)
    have h5 := openJ_len h0
    unfold openJ
    omega
theorem outJ_len (b : List Int) (over : List EntL) : ∀ k, (outJ b over k).length = b.length
  | 0 => rfl
  | k + 1 => by unfold outJ; rw [List.length_set, outJ_len b over k]
theorem join_form {bits : List (List Int)} {over : List EntL} (h : formB bits = false) : joinE bits over = 7 ∧ joinV bits over = [] := by
  have h1 : joinE bits over = 7 := by unfold joinE; rw [h]; rfl
  exact ⟨h1, by unfold joinV; rw [h1]; rfl⟩
theorem join_stop {bits : List (List Int)} {over : List EntL} {k : Nat} {er : Int} (h : formB bits = true) (hk : k < over.length) (h0 : errJ bits.flatten over k = 0) (he : entE bits.flatten (lastK over k) (keyA over k) (valA over k) = er) (hr : er ≠ 0) : joinE bits over = er ∧ joinV bits over = [] := by
  subst he
  have h1 : joinE bits over = entE bits.flatten (lastK over k) (keyA over k) (valA over k) := by
    unfold joinE
    rw [if_pos h, errJ_stop _ hk h0 hr, if_neg hr]
  exact ⟨h1, by unfold joinV; rw [h1, if_neg hr]⟩
theorem join_end {bits : List (List Int)} {over : List EntL} (h : formB bits = true) (h0 : errJ bits.flatten over over.length = 0) :
    ((openJ bits.flatten over over.length).length ≠ 0 → joinE bits over = 13 ∧ joinV bits over = []) ∧ ((openJ bits.flatten over over.length).length = 0 → joinE bits over = 0 ∧ joinV bits over = outJ bits.flatten over over.length) := by
  have hl := openJ_len h0
  constructor
  · intro h1
    have h2 : joinE bits over = 13 := by unfold joinE; rw [if_pos h, if_pos h0, if_neg (by omega)]
    exact ⟨h2, by unfold joinV; rw [h2]; rfl⟩
  · intro h1
    have h2 : joinE bits over = 0 := by unfold joinE; rw [if_pos h, if_pos h0, if_pos (by omega)]
    exact ⟨h2, by unfold joinV; rw [if_pos h2]⟩
end Go.Proofs.Ytcnalndhlonblaa
