/-
  Chapter 44, the plain law of SqueezeBack; no program stands here.
-/
import Derived.Test.YtcnalndhlonblaaSqP
namespace Go.Proofs.Ytcnalndhlonblaa
theorem ofNat_toNat8 {n : Nat} (h : n < 256) : (UInt8.ofNat n).toNat = n := by
  rw [UInt8.toNat_ofNat']
  exact Nat.mod_eq_of_lt (by omega)
theorem loneF_loose (most : Int) : ∀ (f : Nat) (w rest o : List UInt8), w.length ≤ f →
    looseR most (loneF f w ++ rest) o = if w = [] ∨ (o.length : Int) + w.length ≤ most then looseR most rest (o ++ w) else ([], 2)
  | 0, w, rest, o, h => by
    have : w = [] := List.eq_nil_of_length_eq_zero (by omega)
    subst this
    rw [if_pos (.inl rfl)]
    simp [loneF]
  | f + 1, w, rest, o, h => by
    by_cases hw : w = []
    · subst hw
      rw [loneF_nil, if_pos (.inl rfl)]
      simp
    · have hp := List.length_pos_iff.2 hw
      have hc : (UInt8.ofNat (min w.length 128 - 1)).toNat = min w.length 128 - 1 := ofNat_toNat8 (by omega)
      have ih := loneF_loose most f (w.drop 128) rest (o ++ w.take 128) (by rw [List.length_drop]; omega)
      unfold loneF
      rw [if_neg hw, List.cons_append, looseR_cons, hc, if_pos (by omega), if_neg (by simp only [List.length_append, List.length_take]; omega), show min w.length 128 - 1 + 1 = (w.take 128).length by rw [List.length_take]; omega,
        List.append_assoc, List.drop_left, List.take_left, ih]
      rw [List.append_assoc o, List.take_append_drop]
      have hl : (w.take 128).length + (w.drop 128).length = w.length := by rw [← List.length_append, List.take_append_drop]
      have hd : w.drop 128 = [] → (w.drop 128).length = 0 := fun h => by rw [h]; rfl
      rw [List.length_append]
      by_cases h1 : most < (o.length : Int) + ((w.take 128).length : Nat)
      · rw [if_pos h1, if_neg]
        rintro (h2 | h2)
        · exact hw h2
        · omega
      · rw [if_neg h1]
        by_cases h2 : (o.length : Int) + w.length ≤ most
        · rw [if_pos (.inr (by omega)), if_pos (.inr h2)]
        · rw [if_neg, if_neg]
          · rintro (h3 | h3)
            · exact hw h3
            · exact h2 h3
          · rintro (h3 | h3)
            · have := hd h3; omega
            · omega
theorem lone_loose (most : Int) (w rest o : List UInt8) : looseR most (lone w ++ rest) o = if w = [] ∨ (o.length : Int) + w.length ≤ most then looseR most rest (o ++ w) else ([], 2) := loneF_loose most _ w rest o (Nat.le_refl _)
theorem run_loose (most : Int) {k : Nat} (h1 : 3 ≤ k) (h2 : k ≤ 130) (c : UInt8) (rest o : List UInt8) :
    looseR most (UInt8.ofNat (k + 125) :: c :: rest) o = if most < (o.length : Int) + (k : Nat) then ([], 2) else looseR most rest (o ++ List.replicate k c) := by
  have hc : (UInt8.ofNat (k + 125)).toNat = k + 125 := ofNat_toNat8 (by omega)
  rw [looseR_cons, hc, if_neg (by omega), if_neg (by simp), Nat.add_sub_cancel]
  rfl
theorem loneF_size : ∀ (f : Nat) (w : List UInt8), w.length ≤ f → 128 * (loneF f w).length ≤ 129 * w.length + 127
  | 0, w, h => by simp [loneF]
  | f + 1, w, h => by
    unfold loneF
    by_cases hw : w = []
    · rw [if_pos hw]; simp
    · have hp := List.length_pos_iff.2 hw
      rw [if_neg hw, List.length_cons, List.length_append]
      by_cases hl : w.length ≤ 128
      · rw [List.drop_eq_nil_of_le hl, loneF_nil, List.length_take]
        simp only [List.length_nil]
        omega
      · have ih := loneF_size f (w.drop 128) (by rw [List.length_drop]; omega)
        rw [List.length_drop] at ih
        rw [List.length_take]
        omega
/-- out's pieces are those of the bytes T -/
structure Made (out T : List UInt8) : Prop where
  says : ∀ (most : Int) (rest : List UInt8), looseR most (out ++ rest) [] = if T = [] ∨ (T.length : Int) ≤ most then looseR most rest T else ([], 2)
  size : 128 * out.length ≤ 129 * T.length
theorem Made.nil : Made [] [] := ⟨fun most rest => by rw [if_pos (.inl rfl)]; rfl, by simp⟩
theorem says_lone {out T : List UInt8} (h : ∀ (most : Int) (rest : List UInt8), looseR most (out ++ rest) [] = if T = [] ∨ (T.length : Int) ≤ most then looseR most rest T else ([], 2)) (w : List UInt8) (most : Int) (rest : List UInt8) :
    looseR most (out ++ lone w ++ rest) [] = if T ++ w = [] ∨ ((T ++ w).length : Int) ≤ most then looseR most rest (T ++ w) else ([], 2) := by
  rw [List.append_assoc, h, lone_loose, List.length_append]
  by_cases hw : w = []
  · subst hw
    simp
  · have hp := List.length_pos_iff.2 hw
    have hne : T ++ w ≠ [] := by simp [hw]
    by_cases h2 : ((T.length + w.length : Nat) : Int) ≤ most
    · rw [if_pos (.inr (by omega)), if_pos (.inr (by omega)), if_pos (.inr h2)]
    · rw [if_neg (c := T ++ w = [] ∨ _) (by rintro (h3 | h3) <;> contradiction)]
      split
      · rw [if_neg]
        rintro (h3 | h3)
        · exact hw h3
        · omega
      · rfl
theorem Made.piece {out T : List UInt8} (h : Made out T) (w : List UInt8) {k : Nat} (h1 : 3 ≤ k) (h2 : k ≤ 130) (c : UInt8) : Made (out ++ lone w ++ [UInt8.ofNat (k + 125), c]) (T ++ w ++ List.replicate k c) := by
  refine ⟨fun most rest => ?_, ?_⟩
  · have hne : T ++ w ++ List.replicate k c ≠ [] := by
      intro hn
      have := congrArg List.length hn
      simp at this
      omega
    rw [List.append_assoc (out ++ lone w), says_lone h.says, List.cons_append, List.cons_append, List.nil_append, run_loose most h1 h2, List.length_append (as := T ++ w), List.length_replicate]
    by_cases h3 : (((T ++ w).length + k : Nat) : Int) ≤ most
    · rw [if_pos (.inr (by omega)), if_neg (by omega), if_pos (.inr h3)]
    · rw [if_neg (c := T ++ w ++ List.replicate k c = [] ∨ _) (by rintro (h4 | h4) <;> contradiction)]
      split
      · rw [if_pos (by omega)]
      · rfl
  · have := h.size
    have := loneF_size w.length w (Nat.le_refl _)
    unfold lone
    simp only [List.length_append, List.length_cons, List.length_nil, List.length_replicate]
    omega
theorem made_run (c : UInt8) : ∀ (n : Nat) (s : Sq) (T : List UInt8), Made s.1 T → ∃ T', Made (runT c n s).1 T' ∧ T' ++ (runT c n s).2 = T ++ s.2 ++ List.replicate n c := by
  intro n
  induction n using Nat.strongRecOn with
  | ind n ih =>
    intro s T h
    by_cases h3 : 3 ≤ n
    · rw [runT_long h3]
      obtain ⟨T', h4, h5⟩ := ih (n - min n 130) (by omega) (s.1 ++ lone s.2 ++ [UInt8.ofNat (min n 130 + 125), c], []) (T ++ s.2 ++ List.replicate (min n 130) c) (h.piece s.2 (by omega) (by omega) c)
      refine ⟨T', h4, ?_⟩
      rw [h5, List.append_nil, List.append_assoc, List.replicate_append_replicate, show min n 130 + (n - min n 130) = n by omega]
    · rw [runT_short h3]
      exact ⟨T, h, by rw [List.append_assoc]⟩
theorem made_all (b : List UInt8) : ∀ (f at_ : Nat) (s : Sq) (T : List UInt8), b.length - at_ ≤ f → at_ ≤ b.length → Made s.1 T → T ++ s.2 = b.take at_ → ∃ T', Made ((restL b at_).foldl (stepQ b) s).1 T' ∧ T' ++ ((restL b at_).foldl (stepQ b) s).2 = b
  | 0, at_, s, T, h1, h2, h3, h4 => by
    rw [restL_end (by omega)]
    exact ⟨T, h3, by rw [List.foldl_nil, h4, List.take_of_length_le (by omega)]⟩
  | f + 1, at_, s, T, h1, h2, h3, h4 => by
    by_cases hl : at_ < b.length
    · have hp := runN_pos b at_
      have hf := runN_fits hl
      obtain ⟨T', h5, h6⟩ := made_run (b[at_]?.getD 0) (runN b at_) s T h3
      rw [restL_step hl, List.foldl_cons]
      refine made_all b f (at_ + runN b at_) (stepQ b s (at_, runN b at_)) T' (by omega) hf h5 ?_
      show T' ++ (runT (b[at_]?.getD 0) (runN b at_) s).2 = _
      rw [h6, h4, List.take_add]
      congr 1
      apply List.ext_getElem?
      intro t
      rw [List.getElem?_take, List.getElem?_replicate]
      by_cases ht : t < runN b at_
      · rw [if_pos ht, if_pos ht, List.getElem?_drop]
        by_cases h0 : t = 0
        · subst h0
          rw [Nat.add_zero, List.getElem?_eq_getElem hl]
          rfl
        · rw [runN_in ht (by omega)]
      · rw [if_neg ht, if_neg ht]
    · rw [restL_end (by omega)]
      exact ⟨T, h3, by rw [List.foldl_nil, h4, List.take_of_length_le (by omega)]⟩
theorem squeeze_made (b : List UInt8) : (∀ most : Int, looseR most (squeezeL b) [] = if b = [] ∨ (b.length : Int) ≤ most then (b, 0) else ([], 2)) ∧ (squeezeL b).length ≤ b.length + b.length / 128 + 1 := by
  obtain ⟨T, h1, h2⟩ := made_all b b.length 0 ([], []) [] (by omega) (by omega) Made.nil rfl
  have hs : squeezeL b = ((restL b 0).foldl (stepQ b) ([], [])).1 ++ lone ((restL b 0).foldl (stepQ b) ([], [])).2 := rfl
  generalize (restL b 0).foldl (stepQ b) ([], []) = s at *
  constructor
  · intro most
    have := says_lone h1.says s.2 most []
    rw [List.append_nil, ← hs, h2, looseR_nil] at this
    exact this
  · have h3 := h1.size
    have h4 := loneF_size s.2.length s.2 (Nat.le_refl _)
    have h5 := congrArg List.length h2
    rw [List.length_append] at h5
    rw [hs, List.length_append]
    unfold lone
    omega
end Go.Proofs.Ytcnalndhlonblaa
