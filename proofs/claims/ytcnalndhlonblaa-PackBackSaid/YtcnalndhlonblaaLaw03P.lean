/-
  Plain: an image's bytes and the reference's blocks say the same. No program stands here.
-/
import Derived.Test.YtcnalndhlonblaaImgR3
namespace Go.Proofs.Ytcnalndhlonblaa
open Go.RowKit
/-- blocks of 256 bytes each -/
def Each (L : List (List UInt8)) : Prop := ∀ l ∈ L, l.length = 256
theorem each_len {L : List (List UInt8)} (h : Each L) : L.flatten.length = L.length * 256 := by
  induction L with
  | nil => rfl
  | cons a L ih =>
    rw [List.flatten_cons, List.length_append, h a (by simp), ih (fun l hl => h l (by simp [hl])), List.length_cons]
    omega
set_option maxRecDepth 20000 in
theorem each_split {L : List (List UInt8)} (h : Each L) (k : Nat) (hk : k < L.length) : L.flatten.take (k * 256) = (L.take k).flatten ∧ L.flatten.drop (k * 256) = L[k] ++ (L.drop (k + 1)).flatten := by
  have h1 : L.flatten = (L.take k).flatten ++ (L.drop k).flatten := by rw [← List.flatten_append, List.take_append_drop]
  have h2 : (L.take k).flatten.length = k * 256 := by
    rw [each_len (fun l hl => h l (List.mem_of_mem_take hl)), List.length_take, Nat.min_eq_left (by omega)]
  have h3 : (L.drop k).flatten = L[k] ++ (L.drop (k + 1)).flatten := by rw [List.drop_eq_getElem_cons hk, List.flatten_cons]
  rw [h1, ← h3]
  refine ⟨?_, ?_⟩
  · rw [List.take_append_of_le_length (by omega), List.take_of_length_le (by omega)]
  · rw [List.drop_append_of_le_length (by omega), List.drop_of_length_le (by omega), List.nil_append]
theorem each_set {L : List (List UInt8)} (h : Each L) (k : Nat) (b : List UInt8) (hb : b.length = 256) : Each (L.set k b) := fun l hl => by
  rcases List.mem_or_eq_of_mem_set hl with h1 | h1
  · exact h l h1
  · rw [h1, hb]
set_option maxRecDepth 20000 in
theorem flat_put {L : List (List UInt8)} (h : Each L) (k : Int) (b : List UInt8) :
    wrB L.flatten k b = (if wrE (L.length * 256) k b.length = 0 then L.set k.toNat b else L).flatten ∧ Each (if wrE (L.length * 256) k b.length = 0 then L.set k.toNat b else L) ∧ (if wrE (L.length * 256) k b.length = 0 then L.set k.toNat b else L).length = L.length := by
  unfold wrB
  rw [each_len h]
  split
  · rename_i hw
    obtain ⟨h1, h2, h3⟩ := wrE_zero.1 hw
    obtain ⟨m, rfl⟩ := Int.eq_ofNat_of_zero_le h1
    rw [Int.toNat_natCast]
    have hm : m < L.length := by omega
    refine ⟨?_, each_set h m b h3, by simp⟩
    obtain ⟨e1, e2⟩ := each_split h m hm
    unfold putBlk
    rw [e1, ← List.drop_drop, e2, List.drop_append_of_le_length (by rw [h L[m] (List.getElem_mem hm)]; omega), List.drop_of_length_le (by rw [h L[m] (List.getElem_mem hm)]; omega), List.nil_append, List.set_eq_take_append_cons_drop, if_pos hm, List.flatten_append, List.flatten_cons]
  · exact ⟨rfl, h, rfl⟩
set_option maxRecDepth 20000 in
theorem flat_read {L : List (List UInt8)} (h : Each L) (k : Int) : irdE L.flatten.length k = rrE L.length k ∧ irdB L.flatten k = rrB L k := by
  have hE : irdE L.flatten.length k = rrE L.length k := by
    unfold irdE rrE
    rw [each_len h, show L.length * 256 / 256 = L.length by omega]
  refine ⟨hE, ?_⟩
  unfold irdB rrB
  rw [hE]
  split
  · rename_i h0
    have h1 : 0 ≤ k ∧ k < L.length := by
      unfold rrE at h0
      split at h0
      · cases h0
      · omega
    obtain ⟨m, rfl⟩ := Int.eq_ofNat_of_zero_le h1.1
    have hm : m < L.length := by omega
    rw [Int.toNat_natCast]
    obtain ⟨_, e2⟩ := each_split h m hm
    rw [e2, List.take_append_of_le_length (by rw [h L[m] (List.getElem_mem hm)]; omega), List.take_of_length_le (by rw [h L[m] (List.getElem_mem hm)]; omega), List.getD_eq_getElem?_getD, List.getElem?_eq_getElem hm]
    rfl
  · rfl
theorem of_each (l : List UInt8) : Each (rimgOf l) ∧ (rimgOf l).flatten = imgOf l := by
  have hk : min (l.length / 256) 14400 * 256 ≤ l.length := by omega
  exact ⟨chunks_each l _ hk, chunks_flat l _ hk⟩
/-- rows of elements of other types are other blocks -/
theorem own_ne {w : World} {B1 B2 e1 e2 n1 n2 : Nat} {v1 v2 : Value} {xs ys : List Value} (h1 : w.ownsRow B1 e1 1 v1 n1 xs) (h2 : w.ownsRow B2 e2 1 v2 n2 ys) (he : e1 ≠ e2) : v1.ownBlock = none ∨ v1.ownBlock ≠ v2.ownBlock := by
  rcases h1.2 with ⟨rfl, _⟩ | ⟨g, cap, cur, rfl, _, hg, _⟩
  · exact .inl rfl
  · right
    rcases h2.2 with ⟨rfl, _⟩ | ⟨g', cap', cur', rfl, _, hg', _⟩
    · simp [Value.ownBlock]
    · intro e
      simp only [Value.ownBlock, Option.some.injEq] at e
      subst e
      rw [hg] at hg'
      injection hg' with hg'
      injection hg' with _ ht _
      exact he ht
end Go.Proofs.Ytcnalndhlonblaa
