/-
  Plain: counts of two bits, read back. No program stands here.
-/
import Derived.Test.YtahomneljdjjjaaBitsP
import Derived.Test.YtahomneljdjjjaaVal13
namespace Go.Proofs.Ytahomneljdjjjaa
open Go.RowKit
/-- the digit that stands in bytes -/
def rdDig (s : List UInt8) (i : Nat) : Nat := (s.getD (4 + i / 4) 0).toNat / 4 ^ (i % 4) % 4
def rdCnt (s : List UInt8) : Int := (getV s 0 4).1
def digs (s : List UInt8) (k : Nat) : List Int := (List.range k).map fun i => ((rdDig s i : Nat) : Int)
def restB (s : List UInt8) : Bool := (List.range 960).all fun i => decide ((i : Int) < rdCnt s) || decide (rdDig s i = 0)
def brdE (s : List UInt8) : Int := if s.length = 244 then (if rdCnt s ≤ 960 then (if restB s = true then 0 else 7) else 7) else 7
def brdL (s : List UInt8) : List Int := if brdE s = 0 then digs s (rdCnt s).toNat else []
theorem digs_len (s : List UInt8) (k : Nat) : (digs s k).length = k := by simp [digs]
theorem digs_snoc (s : List UInt8) (k : Nat) : digs s (k + 1) = digs s k ++ [((rdDig s k : Nat) : Int)] := by simp [digs, List.range_succ]
theorem rdDig_lt (s : List UInt8) (i : Nat) : rdDig s i < 4 := Nat.mod_lt _ (by omega)
theorem digs_each (s : List UInt8) (k : Nat) : ∀ n ∈ digs s k, 0 ≤ n ∧ n ≤ 3 := by
  intro n hn
  simp only [digs, List.mem_map, List.mem_range] at hn
  obtain ⟨i, _, rfl⟩ := hn
  have := rdDig_lt s i
  omega
theorem digs_cnts (s : List UInt8) (k : Nat) (hk : k ≤ 960) : cntsB (digs s k) = true := by
  simp only [cntsB, Bool.and_eq_true, decide_eq_true_eq, List.all_eq_true, digs_len]
  exact ⟨hk, digs_each s k⟩
theorem rdCnt_nn (s : List UInt8) : 0 ≤ rdCnt s ∧ rdCnt s < 4294967296 := by
  unfold rdCnt getV
  split
  · rename_i h
    obtain ⟨_, _, h2⟩ := thereV_zero h
    have h1 := le_lt ((s.drop (0 : Int).toNat).take (4 : Int).toNat)
    have h4 : ((s.drop (0 : Int).toNat).take (4 : Int).toNat).length = 4 := by
      rw [List.length_take, List.length_drop]
      simp
      omega
    rw [h4] at h1
    have h5 : getN s 0 4 < 4294967296 := h1
    split
    · constructor <;> simp <;> omega
    · simp
  · simp
theorem dg_digs (s : List UInt8) (k i : Nat) : dg (digs s k) i = if i < k then rdDig s i else 0 := by
  unfold dg
  rw [List.getD_eq_getElem?_getD]
  unfold digs
  rw [List.getElem?_map]
  rcases Nat.lt_or_ge i k with h | h
  · rw [List.getElem?_range h, if_pos h]
    simp
  · rw [List.getElem?_eq_none (by simpa using h), if_neg (by omega)]
    rfl
theorem byte_digits (b : Nat) (hb : b < 256) : four4 (b / 4 ^ 0 % 4) (b / 4 ^ 1 % 4) (b / 4 ^ 2 % 4) (b / 4 ^ 3 % 4) = b := by
  unfold four4
  omega
theorem four4_dig (a b c d : Nat) (ha : a < 4) (hb : b < 4) (hc : c < 4) (hd : d < 4) : four4 a b c d / 4 ^ 0 % 4 = a ∧ four4 a b c d / 4 ^ 1 % 4 = b ∧ four4 a b c d / 4 ^ 2 % 4 = c ∧ four4 a b c d / 4 ^ 3 % 4 = d := by
  unfold four4
  omega
theorem cnt_bits (l : List Int) (h : cntsB l = true) : rdCnt (bitsB l) = l.length := by
  have h9 := cnts_len h
  have := get_at [] (bodyB l) 4 (l.length : Int) (by simp [Lit.wf, IntKind.min, IntKind.max, IntKind.bits, IntKind.signed]; omega) rfl (by simp [fitsB]; omega)
  unfold rdCnt bitsB
  simp only [List.nil_append, List.length_nil, Int.toNat_natCast] at this
  have h2 : getV (leb 4 l.length ++ bodyB l) 0 4 = ((l.length : Int), 0) := this
  rw [h2]
theorem bits_get (l : List Int) (j : Nat) (hj : j < 240) : (bitsB l).getD (4 + j) 0 = UInt8.ofNat (byteN l j) := by
  unfold bitsB
  rw [List.getD_eq_getElem?_getD, List.getElem?_append_right (by rw [leb_len]; omega), leb_len, Nat.add_sub_cancel_left]
  unfold bodyB
  rw [List.getElem?_map, List.getElem?_range hj]
  rfl
theorem dig_bits (l : List Int) (h : cntsB l = true) (i : Nat) (hi : i < 960) : rdDig (bitsB l) i = dg l i := by
  have he := cnts_each h
  unfold rdDig
  rw [bits_get l (i / 4) (by omega), UInt8.toNat_ofNat', Nat.mod_eq_of_lt (byteN_lt he (i / 4))]
  obtain ⟨f0, f1, f2, f3⟩ := four4_dig _ _ _ _ (dg_lt he (4 * (i / 4))) (dg_lt he (4 * (i / 4) + 1)) (dg_lt he (4 * (i / 4) + 2)) (dg_lt he (4 * (i / 4) + 3))
  have hm : i % 4 < 4 := Nat.mod_lt _ (by omega)
  unfold byteN
  have hi4 : i = 4 * (i / 4) + i % 4 := by omega
  generalize hr : i % 4 = r at *
  generalize hq : i / 4 = q at *
  obtain rfl | rfl | rfl | rfl : r = 0 ∨ r = 1 ∨ r = 2 ∨ r = 3 := by omega
  · rw [f0, hi4]; rfl
  · rw [f1, hi4]
  · rw [f2, hi4]
  · rw [f3, hi4]
theorem dg_out (l : List Int) (i : Nat) (h : l.length ≤ i) : dg l i = 0 := by
  unfold dg
  rw [List.getD_eq_getElem?_getD, List.getElem?_eq_none h]
  rfl
/-- what was put is read -/
theorem read_put (l : List Int) (h : cntsB l = true) : brdE (bitsB l) = 0 ∧ brdL (bitsB l) = l := by
  have h9 := cnts_len h
  have he := cnts_each h
  have hc := cnt_bits l h
  have hr : restB (bitsB l) = true := by
    unfold restB
    rw [List.all_eq_true]
    intro i hi
    rw [List.mem_range] at hi
    rw [hc, dig_bits l h i hi, Bool.or_eq_true, decide_eq_true_eq, decide_eq_true_eq]
    rcases Nat.lt_or_ge i l.length with h1 | h1
    · left; omega
    · right; exact dg_out l i h1
  have hE : brdE (bitsB l) = 0 := by
    unfold brdE
    rw [if_pos (bitsB_len l), hc, if_pos (by omega), if_pos hr]
  refine ⟨hE, ?_⟩
  unfold brdL
  rw [if_pos hE, hc, Int.toNat_natCast]
  apply List.ext_getElem
  · rw [digs_len]
  · intro i h1 h2
    simp only [digs, List.getElem_map, List.getElem_range]
    rw [dig_bits l h i (by omega), dg_val he i h2]
theorem rest_iff (s : List UInt8) : restB s = true ↔ ∀ i : Nat, i < 960 → rdCnt s ≤ (i : Int) → rdDig s i = 0 := by
  unfold restB
  rw [List.all_eq_true]
  constructor
  · intro h i hi hc
    have := h i (List.mem_range.2 hi)
    rw [Bool.or_eq_true, decide_eq_true_eq, decide_eq_true_eq] at this
    rcases this with h1 | h1
    · omega
    · exact h1
  · intro h i hi
    rw [List.mem_range] at hi
    rw [Bool.or_eq_true, decide_eq_true_eq, decide_eq_true_eq]
    rcases (show (i : Int) < rdCnt s ∨ rdCnt s ≤ (i : Int) by omega) with h1 | h1
    · exact .inl h1
    · exact .inr (h i hi h1)
/-- the bytes of what stands there are these bytes, just if nothing stands behind -/
theorem bits_digs (s : List UInt8) (hl : s.length = 244) (hc : rdCnt s ≤ 960) : bitsB (digs s (rdCnt s).toNat) = s ↔ restB s = true := by
  obtain ⟨h0, _⟩ := rdCnt_nn s
  have hk : (rdCnt s).toNat ≤ 960 := by omega
  have hcb := digs_cnts s (rdCnt s).toNat hk
  constructor
  · intro h
    rw [rest_iff]
    intro i hi hci
    have := dig_bits _ hcb i hi
    rw [h, dg_digs, if_neg (by omega)] at this
    exact this
  · intro h
    rw [rest_iff] at h
    have hg : (getV s 0 4).2 = 0 := by
      have ht : thereV s.length 0 4 = 0 := thereV_ok rfl (by omega) (by omega)
      have hlt : getN s 0 4 < 4294967296 := by
        unfold getN
        have := le_lt ((s.drop (0 : Int).toNat).take (4 : Int).toNat)
        have h4 : ((s.drop (0 : Int).toNat).take (4 : Int).toNat).length = 4 := by simp [hl]
        rw [h4] at this
        exact this
      unfold getV
      rw [if_pos ht, if_pos (by omega)]
    have ht := getV_take s 0 4 hg
    have ht2 : leb 4 (rdCnt s).toNat = s.take 4 := by
      have : leb (4 : Int).toNat (getV s 0 4).1.toNat = (s.drop (0 : Int).toNat).take (4 : Int).toNat := ht
      simpa [rdCnt] using this
    unfold bitsB
    rw [digs_len, ht2]
    have hb : bodyB (digs s (rdCnt s).toNat) = s.drop 4 := by
      apply List.ext_getElem
      · rw [bodyB_len, List.length_drop]; omega
      · intro j h1 h2
        rw [bodyB_len] at h1
        have hd : ∀ r, r < 4 → dg (digs s (rdCnt s).toNat) (4 * j + r) = (s.getD (4 + j) 0).toNat / 4 ^ r % 4 := fun r hr => by
          have e1 : (4 * j + r) / 4 = j := by omega
          have e2 : (4 * j + r) % 4 = r := by omega
          rw [dg_digs]
          split
          · unfold rdDig; rw [e1, e2]
          · have := h (4 * j + r) (by omega) (by omega)
            unfold rdDig at this
            rw [e1, e2] at this
            exact this.symm
        simp only [bodyB, List.getElem_map, List.getElem_range, List.getElem_drop]
        have hs : s.getD (4 + j) 0 = s[4 + j] := by rw [List.getD_eq_getElem?_getD, List.getElem?_eq_getElem (by omega)]; rfl
        unfold byteN
        rw [show 4 * j = 4 * j + 0 from rfl, hd 0 (by omega), hd 1 (by omega), hd 2 (by omega), hd 3 (by omega), byte_digits _ (UInt8.toNat_lt _), hs]
        simp
    rw [hb, List.take_append_drop]
/-- of what is read the bytes are those -/
theorem put_read (s : List UInt8) (h : brdE s = 0) : cntsB (brdL s) = true ∧ bitsB (brdL s) = s := by
  have h0 := h
  unfold brdE at h
  split at h
  · rename_i hl
    split at h
    · rename_i hc
      split at h
      · rename_i hr
        obtain ⟨h1, _⟩ := rdCnt_nn s
        unfold brdL
        rw [if_pos h0]
        exact ⟨digs_cnts s _ (by omega), (bits_digs s hl hc).2 hr⟩
      · cases h
    · cases h
  · cases h
/-- one digit set to another changes just its byte -/
theorem bits_set (l : List Int) (k : Nat) (n : Int) (i : Nat) (hi : i ≠ 4 + k / 4) : (bitsB (l.set k n))[i]? = (bitsB l)[i]? := by
  unfold bitsB
  rw [List.length_set]
  rcases Nat.lt_or_ge i 4 with h | h
  · rw [List.getElem?_append_left (by rw [leb_len]; exact h), List.getElem?_append_left (by rw [leb_len]; exact h)]
  · rw [List.getElem?_append_right (by rw [leb_len]; exact h), List.getElem?_append_right (by rw [leb_len]; exact h), leb_len]
    unfold bodyB
    rw [List.getElem?_map, List.getElem?_map]
    rcases Nat.lt_or_ge (i - 4) 240 with h1 | h1
    · rw [List.getElem?_range h1]
      simp only [Option.map_some, Option.some.injEq]
      have : ∀ m, m ≠ k → dg (l.set k n) m = dg l m := fun m hm => by
        unfold dg
        rw [List.getD_eq_getElem?_getD, List.getD_eq_getElem?_getD, List.getElem?_set_ne (by omega)]
      unfold byteN
      rw [this _ (by omega), this _ (by omega), this _ (by omega), this _ (by omega)]
    · rw [List.getElem?_eq_none (by simpa using h1)]
      rfl
end Go.Proofs.Ytahomneljdjjjaa
