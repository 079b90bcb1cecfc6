/-
  Chapter 6, the plain law: a super's bytes, and the super of bytes.
-/
import Derived.Test.YtahomneljdjjjaaSup3
namespace Go.Proofs.Ytahomneljdjjjaa
open Go.RowKit

def magicB : List UInt8 := [83, 67, 65, 78, 84, 76, 73, 78]
def fldS (n : Nat → Int) (k : Nat) : List (Int × Int) := (4, 1) :: (List.range k).map fun i => (4, n i)
def superB (n : Nat → Int) : List UInt8 := magicB ++ (packB (fldS n 11) ++ List.replicate 188 0)
def superV (n : Nat → Int) : List UInt8 := if okS n 11 = true then superB n else []
def superE (n : Nat → Int) : Int := if okS n 11 = true then 0 else 1
theorem fldS_snoc (n : Nat → Int) (k : Nat) : fldS n (k + 1) = fldS n k ++ [(4, n k)] := by
  unfold fldS
  rw [List.range_succ, List.map_append]
  rfl
theorem fldS_len (n : Nat → Int) (k : Nat) : (fldS n k).length = k + 1 := by simp [fldS]
theorem okS_lt {n : Nat → Int} {k j : Nat} (h : okS n k = true) (hj : j ≤ k) : okS n j = true := by
  induction k with
  | zero => obtain rfl : j = 0 := by omega
            exact h
  | succ k ih =>
    rcases Nat.lt_or_ge j (k + 1) with h1 | h1
    · simp only [okS, Bool.and_eq_true] at h
      exact ih h.1 (by omega)
    · obtain rfl : j = k + 1 := by omega
      exact h
theorem okS_at {n : Nat → Int} {k i : Nat} (h : okS n k = true) (hi : i < k) : loS i ≤ n i ∧ n i ≤ hiS n i := by
  have := okS_lt h (show i + 1 ≤ k by omega)
  simp only [okS, Bool.and_eq_true, decide_eq_true_eq] at this
  exact this.2
theorem okS_num {n : Nat → Int} (h : okS n 11 = true) {i : Nat} (hi : i < 11) : 0 ≤ n i ∧ n i < 4294967296 := by
  have h4 := okS_at h (show 4 < 11 by omega)
  have hx := okS_at h hi
  have l4 : loS 4 = 2 := rfl
  have r4 : hiS n 4 = 14400 := rfl
  rw [l4, r4] at h4
  have hw : wrap64 (n 4 - 1) = n 4 - 1 := by
    unfold wrap64
    omega
  unfold loS hiS at hx
  rw [hw] at hx
  split at hx <;> split at hx <;> (try split at hx) <;> (try split at hx) <;> (try split at hx) <;> (try split at hx) <;> omega
theorem packE_all (ls : List (Int × Int)) (h : ∀ p ∈ ls, p.1 = 4 ∧ 0 ≤ p.2 ∧ p.2 < 4294967296) : packE ls = 0 := by
  induction ls with
  | nil => rfl
  | cons x ls ih =>
    obtain ⟨wd, n⟩ := x
    have hx := h (wd, n) (by simp)
    have h4 : wd = 4 := hx.1
    subst h4
    have hf : fitsB n 4 = true := by
      unfold fitsB
      have := hx.2
      exact decide_eq_true (by simp only at this; omega)
    rw [packE, if_pos (by decide), if_pos hf]
    exact ih fun p hp => h p (by simp [hp])
theorem fldS_ok {n : Nat → Int} (h : okS n 11 = true) : packE (fldS n 11) = 0 := by
  refine packE_all _ fun p hp => ?_
  unfold fldS at hp
  rcases List.mem_cons.1 hp with rfl | hp
  · exact ⟨rfl, by decide, by decide⟩
  · obtain ⟨i, hi, rfl⟩ := List.mem_map.1 hp
    exact ⟨rfl, okS_num h (by simpa using hi)⟩
theorem packB_map (f : Nat → Int) : ∀ l : List Nat, packB (l.map fun i => ((4 : Int), f i)) = l.flatMap fun i => leb 4 (f i).toNat
  | [] => rfl
  | a :: l => by
    rw [List.map_cons, packB, packB_map f l, List.flatMap_cons]
    rfl
theorem packB_fld (n : Nat → Int) (k : Nat) : packB (fldS n k) = leb 4 1 ++ (List.range k).flatMap fun i => leb 4 (n i).toNat := by
  unfold fldS
  rw [packB, packB_map]
  rfl
theorem flat_len (f : Nat → List UInt8) (h : ∀ j, (f j).length = 4) : ∀ k, ((List.range k).flatMap f).length = 4 * k
  | 0 => rfl
  | k + 1 => by
    rw [List.range_succ, List.flatMap_append, List.length_append, flat_len f h k]
    simp [h]
    omega
theorem flat_at (f : Nat → List UInt8) (h : ∀ j, (f j).length = 4) (i : Nat) : ∀ (k : Nat) (r : List UInt8), i < k → (((List.range k).flatMap f ++ r).drop (4 * i)).take 4 = f i
  | 0, r, hi => by omega
  | k + 1, r, hi => by
    have hl := flat_len f h k
    rw [List.range_succ, List.flatMap_append, List.append_assoc]
    rcases Nat.lt_or_ge i k with h1 | h1
    · exact flat_at f h i k _ h1
    · obtain rfl : i = k := by omega
      rw [List.drop_append_of_le_length (by omega), List.drop_of_length_le (by omega)]
      have := h i
      simp [this]
theorem flat_back (l : List UInt8) : ∀ k, ((List.range k).flatMap fun i => (l.drop (4 * i)).take 4) = l.take (4 * k)
  | 0 => rfl
  | k + 1 => by
    rw [List.range_succ, List.flatMap_append, flat_back l k, show 4 * (k + 1) = 4 * k + 4 by omega, List.take_add]
    simp
theorem packB_flen (n : Nat → Int) : (packB (fldS n 11)).length = 48 := by
  rw [packB_fld, List.length_append, flat_len _ (fun j => leb_len 4 _), leb_len]
theorem superB_len (n : Nat → Int) : (superB n).length = 244 := by
  unfold superB
  rw [List.length_append, List.length_append, packB_flen, List.length_replicate]
  rfl
/-- the numbers of bytes -/
def readN (l : List UInt8) (i : Nat) : Int := (getN l (12 + 4 * (i : Int)) 4 : Nat)
theorem readN_eq (l : List UInt8) (i : Nat) : readN l i = (le ((l.drop (12 + 4 * i)).take 4) : Nat) := by
  unfold readN getN
  rw [show (12 + 4 * (i : Int)).toNat = 12 + 4 * i by omega]
  rfl
theorem readN_lt (l : List UInt8) (i : Nat) : 0 ≤ readN l i ∧ readN l i < 4294967296 := by
  rw [readN_eq]
  have h := le_lt ((l.drop (12 + 4 * i)).take 4)
  have h2 : ((l.drop (12 + 4 * i)).take 4).length ≤ 4 := by rw [List.length_take]; omega
  have h3 : 256 ^ ((l.drop (12 + 4 * i)).take 4).length ≤ 256 ^ 4 := Nat.pow_le_pow_right (by decide) h2
  omega
theorem getV_read (l : List UInt8) (i : Nat) (hl : l.length = 244) (hi : i < 12) : getV l (8 + 4 * (i : Int)) 4 = (((getN l (8 + 4 * (i : Int)) 4 : Nat) : Int), 0) := by
  unfold getV
  have h := le_lt ((l.drop (8 + 4 * (i : Int)).toNat).take (4 : Int).toNat)
  have h2 : ((l.drop (8 + 4 * (i : Int)).toNat).take (4 : Int).toNat).length ≤ 4 := by rw [List.length_take]; omega
  have h3 : 256 ^ ((l.drop (8 + 4 * (i : Int)).toNat).take (4 : Int).toNat).length ≤ 256 ^ 4 := Nat.pow_le_pow_right (by decide) h2
  rw [if_pos (thereV_ok (by decide) (by omega) (by omega)), if_pos (by unfold getN; omega)]
theorem getV_readN (l : List UInt8) (k : Nat) (hl : l.length = 244) (hk : k < 11) : (getV l (12 + 4 * (k : Int)) 4).1 = readN l k := by
  have := getV_read l (k + 1) hl (by omega)
  rw [show 8 + 4 * ((k + 1 : Nat) : Int) = 12 + 4 * (k : Int) by omega] at this
  rw [this]
  rfl
theorem readN_super {n : Nat → Int} (h : okS n 11 = true) {i : Nat} (hi : i < 11) : readN (superB n) i = n i := by
  have hn := okS_num h hi
  rw [readN_eq]
  unfold superB
  have e : (magicB ++ (leb 4 1 ++ ((List.range 11).flatMap (fun i => leb 4 (n i).toNat) ++ List.replicate 188 0))).drop 12 = (List.range 11).flatMap (fun i => leb 4 (n i).toNat) ++ List.replicate 188 0 := rfl
  rw [packB_fld, ← List.drop_drop, List.append_assoc, e, flat_at _ (fun j => leb_len 4 _) i 11 _ hi, le_leb 4 _ (by omega)]
  omega
theorem okS_congr {n m : Nat → Int} : ∀ k, k ≤ 11 → (∀ i, i < 11 → n i = m i) → okS n k = okS m k
  | 0, _, _ => rfl
  | k + 1, hk, h => by
    simp only [okS]
    rw [okS_congr k (by omega) h, h k (by omega)]
    unfold hiS
    rw [h 4 (by omega)]
theorem superB_congr {n m : Nat → Int} (h : ∀ i, i < 11 → n i = m i) : superB n = superB m := by
  unfold superB fldS
  rw [show ((List.range 11).map fun i => ((4 : Int), n i)) = (List.range 11).map fun i => ((4 : Int), m i) from List.map_congr_left fun i hi => by rw [h i (by simpa using hi)]]
theorem supC_congr {n m : Nat → Int} (h : ∀ i, i < 11 → n i = m i) : supC n = supC m := by
  unfold supC
  rw [h 0 (by omega), h 1 (by omega), h 2 (by omega), h 3 (by omega), h 4 (by omega), h 5 (by omega), h 6 (by omega), h 7 (by omega), h 8 (by omega), h 9 (by omega), h 10 (by omega)]
/-- what the program asks of bytes -/
def readOK (l : List UInt8) : Bool := decide (l.length = 244) && (okS (readN l) 11 && decide (superB (readN l) = l))
/-- the super that is read -/
def readS (l : List UInt8) : Nat → Int := if readOK l = true then readN l else fun _ => 0
def readE (l : List UInt8) : Int := if readOK l = true then 0 else 7
theorem zero_rep (l : List UInt8) : zeroB l = decide (l = List.replicate l.length 0) := by
  unfold zeroB
  induction l with
  | nil => rfl
  | cons b l ih =>
    rw [List.all_cons, ih, List.length_cons, List.replicate_succ]
    by_cases hb : b = 0
    · subst hb
      simp
    · simp [hb]
/-- what the document asks of them -/
theorem read_iff (l : List UInt8) (hl : l.length = 244) : decide (superB (readN l) = l) = (decide (l.take 8 = magicB) && (decide ((getN l 8 4 : Int) = 1) && zeroB (l.drop 56))) := by
  have e12 : (l.drop 12).take 44 ++ l.drop 56 = l.drop 12 := by
    rw [show l.drop 56 = (l.drop 12).drop 44 by rw [List.drop_drop], List.take_append_drop]
  have e8 : (l.drop 8).take 4 ++ l.drop 12 = l.drop 8 := by
    rw [show l.drop 12 = (l.drop 8).drop 4 by rw [List.drop_drop], List.take_append_drop]
  have e0 : l.take 8 ++ ((l.drop 8).take 4 ++ ((l.drop 12).take 44 ++ l.drop 56)) = l := by
    rw [e12, e8, List.take_append_drop]
  have hch : ((List.range 11).flatMap fun i => leb 4 (readN l i).toNat) = (l.drop 12).take 44 := by
    rw [← flat_back (l.drop 12) 11]
    unfold List.flatMap
    rw [List.map_congr_left]
    intro i hi
    have hi : i < 11 := by simpa using hi
    rw [readN_eq, Int.toNat_natCast, List.drop_drop]
    have := leb_le ((l.drop (12 + 4 * i)).take 4)
    rw [show ((l.drop (12 + 4 * i)).take 4).length = 4 by rw [List.length_take, List.length_drop]; omega] at this
    exact this
  have h4 : ((l.drop 8).take 4).length = 4 := by rw [List.length_take, List.length_drop]; omega
  have h56 : (l.drop 56).length = 188 := by rw [List.length_drop]; omega
  have hw : (leb 4 1 = (l.drop 8).take 4) ↔ ((getN l 8 4 : Int) = 1) := by
    unfold getN
    show leb 4 1 = (l.drop 8).take 4 ↔ ((le ((l.drop 8).take 4) : Nat) : Int) = 1
    constructor
    · intro h
      rw [← h]
      rfl
    · intro h
      have h1 : le ((l.drop 8).take 4) = 1 := by omega
      have := leb_le ((l.drop 8).take 4)
      rw [h4, h1] at this
      exact this
  rw [zero_rep, h56]
  have key : superB (readN l) = l ↔ (l.take 8 = magicB ∧ ((getN l 8 4 : Int) = 1 ∧ l.drop 56 = List.replicate 188 0)) := by
    unfold superB
    rw [packB_fld, hch, List.append_assoc]
    constructor
    · intro h
      rw [← e0] at h
      have a1 := List.append_inj h (by rw [List.length_take]; rw [hl]; rfl)
      rw [e0] at a1
      have a2 := List.append_inj a1.2 (by rw [leb_len, h4])
      have a3 := List.append_inj a2.2 rfl
      exact ⟨a1.1.symm, hw.1 a2.1, a3.2.symm⟩
    · rintro ⟨a, b, c⟩
      rw [← a, hw.2 b, ← c]
      exact e0
  by_cases hs : superB (readN l) = l
  · obtain ⟨a, b, c⟩ := key.1 hs
    rw [decide_eq_true hs, decide_eq_true a, decide_eq_true b, decide_eq_true c]
    rfl
  · rw [decide_eq_false hs]
    by_cases a : l.take 8 = magicB
    · by_cases b : (getN l 8 4 : Int) = 1
      · have c : ¬ l.drop 56 = List.replicate 188 0 := fun c => hs (key.2 ⟨a, b, c⟩)
        rw [decide_eq_true a, decide_eq_true b, decide_eq_false c]
        rfl
      · rw [decide_eq_true a, decide_eq_false b]
        rfl
    · rw [decide_eq_false a]
      rfl
theorem readOK_super {n : Nat → Int} (h : okS n 11 = true) : readOK (superB n) = true := by
  have hc : ∀ i, i < 11 → readN (superB n) i = n i := fun i hi => readN_super h hi
  unfold readOK
  rw [superB_len, okS_congr 11 (by omega) hc, h, superB_congr hc]
  simp
end Go.Proofs.Ytahomneljdjjjaa
