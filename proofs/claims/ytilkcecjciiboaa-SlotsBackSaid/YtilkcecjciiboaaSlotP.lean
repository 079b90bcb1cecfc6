/-
  Chapter 10, the plain law: an index's bytes, and the index of bytes.
-/
import Derived.Test.YtilkcecjciiboaaVal13
namespace Go.Proofs.Ytilkcecjciiboaa
open Go.RowKit

abbrev S3 := Int × Int × Int
def slotZ3 (p : S3) : List (Part × Int) := slotZ p.1 p.2.1 p.2.2
def slotB (p : S3) : List UInt8 := valB (slotZ3 p)
def slotOK (p : S3) : Bool := valE (slotZ3 p)
theorem slotB_len (p : S3) : (slotB p).length = 16 := by
  simp [slotB, slotZ3, slotZ, valB, leb_len]
theorem slot_val (p : S3) : valV (slotZ3 p) = if slotOK p = true then slotB p else [] := rfl
def slotsOK (l : List S3) : Bool := decide (l.length ≤ 15) && l.all slotOK
def slotsB (l : List S3) : List UInt8 := leb 4 l.length ++ (l.flatMap slotB ++ List.replicate (240 - 16 * l.length) 0)
def slotsV (l : List S3) : List UInt8 := if slotsOK l = true then slotsB l else []
def slotsE (l : List S3) : Int := if slotsOK l = true then 0 else 1
theorem flatS_len (l : List S3) : (l.flatMap slotB).length = 16 * l.length := by
  induction l with
  | nil => rfl
  | cons p l ih => rw [List.flatMap_cons, List.length_append, ih, slotB_len, List.length_cons]; omega
theorem slotsB_len (l : List S3) (h : l.length ≤ 15) : (slotsB l).length = 244 := by
  unfold slotsB
  rw [List.length_append, List.length_append, leb_len, flatS_len, List.length_replicate]
  omega
theorem flatS_snoc (l : List S3) (k : Nat) (h : k < l.length) : (l.take (k + 1)).flatMap slotB = (l.take k).flatMap slotB ++ slotB l[k] := by
  rw [take_snoc l k h, List.flatMap_append]
  simp
theorem flatS_at (l : List S3) : ∀ (i : Nat) (p : S3) (r : List UInt8), l[i]? = some p → ((l.flatMap slotB ++ r).drop (16 * i)).take 16 = slotB p := by
  induction l with
  | nil => intro i p r h; simp at h
  | cons q l ih =>
    intro i p r h
    rw [List.flatMap_cons, List.append_assoc]
    cases i with
    | zero =>
      simp at h
      subst h
      rw [Nat.mul_zero, List.drop_zero]
      exact List.take_left' (slotB_len q)
    | succ i =>
      simp at h
      rw [show 16 * (i + 1) = 16 + 16 * i by omega, ← List.drop_drop, List.drop_left' (slotB_len q)]
      exact ih i p r h
def cntS (s : List UInt8) : Nat := getN s 0 4
def sAt (s : List UInt8) (i : Nat) : List UInt8 := (s.drop (4 + 16 * i)).take 16
def formS (s : List UInt8) : Bool := decide (s.length = 244) && (decide (cntS s ≤ 15) && zeroB (s.drop (4 + 16 * cntS s)))
def goodS (s : List UInt8) (k : Nat) : Bool := (List.range k).all fun i => decide (rdE slotPs (sAt s i) = 0)
def tri (s : List UInt8) (i : Nat) : S3 := ((rdN slotPs (sAt s i)).getD 0 0, (rdN slotPs (sAt s i)).getD 1 0, (rdN slotPs (sAt s i)).getD 2 0)
theorem tri_eq (s : List UInt8) (i : Nat) : rdN slotPs (sAt s i) = [(tri s i).1, (tri s i).2.1, (tri s i).2.2] := by
  obtain ⟨a, b, c, h⟩ := rd_slot (sAt s i)
  unfold tri
  rw [h]
  rfl
def trisS (s : List UInt8) (k : Nat) : List S3 := (List.range k).map (tri s)
def rslE (s : List UInt8) : Int := if formS s = true then (if goodS s (cntS s) = true then 0 else 2) else 7
def rslL (s : List UInt8) : List S3 := if rslE s = 0 then trisS s (cntS s) else []
theorem trisS_snoc (s : List UInt8) (k : Nat) : trisS s (k + 1) = trisS s k ++ [tri s k] := by
  unfold trisS
  rw [List.range_succ, List.map_append]
  rfl
theorem trisS_len (s : List UInt8) (k : Nat) : (trisS s k).length = k := by simp [trisS]
theorem goodS_snoc (s : List UInt8) (k : Nat) : goodS s (k + 1) = (goodS s k && decide (rdE slotPs (sAt s k) = 0)) := by
  unfold goodS
  rw [List.range_succ, List.all_append]
  simp
theorem goodS_no {s : List UInt8} {k n : Nat} (hk : k < n) (h : rdE slotPs (sAt s k) ≠ 0) : goodS s n = false := by
  unfold goodS
  rw [List.all_eq_false]
  exact ⟨k, by simpa using hk, by simpa using h⟩
theorem goodS_at {s : List UInt8} {k n : Nat} (h : goodS s n = true) (hk : k < n) : rdE slotPs (sAt s k) = 0 := by
  unfold goodS at h
  rw [List.all_eq_true] at h
  simpa using h k (by simpa using hk)
theorem sAt_len (s : List UInt8) (i : Nat) (hl : s.length = 244) (hi : i < 15) : (sAt s i).length = 16 := by
  unfold sAt
  rw [List.length_take, List.length_drop]
  omega
/-- with sixteen bytes a slot is read, or out of its range -/
theorem rd16 (s : List UInt8) (h : s.length = 16) : rdE slotPs s = 0 ∨ rdE slotPs s = 2 := by
  unfold rdE
  split
  · split
    · exact .inl rfl
    · exact .inr rfl
  · rename_i hh
    simp [slotPs, wds, h] at hh
theorem slot_zip (a b c : Int) : slotPs.zip [a, b, c] = slotZ a b c := rfl
theorem slotPs_good : ∀ p ∈ slotPs, goodP p := fun p hp => slotZ_good 0 0 0 (p, 0) (by simp [slotPs] at hp; simp [slotZ]; rcases hp with rfl | rfl <;> simp)
theorem tri_back {s : List UInt8} {i : Nat} (hl : (sAt s i).length = 16) (h : rdE slotPs (sAt s i) = 0) : slotOK (tri s i) = true ∧ slotB (tri s i) = sAt s i := by
  have h1 := read_told slotPs (sAt s i) slotPs_good h
  rw [tri_eq, slot_zip] at h1
  have h2 : valV (slotZ3 (tri s i)) = sAt s i := h1
  rw [slot_val] at h2
  cases hk : slotOK (tri s i) with
  | true =>
    rw [hk] at h2
    exact ⟨rfl, h2⟩
  | false =>
    rw [hk] at h2
    have h2 : [] = sAt s i := h2
    rw [← h2] at hl
    simp at hl
theorem getN_cnt (l : List S3) (h : l.length ≤ 15) : cntS (slotsB l) = l.length := by
  unfold cntS getN slotsB
  rw [show (0 : Int).toNat = 0 from rfl, show (4 : Int).toNat = 4 from rfl, List.drop_zero, List.take_left' (leb_len 4 _), le_leb 4 _ (by omega)]
theorem zeroB_rep (k : Nat) : zeroB (List.replicate k 0) = true := by
  unfold zeroB
  rw [List.all_eq_true]
  intro b hb
  rw [List.mem_replicate] at hb
  simp [hb.2]
/-- what was put is read -/
theorem slots_read {l : List S3} (hw : ∀ p ∈ l, (Lit.int .i64 p.1).wf = true ∧ (Lit.int .i64 p.2.1).wf = true ∧ (Lit.int .i64 p.2.2).wf = true) (h : slotsOK l = true) : rslE (slotsB l) = 0 ∧ rslL (slotsB l) = l := by
  simp only [slotsOK, Bool.and_eq_true, decide_eq_true_eq] at h
  obtain ⟨h15, hall⟩ := h
  have hc := getN_cnt l h15
  have hat : ∀ i p, l[i]? = some p → sAt (slotsB l) i = slotB p := by
    intro i p hp
    unfold sAt slotsB
    rw [← List.drop_drop, List.drop_left' (leb_len 4 _)]
    exact flatS_at l i p _ hp
  have hone : ∀ i p, l[i]? = some p → rdE slotPs (sAt (slotsB l) i) = 0 ∧ tri (slotsB l) i = p := by
    intro i p hp
    have hm := List.mem_of_getElem? hp
    rw [List.all_eq_true] at hall
    have hv : valE (slotZ3 p) = true := hall p hm
    obtain ⟨w1, w2, w3⟩ := hw p hm
    obtain ⟨h1, h2, _⟩ := told_read (slotZ3 p) (slotZ_good _ _ _) (by intro q hq; simp [slotZ3, slotZ] at hq; rcases hq with rfl | rfl | rfl <;> assumption) hv
    rw [slot_val, show slotOK p = true from hv, if_pos rfl, show (slotZ3 p).map (·.1) = slotPs from rfl] at h1 h2
    unfold tri
    rw [hat i p hp, h1, h2]
    exact ⟨rfl, rfl⟩
  have hz : formS (slotsB l) = true := by
    unfold formS
    rw [hc, slotsB_len l h15]
    have : (slotsB l).drop (4 + 16 * l.length) = List.replicate (240 - 16 * l.length) 0 := by
      unfold slotsB
      rw [← List.append_assoc]
      exact List.drop_left' (by rw [List.length_append, leb_len, flatS_len])
    rw [this, zeroB_rep, decide_eq_true h15]
    rfl
  have hg : goodS (slotsB l) l.length = true := by
    unfold goodS
    rw [List.all_eq_true]
    intro i hi
    have hi : i < l.length := by simpa using hi
    simpa using (hone i _ (List.getElem?_eq_getElem hi)).1
  have hE : rslE (slotsB l) = 0 := by
    unfold rslE
    rw [hz, hc, hg]
    rfl
  refine ⟨hE, ?_⟩
  unfold rslL
  rw [hE, if_pos rfl, hc]
  apply List.ext_getElem?
  intro i
  unfold trisS
  rw [List.getElem?_map]
  rcases Nat.lt_or_ge i l.length with hi | hi
  · rw [List.getElem?_range hi, List.getElem?_eq_getElem hi]
    simp [(hone i _ (List.getElem?_eq_getElem hi)).2]
  · rw [List.getElem?_eq_none (by simpa using hi), List.getElem?_eq_none hi]
    rfl
theorem flat_take (s : List UInt8) (hl : s.length = 244) : ∀ k, k ≤ 15 → goodS s k = true → (trisS s k).flatMap slotB = (s.drop 4).take (16 * k)
  | 0, _, _ => rfl
  | k + 1, hk, h => by
    rw [goodS_snoc, Bool.and_eq_true] at h
    have h2 := of_decide_eq_true h.2
    have hb := (tri_back (sAt_len s k hl (by omega)) h2).2
    rw [trisS_snoc, List.flatMap_append, flat_take s hl k (by omega) h.1, show 16 * (k + 1) = 16 * k + 16 by omega, List.take_add, List.drop_drop]
    simp only [List.flatMap_cons, List.flatMap_nil, List.append_nil]
    rw [hb]
    rfl
theorem zeroB_eq (l : List UInt8) (h : zeroB l = true) : l = List.replicate l.length 0 := by
  rw [List.eq_replicate_iff]
  refine ⟨rfl, fun b hb => ?_⟩
  unfold zeroB at h
  rw [List.all_eq_true] at h
  simpa using h b hb
/-- of what is read the bytes are those -/
theorem slots_put {s : List UInt8} (h : rslE s = 0) : slotsOK (rslL s) = true ∧ slotsB (rslL s) = s := by
  have h0 := h
  unfold rslE at h
  split at h
  · rename_i hf
    split at h
    · rename_i hg
      unfold formS at hf
      simp only [Bool.and_eq_true, decide_eq_true_eq] at hf
      obtain ⟨hl, hc, hz⟩ := hf
      unfold rslL
      rw [h0, if_pos rfl]
      have hlen := trisS_len s (cntS s)
      refine ⟨?_, ?_⟩
      · unfold slotsOK
        rw [hlen, decide_eq_true hc, Bool.true_and, List.all_eq_true]
        intro p hp
        unfold trisS at hp
        obtain ⟨i, hi, rfl⟩ := List.mem_map.1 hp
        have hi : i < cntS s := by simpa using hi
        exact (tri_back (sAt_len s i hl (by omega)) (goodS_at hg hi)).1
      · unfold slotsB
        rw [hlen, flat_take s hl (cntS s) hc hg]
        have e4 : leb 4 (cntS s) = s.take 4 := by
          have := leb_le (s.take 4)
          rw [show (s.take 4).length = 4 by rw [List.length_take]; omega] at this
          unfold cntS getN
          exact this
        have ez : List.replicate (240 - 16 * cntS s) 0 = (s.drop 4).drop (16 * cntS s) := by
          rw [List.drop_drop]
          have := zeroB_eq _ hz
          rw [this, List.length_drop, hl]
          congr 1
          omega
        rw [e4, ez, List.take_append_drop, List.take_append_drop]
    · cases h
  · cases h
end Go.Proofs.Ytilkcecjciiboaa
