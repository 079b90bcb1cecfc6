/-
  Plain laws of chapter 8: what was told is read; of what is read the value is that. No program stands here.
-/
import Derived.Test.YtcnalndhlonblaaVal12
import Derived.Test.YtcnalndhlonblaaLaw01D
namespace Go.Proofs.Ytcnalndhlonblaa
open Go.RowKit
/-- the numbers of a value beside their widths -/
def pkZ (z : List (Part × Int)) : List (Int × Int) := z.map fun q => (q.1.1, q.2)
theorem pkZ_B (z : List (Part × Int)) : packB (pkZ z) = valB z := by
  induction z with
  | nil => rfl
  | cons q z ih => simp only [pkZ, List.map_cons, packB, valB, List.flatMap_cons] at *; rw [ih]
theorem pkZ_E (z : List (Part × Int)) (hg : ∀ q ∈ z, goodP q.1) (hv : valE z = true) : packE (pkZ z) = 0 := by
  induction z with
  | nil => rfl
  | cons q z ih =>
    simp only [valE, List.all_cons, Bool.and_eq_true] at hv
    obtain ⟨h1, h2⟩ := hg q (by simp)
    simp only [pkZ, List.map_cons, packE, h1, if_true, h2 _ hv.1] at *
    exact ih (fun r hr => hg r (by simp [hr])) hv.2
theorem valB_len2 (z : List (Part × Int)) (hg : ∀ q ∈ z, goodP q.1) : ((valB z).length : Int) = (wds (z.map (·.1))).sum := by
  induction z with
  | nil => rfl
  | cons q z ih =>
    have h1 := good_len (hg q (by simp))
    have h2 := ih (fun r hr => hg r (by simp [hr]))
    simp only [valB, List.flatMap_cons, List.length_append, leb_len, wds, List.map_cons, List.sum_cons] at *
    omega
theorem told_read (z : List (Part × Int)) (hg : ∀ q ∈ z, goodP q.1) (hw : ∀ q ∈ z, (Lit.int .i64 q.2).wf = true) (hv : valE z = true) :
    rdE (z.map (·.1)) (valV z) = 0 ∧ rdN (z.map (·.1)) (valV z) = z.map (·.2) ∧ ((valV z).length : Int) = (wds (z.map (·.1))).sum := by
  have hV : valV z = valB z := by unfold valV; rw [if_pos hv]
  have hl := valB_len2 z hg
  rw [hV]
  obtain ⟨u1, u2⟩ := unp_pack (pkZ z) [] [] (pkZ_E z hg hv) (fun p hp => by
    simp only [pkZ, List.mem_map] at hp
    obtain ⟨q, hq, rfl⟩ := hp
    exact hw q hq)
  rw [pkZ_B] at u1 u2
  simp only [List.nil_append, List.append_nil, List.length_nil] at u1 u2
  have e1 : (pkZ z).map (·.1) = wds (z.map (·.1)) := by simp [pkZ, wds]
  have e2 : (pkZ z).map (·.2) = z.map (·.2) := by simp [pkZ]
  rw [e1] at u1 u2
  rw [e2] at u2
  obtain ⟨r1, r2⟩ := rd_ok (z.map (·.1)) (valB z) hl u1 (by
    have u2' : unpB (valB z) 0 (wds (z.map (·.1))) = z.map (·.2) := u2
    rw [u2', show (z.map (·.1)).zip (z.map (·.2)) = z from (List.zip_of_prod rfl rfl).symm]
    exact hv)
  exact ⟨r1, r2.trans u2, hl⟩
theorem getV_take (s : List UInt8) (a x : Int) (h : (getV s a x).2 = 0) : leb x.toNat (getV s a x).1.toNat = (s.drop a.toNat).take x.toNat := by
  obtain ⟨h1, h2, h3⟩ := getV_ok h
  unfold getV at h ⊢
  split at h
  · rename_i ht
    rw [if_pos ht]
    split at h
    · rename_i hl
      rw [if_pos hl]
      have hlen : ((s.drop a.toNat).take x.toNat).length = x.toNat := by
        rw [List.length_take, List.length_drop]; omega
      have := leb_le ((s.drop a.toNat).take x.toNat)
      rw [hlen] at this
      exact this
    · cases h
  · rename_i ht
    exact absurd h ht
theorem unp_val (ps : List Part) (hg : ∀ p ∈ ps, goodP p) (s : List UInt8) : ∀ a : Nat, (s.length : Int) = a + (wds ps).sum → unpE s a (wds ps) = 0 → valB (ps.zip (unpB s a (wds ps))) = s.drop a := by
  induction ps with
  | nil =>
    intro a h _
    simp [wds] at h
    have : s.length ≤ a := by omega
    simp [wds, unpB, valB, this]
  | cons p ps ih =>
    intro a h he
    have h1 := good_len (hg p (by simp))
    simp only [wds, List.map_cons, unpE, List.sum_cons] at he h
    split at he
    · rename_i h0
      obtain ⟨k, hk⟩ := Int.eq_ofNat_of_zero_le (show 0 ≤ p.1 by omega)
      have h3 := ih (fun q hq => hg q (by simp [hq])) (a + k) (by rw [hk] at h; simp only [wds]; push_cast at *; omega) (by rw [hk] at he; exact_mod_cast he)
      simp only [wds, List.map_cons, unpB, List.zip_cons_cons, valB, List.flatMap_cons]
      have h4 := getV_take s a p.1 h0
      rw [h4, hk]
      have h5 : (List.map (fun x => x.1) ps).length = ps.length := by simp
      simp only [valB, wds] at h3
      rw [show ((a : Int) + (k : Int)) = ((a + k : Nat) : Int) by push_cast; rfl, h3, Int.toNat_natCast, Int.toNat_natCast, ← List.drop_drop]
      rw [List.take_append_drop]
    · rename_i h0
      exact absurd he h0
theorem read_told (ps : List Part) (s : List UInt8) (hg : ∀ p ∈ ps, goodP p) (h : rdE ps s = 0) : valV (ps.zip (rdN ps s)) = s := by
  unfold rdN
  rw [if_pos h]
  unfold rdE at h
  split at h
  · rename_i hl
    split at h
    · rename_i hh
      obtain ⟨h1, h2⟩ := hh
      unfold valV
      rw [if_pos h2]
      have := unp_val ps hg s 0 (by simpa using hl) (by simpa using h1)
      simpa using this
    · cases h
  · cases h
end Go.Proofs.Ytcnalndhlonblaa
