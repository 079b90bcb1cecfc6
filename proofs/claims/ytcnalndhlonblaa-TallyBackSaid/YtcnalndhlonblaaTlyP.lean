/-
  Chapter 21, plain: counts in two parts; no program stands here.
-/
import Derived.Test.YtcnalndhlonblaaVal8
import Derived.Test.YtcnalndhlonblaaVal4
namespace Go.Proofs.Ytcnalndhlonblaa
structure EntL where
  key : Int
  val : List UInt8
  at_ : Int
def cntB (n : Int) : List UInt8 := valV [(countP, n)]
def splitE (c : List Int) : Int := if ∀ x ∈ c, 0 ≤ x ∧ x ≤ 2147483647 then 0 else 2
def small (n : Int) : Int := if n < 3 then n else 3
def smalls (c : List Int) : List Int := c.map small
/-- the entries of the first k counts -/
def ovsN (c : List Int) : Nat → List EntL
  | 0 => []
  | k + 1 => if 3 ≤ c.getD k 0 then ovsN c k ++ [⟨k, cntB (c.getD k 0), 0⟩] else ovsN c k
theorem ovsN_len (c : List Int) : ∀ k, (ovsN c k).length ≤ k
  | 0 => Nat.le_refl _
  | k + 1 => by
    have := ovsN_len c k
    unfold ovsN
    split
    · simp; omega
    · omega
def chunkN (l : List Int) (j : Nat) : List Int := (l.drop (960 * j)).take 960
def chunksTo (l : List Int) (k : Nat) : List (List Int) := (List.range k).map (chunkN l)
def parts (n : Nat) : Nat := (n + 959) / 960
def chunks21 (l : List Int) : List (List Int) := chunksTo l (parts l.length)
def splitB (c : List Int) : List (List Int) := if splitE c = 0 then chunks21 (smalls c) else []
def splitO (c : List Int) : List EntL := if splitE c = 0 then ovsN c c.length else []
theorem splitE_bad {c : List Int} {k : Nat} (h : k < c.length) (hb : c.getD k 0 < 0 ∨ 2147483647 < c.getD k 0) : splitE c = 2 ∧ splitB c = [] ∧ splitO c = [] := by
  have h1 : splitE c = 2 := by
    unfold splitE
    rw [if_neg]
    intro ha
    have := ha (c.getD k 0) (by rw [List.getD_eq_getElem?_getD, List.getElem?_eq_getElem h]; exact List.getElem_mem h)
    omega
  refine ⟨h1, ?_, ?_⟩
  · unfold splitB; rw [h1]; rfl
  · unfold splitO; rw [h1]; rfl
theorem splitE_ok {c : List Int} (h : ∀ k, k < c.length → 0 ≤ c.getD k 0 ∧ c.getD k 0 ≤ 2147483647) : splitE c = 0 ∧ splitB c = chunks21 (smalls c) ∧ splitO c = ovsN c c.length := by
  have h1 : splitE c = 0 := by
    unfold splitE
    rw [if_pos]
    intro x hx
    obtain ⟨i, hi, rfl⟩ := List.mem_iff_getElem.1 hx
    have := h i hi
    rw [List.getD_eq_getElem?_getD, List.getElem?_eq_getElem hi] at this
    exact this
  refine ⟨h1, ?_, ?_⟩
  · unfold splitB; rw [if_pos h1]
  · unfold splitO; rw [if_pos h1]
theorem chunkN_len (l : List Int) (j : Nat) : (chunkN l j).length = min 960 (l.length - 960 * j) := by simp [chunkN]
theorem chunksTo_len (l : List Int) (k : Nat) : (chunksTo l k).length = k := by simp [chunksTo]
theorem chunksTo_next (l : List Int) (k : Nat) : chunksTo l (k + 1) = chunksTo l k ++ [chunkN l k] := by simp [chunksTo, List.range_succ]
theorem smalls_len (c : List Int) : (smalls c).length = c.length := by simp [smalls]
theorem smalls_next (c : List Int) {k : Nat} (h : k < c.length) : smalls (c.take (k + 1)) = smalls (c.take k) ++ [small (c.getD k 0)] := by
  unfold smalls
  rw [List.take_add_one, List.getElem?_eq_getElem h, List.map_append, List.getD_eq_getElem?_getD, List.getElem?_eq_getElem h]
  rfl
theorem parts_at {n k : Nat} (h : k < parts n) : 960 * k < n := by unfold parts at h; omega
theorem parts_end {n k : Nat} (h : n ≤ 960 * k) : parts n ≤ k := by unfold parts; omega
end Go.Proofs.Ytcnalndhlonblaa
