/-
  Chapter 45, the plain law: an image in few bytes; no program stands here.
-/
import Derived.Test.YtcnalndhlonblaaSqP2
import Derived.Test.YtcnalndhlonblaaImgR3
import Derived.Test.YtcnalndhlonblaaCrc
import Derived.Test.YtcnalndhlonblaaCodeP
namespace Go.Proofs.Ytcnalndhlonblaa
/-- of the first n blocks those that are not zeros -/
def usedN (L : List (List UInt8)) : Nat → List Nat
  | 0 => []
  | n + 1 => if zeroB (L.getD n []) = true then usedN L n else usedN L n ++ [n]
def usedL (L : List (List UInt8)) : List Nat := usedN L L.length
theorem usedN_len (L : List (List UInt8)) : ∀ n, (usedN L n).length ≤ n
  | 0 => Nat.le_refl _
  | n + 1 => by
    have := usedN_len L n
    unfold usedN
    split
    · omega
    · rw [List.length_append, List.length_singleton]; omega
theorem usedN_lt (L : List (List UInt8)) : ∀ n, ∀ x ∈ usedN L n, x < n
  | 0, x, h => by simp [usedN] at h
  | n + 1, x, h => by
    unfold usedN at h
    split at h
    · have := usedN_lt L n x h; omega
    · rcases List.mem_append.1 h with h | h
      · have := usedN_lt L n x h; omega
      · simp at h; omega
/-- one block's bytes -/
def pieceB (L : List (List UInt8)) (k : Nat) : List UInt8 := leb 4 k ++ leb 2 (squeezeL (L.getD k [])).length ++ squeezeL (L.getD k [])
/-- the first j blocks' bytes, behind the head -/
def bodyB (L : List (List UInt8)) (j : Nat) : List UInt8 := ((usedL L).take j).flatMap (pieceB L)
def magicB : List UInt8 := [83, 67, 65, 78, 80, 65, 67, 75]
def headB (L : List (List UInt8)) : List UInt8 := magicB ++ (leb 4 L.length ++ leb 4 (usedL L).length)
def sumB (b : List UInt8) : List UInt8 := b ++ leb 4 (crcM 0 b)
def pkB (L : List (List UInt8)) : List UInt8 := sumB (headB L ++ bodyB L (usedL L).length)
theorem bodyB_zero (L : List (List UInt8)) : bodyB L 0 = [] := by simp [bodyB]
theorem bodyB_next (L : List (List UInt8)) {j x : Nat} (h : (usedL L)[j]? = some x) : bodyB L (j + 1) = bodyB L j ++ pieceB L x := by
  unfold bodyB
  rw [List.take_add_one, h, List.flatMap_append]
  simp
theorem chunks_at (l : List UInt8) (k i : Nat) (h : i < k) : (chunks l k).getD i [] = (l.drop (i * 256)).take 256 := by
  unfold chunks
  rw [List.getD_eq_getElem?_getD, List.getElem?_map, List.getElem?_range h]
  rfl
/-- an image's blocks -/
def blksL (bs : List UInt8) : List (List UInt8) := chunks bs (bs.length / 256)
theorem blksL_len (bs : List UInt8) : (blksL bs).length = bs.length / 256 := chunks_len _ _
theorem blksL_at (bs : List UInt8) (i : Nat) (h : i < bs.length / 256) : (blksL bs).getD i [] = (bs.drop (i * 256)).take 256 := chunks_at _ _ _ h
theorem blksL_each (bs : List UInt8) (i : Nat) (h : i < bs.length / 256) : ((blksL bs).getD i []).length = 256 := by
  rw [blksL_at bs i h, List.length_take, List.length_drop]
  have := Nat.div_mul_le_self bs.length 256
  have : (i + 1) * 256 ≤ bs.length / 256 * 256 := Nat.mul_le_mul_right 256 (by omega)
  omega
theorem blks_of (l : List UInt8) : blksL (imgOf l) = rimgOf l := by
  unfold blksL imgOf rimgOf
  have hk : min (l.length / 256) 14400 * 256 ≤ l.length := Nat.le_trans (Nat.mul_le_mul_right _ (Nat.min_le_left _ _)) (Nat.div_mul_le_self _ _)
  rw [List.length_take, Nat.min_eq_left hk, Nat.mul_div_cancel _ (by omega)]
  generalize min (l.length / 256) 14400 = k at *
  unfold chunks
  apply List.map_congr_left
  intro i hi
  have hik := List.mem_range.1 hi
  have : (i + 1) * 256 ≤ k * 256 := Nat.mul_le_mul_right 256 (by omega)
  rw [List.drop_take, List.take_take, Nat.min_eq_left (by omega)]
end Go.Proofs.Ytcnalndhlonblaa
