/-
  Chapter 7: what six numbers of a node's head are; a slice of a slice.
-/
import Derived.Test.YtilkcecjciiboaaNodP
import Derived.Test.YtilkcecjciiboaaCode2
namespace Go.Proofs.Ytilkcecjciiboaa
open Go.RowKit
theorem getV_small (l : List UInt8) (a x : Int) (hk : knownB x = true) (h0 : 0 ≤ a) (h1 : a + x ≤ l.length) (h4 : x ≤ 4) :
    getV l a x = ((le ((l.drop a.toNat).take x.toNat) : Int), 0) ∧ le ((l.drop a.toNat).take x.toNat) < 256 ^ x.toNat := by
  have hlt := le_lt ((l.drop a.toNat).take x.toNat)
  have hlen : ((l.drop a.toNat).take x.toNat).length = x.toNat := by
    have := (knownB_iff x).1 hk
    rw [List.length_take, List.length_drop]
    omega
  rw [hlen] at hlt
  refine ⟨?_, hlt⟩
  have h9 : getN l a x < 9223372036854775808 := by
    unfold getN
    have hp : (256 : Nat) ^ x.toNat ≤ 256 ^ 4 := Nat.pow_le_pow_right (by omega) (by omega)
    have : (256 : Nat) ^ 4 = 4294967296 := by decide
    omega
  unfold getV
  rw [if_pos (thereV_ok hk h0 h1), if_pos h9]
  rfl
theorem unp6 (l : List UInt8) (h : 12 ≤ l.length) : unpE l 0 [1, 1, 2, 2, 2, 4] = 0 ∧ unpV l 0 [1, 1, 2, 2, 2, 4] = [(n0 l : Int), (n1 l : Int), (n2 l : Int), (n3 l : Int), (n4 l : Int), (n5 l : Int)] ∧
    n0 l < 256 ∧ n1 l < 256 ∧ n2 l < 65536 ∧ n3 l < 65536 ∧ n4 l < 65536 ∧ n5 l < 4294967296 := by
  obtain ⟨g0, b0⟩ := getV_small l 0 1 (by decide) (by omega) (by omega) (by omega)
  obtain ⟨g1, b1⟩ := getV_small l 1 1 (by decide) (by omega) (by omega) (by omega)
  obtain ⟨g2, b2⟩ := getV_small l 2 2 (by decide) (by omega) (by omega) (by omega)
  obtain ⟨g3, b3⟩ := getV_small l 4 2 (by decide) (by omega) (by omega) (by omega)
  obtain ⟨g4, b4⟩ := getV_small l 6 2 (by decide) (by omega) (by omega) (by omega)
  obtain ⟨g5, b5⟩ := getV_small l 8 4 (by decide) (by omega) (by omega) (by omega)
  have hE : unpE l 0 [1, 1, 2, 2, 2, 4] = 0 := by
    simp only [unpE, Int.zero_add, show (1 : Int) + 1 = 2 from rfl, show (2 : Int) + 2 = 4 from rfl, show (4 : Int) + 2 = 6 from rfl, show (6 : Int) + 2 = 8 from rfl, g0, g1, g2, g3, g4, g5, if_true]
  refine ⟨hE, ?_, b0, b1, b2, b3, b4, b5⟩
  unfold unpV
  rw [if_pos hE]
  simp only [unpB, Int.zero_add, show (1 : Int) + 1 = 2 from rfl, show (2 : Int) + 2 = 4 from rfl, show (4 : Int) + 2 = 6 from rfl, show (6 : Int) + 2 = 8 from rfl, g0, g1, g2, g3, g4, g5]
  rfl
/-- a number of 8 bytes that stands there -/
theorem getV_eight (l : List UInt8) (i : Nat) (h : 12 + 8 * i + 8 ≤ l.length) : getV l (12 + 8 * (i : Int)) 8 = (if kN l i < 9223372036854775808 then ((kN l i : Int), 0) else (0, 2)) := by
  have hN : getN l (12 + 8 * (i : Int)) 8 = kN l i := by
    unfold getN kN
    rw [show (12 + 8 * (i : Int)).toNat = 12 + 8 * i by omega]
    rfl
  unfold getV
  rw [if_pos (thereV_ok (by decide) (by omega) (by omega)), hN]
end Go.Proofs.Ytilkcecjciiboaa
