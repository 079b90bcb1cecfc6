/-
  Package image's Write and Read, one contract each.
-/
import Derived.Test.YtcnalndhlonblaaImg
namespace Go.Proofs.Ytcnalndhlonblaa
open Go.RowKit
/-- what Write answers, of an image of n bytes, at k, with m bytes; the bytes behind it -/
def wrE (n : Nat) (k : Int) (m : Nat) : Int := if k < 0 ∨ ((n / 256 : Nat) : Int) ≤ k then 3 else if m = 256 then 0 else 1
def wrB (bs : List UInt8) (k : Int) (b : List UInt8) : List UInt8 := if wrE bs.length k b.length = 0 then putBlk bs k.toNat b else bs
/-- what Read answers, and its bytes -/
def irdE (n : Nat) (k : Int) : Int := if k < 0 ∨ ((n / 256 : Nat) : Int) ≤ k then 3 else 0
def irdB (bs : List UInt8) (k : Int) : List UInt8 := if irdE bs.length k = 0 then (bs.drop (k.toNat * 256)).take 256 else []
theorem wrE_zero {n m : Nat} {k : Int} : wrE n k m = 0 ↔ 0 ≤ k ∧ k < (n / 256 : Nat) ∧ m = 256 := by
  unfold wrE
  split
  · constructor
    · intro h; cases h
    · omega
  · split
    · constructor <;> omega
    · constructor
      · intro h; cases h
      · omega
theorem irdE_zero {n : Nat} {k : Int} : irdE n k = 0 ↔ 0 ≤ k ∧ k < (n / 256 : Nat) := by
  unfold irdE
  split
  · constructor
    · intro h; cases h
    · omega
  · constructor <;> omega
theorem wrB_len (bs : List UInt8) (k : Int) (b : List UInt8) : (wrB bs k b).length = bs.length := by
  unfold wrB
  split
  · rename_i h
    obtain ⟨h1, h2, h3⟩ := wrE_zero.1 h
    exact putBlk_len bs k.toNat b (by omega) h3
  · rfl
theorem iwrite_any {w : World} {B g : Nat} {A : Option Addr} {c : Nat} {bs : List UInt8} (h : Img w B g A c bs) (k : Int) {B2 : Nat} (A2 : Option Addr) (c2 : Nat) (b : List UInt8) (hr : Reads w B2 A2 (bv b)) :
    Calls Try.prog 92 #[.pointer (some ⟨g, 0, none⟩), .int .i64 k, .slice A2 b.length c2] w fun e w' => e = .returned (.int .i64 (wrE bs.length k b.length)) ∧ Img w' B g A c (wrB bs k b) ∧ w.grownBy w' (Value.slice A bs.length c).ownBlock := by
  by_cases h1 : k < 0 ∨ ((bs.length / 256 : Nat) : Int) ≤ k
  · have hE : wrE bs.length k b.length = 3 := by unfold wrE; rw [if_pos h1]
    have hB : wrB bs k b = bs := by unfold wrB; rw [hE, if_neg (by decide)]
    rw [hE, hB]
    refine (iwrite_bad h k h1 A2 _ c2).mono ?_
    rintro e w' ⟨rfl, rfl⟩
    exact ⟨rfl, h, World.grownBy.refl w _⟩
  · obtain ⟨m, rfl⟩ := Int.eq_ofNat_of_zero_le (show 0 ≤ k by omega)
    have hm : m < bs.length / 256 := by omega
    by_cases h2 : b.length = 256
    · have hE : wrE bs.length (m : Int) b.length = 0 := wrE_zero.2 ⟨by omega, by omega, h2⟩
      have hB : wrB bs (m : Int) b = putBlk bs m b := by unfold wrB; rw [if_pos hE]; rfl
      rw [hE, hB, h2]
      exact iwrite_ok h m hm A2 c2 b h2 hr
    · have hE : wrE bs.length (m : Int) b.length = 1 := by unfold wrE; rw [if_neg h1, if_neg h2]
      have hB : wrB bs (m : Int) b = bs := by unfold wrB; rw [hE, if_neg (by decide)]
      rw [hE, hB]
      refine (iwrite_len h m hm A2 _ c2 h2).mono ?_
      rintro e w' ⟨rfl, rfl⟩
      exact ⟨rfl, h, World.grownBy.refl w _⟩
theorem iread_any {w : World} {B g : Nat} {A : Option Addr} {c : Nat} {bs : List UInt8} (h : Img w B g A c bs) (k : Int) :
    Calls Try.prog 44 #[.pointer (some ⟨g, 0, none⟩), .int .i64 k] w (GivesX 5 (bv (irdB bs k)) (irdE bs.length k) w) := by
  by_cases h1 : k < 0 ∨ ((bs.length / 256 : Nat) : Int) ≤ k
  · have hE : irdE bs.length k = 3 := by unfold irdE; rw [if_pos h1]
    have hB : irdB bs k = [] := by unfold irdB; rw [hE, if_neg (by decide)]
    rw [hE, hB]
    refine (iread_bad h k h1).mono ?_
    rintro e w' ⟨rfl, rfl⟩
    exact ⟨none, 0, rfl, World.ownsRow_nil _ _ _ _, Below.refl _ _⟩
  · obtain ⟨m, rfl⟩ := Int.eq_ofNat_of_zero_le (show 0 ≤ k by omega)
    have hE : irdE bs.length (m : Int) = 0 := irdE_zero.2 ⟨by omega, by omega⟩
    have hB : irdB bs (m : Int) = (bs.drop (m * 256)).take 256 := by unfold irdB; rw [if_pos hE]; rfl
    rw [hE, hB]
    exact iread_ok h m (by omega)
end Go.Proofs.Ytcnalndhlonblaa
