/-
  Plain: numbers in bytes, as package code and its reference have them; no program stands here.
-/
import Derived.Test.YtcnalndhlonblaaBase
namespace Go.Proofs.Ytcnalndhlonblaa

theorem add_xor (a b k : Nat) (h : a < 2 ^ k) : a + 2 ^ k * b = a ^^^ (2 ^ k * b) := by
  apply Nat.eq_of_testBit_eq
  intro i
  rw [Nat.add_comm, Nat.testBit_two_pow_mul_add _ h, Nat.testBit_xor, Nat.testBit_two_pow_mul]
  by_cases hi : i < k
  · have : ¬ k ≤ i := by omega
    simp [hi, this]
  · have hk : k ≤ i := by omega
    have : a.testBit i = false := Nat.testBit_lt_two_pow (Nat.lt_of_lt_of_le h (Nat.pow_le_pow_right (by omega) hk))
    simp [hi, hk, this]
/-- bytes as a number, the lowest first -/
def le : List UInt8 → Nat
  | [] => 0
  | b :: r => b.toNat + 256 * le r
/-- a number's bytes, the lowest first -/
def leb : Nat → Nat → List UInt8
  | 0, _ => []
  | k + 1, n => UInt8.ofNat (n % 256) :: leb k (n / 256)
theorem leb_len (k : Nat) : ∀ n, (leb k n).length = k := by
  induction k with
  | zero => intro n; rfl
  | succ k ih => intro n; simp [leb, ih]
theorem le_lt (l : List UInt8) : le l < 256 ^ l.length := by
  induction l with
  | nil => simp [le]
  | cons b l ih =>
    have := b.toNat_lt
    simp only [le, List.length_cons, Nat.pow_succ]
    omega
theorem le_leb (k : Nat) : ∀ n, n < 256 ^ k → le (leb k n) = n := by
  induction k with
  | zero => intro n h; simp at h; subst h; rfl
  | succ k ih =>
    intro n h
    rw [Nat.pow_succ] at h
    simp only [leb, le]
    rw [ih _ (by omega), UInt8.toNat_ofNat', Nat.mod_eq_of_lt (by omega)]
    omega
theorem leb_le (l : List UInt8) : leb l.length (le l) = l := by
  induction l with
  | nil => rfl
  | cons b l ih =>
    have hb := b.toNat_lt
    simp only [List.length_cons, leb, le]
    rw [show (b.toNat + 256 * le l) / 256 = le l by omega, ih, show (b.toNat + 256 * le l) % 256 = b.toNat by omega]
    simp
theorem le_append (a b : List UInt8) : le (a ++ b) = le a + 256 ^ a.length * le b := by
  induction a with
  | nil => simp [le]
  | cons x a ih =>
    simp only [List.cons_append, le, ih, List.length_cons, Nat.pow_succ]
    rw [Nat.mul_add, Nat.mul_comm (256 ^ a.length) 256, Nat.mul_assoc]
    omega
theorem leb_snoc (k : Nat) : ∀ n, leb (k + 1) n = leb k n ++ [UInt8.ofNat (n / 256 ^ k % 256)] := by
  induction k with
  | zero => intro n; simp [leb]
  | succ k ih =>
    intro n
    rw [leb, ih, leb]
    simp only [List.cons_append]
    rw [Nat.div_div_eq_div_mul, Nat.pow_succ, Nat.mul_comm 256]

def knownB (w : Int) : Bool := decide (w = 1 ∨ w = 2 ∨ w = 4 ∨ w = 8)
/-- why so many bytes do not stand at a place -/
def thereV (n : Nat) (at_ w : Int) : Int := if knownB w = true then (if at_ < 0 ∨ (n : Int) < at_ ∨ (n : Int) - at_ < w then 3 else 0) else 1
def fitsB (n w : Int) : Bool := decide (0 ≤ n ∧ (w = 1 → n < 256) ∧ (w = 2 → n < 65536) ∧ (w = 4 → n < 4294967296))
theorem knownB_iff (w : Int) : knownB w = true ↔ (w = 1 ∨ w = 2 ∨ w = 4 ∨ w = 8) := by simp [knownB]
theorem thereV_zero {n : Nat} {at_ w : Int} (h : thereV n at_ w = 0) : knownB w = true ∧ 0 ≤ at_ ∧ at_ + w ≤ n := by
  unfold thereV at h
  split at h
  · rename_i hk
    split at h
    · cases h
    · exact ⟨hk, by omega, by omega⟩
  · cases h
theorem thereV_ok {n : Nat} {at_ w : Int} (hk : knownB w = true) (h0 : 0 ≤ at_) (h1 : at_ + w ≤ n) : thereV n at_ w = 0 := by
  have := (knownB_iff w).1 hk
  unfold thereV
  rw [if_pos hk, if_neg (by omega)]
theorem thereV_cases (n : Nat) (at_ w : Int) : thereV n at_ w = 0 ∨ thereV n at_ w = 1 ∨ thereV n at_ w = 3 := by
  unfold thereV
  split
  · split
    · exact .inr (.inr rfl)
    · exact .inl rfl
  · exact .inr (.inl rfl)
/-- the number that stands at a place of bytes -/
def getN (l : List UInt8) (at_ w : Int) : Nat := le ((l.drop at_.toNat).take w.toNat)
def getV (l : List UInt8) (at_ w : Int) : Int × Int :=
  if thereV l.length at_ w = 0 then (if getN l at_ w < 9223372036854775808 then ((getN l at_ w : Int), 0) else (0, 2)) else (0, thereV l.length at_ w)
/-- the bytes with a number in them -/
def putB (l : List UInt8) (at_ w n : Int) : List UInt8 := l.take at_.toNat ++ leb w.toNat n.toNat ++ l.drop (at_ + w).toNat
def putE (l : List UInt8) (at_ w n : Int) : Int := if thereV l.length at_ w = 0 then (if fitsB n w = true then 0 else 2) else thereV l.length at_ w
def putV (l : List UInt8) (at_ w n : Int) : List UInt8 := if putE l at_ w n = 0 then putB l at_ w n else []
def zeroB (l : List UInt8) : Bool := l.all (· == 0)
/-- the bytes of numbers of widths; the first error -/
def packE : List (Int × Int) → Int
  | [] => 0
  | (w, n) :: r => if knownB w = true then (if fitsB n w = true then packE r else 2) else 1
def packB : List (Int × Int) → List UInt8
  | [] => []
  | (w, n) :: r => leb w.toNat n.toNat ++ packB r
def packV (l : List (Int × Int)) : List UInt8 := if packE l = 0 then packB l else []
/-- the numbers of bytes, from a place on -/
def unpE (b : List UInt8) : Int → List Int → Int
  | _, [] => 0
  | at_, w :: r => if (getV b at_ w).2 = 0 then unpE b (at_ + w) r else (getV b at_ w).2
def unpB (b : List UInt8) : Int → List Int → List Int
  | _, [] => []
  | at_, w :: r => (getV b at_ w).1 :: unpB b (at_ + w) r
def unpV (b : List UInt8) (at_ : Int) (ws : List Int) : List Int := if unpE b at_ ws = 0 then unpB b at_ ws else []
end Go.Proofs.Ytcnalndhlonblaa
