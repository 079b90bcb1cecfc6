/-
  Plain: a burst of turned bits within 32 in a row turns the register; no program stands here.
-/
import Derived.Test.YtcnalndhlonblaaCrc
import Derived.Test.YtcnalndhlonblaaCodeP
namespace Go.Proofs.Ytcnalndhlonblaa

theorem xor_zero_eq (a b : Nat) (h : a ^^^ b = 0) : a = b := by
  have := congrArg (fun z => z ^^^ b) h
  simpa [Nat.xor_assoc] using this
theorem pow_mul_xor (k a b : Nat) : 2 ^ k * (a ^^^ b) = 2 ^ k * a ^^^ 2 ^ k * b := by
  have := @Nat.shiftLeft_xor_distrib k a b
  simp only [Nat.shiftLeft_eq] at this
  rw [Nat.mul_comm, this, Nat.mul_comm, Nat.mul_comm b]
theorem st1_zero_iff (x : Nat) (h : x < 4294967296) : st1 x = 0 ↔ x = 0 := by
  constructor
  · intro h0
    unfold st1 at h0
    split at h0
    · have := xor_zero_eq _ _ h0
      omega
    · omega
  · rintro rfl; rfl
theorem stN_zero_iff (n x : Nat) (h : x < 4294967296) : stN n x = 0 ↔ x = 0 := by
  induction n with
  | zero => rfl
  | succ n ih => rw [stN, st1_zero_iff _ (stN_lt n x h), ih]
theorem stN_xor (n a b : Nat) : stN n (a ^^^ b) = stN n a ^^^ stN n b := by
  induction n with
  | zero => rfl
  | succ n ih => rw [stN, ih, st1_xor]; rfl
theorem stN_shift (n x : Nat) : stN n (2 ^ n * x) = x := by
  rw [stN_split, Nat.mul_mod_right, Nat.mul_div_cancel_left _ (Nat.two_pow_pos n)]
  have : stN n 0 = 0 := by
    induction n with
    | zero => rfl
    | succ n ih => rw [stN, ih]; rfl
  rw [this, Nat.xor_zero]
theorem crcR_cons (r : Nat) (b : UInt8) (l : List UInt8) : crcR r (b :: l) = crcR (stN 8 (r ^^^ b.toNat)) l := by
  unfold crcR; rw [List.foldl_cons]
theorem crcR_le (l : List UInt8) : ∀ r, crcR r l = stN (8 * l.length) (r ^^^ le l) := by
  induction l with
  | nil => intro r; simp [crcR, le, stN]
  | cons b l ih =>
    intro r
    have hb := b.toNat_lt
    rw [crcR_cons, ih, le, List.length_cons, show 8 * (l.length + 1) = 8 * l.length + 8 by omega, stN_add]
    congr 1
    rw [show (256 : Nat) = 2 ^ 8 from rfl, add_xor _ _ 8 hb, ← Nat.xor_assoc, stN_xor 8 (r ^^^ b.toNat), stN_shift]
theorem le_set (l : List UInt8) : ∀ (i : Nat) (h : i < l.length) (j : Nat) (_ : j < 8), le (l.set i (l[i] ^^^ UInt8.ofNat (2 ^ j))) = le l ^^^ 2 ^ (8 * i + j) := by
  induction l with
  | nil => intro i h; simp at h
  | cons b l ih =>
    intro i h j hj
    have hb := b.toNat_lt
    have hp : (2 : Nat) ^ j < 256 := Nat.lt_of_lt_of_le (Nat.pow_lt_pow_right (by omega) hj) (by decide)
    cases i with
    | zero =>
      simp only [List.set_cons_zero, List.getElem_cons_zero, le, Nat.mul_zero, Nat.zero_add]
      rw [UInt8.toNat_xor, UInt8.toNat_ofNat', Nat.mod_eq_of_lt (show 2 ^ j < 2 ^ 8 from hp)]
      have hx : b.toNat ^^^ 2 ^ j < 2 ^ 8 := Nat.xor_lt_two_pow hb hp
      rw [show (256 : Nat) = 2 ^ 8 from rfl, add_xor _ _ 8 hx, add_xor _ _ 8 hb, Nat.xor_assoc, Nat.xor_comm (2 ^ j), ← Nat.xor_assoc]
    | succ i =>
      simp only [List.set_cons_succ, List.getElem_cons_succ, le]
      rw [ih i (by simpa using h) j hj, show (256 : Nat) = 2 ^ 8 from rfl, add_xor _ _ 8 hb, add_xor _ _ 8 hb, Nat.xor_assoc]
      congr 1
      rw [show 8 * (i + 1) + j = 8 + (8 * i + j) by omega, Nat.pow_add 2 8, pow_mul_xor]
/-- one more bit of the burst -/
theorem burst_succ (x at_ bits k : Nat) (h : bits / 2 ^ k % 2 = 1) : x ^^^ (2 ^ at_ * (bits % 2 ^ k)) ^^^ 2 ^ (at_ + k) = x ^^^ (2 ^ at_ * (bits % 2 ^ (k + 1))) := by
  have hlt : bits % 2 ^ k < 2 ^ k := Nat.mod_lt _ (Nat.two_pow_pos k)
  rw [Nat.mod_pow_succ, h, Nat.xor_assoc, add_xor _ 1 k hlt, Nat.mul_one, Nat.pow_add]
  congr 1
  rw [pow_mul_xor]
theorem burst_zero (bits k : Nat) (h : bits / 2 ^ k % 2 = 0) : bits % 2 ^ (k + 1) = bits % 2 ^ k := by
  rw [Nat.mod_pow_succ, h]; simp
theorem burst_pos (bits k : Nat) (h : bits / 2 ^ k % 2 = 1) : bits % 2 ^ (k + 1) ≠ 0 := by
  rw [Nat.mod_pow_succ, h]; have := Nat.two_pow_pos k; omega
/-- bytes that part by a burst within 32 bits in a row have other sums -/
theorem crc_burst (b c : List UInt8) (at_ m : Nat) (hl : c.length = b.length) (ha : at_ ≤ 8 * b.length) (hm : m < 4294967296) (h : le c = le b ^^^ (2 ^ at_ * m)) :
    crcM 0 c = crcM 0 b ↔ m = 0 := by
  unfold crcM
  have hx : ∀ u v : Nat, u ^^^ 4294967295 = v ^^^ 4294967295 ↔ u = v := fun u v => ⟨fun h => by have := congrArg (fun z => z ^^^ 4294967295) h; simpa [Nat.xor_assoc] using this, fun h => by rw [h]⟩
  rw [hx, crcR_le, crcR_le, hl, h, ← Nat.xor_assoc, stN_xor]
  have e : stN (8 * b.length) (2 ^ at_ * m) = stN (8 * b.length - at_) m := by
    conv => lhs; rw [show 8 * b.length = (8 * b.length - at_) + at_ by omega, stN_add, stN_shift]
  rw [e]
  constructor
  · intro h
    have h2 : stN (8 * b.length - at_) m = 0 := by
      have := congrArg (fun z => stN (8 * b.length) (0 ^^^ 4294967295 ^^^ le b) ^^^ z) h
      simpa [← Nat.xor_assoc] using this
    exact (stN_zero_iff _ m hm).1 h2
  · rintro rfl
    rw [(stN_zero_iff _ 0 (by omega)).2 rfl, Nat.xor_zero]
end Go.Proofs.Ytcnalndhlonblaa
