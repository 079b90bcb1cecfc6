/-
  Chapter 4, the plain law: sealed blocks, what is in them, and turned bits; no program stands here.
-/
import Derived.Test.YtilkcecjciiboaaCrcP
import Derived.Test.YtilkcecjciiboaaCodeP
namespace Go.Proofs.Ytilkcecjciiboaa

def saltV (k : Int) : Nat := if k = 1 then 160774 else if k = 2 then 121107 else if k = 3 then 240779 else if k = 4 then 160478 else 0
theorem saltV_lt (k : Int) : saltV k < 4294967296 := by
  unfold saltV
  repeat' split
  all_goals omega
def knownK (k n : Int) : Bool := decide (1 ≤ k ∧ k ≤ 4 ∧ 0 ≤ n ∧ n < 14400)
def sumW (k : Int) (b : List UInt8) : Nat := crcM 0 b ^^^ saltV k
theorem sumW_lt (k : Int) (b : List UInt8) : sumW k b < 4294967296 := xor_lt32 _ _ (crcM_lt 0 (by omega) b) (saltV_lt k)
def headB (k n : Int) (l : List UInt8) : List UInt8 := leb 4 n.toNat ++ (leb 2 k.toNat ++ ([0, 0] ++ (l ++ List.replicate (244 - l.length) 0)))
theorem headB_len (k n : Int) (l : List UInt8) (h : l.length ≤ 244) : (headB k n l).length = 252 := by
  simp [headB, leb_len]
  omega
def sealB (k n : Int) (l : List UInt8) : List UInt8 := headB k n l ++ leb 4 (sumW k (headB k n l))
theorem sealB_len (k n : Int) (l : List UInt8) (h : l.length ≤ 244) : (sealB k n l).length = 256 := by
  unfold sealB
  rw [List.length_append, headB_len k n l h, leb_len]
def sealE (k n : Int) (l : List UInt8) : Int := if knownK k n = true then (if l.length ≤ 244 then 0 else 2) else 1
def sealV (k n : Int) (l : List UInt8) : List UInt8 := if sealE k n l = 0 then sealB k n l else []
def sumOK (b : List UInt8) (k : Int) : Bool := decide (getN b 252 4 = sumW k (b.take 252))
def openE (b : List UInt8) (k n : Int) : Int :=
  if knownK k n = false then 1 else if b.length ≠ 256 then 7 else if sumOK b k = false then 4 else if (getN b 0 4 : Int) ≠ n then 5 else if (getN b 4 2 : Int) ≠ k then 6 else if getN b 6 2 ≠ 0 then 7 else 0
def openV (b : List UInt8) (k n : Int) : List UInt8 := if openE b k n = 0 then (b.drop 8).take 244 else []
def whichB (b : List UInt8) : Bool := decide (b.length = 256) && decide (openE b (getN b 4 2) (getN b 0 4) = 0)
def zeroS (l : List UInt8) : List UInt8 := List.replicate 8 0 ++ (l ++ List.replicate (248 - l.length) 0)
theorem zeroS_len (l : List UInt8) (h : l.length ≤ 244) : (zeroS l).length = 256 := by
  simp [zeroS]
  omega
theorem zeroS_eq (l : List UInt8) (h : l.length ≤ 244) : zeroS l = [0, 0, 0, 0] ++ ([0, 0] ++ ([0, 0] ++ (l ++ List.replicate (244 - l.length) 0) ++ [0, 0, 0, 0])) := by
  unfold zeroS
  rw [show 248 - l.length = (244 - l.length) + 4 by omega, ← List.replicate_append_replicate]
  simp [List.replicate]
def put1 (n : Int) (l : List UInt8) : List UInt8 := leb 4 n.toNat ++ ([0, 0] ++ ([0, 0] ++ (l ++ List.replicate (244 - l.length) 0) ++ [0, 0, 0, 0]))
def put2 (k n : Int) (l : List UInt8) : List UInt8 := headB k n l ++ [0, 0, 0, 0]
theorem put1_len (n : Int) (l : List UInt8) (h : l.length ≤ 244) : (put1 n l).length = 256 := by
  simp [put1, leb_len]
  omega
theorem put2_len (k n : Int) (l : List UInt8) (h : l.length ≤ 244) : (put2 k n l).length = 256 := by
  unfold put2
  rw [List.length_append, headB_len k n l h]
  rfl
theorem put2_take (k n : Int) (l : List UInt8) (h : l.length ≤ 244) : (put2 k n l).take 252 = headB k n l := List.take_left' (headB_len k n l h)
theorem knownK_iff {k n : Int} : knownK k n = true ↔ 1 ≤ k ∧ k ≤ 4 ∧ 0 ≤ n ∧ n < 14400 := by simp [knownK]
/-- the three puts of a block -/
theorem seal_puts {k n : Int} (hk : knownK k n = true) (l : List UInt8) (h : l.length ≤ 244) :
    (putE (zeroS l) 0 4 n = 0 ∧ putV (zeroS l) 0 4 n = put1 n l) ∧ (putE (put1 n l) 4 2 k = 0 ∧ putV (put1 n l) 4 2 k = put2 k n l) ∧
    ∀ s : Nat, s < 4294967296 → putE (put2 k n l) 252 4 s = 0 ∧ putV (put2 k n l) 252 4 s = headB k n l ++ leb 4 s := by
  rw [knownK_iff] at hk
  have e1 : putE (zeroS l) 0 4 n = 0 := by
    unfold putE
    rw [zeroS_len l h, if_pos (thereV_ok (by decide) (by omega) (by omega)), if_pos]
    simp [fitsB]
    omega
  have e2 : putE (put1 n l) 4 2 k = 0 := by
    unfold putE
    rw [put1_len n l h, if_pos (thereV_ok (by decide) (by omega) (by omega)), if_pos]
    simp [fitsB]
    omega
  refine ⟨⟨e1, ?_⟩, ⟨e2, ?_⟩, fun s hs => ?_⟩
  · unfold putV
    rw [if_pos e1, zeroS_eq l h]
    unfold putB put1
    simp
  · unfold putV
    rw [if_pos e2]
    unfold putB put1 put2 headB
    rw [show (4 : Int).toNat = 4 from rfl, show ((4 : Int) + 2).toNat = 4 + 2 from rfl, List.take_left' (leb_len 4 _), ← List.drop_drop, List.drop_left' (leb_len 4 _)]
    simp
  · have e3 : putE (put2 k n l) 252 4 s = 0 := by
      unfold putE
      rw [put2_len k n l h, if_pos (thereV_ok (by decide) (by omega) (by omega)), if_pos]
      simp [fitsB]
      omega
    refine ⟨e3, ?_⟩
    unfold putV
    rw [if_pos e3]
    unfold putB
    rw [show (252 : Int).toNat = 252 from rfl, put2_take k n l h, show ((252 : Int) + 4).toNat = 256 from rfl, List.drop_of_length_le (by rw [put2_len k n l h]; omega), List.append_nil]
    simp
theorem getN_mid (p m s : List UInt8) (a x : Int) (ha : a.toNat = p.length) (hx : x.toNat = m.length) : getN (p ++ (m ++ s)) a x = le m := by
  unfold getN
  rw [ha, hx, List.drop_left' rfl, List.take_left' rfl]
theorem sealB_eq (k n : Int) (l : List UInt8) : sealB k n l = leb 4 n.toNat ++ (leb 2 k.toNat ++ ([0, 0] ++ (l ++ List.replicate (244 - l.length) 0 ++ leb 4 (sumW k (headB k n l))))) := by
  simp [sealB, headB]
theorem sealB_take (k n : Int) (l : List UInt8) (h : l.length ≤ 244) : (sealB k n l).take 252 = headB k n l := List.take_left' (headB_len k n l h)
theorem seal_sum (k n : Int) (l : List UInt8) (h : l.length ≤ 244) : getN (sealB k n l) 252 4 = sumW k (headB k n l) := by
  have := getN_mid (headB k n l) (leb 4 (sumW k (headB k n l))) [] 252 4 (by rw [headB_len k n l h]; rfl) (by rw [leb_len]; rfl)
  rw [List.append_nil] at this
  rw [sealB, this, le_leb 4 _ (sumW_lt _ _)]
theorem seal_no {k n : Int} (hk : knownK k n = true) (l : List UInt8) : (getN (sealB k n l) 0 4 : Int) = n ∧ (getN (sealB k n l) 4 2 : Int) = k ∧ getN (sealB k n l) 6 2 = 0 := by
  rw [knownK_iff] at hk
  refine ⟨?_, ?_, ?_⟩
  · have := getN_mid [] (leb 4 n.toNat) (leb 2 k.toNat ++ ([0, 0] ++ (l ++ List.replicate (244 - l.length) 0 ++ leb 4 (sumW k (headB k n l))))) 0 4 rfl (by rw [leb_len]; rfl)
    rw [List.nil_append] at this
    rw [sealB_eq, this, le_leb 4 _ (by omega)]
    omega
  · have := getN_mid (leb 4 n.toNat) (leb 2 k.toNat) ([0, 0] ++ (l ++ List.replicate (244 - l.length) 0 ++ leb 4 (sumW k (headB k n l)))) 4 2 (by rw [leb_len]; rfl) (by rw [leb_len]; rfl)
    rw [sealB_eq, this, le_leb 2 _ (by omega)]
    omega
  · have := getN_mid (leb 4 n.toNat ++ leb 2 k.toNat) [0, 0] (l ++ List.replicate (244 - l.length) 0 ++ leb 4 (sumW k (headB k n l))) 6 2 (by rw [List.length_append, leb_len, leb_len]; rfl) rfl
    rw [List.append_assoc] at this
    rw [sealB_eq, this]
    rfl
theorem seal_sumOK (k n : Int) (l : List UInt8) (h : l.length ≤ 244) : sumOK (sealB k n l) k = true := by
  unfold sumOK
  rw [seal_sum k n l h, sealB_take k n l h]
  exact decide_eq_true rfl
theorem seal_open {k n : Int} (hk : knownK k n = true) (l : List UInt8) (h : l.length ≤ 244) : openE (sealB k n l) k n = 0 := by
  obtain ⟨h1, h2, h3⟩ := seal_no hk l
  unfold openE
  rw [hk, sealB_len k n l h, seal_sumOK k n l h, h1, h2, h3]
  simp
theorem seal_openV {k n : Int} (hk : knownK k n = true) (l : List UInt8) (h : l.length ≤ 244) : openV (sealB k n l) k n = l ++ List.replicate (244 - l.length) 0 := by
  unfold openV
  rw [if_pos (seal_open hk l h), sealB_eq, show (8 : Nat) = 4 + (2 + 2) from rfl, ← List.drop_drop, List.drop_left' (leb_len 4 _), ← List.drop_drop, List.drop_left' (leb_len 2 _)]
  show ((l ++ List.replicate (244 - l.length) 0) ++ leb 4 _).take 244 = _
  exact List.take_left' (by rw [List.length_append, List.length_replicate]; omega)
theorem seal_next {k n : Int} (hk : knownK k n = true) (l : List UInt8) (h : l.length ≤ 244) : openE (sealB k n l) k ((n + 1) % 14400) = 5 := by
  obtain ⟨h1, h2, h3⟩ := seal_no hk l
  have hk2 : knownK k ((n + 1) % 14400) = true := by rw [knownK_iff] at *; omega
  have : n ≠ (n + 1) % 14400 := by rw [knownK_iff] at hk; omega
  unfold openE
  rw [hk2, sealB_len k n l h, seal_sumOK k n l h, h1]
  simp [this]
theorem xor_inj (a b c : Nat) (h : a ^^^ b = a ^^^ c) : b = c := by
  have := congrArg (fun z => a ^^^ z) h
  simpa [← Nat.xor_assoc] using this
theorem seal_kind {k n : Int} (hk : knownK k n = true) (l : List UInt8) (h : l.length ≤ 244) : openE (sealB k n l) (k % 4 + 1) n = 4 := by
  rw [knownK_iff] at hk
  have hk2 : knownK (k % 4 + 1) n = true := by rw [knownK_iff]; omega
  have hs : saltV k ≠ saltV (k % 4 + 1) := by
    obtain ⟨a, b, _⟩ := hk
    have : k = 1 ∨ k = 2 ∨ k = 3 ∨ k = 4 := by omega
    rcases this with rfl | rfl | rfl | rfl <;> decide
  have hq : sumOK (sealB k n l) (k % 4 + 1) = false := by
    unfold sumOK
    rw [seal_sum k n l h, sealB_take k n l h]
    exact decide_eq_false fun e => hs (xor_inj _ _ _ e)
  unfold openE
  rw [hk2, sealB_len k n l h, hq]
  simp
theorem openE_zero {b : List UInt8} {k n : Int} (h : openE b k n = 0) : knownK k n = true ∧ b.length = 256 ∧ sumOK b k = true ∧ (getN b 0 4 : Int) = n ∧ (getN b 4 2 : Int) = k ∧ getN b 6 2 = 0 := by
  unfold openE at h
  split at h; · cases h
  split at h; · cases h
  split at h; · cases h
  split at h; · cases h
  split at h; · cases h
  split at h; · cases h
  rename_i a b c d e f
  exact ⟨by simpa using a, by omega, by simpa using c, by omega, by omega, by omega⟩
theorem leb_getN (b : List UInt8) (a x : Nat) (h : a + x ≤ b.length) : leb x (getN b a x) = (b.drop a).take x := by
  unfold getN
  have : ((b.drop a).take x).length = x := by rw [List.length_take, List.length_drop]; omega
  rw [Int.toNat_natCast, Int.toNat_natCast]
  conv => lhs; arg 1; rw [← this]
  exact leb_le _
theorem cut3 (b : List UInt8) (i j : Nat) : (b.drop i).take j ++ b.drop (i + j) = b.drop i := by
  rw [← List.drop_drop, List.take_append_drop]
/-- a block that is opened is what is told of what is in it -/
theorem open_seal {b : List UInt8} {k n : Int} (h : openE b k n = 0) : sealV k n (openV b k n) = b ∧ sealE k n (openV b k n) = 0 ∧ (openV b k n).length = 244 := by
  obtain ⟨hk, hl, hs, h0, h4, h6⟩ := openE_zero h
  have hV : openV b k n = (b.drop 8).take 244 := by unfold openV; rw [if_pos h]
  have hlen : (openV b k n).length = 244 := by rw [hV, List.length_take, List.length_drop]; omega
  have hE : sealE k n (openV b k n) = 0 := by unfold sealE; rw [if_pos hk, if_pos (by omega)]
  refine ⟨?_, hE, hlen⟩
  have b0 := leb_getN b 0 4 (by omega)
  have b4 := leb_getN b 4 2 (by omega)
  have b6 := leb_getN b 6 2 (by omega)
  have bs := leb_getN b 252 4 (by omega)
  have hH : headB k n (openV b k n) = b.take 252 := by
    unfold headB
    rw [hlen, ← h0, ← h4, Int.toNat_natCast, Int.toNat_natCast]
    have e6 : ([0, 0] : List UInt8) = (b.drop 6).take 2 := by
      rw [← b6]
      show _ = leb 2 (getN b 6 2)
      rw [h6]
      rfl
    rw [e6, show leb 4 (getN b 0 4) = (b.drop 0).take 4 from b0, show leb 2 (getN b 4 2) = (b.drop 4).take 2 from b4]
    rw [h0, h4, hV]
    simp only [Nat.sub_self, List.replicate_zero, List.append_nil]
    have t := List.take_append_drop 252 b
    have e8 : (b.drop 8).take 244 = (b.take 252).drop 8 := by rw [List.drop_take]
    have e6' : (b.drop 6).take 2 = ((b.take 252).drop 6).take 2 := by rw [List.drop_take, List.take_take]; rfl
    have e4' : (b.drop 4).take 2 = ((b.take 252).drop 4).take 2 := by rw [List.drop_take, List.take_take]; rfl
    have e0' : (b.drop 0).take 4 = ((b.take 252).drop 0).take 4 := by rw [List.drop_take, List.take_take]; rfl
    rw [e8, e6', e4', e0', cut3 _ 6 2, cut3 _ 4 2, cut3 _ 0 4, List.drop_zero]
  unfold sealV
  rw [if_pos hE]
  unfold sealB
  rw [hH]
  unfold sumOK at hs
  rw [← of_decide_eq_true hs, show leb 4 (getN b 252 4) = (b.drop 252).take 4 from bs, List.take_of_length_le (l := b.drop 252) (by rw [List.length_drop]; omega), List.take_append_drop]
theorem pow256 (n : Nat) : 256 ^ n = 2 ^ (8 * n) := by rw [show (256 : Nat) = 2 ^ 8 from rfl, ← Nat.pow_mul]
theorem le_cut (c : List UInt8) (h : c.length = 256) : le c = le (c.take 252) ^^^ (2 ^ (8 * (c.take 252).length) * getN c 252 4) := by
  have h1 : le c = le (c.take 252 ++ c.drop 252) := by rw [List.take_append_drop]
  have hlt := le_lt (c.take 252)
  have hg : getN c 252 4 = le (c.drop 252) := by
    unfold getN
    rw [show (252 : Int).toNat = 252 from rfl, show (4 : Int).toNat = 4 from rfl, List.take_of_length_le (l := c.drop 252) (by rw [List.length_drop]; omega)]
  rw [hg, h1, le_append]
  generalize (c.take 252).length = L at *
  rw [pow256] at hlt ⊢
  exact add_xor _ _ _ hlt
/-- the whole block's register tells whether its sum is right -/
theorem sum_reg (c : List UInt8) (h : c.length = 256) (k : Int) : sumOK c k = true ↔ stN 2048 (4294967295 ^^^ le c) = stN 32 (4294967295 ^^^ saltV k) := by
  have hl : (c.take 252).length = 252 := by rw [List.length_take]; omega
  have hlt := crcR_lt 4294967295 (by omega) (c.take 252)
  have hg : getN c 252 4 < 4294967296 := by
    have := le_lt ((c.drop 252).take 4)
    have hq : ((c.drop 252).take 4).length = 4 := by rw [List.length_take, List.length_drop]; omega
    rw [hq] at this
    exact this
  have hsp : stN 2048 (4294967295 ^^^ le c) = stN 32 (crcR 4294967295 (c.take 252) ^^^ getN c 252 4) := by
    rw [le_cut c h, ← Nat.xor_assoc, show 2048 = 32 + 8 * (c.take 252).length by rw [hl], stN_add, stN_xor (8 * (c.take 252).length), stN_shift, ← crcR_le]
  rw [hsp]
  unfold sumOK sumW crcM
  rw [decide_eq_true_eq, show (0 : Nat) ^^^ 4294967295 = 4294967295 from rfl]
  generalize crcR 4294967295 (c.take 252) = R at *
  generalize getN c 252 4 = g at *
  have hsl := saltV_lt k
  generalize saltV k = s at *
  constructor
  · rintro rfl
    rw [← Nat.xor_assoc, ← Nat.xor_assoc, Nat.xor_self, Nat.zero_xor]
  · intro he
    have h2 : stN 32 ((R ^^^ g) ^^^ (4294967295 ^^^ s)) = 0 := by rw [stN_xor, he, Nat.xor_self]
    rw [stN_zero_iff _ _ (xor_lt32 _ _ (xor_lt32 _ _ hlt hg) (xor_lt32 _ _ (by omega) hsl))] at h2
    have h3 := xor_zero_eq _ _ h2
    have h4 := congrArg (fun z => R ^^^ z) h3
    simpa [← Nat.xor_assoc] using h4
theorem seal_burst (b c : List UInt8) (k : Int) (at_ m : Nat) (hb : b.length = 256) (hc : c.length = 256) (ha : at_ ≤ 2048) (hm : m < 4294967296) (h : le c = le b ^^^ (2 ^ at_ * m)) (hs : sumOK b k = true) :
    sumOK c k = true ↔ m = 0 := by
  rw [sum_reg c hc, ← (sum_reg b hb k).1 hs, h, ← Nat.xor_assoc, stN_xor]
  have e : stN 2048 (2 ^ at_ * m) = stN (2048 - at_) m := by
    conv => lhs; rw [show 2048 = (2048 - at_) + at_ by omega, stN_add, stN_shift]
  rw [e]
  constructor
  · intro h
    have h2 : stN (2048 - at_) m = 0 := by
      have := congrArg (fun z => stN 2048 (4294967295 ^^^ le b) ^^^ z) h
      simpa [← Nat.xor_assoc] using this
    exact (stN_zero_iff _ m hm).1 h2
  · rintro rfl
    rw [(stN_zero_iff _ 0 (by omega)).2 rfl, Nat.xor_zero]
theorem le_inj {a b : List UInt8} (hl : a.length = b.length) (h : le a = le b) : a = b := by
  rw [← leb_le a, ← leb_le b, hl, h]
/-- where bits within 32 in a row are turned, Open tells the sum -/
theorem open_burst {k n : Int} (hk : knownK k n = true) (l : List UInt8) (hl : l.length ≤ 244) (c : List UInt8) (at_ m : Nat) (hc : c.length = 256) (ha : at_ ≤ 2048) (hm : m < 4294967296) (h : le c = le (sealB k n l) ^^^ (2 ^ at_ * m)) :
    openE c k n = if m = 0 then 0 else 4 := by
  have hb := seal_burst (sealB k n l) c k at_ m (sealB_len k n l hl) hc ha hm h (seal_sumOK k n l hl)
  by_cases h0 : m = 0
  · subst h0
    rw [Nat.mul_zero, Nat.xor_zero] at h
    rw [le_inj (by rw [hc, sealB_len k n l hl]) h, seal_open hk l hl]
    rfl
  · rw [if_neg h0]
    have : sumOK c k = false := by
      cases hq : sumOK c k with
      | false => rfl
      | true => exact absurd (hb.1 hq) h0
    unfold openE
    rw [hk, hc, this]
    simp
/-- the kind that stands in a block is the only one by which it opens -/
theorem which_one {b : List UInt8} {k : Int} (h : openE b k (getN b 0 4) = 0) : k = getN b 4 2 := (openE_zero h).2.2.2.2.1.symm
end Go.Proofs.Ytilkcecjciiboaa
