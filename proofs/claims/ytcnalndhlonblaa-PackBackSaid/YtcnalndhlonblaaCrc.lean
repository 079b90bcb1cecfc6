/-
  What package crc's functions and the reference's sums compute, each walked once.
-/
import Derived.Test.YtcnalndhlonblaaCrcT
namespace Go.Proofs.Ytcnalndhlonblaa
open Go.RowKit

theorem snoc_ind {α : Type} {P : List α → Prop} (h0 : P []) (h1 : ∀ l a, P l → P (l ++ [a])) (l : List α) : P l := by
  have : ∀ n, ∀ l : List α, l.length = n → P l := by
    intro n
    induction n with
    | zero => intro l hl; rw [List.eq_nil_of_length_eq_zero hl]; exact h0
    | succ n ih =>
      intro l hl
      have hne : l ≠ [] := by intro e; subst e; simp at hl
      rw [← List.dropLast_concat_getLast hne]
      exact h1 _ _ (ih _ (by simp [hl]))
  exact this _ l rfl
/-- a register behind bytes -/
def crcR (r : Nat) (l : List UInt8) : Nat := l.foldl (fun r b => stN 8 (r ^^^ b.toNat)) r
theorem crcR_snoc (r : Nat) (l : List UInt8) (b : UInt8) : crcR r (l ++ [b]) = stN 8 (crcR r l ^^^ b.toNat) := by simp [crcR]
theorem xor_lt32 (a b : Nat) (ha : a < 4294967296) (hb : b < 4294967296) : a ^^^ b < 4294967296 := Nat.xor_lt_two_pow (n := 32) ha hb
theorem crcR_lt (r : Nat) (h : r < 4294967296) (l : List UInt8) : crcR r l < 4294967296 := by
  induction l using snoc_ind with
  | h0 => exact h
  | h1 l b ih => rw [crcR_snoc]; exact stN_lt _ _ (xor_lt32 _ _ ih (by have := b.toNat_lt; omega))


theorem st1_xor (a b : Nat) : st1 (a ^^^ b) = st1 a ^^^ st1 b := by
  have h1 : (a ^^^ b) % 2 = (a % 2 + b % 2) % 2 := by
    have := Nat.xor_mod_two_pow (a := a) (b := b) (n := 1)
    simp only [Nat.pow_one] at this
    rw [this]
    rcases Nat.mod_two_eq_zero_or_one a with ha | ha <;> rcases Nat.mod_two_eq_zero_or_one b with hb | hb <;> simp [ha, hb]
  have h2 : (a ^^^ b) / 2 = a / 2 ^^^ b / 2 := Nat.xor_div_two
  unfold st1
  rw [h1, h2]
  rcases Nat.mod_two_eq_zero_or_one a with ha | ha <;> rcases Nat.mod_two_eq_zero_or_one b with hb | hb <;> simp only [ha, hb] <;> simp
  · rw [Nat.xor_assoc]
  · rw [Nat.xor_assoc, Nat.xor_comm (b / 2), ← Nat.xor_assoc]
  · rw [Nat.xor_assoc, Nat.xor_comm (b / 2), ← Nat.xor_assoc 2197175160, Nat.xor_self, Nat.zero_xor]
theorem st1_split (x : Nat) : st1 x = x / 2 ^^^ st1 (x % 2) := by
  unfold st1
  rcases Nat.mod_two_eq_zero_or_one x with h | h <;> simp [h]
theorem stN_split (k x : Nat) : stN k x = x / 2 ^ k ^^^ stN k (x % 2 ^ k) := by
  induction k generalizing x with
  | zero => simp [stN, Nat.mod_one]
  | succ k ih =>
    have e1 : x % 2 ^ (k + 1) / 2 ^ k = x / 2 ^ k % 2 := by
      rw [Nat.pow_succ, Nat.mod_mul_right_div_self]
    have e2 : x % 2 ^ (k + 1) % 2 ^ k = x % 2 ^ k := by
      rw [Nat.pow_succ]; exact Nat.mod_mul_right_mod _ _ _
    have e3 : x / 2 ^ k / 2 = x / 2 ^ (k + 1) := by rw [Nat.div_div_eq_div_mul, Nat.pow_succ]
    show st1 (stN k x) = _ ^^^ st1 (stN k (x % 2 ^ (k + 1)))
    rw [ih x, ih (x % 2 ^ (k + 1)), e1, e2, st1_xor, st1_xor, st1_split (x / 2 ^ k), e3, Nat.xor_assoc]
theorem stN_add (a b x : Nat) : stN (a + b) x = stN a (stN b x) := by
  induction a with
  | zero => simp [stN]
  | succ a ih => rw [Nat.add_right_comm, stN, ih, stN]
theorem st8_two (x : Nat) : stN 8 x = (x / 16 ^^^ stN 4 (x % 16)) / 16 ^^^ stN 4 ((x / 16 ^^^ stN 4 (x % 16)) % 16) := by
  rw [show 8 = 4 + 4 from rfl, stN_add, stN_split 4 x]
  exact stN_split 4 _
theorem u32_and15 (r : Nat) (h : r < 4294967296) : bits .and .u32 (r : Int) 15 = ((r % 16 : Nat) : Int) := by
  rw [show (15 : Int) = ((15 : Nat) : Int) from rfl, u32_and_nat r 15 h (by omega), nat_mask4]
theorem u32_xorn (a b : Nat) (ha : a < 4294967296) (hb : b < 4294967296) : bits .xor .u32 (a : Int) (b : Int) = ((a ^^^ b : Nat) : Int) := u32_xor_nat a b ha hb

theorem u32_xorc (a : Nat) (ha : a < 4294967296) : bits .xor .u32 (a : Int) 4294967295 = ((a ^^^ 4294967295 : Nat) : Int) := u32_xor_nat a 4294967295 ha (by omega)
theorem i64_xorc (a : Nat) (ha : a < 4294967296) : bits .xor .i64 (a : Int) 4294967295 = ((a ^^^ 4294967295 : Nat) : Int) := i64_xor_n a 4294967295 (by omega) (by omega)

set_option maxHeartbeats 1000000 in
theorem run_any (r : Nat) (hr : r < 4294967296) (A : Option Addr) (n c : Nat) (l : List UInt8) (w : World) (hn : n = l.length) (hm : l.length ≤ maxLen) (h : Reads w w.heap.size A (bv l)) :
    Calls Try.prog 72 #[.int .u32 r, .slice A n c] w fun e w' => e = .returned (.int .u32 (crcR r l : Nat)) ∧ Below w.heap.size w w' := by
  subst hn
  unfold maxLen at hm
  go_enter Try.func72, Try.ntmps72
  go_wp2_with fail
  refine (halves_any _).mono ?_
  rintro e w1 ⟨rfl, hb1⟩
  have hg0 := heap_alloc_new w1 (.cells (Array.replicate 16 (.int .u32 0)) 136)
  go_wp2_with (refine wpList_store_whole rfl 136 _ _ rfl w1.heap.size tabL rfl rfl _ 136 hg0 (by rfl) (by kernel_rfl) tabL_one ?_; intro W3 h3 hg3 hs3)
  have hb3 : Below w.heap.size w W3 := (hb1.alloc (by have := hb1.size; omega) _).grown hg3 (by have := hb1.size; simp; omega) (fun k hk => by injection hk; have := hb1.size; omega)
  have hr3 := h.below hb3
  clear hg3 hs3 hg0 hb1 h
  have HT : ∀ i, i < 16 → W3.cell? ⟨w1.heap.size, i, none⟩ = some (.int .u32 (stN 4 i : Nat)) := fun i hi => by
    rw [cell_of_row _ _ _ _ _ _ h3]; exact tabL_get i hi
  clear h3
  go_loop [0, 11] (fun x i => ∃ k : Nat, k ≤ l.length ∧ i = .int .i64 k ∧ x = .int .u32 (crcR r (l.take k) : Nat)) (fun _ i => l.length - (intOf i).toNat)
  case atStart => exact ⟨0, by omega, rfl, rfl⟩
  case round =>
    obtain ⟨k, hk, rfl, rfl⟩ := hrel
    by_cases hlt : k < l.length
    · obtain ⟨ad, rfl, _, hc⟩ := hr3.byte hlt
      have hx := crcR_lt r hr (l.take k)
      have hb := l[k].toNat_lt
      have HS := Lib.hid (show crcR r (l.take (k + 1)) = stN 8 (crcR r (l.take k) ^^^ l[k].toNat) by rw [take_snoc l k hlt, crcR_snoc])
      generalize crcR r (l.take k) = x at *
      generalize l[k].toNat = bb at *
      have e1 := u32_xorn x bb hx (by omega)
      have hy := xor_lt32 x bb hx (by omega)
      generalize x ^^^ bb = y at *
      have j1 := u32_and15 y hy
      have HY := Lib.hid (st8_two y)
      have hj : y % 16 < 16 := by omega
      generalize y % 16 = j at *
      have hc1 := HT j hj
      have ht := stN_lt 4 j (by omega)
      generalize stN 4 j = t1 at *
      have e2 : bits .xor .u32 ((y : Int) / 16) (t1 : Int) = ((y / 16 ^^^ t1 : Nat) : Int) := by
        rw [show ((y : Int) / 16) = ((y / 16 : Nat) : Int) from by omega]; exact u32_xorn _ _ (by omega) ht
      have hz := xor_lt32 (y / 16) t1 (by omega) ht
      generalize y / 16 ^^^ t1 = z at *
      have j2 := u32_and15 z hz
      have hi : z % 16 < 16 := by omega
      generalize z % 16 = i at *
      have hc2 := HT i hi
      have ht2 := stN_lt 4 i (by omega)
      generalize stN 4 i = t2 at *
      have e3 : bits .xor .u32 ((z : Int) / 16) (t2 : Int) = ((z / 16 ^^^ t2 : Nat) : Int) := by
        rw [show ((z : Int) / 16) = ((z / 16 : Nat) : Int) from by omega]; exact u32_xorn _ _ (by omega) ht2
      clear HT
      go_wp2
      go_round
      case rel => exact ⟨k + 1, by omega, by go_num, by rw [HS.out, HY.out]⟩
      case measure => simp [intOf]; omega
    · obtain rfl : k = l.length := by omega
      clear HT
      go_wp2
      go_ret
      exact ⟨rfl, hb3⟩

/-- the sum that Go's int holds -/
def crcM (s : Nat) (l : List UInt8) : Nat := crcR (s ^^^ 4294967295) l ^^^ 4294967295
theorem crcM_lt (s : Nat) (h : s < 4294967296) (l : List UInt8) : crcM s l < 4294967296 := xor_lt32 _ _ (crcR_lt _ (xor_lt32 _ _ h (by omega)) l) (by omega)

def crcV (s : Int) (l : List UInt8) : Int := if s < 0 ∨ 4294967295 < s then 0 else (crcM s.toNat l : Nat)
def crcP (r : Nat) (ps : List (List UInt8)) : Nat := ps.foldl crcR r
theorem crcP_snoc (r : Nat) (ps : List (List UInt8)) (l : List UInt8) : crcP r (ps ++ [l]) = crcR (crcP r ps) l := by simp [crcP]
theorem crcP_lt (r : Nat) (h : r < 4294967296) (ps : List (List UInt8)) : crcP r ps < 4294967296 := by
  induction ps using snoc_ind with
  | h0 => exact h
  | h1 l b ih => rw [crcP_snoc]; exact crcR_lt _ ih _
/-- it does not matter in which pieces the bytes come -/
theorem crcP_join (r : Nat) (ps : List (List UInt8)) : crcP r ps = crcR r ps.flatten := by
  induction ps using snoc_ind with
  | h0 => rfl
  | h1 l b ih => rw [crcP_snoc, ih]; simp [crcR]

set_option maxHeartbeats 1000000 in
theorem sum_any (A : Option Addr) (n c : Nat) (ps : List (List UInt8)) (w : World) (hn : n = ps.length) (hm : ps.length ≤ maxLen) (h : Pieces w w.heap.size A ps) :
    Calls Try.prog 46 #[.slice A n c] w fun e w' => e = .returned (.int .i64 (crcM 0 ps.flatten : Nat)) ∧ Below w.heap.size w w' := by
  subst hn
  unfold maxLen at hm
  go_enter Try.func46, Try.ntmps46
  go_wp2_with fail
  go_loopw [3, 8] (fun x i wr => ∃ k : Nat, k ≤ ps.length ∧ i = .int .i64 k ∧ x = .int .u32 (crcP 4294967295 (ps.take k) : Nat) ∧ Below w.heap.size w wr) (fun _ i _ => ps.length - (intOf i).toNat)
  case atStart => exact ⟨0, by omega, rfl, rfl, Below.refl _ _⟩
  case round =>
    obtain ⟨k, hk, rfl, rfl, hbr⟩ := hrel
    have hpr := h.below hbr
    by_cases hlt : k < ps.length
    · obtain ⟨ad, rfl, hadb, hc⟩ := hpr (by omega)
      obtain ⟨a, cc, hcell, hrd, hlen⟩ := hc k _ (List.getElem?_eq_getElem hlt)
      have hx := crcP_lt 4294967295 (by omega) (ps.take k)
      have HS := Lib.hid (show crcP 4294967295 (ps.take (k + 1)) = crcR (crcP 4294967295 (ps.take k)) ps[k] by rw [take_snoc ps k hlt, crcP_snoc])
      clear hc
      have hrd' := hrd.more hbr.size
      generalize crcP 4294967295 (ps.take k) = x at *
      generalize ps[k] = l at *
      go_wp2_with fail
      refine (run_any x hx a _ cc l _ rfl hlen hrd').mono ?_
      rintro e w1 ⟨rfl, hb1⟩
      go_wp2
      go_roundw
      case rel => exact ⟨k + 1, by omega, by go_num, by rw [HS.out], hbr.trans (hb1.mono hbr.size)⟩
      case measure => simp [intOf]; omega
    · obtain rfl : k = ps.length := by omega
      have hx := crcP_lt 4294967295 (by omega) (ps.take ps.length)
      have HX := Lib.hid (show crcM 0 ps.flatten = crcP 4294967295 (ps.take ps.length) ^^^ 4294967295 by rw [List.take_length, crcP_join]; rfl)
      generalize crcP 4294967295 (ps.take ps.length) = x at *
      have hc := u32_xorc x hx
      have hcl := xor_lt32 x 4294967295 hx (by omega)
      go_wp2
      go_ret
      exact ⟨by simp [HX.out], hbr⟩

theorem i64_xorp (r : Nat) (h : r < 4294967296) : bits .xor .i64 ((r : Int) / 2) 2197175160 = ((r / 2 ^^^ 2197175160 : Nat) : Int) := by
  rw [show ((r : Int) / 2) = ((r / 2 : Nat) : Int) from by omega, show (2197175160 : Int) = ((2197175160 : Nat) : Int) from rfl, i64_xor_n _ _ (by omega) (by omega)]
theorem step_any (r : Nat) (hr : r < 4294967296) (w : World) :
    Calls Try.prog 89 #[.int .i64 r] w fun e w' => e = .returned (.int .i64 (stN 8 r : Nat)) ∧ w = w' := by
  go_enter Try.func89, Try.ntmps89
  go_wp2
  go_loop [0, 3] (fun x i => ∃ k : Nat, k ≤ 8 ∧ i = .int .i64 k ∧ x = .int .i64 (stN k r : Nat)) (fun _ i => 8 - (intOf i).toNat)
  case atStart => exact ⟨0, by omega, rfl, rfl⟩
  case round =>
    obtain ⟨k, hk, rfl, rfl⟩ := hrel
    by_cases hlt : k < 8
    · have hx := stN_lt k r hr
      have HS := Lib.hid (show stN (k + 1) r = st1 (stN k r) from rfl)
      generalize stN k r = x at *
      have e1 := i64_xorp x hx
      by_cases ho : x % 2 = 1
      · have h1 : ((x : Int) % 2 == 1) = true := by simp; omega
        have HT := Lib.hid (show st1 x = x / 2 ^^^ 2197175160 by unfold st1; rw [if_pos ho])
        clear ho
        go_wp2
        go_round
        case rel => exact ⟨k + 1, by omega, by go_num, by rw [HS.out, HT.out]⟩
        case measure => simp [intOf]; omega
      · have h1 : ((x : Int) % 2 == 1) = false := by simp; omega
        have HT := Lib.hid (show st1 x = x / 2 by unfold st1; rw [if_neg ho])
        clear ho
        go_wp2
        go_round
        case rel => exact ⟨k + 1, by omega, by go_num, by rw [HS.out, HT.out]; simp⟩
        case measure => simp [intOf]; omega
    · obtain rfl : k = 8 := by omega
      go_wp2
      go_ret
      exact ⟨rfl, rfl⟩

set_option maxHeartbeats 1000000 in
theorem rmore_any (s : Int) (A : Option Addr) (n c : Nat) (l : List UInt8) (w : World) (B : Nat) (hn : n = l.length) (hm : l.length ≤ maxLen) (h : Reads w B A (bv l)) :
    Calls Try.prog 77 #[.int .i64 s, .slice A n c] w fun e w' => e = .returned (.int .i64 (crcV s l)) ∧ w = w' := by
  subst hn
  unfold maxLen at hm
  unfold crcV
  by_cases h1 : s < 0
  · rw [if_pos (.inl h1)]
    go_enter Try.func77, Try.ntmps77
    go_wp2
    go_ret
    exact ⟨rfl, rfl⟩
  · by_cases h2 : 4294967295 < s
    · rw [if_pos (.inr h2)]
      go_enter Try.func77, Try.ntmps77
      go_wp2
      go_ret
      exact ⟨rfl, rfl⟩
    · rw [if_neg (by omega)]
      obtain ⟨m, rfl⟩ := Int.eq_ofNat_of_zero_le (show 0 ≤ s by omega)
      have hx := i64_xorc m (by omega)
      have hl := xor_lt32 m 4294967295 (by omega) (by omega)
      have HM := Lib.hid (show crcM m l = crcR (m ^^^ 4294967295) l ^^^ 4294967295 from rfl)
      generalize hq : m ^^^ 4294967295 = q at *
      clear hq
      go_enter Try.func77, Try.ntmps77
      go_wp2_with fail
      go_loop [5, 6] (fun x i => ∃ k : Nat, k ≤ l.length ∧ i = .int .i64 k ∧ x = .int .i64 (crcR q (l.take k) : Nat)) (fun _ i => l.length - (intOf i).toNat)
      case atStart => exact ⟨0, by omega, rfl, rfl⟩
      case round =>
        obtain ⟨k, hk, rfl, rfl⟩ := hrel
        by_cases hlt : k < l.length
        · obtain ⟨ad, rfl, _, hc⟩ := h.byte hlt
          have hx := crcR_lt q hl (l.take k)
          have hb := l[k].toNat_lt
          have HS := Lib.hid (show crcR q (l.take (k + 1)) = stN 8 (crcR q (l.take k) ^^^ l[k].toNat) by rw [take_snoc l k hlt, crcR_snoc])
          generalize crcR q (l.take k) = x at *
          generalize l[k].toNat = bb at *
          have e1 := i64_xor_n x bb (by omega) (by omega)
          have hy := xor_lt32 x bb hx (by omega)
          generalize x ^^^ bb = y at *
          go_wp2_with fail
          refine (step_any y hy _).mono ?_
          rintro e w1 ⟨rfl, rfl⟩
          go_wp2
          go_round
          case rel => exact ⟨k + 1, by omega, by go_num, by rw [HS.out]⟩
          case measure => simp [intOf]; omega
        · obtain rfl : k = l.length := by omega
          have hx := crcR_lt q hl (l.take l.length)
          have HX := Lib.hid (show crcM m l = crcR q (l.take l.length) ^^^ 4294967295 by rw [List.take_length]; exact HM.out)
          generalize crcR q (l.take l.length) = x at *
          have hc := i64_xorc x hx
          have hcl := xor_lt32 x 4294967295 hx (by omega)
          go_wp2
          go_ret
          exact ⟨by simp [HX.out], rfl⟩

theorem rsum_any (A : Option Addr) (n c : Nat) (l : List UInt8) (w : World) (B : Nat) (hn : n = l.length) (hm : l.length ≤ maxLen) (h : Reads w B A (bv l)) :
    Calls Try.prog 51 #[.slice A n c] w fun e w' => e = .returned (.int .i64 (crcM 0 l : Nat)) ∧ w = w' := by
  subst hn
  go_enter Try.func51, Try.ntmps51
  go_wp2_with fail
  refine (rmore_any 0 A _ c l w B rfl hm h).mono ?_
  rintro e w1 ⟨rfl, rfl⟩
  rw [show crcV 0 l = ((crcM 0 l : Nat) : Int) from rfl]
  go_wp2
  go_ret
  exact ⟨rfl, rfl⟩
end Go.Proofs.Ytcnalndhlonblaa
