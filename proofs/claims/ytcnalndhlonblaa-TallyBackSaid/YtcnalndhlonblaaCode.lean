/-
  What package code's functions and the reference's compute, each walked once: numbers in bytes.
-/
import Derived.Test.YtcnalndhlonblaaChecked
import Derived.Test.YtcnalndhlonblaaCodeP
import Derived.Deep.RegionHeld3
import Derived.Deep.DrawnRows
namespace Go.Proofs.Ytcnalndhlonblaa
open Go.RowKit

theorem Try.infoInt : (Try.prog.info? 3).map (fun i => (i.zero, i.size, i.bytes)) = some (some (.int .i64 0), 1, 8) := by kernel_rfl
theorem Try.infoU8 : (Try.prog.info? 5).map (fun i => (i.zero, i.size, i.bytes)) = some (some (.int .u8 0), 1, 1) := by kernel_rfl

/-- a copy of bytes of the call's own -/
theorem clone_any (A : Option Addr) (c : Nat) (l : List UInt8) (w : World) (B : Nat) (hB : B ≤ w.heap.size) (hm : l.length ≤ reachBytes) (h : Reads w B A (bv l)) :
    Calls Try.prog 41 #[.slice A l.length c] w (Gives 5 (bv l) w) := by
  simp only [reachBytes] at hm
  obtain ⟨i0, hi, hz0, hz1, hz2⟩ := info_parts Try.infoU8
  have hown0 := World.ownsRow_lit (e := 5) (size := 1) (base := w.heap.size) w #[] 0 (Nat.le_refl _) (by simp) (by rfl)
  cases A with
  | none =>
    have h0 : l = [] := by
      rcases l with _ | ⟨b, l⟩
      · rfl
      · obtain ⟨_, h, _⟩ := h (by simp [bv]); cases h
    subst h0
    have he := fun w => Lib.run_eql_slice_nil (P := Try.prog) w 43
    go_enter Try.func41, Try.ntmps41
    go_wp2_with fail
    go_ret
    exact ⟨none, 0, rfl, World.ownsRow_nil _ _ _ _, Below.refl _ _⟩
  | some ad =>
    have he := fun w => Lib.run_eql_slice_nil (P := Try.prog) w 43
    go_enter Try.func41, Try.ntmps41
    go_wp2_with (at_builtin; refine wpList_append_to _ rfl (.tmp 5) (.tmp 6) _ rfl w.heap.size 5 i0 _ 1 Try.underlying43 hi hz0 hz1 hz2 rfl _ 0 [] rfl hown0 _ (some ad) l.length c (bv l) rfl (bv_len l).symm (h.alloc hB _) (bv_one _) (by simp only [maxLen]; omega) (by omega) (by simp) ?_; intro A' c' w2 hown2 hg2 hb2 _)
    simp only [Nat.zero_add, List.nil_append] at hown2
    go_ret
    exact ⟨A', c', by rw [bv_len]; simp, by rw [bv_len]; exact hown2, (below_alloc1 w _).trans hb2⟩

theorem known_any (x : Int) (w : World) : Calls Try.prog 65 #[.int .i64 x] w fun e w' => e = .returned (.bool (knownB x)) ∧ w = w' := by
  have hk := knownB_iff x
  have fin : ∀ b : Bool, knownB x = b → Calls Try.prog 65 #[.int .i64 x] w (fun e w' => e = .returned (.bool b) ∧ w = w') → Calls Try.prog 65 #[.int .i64 x] w fun e w' => e = .returned (.bool (knownB x)) ∧ w = w' := fun b hb h => by rw [hb]; exact h
  by_cases h1 : x = 1
  · refine fin true (hk.2 (.inl h1)) ?_
    subst h1; clear fin hk
    go_enter Try.func65, Try.ntmps65
    go_wp2
    go_ret
    exact ⟨rfl, rfl⟩
  · by_cases h2 : x = 2
    · refine fin true (hk.2 (.inr (.inl h2))) ?_
      subst h2; clear fin hk h1
      go_enter Try.func65, Try.ntmps65
      go_wp2
      go_ret
      exact ⟨rfl, rfl⟩
    · by_cases h3 : x = 4
      · refine fin true (hk.2 (.inr (.inr (.inl h3)))) ?_
        subst h3; clear fin hk h1 h2
        go_enter Try.func65, Try.ntmps65
        go_wp2
        go_ret
        exact ⟨rfl, rfl⟩
      · by_cases h4 : x = 8
        · refine fin true (hk.2 (.inr (.inr (.inr h4)))) ?_
          subst h4; clear fin hk h1 h2 h3
          go_enter Try.func65, Try.ntmps65
          go_wp2
          go_ret
          exact ⟨rfl, rfl⟩
        · refine fin false (by rw [Bool.eq_false_iff]; intro h; have := hk.1 h; omega) ?_
          have e1 : (x == 1) = false := by simpa using h1
          have e2 : (x == 2) = false := by simpa using h2
          have e3 : (x == 4) = false := by simpa using h3
          have e4 : (x == 8) = false := by simpa using h4
          clear fin hk h1 h2 h3 h4
          go_enter Try.func65, Try.ntmps65
          go_wp2
          go_ret
          exact ⟨rfl, rfl⟩
theorem there_any (A : Option Addr) (c n : Nat) (a x : Int) (w : World) (hm : n ≤ reachBytes) :
    Calls Try.prog 78 #[.slice A n c, .int .i64 a, .int .i64 x] w fun e w' => e = .returned (.int .i64 (thereV n a x)) ∧ w = w' := by
  simp only [reachBytes] at hm
  unfold thereV
  by_cases hk : knownB x = true
  · rw [if_pos hk]
    by_cases h1 : a < 0
    · rw [if_pos (.inl h1)]
      go_enter Try.func78, Try.ntmps78
      go_wp2_with (go_at_call 65; refine (known_any _ _).mono ?_; rintro e w' ⟨rfl, rfl⟩)
      go_ret
      exact ⟨rfl, rfl⟩
    · by_cases h2 : (n : Int) < a
      · rw [if_pos (.inr (.inl h2))]
        go_enter Try.func78, Try.ntmps78
        go_wp2_with (go_at_call 65; refine (known_any _ _).mono ?_; rintro e w' ⟨rfl, rfl⟩)
        go_ret
        exact ⟨rfl, rfl⟩
      · by_cases h3 : (n : Int) - a < x
        · rw [if_pos (.inr (.inr h3))]
          go_enter Try.func78, Try.ntmps78
          go_wp2_with (go_at_call 65; refine (known_any _ _).mono ?_; rintro e w' ⟨rfl, rfl⟩)
          go_ret
          exact ⟨rfl, rfl⟩
        · rw [if_neg (by omega)]
          go_enter Try.func78, Try.ntmps78
          go_wp2_with (go_at_call 65; refine (known_any _ _).mono ?_; rintro e w' ⟨rfl, rfl⟩)
          go_ret
          exact ⟨rfl, rfl⟩
  · rw [if_neg hk]
    have hk' : knownB x = false := by simpa using hk
    clear hk
    go_enter Try.func78, Try.ntmps78
    go_wp2_with (go_at_call 65; refine (known_any _ _).mono ?_; rintro e w' ⟨rfl, rfl⟩)
    go_ret
    exact ⟨rfl, rfl⟩

theorem fits_any (n x : Int) (w : World) : Calls Try.prog 66 #[.int .i64 n, .int .i64 x] w fun e w' => e = .returned (.bool (fitsB n x)) ∧ w = w' := by
  unfold fitsB
  by_cases h0 : n < 0
  · have hf : decide (0 ≤ n ∧ (x = 1 → n < 256) ∧ (x = 2 → n < 65536) ∧ (x = 4 → n < 4294967296)) = false := decide_eq_false (by omega)
    rw [hf]; clear hf
    go_enter Try.func66, Try.ntmps66
    go_wp2
    go_ret
    exact ⟨rfl, rfl⟩
  · by_cases h1 : x = 1
    · subst h1
      have hf : decide (0 ≤ n ∧ ((1 : Int) = 1 → n < 256) ∧ ((1 : Int) = 2 → n < 65536) ∧ ((1 : Int) = 4 → n < 4294967296)) = decide (n < 256) := decide_eq_decide.2 (by omega)
      rw [hf]; clear hf
      go_enter Try.func66, Try.ntmps66
      go_wp2
      go_ret
      exact ⟨rfl, rfl⟩
    · by_cases h2 : x = 2
      · subst h2
        have hf : decide (0 ≤ n ∧ ((2 : Int) = 1 → n < 256) ∧ ((2 : Int) = 2 → n < 65536) ∧ ((2 : Int) = 4 → n < 4294967296)) = decide (n < 65536) := decide_eq_decide.2 (by omega)
        rw [hf]; clear hf h1
        go_enter Try.func66, Try.ntmps66
        go_wp2
        go_ret
        exact ⟨rfl, rfl⟩
      · by_cases h3 : x = 4
        · subst h3
          have hf : decide (0 ≤ n ∧ ((4 : Int) = 1 → n < 256) ∧ ((4 : Int) = 2 → n < 65536) ∧ ((4 : Int) = 4 → n < 4294967296)) = decide (n < 4294967296) := decide_eq_decide.2 (by omega)
          rw [hf]; clear hf h1 h2
          go_enter Try.func66, Try.ntmps66
          go_wp2
          go_ret
          exact ⟨rfl, rfl⟩
        · have hf : decide (0 ≤ n ∧ (x = 1 → n < 256) ∧ (x = 2 → n < 65536) ∧ (x = 4 → n < 4294967296)) = true := decide_eq_true (by omega)
          rw [hf]; clear hf
          have e1 : (x == 1) = false := by simpa using h1
          have e2 : (x == 2) = false := by simpa using h2
          have e3 : (x == 4) = false := by simpa using h3
          clear h1 h2 h3
          go_enter Try.func66, Try.ntmps66
          go_wp2
          go_ret
          exact ⟨rfl, rfl⟩

theorem u8v (m : Nat) : ((UInt8.ofNat (m % 256)).toNat : Int) = (m : Int) % 256 := by
  rw [UInt8.toNat_ofNat', Nat.mod_eq_of_lt (by omega)]; omega
theorem bv_leb (k n : Nat) : bv (leb k n) = (List.range k).map fun i => .int .u8 (((n / 256 ^ i : Nat) : Int) % 256) := by
  induction k with
  | zero => rfl
  | succ k ih => rw [leb_snoc, bv_append, ih, List.range_succ, List.map_append]; simp [bv]
/-- the upper half's bytes, laid below place 4 + j -/
def hiA (n : Nat) : Nat → Array Value
  | 0 => Array.replicate 8 (.int .u8 0)
  | j + 1 => (hiA n j).setIfInBounds (4 + j) (.int .u8 ((n : Int) / 2 ^ (8 * (4 + j)) % 256))
theorem hiA_size (n j : Nat) : (hiA n j).size = 8 := by
  induction j with
  | zero => rfl
  | succ j ih => simp [hiA, ih]
theorem bytes_end (n k : Nat) (w : World) (t : TypeId) (cs : List Value) (h : cs.take k = bv (leb k n)) : Reads (w.alloc (.cells cs.toArray t)) (w.heap.size + 1) (some ⟨w.heap.size, 0, none⟩) (bv (leb k n)) := by
  rw [← h]
  exact (Reads.new w cs t (0, 0)).take k

set_option maxHeartbeats 1000000 in
theorem bytes_any (n : Nat) (_hn : n < 9223372036854775808) (x : Int) (hx : knownB x = true) (w : World) : Calls Try.prog 67 #[.int .i64 n, .int .i64 x] w (Gives 5 (bv (leb x.toNat n)) w) := by
  have hx' := (knownB_iff x).1 hx
  clear hx
  rcases hx' with rfl | rfl | rfl | rfl
  · have hE := bytes_end n 1 w 133 [.int .u8 ((n : Int) % 256), .int .u8 0, .int .u8 0, .int .u8 0, .int .u8 0, .int .u8 0, .int .u8 0, .int .u8 0] (by rw [bv_leb]; simp [List.range_succ])
    go_enter Try.func67, Try.ntmps67
    go_wp2_with fail
    refine (clone_any _ 8 (leb 1 n) _ (w.heap.size + 1) (by simp) (by rw [leb_len]; decide) hE).mono ?_
    rintro e w1 hG
    have hG2 := Gives.from (below_alloc1 w _) hG
    clear hG hE
    obtain ⟨A, c, rfl, hown, hb⟩ := hG2
    go_wp2
    go_ret
    exact ⟨A, c, rfl, hown, hb⟩
  · have hE := bytes_end n 2 w 133 [.int .u8 ((n : Int) % 256), .int .u8 ((n : Int) / 256 % 256), .int .u8 0, .int .u8 0, .int .u8 0, .int .u8 0, .int .u8 0, .int .u8 0] (by rw [bv_leb]; simp [List.range_succ])
    go_enter Try.func67, Try.ntmps67
    go_wp2_with fail
    refine (clone_any _ 8 (leb 2 n) _ (w.heap.size + 1) (by simp) (by rw [leb_len]; decide) hE).mono ?_
    rintro e w1 hG
    have hG2 := Gives.from (below_alloc1 w _) hG
    clear hG hE
    obtain ⟨A, c, rfl, hown, hb⟩ := hG2
    go_wp2
    go_ret
    exact ⟨A, c, rfl, hown, hb⟩
  · have hE := bytes_end n 4 w 133 [.int .u8 ((n : Int) % 256), .int .u8 ((n : Int) / 256 % 256), .int .u8 ((n : Int) / 65536 % 256), .int .u8 ((n : Int) / 16777216 % 256), .int .u8 0, .int .u8 0, .int .u8 0, .int .u8 0] (by rw [bv_leb]; simp [List.range_succ])
    go_enter Try.func67, Try.ntmps67
    go_wp2_with fail
    refine (clone_any _ 8 (leb 4 n) _ (w.heap.size + 1) (by simp) (by rw [leb_len]; decide) hE).mono ?_
    rintro e w1 hG
    have hG2 := Gives.from (below_alloc1 w _) hG
    clear hG hE
    obtain ⟨A, c, rfl, hown, hb⟩ := hG2
    go_wp2
    go_ret
    exact ⟨A, c, rfl, hown, hb⟩
  · go_enter Try.func67, Try.ntmps67
    go_wp2_with fail
    go_loopw [6] (fun i wr => ∃ j : Nat, j ≤ 4 ∧ i = .int .i64 ((4 + j : Nat) : Int) ∧ wr = w.alloc (.cells (hiA n j) 133)) (fun i _ => 8 - (intOf i).toNat)
    case atStart => exact ⟨0, by omega, rfl, rfl⟩
    case round =>
      obtain ⟨j, hj, rfl, rfl⟩ := hrel
      have hsz := hiA_size n j
      by_cases hlt : j < 4
      · obtain ⟨v0, hv0⟩ : ∃ v, (hiA n j)[4 + j]? = some v := ⟨_, Array.getElem?_eq_getElem (by omega)⟩
        go_wp2
        go_roundw
        case rel => exact ⟨j + 1, by omega, by go_num, rfl⟩
        case measure => simp [intOf]; omega
      · obtain rfl : j = 4 := by omega
        clear hsz
        rw [show hiA n 4 = #[.int .u8 0, .int .u8 0, .int .u8 0, .int .u8 0, .int .u8 ((n : Int) / 2 ^ 32 % 256), .int .u8 ((n : Int) / 2 ^ 40 % 256), .int .u8 ((n : Int) / 2 ^ 48 % 256), .int .u8 ((n : Int) / 2 ^ 56 % 256)] from rfl]
        have hE := bytes_end n 8 w 133 [.int .u8 ((n : Int) % 256), .int .u8 ((n : Int) / 256 % 256), .int .u8 ((n : Int) / 65536 % 256), .int .u8 ((n : Int) / 16777216 % 256), .int .u8 ((n : Int) / 4294967296 % 256), .int .u8 ((n : Int) / 1099511627776 % 256), .int .u8 ((n : Int) / 281474976710656 % 256), .int .u8 ((n : Int) / 72057594037927936 % 256)] (by rw [bv_leb]; simp [List.range_succ])
        go_wp2_with fail
        refine (clone_any _ 8 (leb 8 n) _ (w.heap.size + 1) (by simp) (by rw [leb_len]; decide) hE).mono ?_
        rintro e w1 hG
        have hG2 := Gives.from (below_alloc1 w _) hG
        clear hG hE
        obtain ⟨A, c, rfl, hown, hb⟩ := hG2
        go_wp2
        go_ret
        exact ⟨A, c, rfl, hown, hb⟩

/-- a place's byte -/
theorem byte_at {w : World} {B : Nat} {A : Option Addr} {l : List UInt8} (h : Reads w B A (bv l)) {k : Nat} (hk : k < l.length) : ∃ ad b, A = some ad ∧ ad.block < B ∧ l[k]? = some b ∧ w.cell? (ad.add k) = some (.int .u8 (b.toNat : Int)) := by
  obtain ⟨ad, e, hb, hc⟩ := h.byte hk
  exact ⟨ad, l[k], e, hb, List.getElem?_eq_getElem hk, hc⟩
/-- the bytes from a place on, taken from the back: one more -/
theorem le_back (l : List UInt8) (k : Nat) (h : k < l.length) : le (l.drop k) = l[k].toNat + 256 * le (l.drop (k + 1)) := by
  rw [List.drop_eq_getElem_cons h]; rfl

set_option maxHeartbeats 1000000 in
theorem get_any (A : Option Addr) (c : Nat) (l : List UInt8) (a x : Int) (w : World) (B : Nat) (hm : l.length ≤ reachBytes) (h : Reads w B A (bv l)) :
    Calls Try.prog 52 #[.slice A l.length c, .int .i64 a, .int .i64 x] w fun e w' => e = .returned (.tuple #[.int .i64 (getV l a x).1, .int .i64 (getV l a x).2]) ∧ w = w' := by
  have hm2 := hm
  simp only [reachBytes] at hm2
  rcases thereV_cases l.length a x with ht | ht | ht
  · obtain ⟨hk, h0, h1⟩ := thereV_zero ht
    have hx := (knownB_iff x).1 hk
    obtain ⟨at_, rfl⟩ := Int.eq_ofNat_of_zero_le h0
    obtain ⟨wd, rfl⟩ := Int.eq_ofNat_of_zero_le (show 0 ≤ x by omega)
    have hV := Lib.hid (show getV l at_ wd = (if le ((l.drop at_).take wd) < 9223372036854775808 then ((le ((l.drop at_).take wd) : Int), 0) else (0, 2)) by
      unfold getV getN; rw [if_pos ht]; rfl)
    have hwd : wd ≤ 8 := by omega
    have hlen : ((l.drop at_).take wd).length = wd := by rw [List.length_take, List.length_drop]; omega
    have hcl : ∀ m, m < wd → ∃ ad b, A = some ad ∧ ((l.drop at_).take wd)[m]? = some b ∧ w.cell? (ad.add (at_ + m)) = some (.int .u8 (b.toNat : Int)) := fun i hi => by
      obtain ⟨ad, b, e, _, hb, hc⟩ := byte_at h (k := at_ + i) (by omega)
      exact ⟨ad, b, e, by rw [List.getElem?_take, if_pos hi, List.getElem?_drop, hb], hc⟩
    have HC := Lib.hid hcl
    have HT := Lib.hid ht
    generalize (l.drop at_).take wd = S at *
    clear hcl ht hx hk h
    go_enter Try.func52, Try.ntmps52
    go_wp2_with fail
    refine (there_any _ _ _ _ _ _ hm).mono ?_
    rintro e w' ⟨rfl, rfl⟩
    rw [HT.out]
    clear HT
    have hat2 : at_ + wd ≤ l.length := by omega
    go_wp2_with fail
    go_loop [9, 10] (fun v i => ∃ m : Nat, m ≤ wd ∧ i = .int .i64 ((m : Int) - 1) ∧ v = .int .u64 (le (S.drop m) : Nat)) (fun _ i => (intOf i + 1).toNat)
    case atStart => exact ⟨wd, by omega, rfl, by rw [List.drop_of_length_le (by omega)]; rfl⟩
    case round =>
      obtain ⟨m, hmw, rfl, rfl⟩ := hrel
      by_cases h1 : 1 ≤ m
      · obtain ⟨k, rfl⟩ : ∃ k, m = k + 1 := ⟨m - 1, by omega⟩
        obtain ⟨ad, b, rfl, hb, hc⟩ := HC.out k (by omega)
        have hlt := le_lt (S.drop (k + 1))
        rw [List.length_drop, hlen] at hlt
        have hlt2 : le (S.drop (k + 1)) < 72057594037927936 := Nat.lt_of_lt_of_le hlt (Nat.le_trans (Nat.pow_le_pow_right (by omega) (show wd - (k + 1) ≤ 7 by omega)) (by decide))
        have hkl : k < S.length := by omega
        have HL := Lib.hid (le_back S k hkl)
        have hbS : S[k] = b := by rw [List.getElem?_eq_getElem hkl] at hb; injection hb
        rw [hbS] at HL
        have hb8 := b.toNat_lt
        clear hlt hb hbS
        generalize le (S.drop (k + 1)) = x at *
        generalize b.toNat = bb at *
        have ho := u64_or_join x bb hlt2 hb8
        go_wp2
        go_round
        case rel => exact ⟨k, by omega, by go_num, by rw [HL.out]; simp⟩
        case measure => simp [intOf]
      · obtain rfl : m = 0 := by omega
        have hlt := le_lt S
        rw [hlen] at hlt
        have hlt2 : le S < 18446744073709551616 := Nat.lt_of_lt_of_le hlt (Nat.le_trans (Nat.pow_le_pow_right (by omega) hwd) (by decide))
        rw [List.drop_zero]
        clear hlt HC
        generalize le S = x at *
        have HLT := Lib.hid hlt2
        clear hlt2
        by_cases hbig : x < 9223372036854775808
        · rw [if_pos hbig] at hV
          have hd : decide ((9223372036854775808 : Int) ≤ (x : Int)) = false := decide_eq_false (by omega)
          have HW := Lib.hid (show wrap64 (x : Int) = x from IntWalk.wrap64_in _ ⟨by omega, by omega⟩)
          clear hbig
          go_wp2
          go_ret2
          rw [hV.out]
          refine ⟨?_, rfl⟩
          show Ending.returned (.tuple #[.int .i64 (wrap64 (x : Int)), .int .i64 0]) = _
          rw [HW.out]
        · rw [if_neg hbig] at hV
          have hd : decide ((9223372036854775808 : Int) ≤ (x : Int)) = true := decide_eq_true (by omega)
          clear hbig
          go_wp2
          go_ret2
          rw [hV.out]
          exact ⟨rfl, rfl⟩
  · have hV := Lib.hid (show getV l a x = (0, 1) by unfold getV; rw [if_neg (by omega), ht])
    go_enter Try.func52, Try.ntmps52
    go_wp2_with fail
    refine (there_any _ _ _ _ _ _ hm).mono ?_
    rintro e w' ⟨rfl, rfl⟩
    rw [ht]
    go_wp2
    go_ret2
    rw [hV.out]
    exact ⟨rfl, rfl⟩
  · have hV := Lib.hid (show getV l a x = (0, 3) by unfold getV; rw [if_neg (by omega), ht])
    go_enter Try.func52, Try.ntmps52
    go_wp2_with fail
    refine (there_any _ _ _ _ _ _ hm).mono ?_
    rintro e w' ⟨rfl, rfl⟩
    rw [ht]
    go_wp2
    go_ret2
    rw [hV.out]
    exact ⟨rfl, rfl⟩
end Go.Proofs.Ytcnalndhlonblaa
