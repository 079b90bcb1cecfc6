/-
  What the reference's numbers in bytes (scantlingref01) compute, each walked once.
-/
import Derived.Test.YtcnalndhlonblaaCode2
namespace Go.Proofs.Ytcnalndhlonblaa
open Go.RowKit

theorem rwidth_any (x : Int) (w : World) : Calls Try.prog 93 #[.int .i64 x] w fun e w' => e = .returned (.bool (knownB x)) ∧ w = w' := by
  have hk := knownB_iff x
  have fin : ∀ b : Bool, knownB x = b → Calls Try.prog 93 #[.int .i64 x] w (fun e w' => e = .returned (.bool b) ∧ w = w') → Calls Try.prog 93 #[.int .i64 x] w fun e w' => e = .returned (.bool (knownB x)) ∧ w = w' := fun b hb h => by rw [hb]; exact h
  by_cases h1 : x = 1
  · refine fin true (hk.2 (.inl h1)) ?_
    subst h1; clear fin hk
    go_enter Try.func93, Try.ntmps93
    go_wp2
    go_ret
    exact ⟨rfl, rfl⟩
  · by_cases h2 : x = 2
    · refine fin true (hk.2 (.inr (.inl h2))) ?_
      subst h2; clear fin hk h1
      go_enter Try.func93, Try.ntmps93
      go_wp2
      go_ret
      exact ⟨rfl, rfl⟩
    · by_cases h3 : x = 4
      · refine fin true (hk.2 (.inr (.inr (.inl h3)))) ?_
        subst h3; clear fin hk h1 h2
        go_enter Try.func93, Try.ntmps93
        go_wp2
        go_ret
        exact ⟨rfl, rfl⟩
      · by_cases h4 : x = 8
        · refine fin true (hk.2 (.inr (.inr (.inr h4)))) ?_
          subst h4; clear fin hk h1 h2 h3
          go_enter Try.func93, Try.ntmps93
          go_wp2
          go_ret
          exact ⟨rfl, rfl⟩
        · refine fin false (by rw [Bool.eq_false_iff]; intro h; have := hk.1 h; omega) ?_
          have e1 : (x == 1) = false := by simpa using h1
          have e2 : (x == 2) = false := by simpa using h2
          have e3 : (x == 4) = false := by simpa using h3
          have e4 : (x == 8) = false := by simpa using h4
          clear fin hk h1 h2 h3 h4
          go_enter Try.func93, Try.ntmps93
          go_wp2
          go_ret
          exact ⟨rfl, rfl⟩
theorem rroom_any (A : Option Addr) (c n : Nat) (a x : Int) (w : World) (hm : n ≤ reachBytes) :
    Calls Try.prog 83 #[.slice A n c, .int .i64 a, .int .i64 x] w fun e w' => e = .returned (.int .i64 (thereV n a x)) ∧ w = w' := by
  simp only [reachBytes] at hm
  unfold thereV
  by_cases hk : knownB x = true
  · rw [if_pos hk]
    by_cases h1 : a < 0
    · rw [if_pos (.inl h1)]
      go_enter Try.func83, Try.ntmps83
      go_wp2_with (go_at_call 93; refine (rwidth_any _ _).mono ?_; rintro e w' ⟨rfl, rfl⟩)
      go_ret
      exact ⟨rfl, rfl⟩
    · by_cases h2 : (n : Int) < a
      · rw [if_pos (.inr (.inl h2))]
        go_enter Try.func83, Try.ntmps83
        go_wp2_with (go_at_call 93; refine (rwidth_any _ _).mono ?_; rintro e w' ⟨rfl, rfl⟩)
        go_ret
        exact ⟨rfl, rfl⟩
      · by_cases h3 : (n : Int) - a < x
        · rw [if_pos (.inr (.inr h3))]
          go_enter Try.func83, Try.ntmps83
          go_wp2_with (go_at_call 93; refine (rwidth_any _ _).mono ?_; rintro e w' ⟨rfl, rfl⟩)
          go_ret
          exact ⟨rfl, rfl⟩
        · rw [if_neg (by omega)]
          go_enter Try.func83, Try.ntmps83
          go_wp2_with (go_at_call 93; refine (rwidth_any _ _).mono ?_; rintro e w' ⟨rfl, rfl⟩)
          go_ret
          exact ⟨rfl, rfl⟩
  · rw [if_neg hk]
    have hk' : knownB x = false := by simpa using hk
    clear hk
    go_enter Try.func83, Try.ntmps83
    go_wp2_with (go_at_call 93; refine (rwidth_any _ _).mono ?_; rintro e w' ⟨rfl, rfl⟩)
    go_ret
    exact ⟨rfl, rfl⟩

theorem leb_append (j : Nat) : ∀ k n, leb (j + k) n = leb j n ++ leb k (n / 256 ^ j) := by
  induction j with
  | zero => intro k n; simp [leb]
  | succ j ih =>
    intro k n
    rw [Nat.succ_add, leb, ih, leb, Nat.div_div_eq_div_mul, Nat.pow_succ, Nat.mul_comm 256]
    rfl
set_option maxHeartbeats 1000000 in
theorem rbytes_any (n : Nat) (hn : n < 9223372036854775808) (x : Nat) (hx : x ≤ 8) (w : World) : Calls Try.prog 47 #[.int .i64 n, .int .i64 x] w (Gives 5 (bv (leb x n)) w) := by
  obtain ⟨i0, hi, hz0, hz1, hz2⟩ := info_parts Try.infoU8
  have HN : Hid (∀ k, n / 256 ^ k < 9223372036854775808) := fun k => Nat.lt_of_le_of_lt (Nat.div_le_self _ _) hn
  clear hn
  go_enter Try.func47, Try.ntmps47
  go_wp2_with fail
  go_loopw [0, 5, 6] (fun m v i wr => ∃ k : Nat, k ≤ x ∧ i = .int .i64 k ∧ m = .int .i64 ((n / 256 ^ k : Nat) : Int) ∧ wr.ownsRow w.heap.size 5 1 v k (bv (leb k n)) ∧ Below w.heap.size w wr) (fun _ _ i _ => x - (intOf i).toNat)
  case atStart => exact ⟨0, by omega, rfl, by simp, World.ownsRow_nil _ _ _ _, Below.refl _ _⟩
  case round =>
    obtain ⟨k, hk, rfl, rfl, hown, hbr⟩ := hrel
    by_cases hlt : k < x
    · have hd := HN.out k
      have hD2 := Lib.hid (show n / 256 ^ (k + 1) = n / 256 ^ k / 256 by rw [Nat.pow_succ, Nat.div_div_eq_div_mul])
      have hL := Lib.hid (leb_snoc k n)
      have hq : ((UInt8.ofNat (n / 256 ^ k % 256)).toNat : Int) = ((n / 256 ^ k : Nat) : Int) % 256 := u8v _
      generalize n / 256 ^ k = q at *
      have hr2 := Reads.new wr (bv [UInt8.ofNat (q % 256)]) 5 (0, 0)
      have he : bv [UInt8.ofNat (q % 256)] = [.int .u8 ((q : Int) % 256)] := by simp only [bv, List.map_cons, List.map_nil, hq]
      rw [he] at hr2
      have HE := Lib.hid he
      clear he hq
      go_wp2_with (at_builtin; refine wpList_append_to _ rfl (.tmp 12) (.tmp 16) _ rfl w.heap.size 5 i0 _ 1 Try.underlying43 hi hz0 hz1 hz2 rfl _ k (bv (leb k n)) rfl (hown.alloc _) _ _ 1 1 [.int .u8 ((q : Int) % 256)] rfl rfl hr2 (by intro u hu; simp at hu; subst hu; rfl) (by simp only [maxLen]; omega) (by omega) (by have := hbr.size; simp; omega) ?_; intro A' c' w2 hown2 hg2 hb2 _)
      go_roundw
      case rel => exact ⟨k + 1, by omega, by go_num, by rw [hD2.out]; simp, by rw [hL.out, bv_append, HE.out]; exact hown2, (hbr.trans ((below_alloc1 wr _).mono hbr.size)).trans hb2⟩
      case measure => simp [intOf]; omega
    · obtain rfl : k = x := by omega
      obtain ⟨A1, c1, rfl⟩ := own_form hown
      go_wp2
      go_ret
      exact ⟨A1, c1, by rw [bv_len, leb_len]; rfl, by rw [bv_len, leb_len]; exact hown, hbr⟩
end Go.Proofs.Ytcnalndhlonblaa
