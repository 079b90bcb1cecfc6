/-
  What package tall's functions and the reference's compute, each walked once.
-/
import Derived.Test.YtnebmkkaobedaaaWidth
import Derived.Test.YtnebmkkaobedaaaSame
namespace Go.Proofs.Ytnebmkkaobedaaa
open Go.RowKit

/-- naturals in the cells of a slice -/
def nv (l : List Nat) : List Value := iv (l.map fun n : Nat => (n : Int))
theorem nv_len (l : List Nat) : (nv l).length = l.length := by simp [nv, iv]
theorem nv_append (a b : List Nat) : nv (a ++ b) = nv a ++ nv b := by simp [nv, iv]
theorem over_any (n m : Nat) (hm : 0 < m) (hn : n ≤ 1099511627776) (hm2 : m ≤ 1099511627776) (w : World) :
    Calls Try.prog 69 #[.int .i64 n, .int .i64 m] w fun e w' => e = .returned (.int .i64 (overV n m)) ∧ w = w' := by
  have hx := overV_max n m hm
  have hq : ((n : Int) + m - 1) / m = (((n + m - 1) / m : Nat) : Int) := by
    rw [Int.natCast_ediv]
    congr 1
    omega
  generalize (n + m - 1) / m = q at *
  have HX := Lib.hid hx
  have HQ := Lib.hid hq
  have h1 : (0 : Int) < (m : Int) := by omega
  have h2 : (0 : Int) ≤ (n : Int) + m - 1 := by omega
  have h3 : ((m : Int) == 0) = false := by simp; omega
  clear hx hq
  go_enter Try.func69, Try.ntmps69
  go_wp2
  all_goals
    have e1 := HX.out
    have e2 := HQ.out
    rw [e2] at h
    have e3 : ((overV n m : Nat) : Int) = q ∨ (((overV n m : Nat) : Int) = 1 ∧ (q : Int) ≤ 1) := by omega
    rcases e3 with e3 | e3
    all_goals
      go_ret
      exact ⟨ret_int (by first | (rw [e2]; omega) | omega), rfl⟩
/-- levels without their last, then those from the last on -/
theorem last_get (l : List Nat) (k : Nat) : (l ++ [k])[l.length]? = some k := by simp
set_option maxRecDepth 100000 in
set_option maxHeartbeats 1000000 in
theorem levels_any (t n : Int) (w : World) : Calls Try.prog 40 #[.int .i64 t, .int .i64 n] w (Gives 3 (nv (levelsV t n)) w) := by
  obtain ⟨i0', hi, hz0, hz1, hz2⟩ := info_parts Try.infoI64
  have h1 := fun W => max_any t true W
  have h2 := fun W => max_any t false W
  have hb := maxV_both t
  have hl := maxV_leaf t
  by_cases hz : maxV t true = 0
  · have hv : levelsV t n = [] := by unfold levelsV; rw [if_pos (.inl hz)]
    rw [hv]
    rw [hz] at h1
    clear hv hb hz hl
    generalize maxV t false = mi at *
    go_enter Try.func40, Try.ntmps40
    go_wp2_with fail
    refine (h1 _).mono ?_
    rintro e w1 ⟨rfl, rfl⟩
    go_wp2_with fail
    refine (h2 _).mono ?_
    rintro e w1 ⟨rfl, rfl⟩
    go_wp2
    go_ret
    exact ⟨none, 0, rfl, World.ownsRow_nil _ _ _ _, Below.refl _ _⟩
  obtain ⟨hi18, hl6⟩ := hb hz
  have d1 : ((maxV t true : Int) == 0) = false := by simp; omega
  rw [hi18] at h2
  by_cases hn : n < 0 ∨ 32768 < n
  · have hv : levelsV t n = [] := by unfold levelsV; rw [if_pos (by omega)]
    rw [hv]
    clear hv hb hl hi18 hl6
    generalize maxV t true = ml at *
    by_cases h0 : n < 0
    · have d2 : decide (n < 0) = true := decide_eq_true h0
      clear hn hz
      go_enter Try.func40, Try.ntmps40
      go_wp2_with fail
      refine (h1 _).mono ?_
      rintro e w1 ⟨rfl, rfl⟩
      go_wp2_with fail
      refine (h2 _).mono ?_
      rintro e w1 ⟨rfl, rfl⟩
      go_wp2
      go_ret
      exact ⟨none, 0, rfl, World.ownsRow_nil _ _ _ _, Below.refl _ _⟩
    · have d2 : decide (n < 0) = false := decide_eq_false h0
      have d3 : decide (32768 < n) = true := decide_eq_true (by omega)
      clear hn hz
      go_enter Try.func40, Try.ntmps40
      go_wp2_with fail
      refine (h1 _).mono ?_
      rintro e w1 ⟨rfl, rfl⟩
      go_wp2_with fail
      refine (h2 _).mono ?_
      rintro e w1 ⟨rfl, rfl⟩
      go_wp2
      go_ret
      exact ⟨none, 0, rfl, World.ownsRow_nil _ _ _ _, Below.refl _ _⟩
  obtain ⟨m, rfl⟩ := Int.eq_ofNat_of_zero_le (show 0 ≤ n by omega)
  have hm : m ≤ 32768 := by omega
  have hv : levelsV t (m : Int) = lvl 18 (overV m (maxV t true)) := by unfold levelsV; rw [if_neg (by omega), Int.toNat_natCast]
  rw [hv]
  have d2 : decide ((m : Int) < 0) = false := decide_eq_false (by omega)
  have d3 : decide ((32768 : Int) < m) = false := decide_eq_false (by omega)
  have ho := over_any m (maxV t true) (by omega) (by omega) (by omega)
  have hk0 := overV_le m (maxV t true)
  clear hv hb hn hi18 hz hl hl6
  generalize maxV t true = ml at *
  generalize overV m ml = k0 at *
  go_enter Try.func40, Try.ntmps40
  go_wp2_with fail
  refine (h1 _).mono ?_
  rintro e w1 ⟨rfl, rfl⟩
  go_wp2_with fail
  refine (h2 _).mono ?_
  rintro e w1 ⟨rfl, rfl⟩
  go_wp2_with fail
  refine (ho _).mono ?_
  rintro e w1 ⟨rfl, rfl⟩
  clear h1 h2 ho
  have hown0 := World.ownsRow_lit (e := 3) (size := 1) (base := w.heap.size) w #[.int .i64 k0] 1 (Nat.le_refl _) (by simp [maxLen]) (by simp)
  go_wp2_with fail
  go_loopw [7] (fun v wr => ∃ (done : List Nat) (k : Nat), lvl 18 k0 = done ++ lvl 18 k ∧ k + done.length ≤ k0 ∧ wr.ownsRow w.heap.size 3 1 v (done.length + 1) (nv (done ++ [k])) ∧ Below w.heap.size w wr) (fun v _ => match v with | .slice _ n _ => k0 + 2 - n | _ => 0)
  case atStart => exact ⟨[], k0, by simp, by simp, hown0, below_alloc1 w _⟩
  case round =>
    obtain ⟨done, k, hlv, hkd, hown, hbr⟩ := hrel
    obtain ⟨Ao, co, rfl⟩ := own_form hown
    obtain ⟨g, rfl, hc⟩ := own_cells hown (by omega)
    have hck := hc done.length (.int .i64 k) (by simp [nv, iv])
    have HLV := Lib.hid hlv
    clear hlv hc
    by_cases hk : 1 < k
    · have d4 : decide ((1 : Int) < (k : Int)) = true := decide_eq_true (by omega)
      have hlt := overV_lt (k := k) (m := 18) (by omega) hk
      have ho := over_any k 18 (by omega) (by omega) (by omega)
      have HM := Lib.hid (lvl_more 18 k (by omega) hk)
      generalize overV k 18 = k2 at *
      have hr2 := Reads.new wr (nv [k2]) 3 (0, 0)
      have hsz := hbr.size
      rw [show ((18 : Nat) : Int) = 18 from rfl] at ho
      go_wp2_with fail
      refine (ho _).mono ?_
      rintro e w1 ⟨rfl, rfl⟩
      clear ho
      go_wp2_with (at_builtin; refine wpList_append_to _ rfl (.tmp 33) (.tmp 42) _ rfl w.heap.size 3 i0' _ 8 Try.underlying42 hi hz0 hz1 hz2 rfl _ (done.length + 1) (nv (done ++ [k])) rfl (hown.alloc _) _ _ 1 1 (nv [k2]) rfl rfl hr2 (iv_one _) (by simp only [maxLen]; omega) (by omega) (by simp; omega) ?_; intro A' c' w3 hown3 hg3 hb3 _)
      go_roundw
      case rel => exact ⟨done ++ [k], k2, by rw [HLV.out, HM.out]; simp, by rw [List.length_append]; simp; omega, by rw [List.length_append, nv_append]; exact hown3, (hbr.alloc hsz _).trans hb3⟩
      case measure => simp; omega
    · have d4 : decide ((1 : Int) < (k : Int)) = false := decide_eq_false (by omega)
      have HM := Lib.hid (lvl_one 18 k hk)
      go_wp2
      go_ret
      exact ⟨some ⟨g, 0, none⟩, co, by rw [HLV.out, HM.out, nv_len, List.length_append]; rfl, by rw [HLV.out, HM.out, nv_len, List.length_append]; exact hown, hbr⟩
/-- a sum of naturals, so far -/
theorem sum_snoc (l : List Nat) (k : Nat) (h : k < l.length) : (l.take (k + 1)).sum = (l.take k).sum + l[k] := by
  rw [take_snoc l k h, List.sum_append]; simp
theorem sum_take_le (l : List Nat) (k : Nat) : (l.take k).sum ≤ l.sum := by
  conv => rhs; rw [← List.take_append_drop k l]
  rw [List.sum_append]
  omega
theorem levels_bound (t n : Int) : (levelsV t n).length ≤ 40000 ∧ (levelsV t n).sum ≤ 1200000000 := by
  unfold levelsV
  split
  · simp
  · rename_i h
    have h1 := overV_le n.toNat (maxV t true)
    have hk : overV n.toNat (maxV t true) ≤ 32769 := by omega
    generalize overV n.toNat (maxV t true) = k at *
    have h2 := lvl_len 18 (by omega) k
    have h3 := lvl_sum 18 (by omega) k
    have h4 : k * k ≤ 32769 * 32769 := Nat.mul_le_mul hk hk
    omega
set_option maxHeartbeats 1000000 in
theorem nodes_any (t n : Int) (w : World) : Calls Try.prog 51 #[.int .i64 t, .int .i64 n] w fun e w' => e = .returned (.int .i64 (nodesV t n)) ∧ Below w.heap.size w w' := by
  have hl := levels_any t n w
  obtain ⟨b1, b2⟩ := levels_bound t n
  unfold nodesV
  generalize levelsV t n = l at *
  go_enter Try.func51, Try.ntmps51
  go_wp2_with fail
  refine hl.mono ?_
  rintro e w1 ⟨A, c, rfl, hown, hB⟩
  rw [nv_len] at hown
  rw [nv_len]
  have hr := Reads.of_own hown
  clear hl hown
  go_wp2_with fail
  go_loop [5, 12] (fun s i => ∃ k : Nat, k ≤ l.length ∧ i = .int .i64 k ∧ s = .int .i64 ((l.take k).sum : Nat)) (fun _ i => l.length - (intOf i).toNat)
  case atStart => exact ⟨0, by omega, rfl, rfl⟩
  case round =>
    obtain ⟨k, hk, rfl, rfl⟩ := hrel
    by_cases hlt : k < l.length
    · obtain ⟨ad, rfl, _, hc⟩ := hr.num (k := k) (by simpa using hlt)
      rw [List.getElem_map] at hc
      have hs := sum_snoc l k hlt
      have h1 := sum_take_le l (k + 1)
      have HS := Lib.hid hs
      have hx : (l.take k).sum + l[k] ≤ 1200000000 := by omega
      clear hs h1
      generalize l[k] = x at *
      generalize (l.take k).sum = y at *
      go_wp2
      go_round
      case rel => exact ⟨k + 1, by omega, by go_num, by rw [HS.out]; go_num⟩
      case measure => simp [intOf]; omega
    · obtain rfl : k = l.length := by omega
      go_wp2
      go_ret
      exact ⟨by first | rfl | (rw [List.take_length]; rfl), hB⟩
set_option maxHeartbeats 1000000 in
theorem sizes_bad (n m : Int) (h : n < 0 ∨ 32768 < n ∨ m < 1) (w : World) : Calls Try.prog 53 #[.int .i64 n, .int .i64 m] w fun e w' => e = .returned (.slice none 0 0) ∧ w = w' := by
  by_cases h0 : n < 0
  · have d1 : decide (n < 0) = true := decide_eq_true h0
    clear h
    go_enter Try.func53, Try.ntmps53
    go_wp2
    go_ret
    exact ⟨rfl, rfl⟩
  have d1 : decide (n < 0) = false := decide_eq_false h0
  by_cases h1 : 32768 < n
  · have d2 : decide (32768 < n) = true := decide_eq_true h1
    clear h
    go_enter Try.func53, Try.ntmps53
    go_wp2
    go_ret
    exact ⟨rfl, rfl⟩
  have d2 : decide (32768 < n) = false := decide_eq_false h1
  have d3 : decide (m < 1) = true := decide_eq_true (by omega)
  clear h
  go_enter Try.func53, Try.ntmps53
  go_wp2
  go_ret
  exact ⟨rfl, rfl⟩
end Go.Proofs.Ytnebmkkaobedaaa
