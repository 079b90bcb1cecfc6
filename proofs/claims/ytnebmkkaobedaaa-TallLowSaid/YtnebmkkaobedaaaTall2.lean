/-
  tall.Sizes, and the reference's Sizes, Levels, Nodes, walked.
-/
import Derived.Test.YtnebmkkaobedaaaTall
namespace Go.Proofs.Ytnebmkkaobedaaa
open Go.RowKit

theorem made_nums' (n : Nat) : (madeCells (Value.int .i64 0).cells (n * 1)).toList = iv (List.replicate n 0) := by
  rw [Nat.mul_one]
  apply List.ext_getElem
  · simp [madeCells, iv]
  · intro i h1 h2
    simp [madeCells, iv, Value.cells, Nat.mod_one]
/-- what the row holds behind k rounds -/
def upTo (S : List Nat) (k : Nat) : List Value := nv (S.take k ++ List.replicate (S.length - k) 0)
theorem upTo_zero (S : List Nat) : upTo S 0 = iv (List.replicate S.length 0) := by simp [upTo, nv, iv]
theorem upTo_all (S : List Nat) : upTo S S.length = nv S := by simp [upTo]
theorem upTo_set (S : List Nat) (k : Nat) (h : k < S.length) : (upTo S k).set k (.int .i64 (S[k] : Nat)) = upTo S (k + 1) := by
  have e : S.length - k = (S.length - (k + 1)) + 1 := by omega
  have h1 : upTo S k = nv (S.take k) ++ (.int .i64 0 :: nv (List.replicate (S.length - (k + 1)) 0)) := by
    unfold upTo
    rw [nv_append, e, List.replicate_succ]
    rfl
  have h2 : (nv (S.take k)).length = k := by rw [nv_len, List.length_take]; omega
  rw [h1, List.set_append_right _ _ (by omega), h2, Nat.sub_self, List.set_cons_zero]
  unfold upTo
  rw [nv_append, take_snoc S k h, nv_append, List.append_assoc]
  rfl
set_option maxRecDepth 100000 in
set_option maxHeartbeats 2000000 in
theorem sizes_ok (n m : Nat) (hn : n ≤ 32768) (hm : 0 < m) (hm2 : m ≤ 9223372036854775807) (w : World) : Calls Try.prog 53 #[.int .i64 n, .int .i64 m] w (Gives 3 (nv (sizesV n m)) w) := by
  obtain ⟨i0', hi, hz0, hz1, hz2⟩ := info_parts Try.infoI64
  have d1 : decide ((n : Int) < 0) = false := decide_eq_false (by omega)
  have d2 : decide ((32768 : Int) < n) = false := decide_eq_false (by omega)
  have d3 : decide ((m : Int) < 1) = false := decide_eq_false (by omega)
  obtain ⟨M, hM1, hM2, hM3, hM4⟩ : ∃ M : Nat, 0 < M ∧ M ≤ 32768 ∧ sizesV n m = sizesV n M ∧ (32768 < m ∧ M = 32768 ∨ m ≤ 32768 ∧ M = m) := by
    rcases Nat.lt_or_ge 32768 m with h | h
    · exact ⟨32768, by omega, by omega, sizesV_big n m 32768 hn (by omega) (by omega), .inl ⟨h, rfl⟩⟩
    · exact ⟨m, hm, h, rfl, .inr ⟨h, rfl⟩⟩
  rw [hM3]
  have ho := fun W => over_any n M hM1 (by omega) (by omega) W
  have hS := sizesV_len n M
  have hget := sizesV_get n M hM1
  have hK := overV_le n M
  rw [← hS] at ho hget hK
  have hbd := sizes_bounds n M hM1
  have hmul : ∀ k, k < (sizesV n M).length → k * M ≤ n := fun k hk => by
    rw [hS] at hk
    unfold overV at hk
    have := Nat.mul_le_mul_right M (show k ≤ (n - 1) / M by omega)
    omega
  generalize sizesV n M = S at *
  clear hM3 hS hbd
  have HG := Lib.hid hget
  clear hget
  go_enter Try.func53, Try.ntmps53
  go_upto_region 3 with fail
  go_cut [1] (fun s1 wx => s1 = .int .i64 M ∧ w = wx)
  case first =>
    rcases hM4 with ⟨h1, rfl⟩ | ⟨h1, rfl⟩
    · have e1 : decide ((32768 : Int) < (m : Int)) = true := decide_eq_true (by omega)
      go_wp2
      go_meet
      exact ⟨rfl, rfl⟩
    · have e1 : decide ((32768 : Int) < (M : Int)) = false := decide_eq_false (by omega)
      go_wp2
      go_meet
      exact ⟨rfl, rfl⟩
  case rest =>
    obtain ⟨rfl, rfl⟩ := hcut
    clear hM4 d3
    go_wp2_with fail
    refine (ho _).mono ?_
    rintro e w1 ⟨rfl, rfl⟩
    clear ho
    go_wp2_with (at_make; refine wpList_make_full _ rfl (.tmp 21) (.tmp 21) _ rfl w.heap.size 3 i0' _ 1 Try.underlying42 hi hz0 hz1 .i64 .i64 S.length S.length S.length rfl rfl rfl rfl (by rw [hz2]; omega) (by simp only [maxLen]; omega) (Nat.le_refl _) ?_; intro w2 hown hg)
    rw [show (madeCells (Value.int .i64 0).cells (S.length * 1)).toList = upTo S 0 from by rw [upTo_zero]; exact made_nums' S.length] at hown
    have hB : Below w.heap.size w w2 := (Below.refl _ _).grown hg (Nat.le_refl _) (fun k hk => by cases hk)
    go_loopw [25] (fun i wr => ∃ k : Nat, k ≤ S.length ∧ i = .int .i64 k ∧ wr.ownsRow w.heap.size 3 1 (.slice (some ⟨w.heap.size, 0, none⟩) S.length S.length) S.length (upTo S k) ∧ Below w.heap.size w wr) (fun i _ => S.length - (intOf i).toNat)
    case atStart => exact ⟨0, by omega, rfl, hown, hB⟩
    case round =>
      obtain ⟨k, hk, rfl, hown, hbr⟩ := hrel
      by_cases hlt : k < S.length
      · have hx := HG.out k hlt
        rw [List.getElem?_eq_getElem hlt] at hx
        injection hx with hx
        have hkm := hmul k hlt
        have hcell : wr.cell? ⟨w.heap.size, k, none⟩ = some (.int .i64 0) := by
          rw [hown.cellAt k (by omega)]
          simp only [upTo, nv, iv, List.map_append, List.map_take, List.map_replicate]
          rw [List.getElem?_append_right (by simp; omega), List.getElem?_replicate, if_pos (by simp; omega)]
          rfl
        have hfz := hown.frozenAt k
        obtain ⟨ho2, hgr⟩ := hown.stored k (.int .i64 (S[k] : Nat))
        rw [upTo_set S k hlt] at ho2
        have hB2 : Below w.heap.size w (wr.setCell ⟨w.heap.size, k, none⟩ (.int .i64 (S[k] : Nat))) := hbr.setCell (Nat.le_refl _) _
        have i0 : (0 : Int) ≤ (k : Int) := by omega
        have i1 : (k : Int) < (S.length : Int) := by omega
        have hkm2 : (k : Int) * (M : Int) ≤ n := by exact_mod_cast hkm
        have hkm3 : (0 : Int) ≤ (k : Int) * (M : Int) := Int.mul_nonneg (by omega) (by omega)
        have hsub : ((n - k * M : Nat) : Int) = (n : Int) - (k : Int) * (M : Int) := by rw [Int.natCast_sub hkm]; simp
        have hv : ((S[k] : Nat) : Int) = if (n : Int) - (k : Int) * (M : Int) < (M : Int) then (n : Int) - (k : Int) * (M : Int) else (M : Int) := by
          rw [← hsub, hx]
          split <;> omega
        rw [hv] at ho2 hB2
        clear hv hx hsub
        go_wp2
        go_roundw
        case rel => exact ⟨k + 1, by omega, by go_num, ho2, hB2⟩
        case measure => simp [intOf]; omega
      · obtain rfl : k = S.length := by omega
        rw [upTo_all] at hown
        go_wp2
        go_ret
        exact ⟨some ⟨w.heap.size, 0, none⟩, S.length, by rw [nv_len]; rfl, by rw [nv_len]; exact hown, hbr⟩
end Go.Proofs.Ytnebmkkaobedaaa
