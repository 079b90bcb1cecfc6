/-
  refs.Differ and the reference's, walked.
-/
import Derived.Test.YtnebmkkaobedaaaSame
namespace Go.Proofs.Ytnebmkkaobedaaa
open Go.RowKit

/-- the first so many places at which lists differ -/
def dfk (a b : List Int) (k : Nat) : List Int := ((List.range k).filter fun i => a[i]? != b[i]?).map fun i : Nat => (i : Int)
def differs (a b : List Int) : List Int := dfk a b (max a.length b.length)
theorem dfk_snoc (a b : List Int) (k : Nat) : dfk a b (k + 1) = dfk a b k ++ if a[k]? != b[k]? then [(k : Int)] else [] := by
  unfold dfk
  rw [List.range_succ, List.filter_append, List.map_append]
  congr 1
  by_cases h : (a[k]? != b[k]?) = true
  · simp [h]
  · have h' : (a[k]? != b[k]?) = false := by simpa using h
    simp [h']
theorem dfk_len (a b : List Int) (k : Nat) : (dfk a b k).length ≤ k := by
  unfold dfk
  rw [List.length_map]
  have := List.length_filter_le (fun i => a[i]? != b[i]?) (List.range k)
  rwa [List.length_range] at this
theorem dfk_yes (a b : List Int) (k : Nat) (h : a[k]? ≠ b[k]?) : dfk a b (k + 1) = dfk a b k ++ [(k : Int)] := by
  rw [dfk_snoc, if_pos (by simpa using h)]
theorem dfk_no (a b : List Int) (k : Nat) (h : a[k]? = b[k]?) : dfk a b (k + 1) = dfk a b k := by
  rw [dfk_snoc, if_neg (by simp [h]), List.append_nil]
theorem differs_self (a : List Int) : differs a a = [] := by
  have : ∀ k, dfk a a k = [] := fun k => by
    induction k with
    | zero => rfl
    | succ k ih => rw [dfk_no a a k rfl, ih]
  exact this _

set_option maxRecDepth 100000 in
set_option maxHeartbeats 2000000 in
theorem differ_any (A : Option Addr) (c : Nat) (a : List Int) (A2 : Option Addr) (c2 : Nat) (b : List Int) (w : World) (hm : a.length ≤ 2000) (hm2 : b.length ≤ 2000) (h : Reads w w.heap.size A (iv a)) (h2 : Reads w w.heap.size A2 (iv b)) :
    Calls Try.prog 34 #[.slice A a.length c, .slice A2 b.length c2] w (Gives 3 (iv (differs a b)) w) := by
  obtain ⟨i0', hi, hz0, hz1, hz2⟩ := info_parts Try.infoI64
  obtain ⟨M, hM⟩ : ∃ M, max a.length b.length = M := ⟨_, rfl⟩
  have hM1 : a.length ≤ M := by omega
  have hM2 : b.length ≤ M := by omega
  have hM3 : M ≤ 2000 := by omega
  have hd : differs a b = dfk a b M := by unfold differs; rw [hM]
  have HD := Lib.hid hd
  have hM4 : M ≤ a.length ∨ M ≤ b.length := by omega
  have HMX := Lib.hid hM
  clear hd hM
  go_enter Try.func34, Try.ntmps34
  go_upto_region 2 with fail
  go_cut [11, 12] (fun s11 s12 wx => s11 = .int .i64 M ∧ s12 = .int .i64 0 ∧ w = wx)
  case first =>
    go_wp2
    · go_meet
      exact ⟨by rw [show M = b.length by omega], rfl, rfl⟩
    · go_meet
      exact ⟨by rw [show M = a.length by omega], rfl, rfl⟩
  case rest =>
    obtain ⟨rfl, rfl, rfl⟩ := hcut
    go_wp2_with fail
    go_loopw [5, 12] (fun v i wr => ∃ k : Nat, k ≤ M ∧ i = .int .i64 k ∧ wr.ownsRow w.heap.size 3 1 v (dfk a b k).length (iv (dfk a b k)) ∧ Below w.heap.size w wr) (fun _ i _ => M - (intOf i).toNat)
    case atStart => exact ⟨0, by omega, rfl, World.ownsRow_nil _ _ _ _, Below.refl _ _⟩
    case round =>
      obtain ⟨k, hk, rfl, hown, hbr⟩ := hrel
      have hlen := dfk_len a b k
      obtain ⟨Ao, co, rfl⟩ := own_form hown
      by_cases hlt : k < M
      · have i0 : (0 : Int) ≤ (k : Int) := by omega
        by_cases ha : k < a.length
        · have e1 : decide (a.length ≤ k) = false := decide_eq_false (by omega)
          have ha' : (k : Int) < (a.length : Int) := by omega
          by_cases hb : k < b.length
          · have e2 : decide (b.length ≤ k) = false := decide_eq_false (by omega)
            have hb' : (k : Int) < (b.length : Int) := by omega
            obtain ⟨ad, rfl, _, hc⟩ := (h.below hbr).num ha
            obtain ⟨ad2, rfl, _, hc2⟩ := (h2.below hbr).num hb
            have g1 : a[k]? = some a[k] := List.getElem?_eq_getElem ha
            have g2 : b[k]? = some b[k] := List.getElem?_eq_getElem hb
            by_cases hx : a[k] = b[k]
            · have hd := dfk_no a b k (by rw [g1, g2, hx])
              have HDD := Lib.hid hd
              have e3 : (a[k] != b[k]) = false := by simpa using hx
              clear hd g1 g2 hx
              generalize a[k] = x at *
              generalize b[k] = y at *
              go_wp2_with fail
              go_quiet (fail)
              go_wp2
              go_roundw
              case rel => exact ⟨k + 1, by omega, by go_num, by rw [HDD.out]; exact hown, below_drewM hbr _⟩
              case measure => simp [intOf]; omega
            · have hd := dfk_yes a b k (by rw [g1, g2]; simpa using hx)
              have HDD := Lib.hid hd
              have e3 : (a[k] != b[k]) = true := by simpa using hx
              clear hd g1 g2 hx
              generalize a[k] = x at *
              generalize b[k] = y at *
              go_wp2_with fail
              go_quiet (fail)
              have hr2 := Reads.new (wr.drewN nq) (iv [(k : Int)]) 3 (0, 0)
              have hbr2 := below_drewM hbr nq
              have hown2 : (wr.drewN nq).ownsRow w.heap.size 3 1 (.slice Ao (dfk a b k).length co) (dfk a b k).length (iv (dfk a b k)) := hown
              have hsz := hbr2.size
              generalize wr.drewN nq = wq at *
              go_wp2_with (at_builtin; refine wpList_append_to _ rfl (.tmp 36) (.tmp 38) _ rfl w.heap.size 3 i0' _ 8 Try.underlying42 hi hz0 hz1 hz2 rfl _ (dfk a b k).length (iv (dfk a b k)) rfl (hown2.alloc _) _ _ 1 1 (iv [(k : Int)]) rfl rfl hr2 (iv_one _) (by simp only [maxLen]; omega) (by omega) (by simp; omega) ?_; intro A' c' w3 hown3 hg3 hb3 _)
              go_roundw
              case rel => exact ⟨k + 1, by omega, by go_num, by rw [HDD.out, iv_append, List.length_append]; exact hown3, (hbr2.alloc hsz _).trans hb3⟩
              case measure => simp [intOf]; omega
          · have e2 : decide (b.length ≤ k) = true := decide_eq_true (by omega)
            have hd := dfk_yes a b k (by rw [List.getElem?_eq_none (show b.length ≤ k by omega), List.getElem?_eq_getElem ha]; simp)
            have HDD := Lib.hid hd
            clear hd
            go_wp2_with fail
            go_quiet (fail)
            have hr2 := Reads.new (wr.drewN nq) (iv [(k : Int)]) 3 (0, 0)
            have hbr2 := below_drewM hbr nq
            have hown2 : (wr.drewN nq).ownsRow w.heap.size 3 1 (.slice Ao (dfk a b k).length co) (dfk a b k).length (iv (dfk a b k)) := hown
            have hsz := hbr2.size
            generalize wr.drewN nq = wq at *
            go_wp2_with (at_builtin; refine wpList_append_to _ rfl (.tmp 36) (.tmp 38) _ rfl w.heap.size 3 i0' _ 8 Try.underlying42 hi hz0 hz1 hz2 rfl _ (dfk a b k).length (iv (dfk a b k)) rfl (hown2.alloc _) _ _ 1 1 (iv [(k : Int)]) rfl rfl hr2 (iv_one _) (by simp only [maxLen]; omega) (by omega) (by simp; omega) ?_; intro A' c' w3 hown3 hg3 hb3 _)
            go_roundw
            case rel => exact ⟨k + 1, by omega, by go_num, by rw [HDD.out, iv_append, List.length_append]; exact hown3, (hbr2.alloc hsz _).trans hb3⟩
            case measure => simp [intOf]; omega
        · have e1 : decide (a.length ≤ k) = true := decide_eq_true (by omega)
          have hd := dfk_yes a b k (by rw [List.getElem?_eq_none (by omega), List.getElem?_eq_getElem (show k < b.length by omega)]; simp)
          have HDD := Lib.hid hd
          clear hd
          go_wp2_with fail
          go_quiet (fail)
          have hr2 := Reads.new (wr.drewN nq) (iv [(k : Int)]) 3 (0, 0)
          have hbr2 := below_drewM hbr nq
          have hown2 : (wr.drewN nq).ownsRow w.heap.size 3 1 (.slice Ao (dfk a b k).length co) (dfk a b k).length (iv (dfk a b k)) := hown
          have hsz := hbr2.size
          generalize wr.drewN nq = wq at *
          go_wp2_with (at_builtin; refine wpList_append_to _ rfl (.tmp 36) (.tmp 38) _ rfl w.heap.size 3 i0' _ 8 Try.underlying42 hi hz0 hz1 hz2 rfl _ (dfk a b k).length (iv (dfk a b k)) rfl (hown2.alloc _) _ _ 1 1 (iv [(k : Int)]) rfl rfl hr2 (iv_one _) (by simp only [maxLen]; omega) (by omega) (by simp; omega) ?_; intro A' c' w3 hown3 hg3 hb3 _)
          go_roundw
          case rel => exact ⟨k + 1, by omega, by go_num, by rw [HDD.out, iv_append, List.length_append]; exact hown3, (hbr2.alloc hsz _).trans hb3⟩
          case measure => simp [intOf]; omega
      · obtain rfl : k = M := by omega
        have HDL := Lib.hid (iv_len (dfk a b k))
        go_wp2
        go_ret
        exact ⟨Ao, co, by rw [HD.out, iv_len]; rfl, by rw [HD.out, iv_len]; exact hown, hbr⟩
set_option maxRecDepth 100000 in
set_option maxHeartbeats 2000000 in
theorem rdiffer_any (A : Option Addr) (c : Nat) (a : List Int) (A2 : Option Addr) (c2 : Nat) (b : List Int) (w : World) (hm : a.length ≤ 2000) (hm2 : b.length ≤ 2000) (h : Reads w w.heap.size A (iv a)) (h2 : Reads w w.heap.size A2 (iv b)) :
    Calls Try.prog 35 #[.slice A a.length c, .slice A2 b.length c2] w (Gives 3 (iv (differs a b)) w) := by
  obtain ⟨i0', hi, hz0, hz1, hz2⟩ := info_parts Try.infoI64
  obtain ⟨M, hM⟩ : ∃ M, max a.length b.length = M := ⟨_, rfl⟩
  have hM1 : a.length ≤ M := by omega
  have hM2 : b.length ≤ M := by omega
  have hM3 : M ≤ 2000 := by omega
  have hd : differs a b = dfk a b M := by unfold differs; rw [hM]
  have HD := Lib.hid hd
  have hM4 : M ≤ a.length ∨ M ≤ b.length := by omega
  clear hd hM
  go_enter Try.func35, Try.ntmps35
  go_wp2_with fail
  go_loopw [5, 6] (fun v i wr => ∃ k : Nat, k ≤ M ∧ i = .int .i64 k ∧ wr.ownsRow w.heap.size 3 1 v (dfk a b k).length (iv (dfk a b k)) ∧ Below w.heap.size w wr) (fun _ i _ => M - (intOf i).toNat)
  case atStart => exact ⟨0, by omega, rfl, World.ownsRow_nil _ _ _ _, Below.refl _ _⟩
  case round =>
    obtain ⟨k, hk, rfl, hown, hbr⟩ := hrel
    have hlen := dfk_len a b k
    obtain ⟨Ao, co, rfl⟩ := own_form hown
    by_cases hlt : k < M
    · have i0 : (0 : Int) ≤ (k : Int) := by omega
      by_cases ha : k < a.length
      · have e1 : decide (k < a.length) = true := decide_eq_true (by omega)
        have ha' : (k : Int) < (a.length : Int) := by omega
        by_cases hb : k < b.length
        · have e2 : decide (k < b.length) = true := decide_eq_true (by omega)
          have hb' : (k : Int) < (b.length : Int) := by omega
          obtain ⟨ad, rfl, _, hc⟩ := (h.below hbr).num ha
          obtain ⟨ad2, rfl, _, hc2⟩ := (h2.below hbr).num hb
          have g1 : a[k]? = some a[k] := List.getElem?_eq_getElem ha
          have g2 : b[k]? = some b[k] := List.getElem?_eq_getElem hb
          by_cases hx : a[k] = b[k]
          · have hd := dfk_no a b k (by rw [g1, g2, hx])
            have HDD := Lib.hid hd
            have e3 : (a[k] == b[k]) = true := by simpa using hx
            clear hd g1 g2 hx
            generalize a[k] = x at *
            generalize b[k] = y at *
            go_wp2_with fail
            go_quiet (fail)
            go_wp2
            go_roundw
            case rel => exact ⟨k + 1, by omega, by go_num, by rw [HDD.out]; exact hown, below_drewM hbr _⟩
            case measure => simp [intOf]; omega
          · have hd := dfk_yes a b k (by rw [g1, g2]; simpa using hx)
            have HDD := Lib.hid hd
            have e3 : (a[k] == b[k]) = false := by simpa using hx
            clear hd g1 g2 hx
            generalize a[k] = x at *
            generalize b[k] = y at *
            go_wp2_with fail
            go_quiet (fail)
            have hr2 := Reads.new (wr.drewN nq) (iv [(k : Int)]) 3 (0, 0)
            have hbr2 := below_drewM hbr nq
            have hown2 : (wr.drewN nq).ownsRow w.heap.size 3 1 (.slice Ao (dfk a b k).length co) (dfk a b k).length (iv (dfk a b k)) := hown
            have hsz := hbr2.size
            generalize wr.drewN nq = wq at *
            go_wp2_with (at_builtin; refine wpList_append_to _ rfl (.tmp 40) (.tmp 42) _ rfl w.heap.size 3 i0' _ 8 Try.underlying42 hi hz0 hz1 hz2 rfl _ (dfk a b k).length (iv (dfk a b k)) rfl (hown2.alloc _) _ _ 1 1 (iv [(k : Int)]) rfl rfl hr2 (iv_one _) (by simp only [maxLen]; omega) (by omega) (by simp; omega) ?_; intro A' c' w3 hown3 hg3 hb3 _)
            go_roundw
            case rel => exact ⟨k + 1, by omega, by go_num, by rw [HDD.out, iv_append, List.length_append]; exact hown3, (hbr2.alloc hsz _).trans hb3⟩
            case measure => simp [intOf]; omega
        · have e2 : decide (k < b.length) = false := decide_eq_false (by omega)
          have hd := dfk_yes a b k (by rw [List.getElem?_eq_none (show b.length ≤ k by omega), List.getElem?_eq_getElem ha]; simp)
          have HDD := Lib.hid hd
          clear hd
          go_wp2_with fail
          go_quiet (fail)
          have hr2 := Reads.new (wr.drewN nq) (iv [(k : Int)]) 3 (0, 0)
          have hbr2 := below_drewM hbr nq
          have hown2 : (wr.drewN nq).ownsRow w.heap.size 3 1 (.slice Ao (dfk a b k).length co) (dfk a b k).length (iv (dfk a b k)) := hown
          have hsz := hbr2.size
          generalize wr.drewN nq = wq at *
          go_wp2_with (at_builtin; refine wpList_append_to _ rfl (.tmp 40) (.tmp 42) _ rfl w.heap.size 3 i0' _ 8 Try.underlying42 hi hz0 hz1 hz2 rfl _ (dfk a b k).length (iv (dfk a b k)) rfl (hown2.alloc _) _ _ 1 1 (iv [(k : Int)]) rfl rfl hr2 (iv_one _) (by simp only [maxLen]; omega) (by omega) (by simp; omega) ?_; intro A' c' w3 hown3 hg3 hb3 _)
          go_roundw
          case rel => exact ⟨k + 1, by omega, by go_num, by rw [HDD.out, iv_append, List.length_append]; exact hown3, (hbr2.alloc hsz _).trans hb3⟩
          case measure => simp [intOf]; omega
      · have e1 : decide (k < a.length) = false := decide_eq_false (by omega)
        have e2 : decide (k < b.length) = true := decide_eq_true (by omega)
        have hd := dfk_yes a b k (by rw [List.getElem?_eq_none (by omega), List.getElem?_eq_getElem (show k < b.length by omega)]; simp)
        have HDD := Lib.hid hd
        clear hd
        go_wp2_with fail
        go_quiet (fail)
        have hr2 := Reads.new (wr.drewN nq) (iv [(k : Int)]) 3 (0, 0)
        have hbr2 := below_drewM hbr nq
        have hown2 : (wr.drewN nq).ownsRow w.heap.size 3 1 (.slice Ao (dfk a b k).length co) (dfk a b k).length (iv (dfk a b k)) := hown
        have hsz := hbr2.size
        generalize wr.drewN nq = wq at *
        go_wp2_with (at_builtin; refine wpList_append_to _ rfl (.tmp 40) (.tmp 42) _ rfl w.heap.size 3 i0' _ 8 Try.underlying42 hi hz0 hz1 hz2 rfl _ (dfk a b k).length (iv (dfk a b k)) rfl (hown2.alloc _) _ _ 1 1 (iv [(k : Int)]) rfl rfl hr2 (iv_one _) (by simp only [maxLen]; omega) (by omega) (by simp; omega) ?_; intro A' c' w3 hown3 hg3 hb3 _)
        go_roundw
        case rel => exact ⟨k + 1, by omega, by go_num, by rw [HDD.out, iv_append, List.length_append]; exact hown3, (hbr2.alloc hsz _).trans hb3⟩
        case measure => simp [intOf]; omega
    · obtain rfl : k = M := by omega
      have e1 : decide (k < a.length) = false := decide_eq_false (by omega)
      have e2 : decide (k < b.length) = false := decide_eq_false (by omega)
      go_wp2
      go_ret
      exact ⟨Ao, co, by rw [HD.out, iv_len]; rfl, by rw [HD.out, iv_len]; exact hown, hbr⟩
end Go.Proofs.Ytnebmkkaobedaaa
