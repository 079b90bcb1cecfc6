/-
  Chapter 4: the closures of seal.Open, walked.
-/
import Derived.Test.YtilkcecjciiboaaSeal
import Derived.Test.YtilkcecjciiboaaBase5
namespace Go.Proofs.Ytilkcecjciiboaa
open Go.RowKit

theorem getV_256 (l : List UInt8) (a x : Int) (hl : l.length = 256) (ha : 0 ≤ a) (hx : x = 2 ∨ x = 4) (h : a + x ≤ 256) : getV l a x = (((getN l a x : Nat) : Int), 0) := by
  unfold getV
  have h1 := le_lt ((l.drop a.toNat).take x.toNat)
  have h2 : ((l.drop a.toNat).take x.toNat).length ≤ 4 := by rw [List.length_take]; omega
  have h3 : 256 ^ ((l.drop a.toNat).take x.toNat).length ≤ 256 ^ 4 := Nat.pow_le_pow_right (by decide) h2
  rw [if_pos (thereV_ok (by rw [knownB_iff]; omega) (by omega) (by omega)), if_pos (by unfold getN; omega)]
theorem told_256 (A : Option Addr) (c : Nat) (l : List UInt8) (a x : Int) (w : World) (B : Nat) (hl : l.length = 256) (ha : 0 ≤ a) (hx : x = 2 ∨ x = 4) (hax : a + x ≤ 256) (h : Reads w B A (bv l)) :
    Calls Try.prog 73 #[.slice A 256 c, .int .i64 a, .int .i64 x] w fun e w' => e = .returned (.int .i64 (getN l a x : Nat)) ∧ w = w' := by
  have := told_any A c l a x w B (by rw [hl]; decide) h
  rw [getV_256 l a x hl ha hx hax, hl] at this
  exact this
theorem open1_any (p q : Addr) (k n : Int) (w : World) (hp : w.cell? p = some (.int .i64 k)) (hq : w.cell? q = some (.int .i64 n)) :
    Calls Try.prog 70 #[.pointer (some p), .pointer (some q)] w fun e w' => e = .returned (.bool (!knownK k n)) ∧ w = w' := by
  have h := sknown_any k n w
  generalize knownK k n = b at *
  cases b
  all_goals
    go_enter Try.func70, Try.ntmps70
    go_wp2_with fail
    refine h.mono ?_
    rintro e w1 ⟨rfl, rfl⟩
    go_wp2
    go_ret
    exact ⟨rfl, rfl⟩
theorem open2_any (p : Addr) (A : Option Addr) (m c : Nat) (w : World) (hp : w.cell? p = some (.slice A m c)) :
    Calls Try.prog 71 #[.pointer (some p)] w fun e w' => e = .returned (.bool ((m : Int) != 256)) ∧ w = w' := by
  go_enter Try.func71, Try.ntmps71
  go_wp2
  go_ret
  exact ⟨rfl, rfl⟩
theorem sumOK_ne (l : List UInt8) (k : Int) : (((getN l 252 4 : Nat) : Int) != ((sumW k (l.take 252) : Nat) : Int)) = !sumOK l k := by
  unfold sumOK
  by_cases h : getN l 252 4 = sumW k (l.take 252)
  · rw [h, decide_eq_true rfl]; simp
  · rw [decide_eq_false h]; simp; omega
set_option maxHeartbeats 1000000 in
set_option maxRecDepth 100000 in
theorem open3_any (p q : Addr) (A : Option Addr) (c : Nat) (l : List UInt8) (k : Int) (w : World) (hl : l.length = 256) (hc : 256 ≤ c) (hp : w.cell? p = some (.slice A 256 c)) (hq : w.cell? q = some (.int .i64 k)) (h : Reads w w.heap.size A (bv l)) :
    Calls Try.prog 72 #[.pointer (some p), .pointer (some q)] w fun e w' => e = .returned (.bool (!sumOK l k)) ∧ Below w.heap.size w w' := by
  have k1 := fun W B (h : Reads W B A (bv l)) => told_256 A c l 252 4 W B hl (by omega) (by omega) (by omega) h
  have k2 := fun W (h : Reads W W.heap.size A (bv l)) => ssum_any A c l k W hl hc h
  have dE := sumOK_ne l k
  generalize getN l 252 4 = x at *
  generalize sumW k (l.take 252) = y at *
  generalize sumOK l k = ok at *
  have hbp := block_lt_of_cell hp
  have hbq := block_lt_of_cell hq
  have hr0 := h.drew
  go_enter Try.func72, Try.ntmps72
  go_wp2_with fail
  go_region_with (first | (go_at_call 73; refine (k1 _ _ (by first | assumption | exact hr0)).mono ?_; rintro e w1 ⟨rfl, rfl⟩) | (go_at_call 63; refine (k2 _ hr0).mono ?_; rintro e w2 ⟨rfl, hb2⟩; have hp2 := (hb2.cell (p := p) hbp).trans hp; have hq2 := (hb2.cell (p := q) hbq).trans hq; have hr2 := (hr0.ext hb2)))
  all_goals
    go_wp2
    go_ret
    exact ⟨rfl, undrew hb2⟩
theorem open4_any (p q : Addr) (A : Option Addr) (c : Nat) (l : List UInt8) (n : Int) (w : World) (hl : l.length = 256) (hp : w.cell? p = some (.slice A 256 c)) (hq : w.cell? q = some (.int .i64 n)) (h : Reads w w.heap.size A (bv l)) :
    Calls Try.prog 74 #[.pointer (some p), .pointer (some q)] w fun e w' => e = .returned (.bool ((getN l 0 4 : Int) != n)) ∧ ∃ m, w' = w.drewN m := by
  have k1 := fun m => (told_256 A c l 0 4 (w.drewN m) _ hl (by omega) (by omega) (by omega) (show Reads (w.drewN m) w.heap.size A (bv l) from h)).mono (fun e w' h => (show e = _ ∧ w' = w.drewN m from ⟨h.1, h.2.symm⟩))
  generalize getN l 0 4 = x at *
  go_enter Try.func74, Try.ntmps74
  go_wp2_with fail
  go_quiet ((go_at_call 73; exact Calls.quiet_of_same (k1 _)))
  go_wp2
  go_ret
  exact ⟨rfl, _, rfl⟩
theorem open5_any (p q : Addr) (A : Option Addr) (c : Nat) (l : List UInt8) (k : Int) (w : World) (hl : l.length = 256) (hp : w.cell? p = some (.slice A 256 c)) (hq : w.cell? q = some (.int .i64 k)) (h : Reads w w.heap.size A (bv l)) :
    Calls Try.prog 75 #[.pointer (some p), .pointer (some q)] w fun e w' => e = .returned (.bool ((getN l 4 2 : Int) != k)) ∧ ∃ m, w' = w.drewN m := by
  have k1 := fun m => (told_256 A c l 4 2 (w.drewN m) _ hl (by omega) (by omega) (by omega) (show Reads (w.drewN m) w.heap.size A (bv l) from h)).mono (fun e w' h => (show e = _ ∧ w' = w.drewN m from ⟨h.1, h.2.symm⟩))
  generalize getN l 4 2 = x at *
  go_enter Try.func75, Try.ntmps75
  go_wp2_with fail
  go_quiet ((go_at_call 73; exact Calls.quiet_of_same (k1 _)))
  go_wp2
  go_ret
  exact ⟨rfl, _, rfl⟩
theorem open6_any (p : Addr) (A : Option Addr) (c : Nat) (l : List UInt8) (w : World) (hl : l.length = 256) (hp : w.cell? p = some (.slice A 256 c)) (h : Reads w w.heap.size A (bv l)) :
    Calls Try.prog 76 #[.pointer (some p)] w fun e w' => e = .returned (.bool ((getN l 6 2 : Int) != 0)) ∧ w = w' := by
  have k1 := told_256 A c l 6 2 w _ hl (by omega) (by omega) (by omega) h
  generalize getN l 6 2 = x at *
  go_enter Try.func76, Try.ntmps76
  go_wp2_with fail
  refine k1.mono ?_
  rintro e w1 ⟨rfl, rfl⟩
  go_wp2
  go_ret
  exact ⟨rfl, rfl⟩
end Go.Proofs.Ytilkcecjciiboaa
