/-
  Chapter 6: the closure of super.Put (under way).
-/
import Derived.Test.YtahomneljdjjjaaSupP
import Derived.RangeFuncBox
import Derived.BigRegion
import Derived.IntWalk
import Derived.StillTailTactics
import Derived.Deep.RegionLaw
namespace Go.Proofs.Ytahomneljdjjjaa
open Go.RowKit
theorem Try.infoFld : (Try.prog.info? 49).map (fun i => (i.zero, i.size, i.bytes)) = some (some (.agg #[.int .i64 0, .int .i64 0]), 2, 16) := by kernel_rfl
attribute [local go_sem ↓] Go.wp_at_zero Go.wp_at_succ

set_option maxRecDepth 100000 in
set_option maxHeartbeats 1000000 in
theorem put1_any (p : Addr) (r m base c : Nat) (A : Option Addr) (xs : List Value) (lo hi n : Int) (w : World) (hp : w.cell? p = some (.int .i64 n)) (hbox : Boxed w r 47 (.slice A m c)) (hrow : w.ownsRow base 49 2 (.slice A m c) m xs)
    (hb : base ≤ w.heap.size) (hr : base ≤ r) (hm : m ≤ 100) :
    Calls Try.prog 65 #[.pointer (some p), .int .i64 lo, .int .i64 hi, .pointer (some ⟨r, 0, none⟩)] w fun e w' => e = .returned (.tuple #[]) ∧
      ∃ A' c', Boxed w' r 47 (.slice A' (m + 1) c') ∧ w'.ownsRow base 49 2 (.slice A' (m + 1) c') (m + 1) (xs ++ [.int .i64 4, .int .i64 n]) ∧
        (∀ b, b < w.heap.size → b ≠ r → some b ≠ (Value.slice A m c).ownBlock → w'.heap[b]? = w.heap[b]?) ∧ Below base w w' := by
  obtain ⟨i0, hi0, hz0, hz1, hz2⟩ := info_parts Try.infoFld
  have hc := hbox.cell
  have hf := hbox.frozen
  have c0 : ∀ o, (w.alloc o).cell? p = some (.int .i64 n) := fun o => (World.cell?_alloc_lt w o _ (block_lt_of_cell hp)).trans hp
  have c1 : ∀ o, (w.alloc o).cell? ⟨r, 0, none⟩ = some (.slice A m c) := fun o => (World.cell?_alloc_lt w o _ (block_lt_of_cell hc)).trans hc
  have hr2 := Reads.new w [Value.int .i64 4, Value.int .i64 n] 49 (0, 0)
  go_enter Try.func65, Try.ntmps65
  go_wp2_with fail
  go_region_law ((refine step_append_to_s _ rfl (.tmp 7) (.tmp 12) _ rfl base 2 49 i0 _ 16 Try.underlying47 hi0 hz0 hz1 hz2 rfl (by decide) (.slice A m c) m xs rfl (hrow.alloc _) _ _ 1 1 [Value.int .i64 4, Value.int .i64 n] rfl (by simp) hr2 (by simp [Value.oneCell']) (by simp only [maxLen]; omega) (by omega) (by simp; omega) ?_; intro A' c' w3 hown3 hg3 hb3; obtain ⟨hv1, hv2, hr3, hk3, hb4⟩ := hbox.appended (by decide) hrow hb hr hown3 (show (w.alloc (.cells #[Value.int .i64 4, Value.int .i64 n] 49)).grownBy w3 (Value.slice A m c).ownBlock from ⟨hg3.os, hg3.tape, hg3.output, hg3.size, hg3.block⟩); have hc1 := hv1.cell; have hf1 := hv1.frozen))
  all_goals
    refine end0 (by rfl) rfl ⟨rfl, A', c', hv2, hr3, fun b h1 h2 h3 => ?_, hb4⟩
    rw [heap_setCell_other w3 ⟨r, 0, none⟩ b _ (by simpa using h2)]
    exact (hg3.block b (by simp; omega) h3).trans (Below.heap_alloc w _ b h1)
end Go.Proofs.Ytahomneljdjjjaa
