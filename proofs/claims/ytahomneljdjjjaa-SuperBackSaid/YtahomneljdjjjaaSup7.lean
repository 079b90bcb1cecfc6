/-
  Chapter 6: super.Read (under way).
-/
import Derived.Test.YtahomneljdjjjaaSup5
import Derived.Test.YtahomneljdjjjaaEqual
import Derived.Lib.BufferWrite
namespace Go.Proofs.Ytahomneljdjjjaa
open Go.RowKit

set_option maxRecDepth 100000 in
theorem read1_any (g j r b c : Nat) (A : Option Addr) (l : List UInt8) (a lo hi : Int) (w : World) (cs : Array Value) (old : Int) (hm : l.length ≤ reachBytes) (ha : 0 ≤ a ∧ a ≤ 1000)
    (hg : w.heap[g]? = some (.cells cs 23)) (hj : cs[j]? = some (.int .i64 old)) (hb : Boxed w b 24 (.slice A l.length c)) (hr : Boxed w r 3 (.int .i64 a)) (hl : Reads w w.heap.size A (bv l)) :
    Calls Try.prog 89 #[.pointer (some ⟨g, j, none⟩), .int .i64 lo, .int .i64 hi, .pointer (some ⟨b, 0, none⟩), .pointer (some ⟨r, 0, none⟩)] w fun e w' => e = .returned (.tuple #[]) ∧
      w' = (w.setCell ⟨g, j, none⟩ (.int .i64 (getV l a 4).1)).setCell ⟨r, 0, none⟩ (.int .i64 (a + 4)) := by
  have hcj := heap_cell hg j hj
  have hfj : w.frozen? ⟨g, j, none⟩ = false := frozen_of_row w g j cs 23 hg
  have hcb := hb.cell
  have hcr := hr.cell
  have hfr := hr.frozen
  have hne : g ≠ r := by
    rintro rfl
    have := hr.symm.trans hg
    simp at this
  have hcr2 : ∀ v, (w.setCell ⟨g, j, none⟩ v).cell? ⟨r, 0, none⟩ = some (.int .i64 a) := fun v => by
    rw [World.cell?_setCell_far _ _ _ _ hne]
    exact hcr
  have hfr2 : ∀ v, (w.setCell ⟨g, j, none⟩ v).frozen? ⟨r, 0, none⟩ = false := fun v => by rw [World.frozen?_setCell]; exact hfr
  have hget := get_any A c l a 4 w _ hm hl
  generalize getV l a 4 = q at *
  clear hl hb hr hg hj
  go_enter Try.func89, Try.ntmps89
  go_wp2_with fail
  refine hget.mono ?_
  rintro e w1 ⟨rfl, rfl⟩
  go_wp2
  exact end0 (by rfl) rfl ⟨rfl, rfl⟩
/-- the numbers behind k calls -/
def midN (l : List UInt8) (k i : Nat) : Int := if i < k then readN l i else 0
theorem midN_set (l : List UInt8) (k : Nat) (hk : k < 11) : (supC (midN l k)).setIfInBounds k (.int .i64 (readN l k)) = supC (midN l (k + 1)) := by
  have : k = 0 ∨ k = 1 ∨ k = 2 ∨ k = 3 ∨ k = 4 ∨ k = 5 ∨ k = 6 ∨ k = 7 ∨ k = 8 ∨ k = 9 ∨ k = 10 := by omega
  rcases this with rfl | rfl | rfl | rfl | rfl | rfl | rfl | rfl | rfl | rfl | rfl <;> rfl
def GInv (l : List UInt8) (w : World) (g b r : Nat) (A : Option Addr) (c : Nat) (k : Nat) (W : World) : Prop :=
  W.heap[g]? = some (.cells (supC (midN l k)) 23) ∧ Boxed W b 24 (.slice A l.length c) ∧ Boxed W r 3 (.int .i64 (12 + 4 * (k : Int))) ∧ Reads W w.heap.size A (bv l) ∧ Below w.heap.size w W ∧ w.heap.size ≤ g ∧ w.heap.size ≤ r
theorem GInv.stable {l : List UInt8} {w : World} {g b r : Nat} {A : Option Addr} {c k : Nat} {W : World} (h : GInv l w g b r A c k W) : (∀ m, GInv l w g b r A c k (W.drewN m)) ∧ ∀ o, GInv l w g b r A c k (W.alloc o) := by
  obtain ⟨h1, h2, h3, h4, h5, h6, h7⟩ := h
  exact ⟨fun m => ⟨h1, h2, h3, h4, below_drewN h5 m, h6, h7⟩, fun o => ⟨heap_alloc' h1 o, h2.alloc o, h3.alloc o, h4.alloc h5.size o, h5.alloc h5.size o, h6, h7⟩⟩
theorem GInv.step {l : List UInt8} {w : World} {g b r : Nat} {A : Option Addr} {c k : Nat} {W : World} (hl : l.length = 244) (hk : k < 11) (lo hi : Int) (h : GInv l w g b r A c k W) :
    Calls Try.prog 89 (#[.pointer (some ⟨g, k, none⟩), .int .i64 lo, .int .i64 hi] ++ #[.pointer (some ⟨b, 0, none⟩), .pointer (some ⟨r, 0, none⟩)]) W (Step (GInv l w g b r A c) (k + 1) W) := by
  obtain ⟨h1, h2, h3, h4, h5, h6, h7⟩ := h
  refine (read1_any g k r b c A l (12 + 4 * (k : Int)) lo hi W (supC (midN l k)) (midN l k k) (by rw [hl]; decide) (by omega) h1 (supC_at _ k hk) h2 h3 (h4.more h5.size)).mono ?_
  rintro e w1 ⟨rfl, rfl⟩
  rw [getV_readN l k hl hk]
  have hgr : g ≠ r := by
    rintro rfl
    have := h3.symm.trans h1
    simp at this
  have hgb : b ≠ g := by
    rintro rfl
    have := h2.symm.trans h1
    simp at this
  have hrb : b ≠ r := by
    rintro rfl
    have := h2.symm.trans h3
    simp at this
  have hbw : b < W.heap.size ∧ r < W.heap.size := ⟨h2.lt, h3.lt⟩
  refine ⟨rfl, ⟨?_, ?_, ?_, ?_, ?_, h6, h7⟩, ?_⟩
  · rw [heap_setCell_other _ _ _ _ (by simpa using hgr), heap_setCell_same W g k _ _ _ h1, midN_set l k hk]
  · exact (h2.kept (Lib.grownBy_setCell W g k _) (by simpa using hgb)).kept (Lib.grownBy_setCell _ r 0 _) (by simpa using hrb)
  · rw [show (12 + 4 * ((k + 1 : Nat) : Int)) = 12 + 4 * (k : Int) + 4 by omega]
    exact (h3.kept (Lib.grownBy_setCell W g k _) (by simpa using fun e : r = g => hgr e.symm)).set _
  · exact (h4.setCell (p := ⟨g, k, none⟩) h6 _).setCell (p := ⟨r, 0, none⟩) h7 _
  · exact (h5.setCell (p := ⟨g, k, none⟩) h6 _).setCell (p := ⟨r, 0, none⟩) h7 _
  · intro q cur fz hq
    have n1 : q ≠ r := by
      rintro rfl
      have := h3.symm.trans hq
      simp at this
    have n2 : q ≠ g := by
      rintro rfl
      have := h1.symm.trans hq
      simp at this
    rw [heap_setCell_other _ _ _ _ (by simpa using n1), heap_setCell_other _ _ _ _ (by simpa using n2)]
    exact hq
theorem read1_enter (args : Array Value) (W : World) : Sem.run Try.prog (callFunc 89 args) W = .ok (.enter 89 args) W := by
  go_simp
theorem eachread_any (l : List UInt8) (hl : l.length = 244) (w : World) (g b r : Nat) (A : Option Addr) (c : Nat) (W : World) (h : GInv l w g b r A c 0 W) :
    Calls Try.prog 64 #[.pointer (some ⟨g, 0, none⟩), .func (.func 89) #[] #[.pointer (some ⟨b, 0, none⟩), .pointer (some ⟨r, 0, none⟩)]] W fun e w' => e = .returned (.tuple #[]) ∧ GInv l w g b r A c 11 w' :=
  each_any g 89 #[.pointer (some ⟨b, 0, none⟩), .pointer (some ⟨r, 0, none⟩)] (GInv l w g b r A c) (readN l 4) W read1_enter (fun k W m h => h.stable.1 m) (fun k W o h => h.stable.2 o) (fun k W hk h => by
      have := heap_cell h.1 4 (supC_at _ 4 (by omega))
      rw [show midN l k 4 = readN l 4 from if_pos (by omega)] at this
      exact this)
    (fun W h => h.step hl (by omega) _ _) (fun W h => h.step hl (by omega) _ _) (fun W h => h.step hl (by omega) _ _) (fun W h => h.step hl (by omega) _ _) (fun W h => h.step hl (by omega) _ _) (fun k W _ h11 h => h.step hl h11 _ _) h
end Go.Proofs.Ytahomneljdjjjaa
