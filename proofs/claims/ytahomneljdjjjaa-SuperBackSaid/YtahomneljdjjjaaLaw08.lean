/-
  Chapter 8's ValueTells, walked.
-/
import Derived.Test.YtahomneljdjjjaaVal5
namespace Go.Proofs.Ytahomneljdjjjaa
open Go.RowKit
attribute [local go_sem ↓] Go.wp_at_zero Go.wp_at_succ

theorem map_example : mapV 1 2 = [2, 0, 0, 1, 0, 0, 0, 0] := by decide +kernel
theorem lives08 (w : World) : Calls Try.prog 32 #[] w fun e w' => e = .returned (.bool true) ∧ Below w.heap.size w w' := by
  have hm := vmap_any 1 2 w
  rw [map_example] at hm
  go_enter Try.func32, Try.ntmps32
  go_wp2_with fail
  refine hm.mono ?_
  rintro e w1 ⟨rfl, hb⟩
  clear hm
  go_wp2
  go_ret
  exact ⟨rfl, hb⟩

theorem below_then3 {f : Nat} {w w1 w2 : World} (hf : w.heap.size = f) (h : Below f w w1) (k : Below w1.heap.size w1 w2) : Below f w w2 := h.trans (k.mono (by rw [← hf]; exact h.size))
set_option maxRecDepth 100000 in
set_option maxHeartbeats 4000000 in
theorem law_ValueTells (a0 a1 : Int) (a b c d : Int) (x y z : Int) (w : World) (w0 : (Lit.int .i64 a0).wf = true) (w1 : (Lit.int .i64 a1).wf = true)
    (wa : (Lit.int .i64 a).wf = true) (wb : (Lit.int .i64 b).wf = true) (wc : (Lit.int .i64 c).wf = true) (wd : (Lit.int .i64 d).wf = true)
    (wx : (Lit.int .i64 x).wf = true) (wy : (Lit.int .i64 y).wf = true) (wz : (Lit.int .i64 z).wf = true) :
    Calls Try.prog 4 #[.int .i64 a0, .int .i64 a1, .agg #[.int .i64 a, .int .i64 b, .int .i64 c, .int .i64 d], .agg #[.int .i64 x, .int .i64 y, .int .i64 z]] w fun e w' => e = .returned (.bool true) ∧ Below w.heap.size w w' := by
  have c1 := vmap_any a0 a1
  have c2 := rmap_any a0 a1
  have c3 := fun W => vdetail_any a b c d W wa wb wc wd
  have c4 := rdetail_any a b c d
  have c5 := fun W => vslot_any x y z W wx wy wz
  have c6 := rslot_any x y z
  have c7 := fun W => vroot_any a0 W w0
  have c8 := rroot_any a0
  have c9 := fun W => vcount_any a1 W w1
  have c10 := rcount_any a1
  have c11 := lives08
  generalize mapV a0 a1 = v1 at *
  generalize valV (detZ a b c d) = v2 at *
  generalize valV (slotZ x y z) = v3 at *
  generalize valV [(rootP, a0)] = v4 at *
  generalize valV [(countP, a1)] = v5 at *
  clear w0 w1 wa wb wc wd wx wy wz
  go_enter Try.func4, Try.ntmps4
  go_wp2_with fail
  have hB := below_alloc2 w (.cells #[.int .i64 a, .int .i64 b, .int .i64 c, .int .i64 d] 33) (.cells #[.int .i64 x, .int .i64 y, .int .i64 z] 35)
  have g0 : ((w.alloc (.cells #[.int .i64 a, .int .i64 b, .int .i64 c, .int .i64 d] 33)).alloc (.cells #[.int .i64 x, .int .i64 y, .int .i64 z] 35)).cell? ⟨w.heap.size, 0, none⟩ = some (.int .i64 a) := by rw [World.cell?_alloc_lt _ _ _ (by simp), World.cell?_alloc_mark]; rfl
  have g1 : ((w.alloc (.cells #[.int .i64 a, .int .i64 b, .int .i64 c, .int .i64 d] 33)).alloc (.cells #[.int .i64 x, .int .i64 y, .int .i64 z] 35)).cell? ⟨w.heap.size, 1, none⟩ = some (.int .i64 b) := by rw [World.cell?_alloc_lt _ _ _ (by simp), World.cell?_alloc_mark]; rfl
  have g2 : ((w.alloc (.cells #[.int .i64 a, .int .i64 b, .int .i64 c, .int .i64 d] 33)).alloc (.cells #[.int .i64 x, .int .i64 y, .int .i64 z] 35)).cell? ⟨w.heap.size, 2, none⟩ = some (.int .i64 c) := by rw [World.cell?_alloc_lt _ _ _ (by simp), World.cell?_alloc_mark]; rfl
  have g3 : ((w.alloc (.cells #[.int .i64 a, .int .i64 b, .int .i64 c, .int .i64 d] 33)).alloc (.cells #[.int .i64 x, .int .i64 y, .int .i64 z] 35)).cell? ⟨w.heap.size, 3, none⟩ = some (.int .i64 d) := by rw [World.cell?_alloc_lt _ _ _ (by simp), World.cell?_alloc_mark]; rfl
  have k0 : ((w.alloc (.cells #[.int .i64 a, .int .i64 b, .int .i64 c, .int .i64 d] 33)).alloc (.cells #[.int .i64 x, .int .i64 y, .int .i64 z] 35)).cell? ⟨w.heap.size + 1, 0, none⟩ = some (.int .i64 x) := by
    have := World.cell?_alloc_mark (w.alloc (.cells #[.int .i64 a, .int .i64 b, .int .i64 c, .int .i64 d] 33)) (#[.int .i64 x, .int .i64 y, .int .i64 z]) 35 (0, 0) 0
    rw [World.size_alloc] at this
    rw [this]; rfl
  have k1 : ((w.alloc (.cells #[.int .i64 a, .int .i64 b, .int .i64 c, .int .i64 d] 33)).alloc (.cells #[.int .i64 x, .int .i64 y, .int .i64 z] 35)).cell? ⟨w.heap.size + 1, 1, none⟩ = some (.int .i64 y) := by
    have := World.cell?_alloc_mark (w.alloc (.cells #[.int .i64 a, .int .i64 b, .int .i64 c, .int .i64 d] 33)) (#[.int .i64 x, .int .i64 y, .int .i64 z]) 35 (0, 0) 1
    rw [World.size_alloc] at this
    rw [this]; rfl
  have k2 : ((w.alloc (.cells #[.int .i64 a, .int .i64 b, .int .i64 c, .int .i64 d] 33)).alloc (.cells #[.int .i64 x, .int .i64 y, .int .i64 z] 35)).cell? ⟨w.heap.size + 1, 2, none⟩ = some (.int .i64 z) := by
    have := World.cell?_alloc_mark (w.alloc (.cells #[.int .i64 a, .int .i64 b, .int .i64 c, .int .i64 d] 33)) (#[.int .i64 x, .int .i64 y, .int .i64 z]) 35 (0, 0) 2
    rw [World.size_alloc] at this
    rw [this]; rfl
  generalize ((w.alloc (.cells #[.int .i64 a, .int .i64 b, .int .i64 c, .int .i64 d] 33)).alloc (.cells #[.int .i64 x, .int .i64 y, .int .i64 z] 35)) = W1 at *
  generalize hf : w.heap.size = f at *
  have HF := Lib.hid hf
  clear hf
  have hBd := hB.drew
  go_region_held3 (fun w' => Below f w w' ∧ w'.cell? ⟨f, 0, none⟩ = some (.int .i64 a) ∧ w'.cell? ⟨f, 1, none⟩ = some (.int .i64 b) ∧ w'.cell? ⟨f, 2, none⟩ = some (.int .i64 c) ∧ w'.cell? ⟨f, 3, none⟩ = some (.int .i64 d) ∧ w'.cell? ⟨f + 1, 0, none⟩ = some (.int .i64 x) ∧ w'.cell? ⟨f + 1, 1, none⟩ = some (.int .i64 y) ∧ w'.cell? ⟨f + 1, 2, none⟩ = some (.int .i64 z)) (first | go_keep | exact And.imp (fun h => below_then3 HF.out h hb) (And.imp (keep_cell hb) (And.imp (keep_cell hb) (And.imp (keep_cell hb) (And.imp (keep_cell hb) (And.imp (keep_cell hb) (And.imp (keep_cell hb) (keep_cell hb))))))) (by assumption)) (first | (go_at_call 22; refine (c1 _).mono ?_; rintro e w2 ⟨rfl, hb⟩) | (go_at_call 23; refine (c2 _).mono ?_; rintro e w2 ⟨rfl, hb⟩) | (go_at_call 24; refine (c3 _).mono ?_; rintro e w2 ⟨rfl, hb⟩) | (go_at_call 25; refine (c4 _).mono ?_; rintro e w2 ⟨rfl, hb⟩) | (go_at_call 26; refine (c5 _).mono ?_; rintro e w2 ⟨rfl, hb⟩) | (go_at_call 27; refine (c6 _).mono ?_; rintro e w2 ⟨rfl, hb⟩) | (go_at_call 28; refine (c7 _).mono ?_; rintro e w2 ⟨rfl, hb⟩) | (go_at_call 29; refine (c8 _).mono ?_; rintro e w2 ⟨rfl, hb⟩) | (go_at_call 30; refine (c9 _).mono ?_; rintro e w2 ⟨rfl, hb⟩) | (go_at_call 31; refine (c10 _).mono ?_; rintro e w2 ⟨rfl, hb⟩) | (go_at_call 32; refine (c11 _).mono ?_; rintro e w2 ⟨rfl, hb⟩))
  rename_i hHeld
  have hBf := hHeld.1
  rw [← HF.out] at hBf
  clear hHeld hb
  go_wp2
  go_ret
  exact ⟨rfl, hBf⟩
end Go.Proofs.Ytahomneljdjjjaa
