/-
  Chapter 6: super.Put (under way).
-/
import Derived.Test.YtahomneljdjjjaaSup4
import Derived.Test.YtahomneljdjjjaaBase7
import Derived.Test.YtahomneljdjjjaaBase2
import Derived.Test.YtahomneljdjjjaaBase4
import Derived.Test.YtahomneljdjjjaaBits
namespace Go.Proofs.Ytahomneljdjjjaa
open Go.RowKit

def PInv (n : Nat → Int) (w : World) (g r : Nat) (k : Nat) (W : World) : Prop :=
  W.heap[g]? = some (.cells (supC n) 23) ∧ (∃ A c, Boxed W r 47 (.slice A (k + 1) c) ∧ W.ownsRow w.heap.size 49 2 (.slice A (k + 1) c) (k + 1) (fv (fldS n k))) ∧ Below w.heap.size w W ∧ w.heap.size ≤ r ∧ g ≠ r
theorem PInv.step {n : Nat → Int} {w : World} {g r k : Nat} {W : World} (hk : k < 11) (lo hi : Int) (h : PInv n w g r k W) :
    Calls Try.prog 65 (#[.pointer (some ⟨g, k, none⟩), .int .i64 lo, .int .i64 hi] ++ #[.pointer (some ⟨r, 0, none⟩)]) W (Step (PInv n w g r) (k + 1) W) := by
  obtain ⟨hg, ⟨A, c, hb, ho⟩, hbl, hr, hne⟩ := h
  refine (put1_any ⟨g, k, none⟩ r (k + 1) w.heap.size c A (fv (fldS n k)) lo hi (n k) W (heap_cell hg k (supC_at n k hk)) hb ho hbl.size hr (by omega)).mono ?_
  rintro e w1 ⟨rfl, A', c', hb1, ho1, hk1, hbl1⟩
  have hgl : g < W.heap.size := (Array.getElem?_eq_some_iff.1 hg).1
  refine ⟨rfl, ⟨?_, ⟨A', c', hb1, ?_⟩, hbl.trans hbl1, hr, hne⟩, ?_⟩
  · rw [hk1 g hgl hne (not_own hg (by decide) ho)]
    exact hg
  · rw [fldS_snoc, fv_append]
    exact ho1
  · intro b cur fz hb2
    rw [hk1 b (Array.getElem?_eq_some_iff.1 hb2).1 ?_ (not_own hb2 (by decide) ho)]
    · exact hb2
    · rintro rfl
      have := hb.symm.trans hb2
      simp at this
theorem PInv.stable {n : Nat → Int} {w : World} {g r k : Nat} {W : World} (h : PInv n w g r k W) : (∀ m, PInv n w g r k (W.drewN m)) ∧ ∀ o, PInv n w g r k (W.alloc o) := by
  obtain ⟨hg, ⟨A, c, hb, ho⟩, hbl, hr, hne⟩ := h
  exact ⟨fun m => ⟨hg, ⟨A, c, hb, ho⟩, below_drewN hbl m, hr, hne⟩, fun o => ⟨heap_alloc' hg o, ⟨A, c, hb.alloc o, ho.alloc o⟩, hbl.alloc hbl.size o, hr, hne⟩⟩
theorem put1_enter (args : Array Value) (W : World) : Sem.run Try.prog (callFunc 65 args) W = .ok (.enter 65 args) W := by
  go_simp
theorem eachput_any (n : Nat → Int) (w : World) (g r : Nat) (W : World) (h : PInv n w g r 0 W) :
    Calls Try.prog 64 #[.pointer (some ⟨g, 0, none⟩), .func (.func 65) #[] #[.pointer (some ⟨r, 0, none⟩)]] W fun e w' => e = .returned (.tuple #[]) ∧ PInv n w g r 11 w' :=
  each_any g 65 #[.pointer (some ⟨r, 0, none⟩)] (PInv n w g r) (n 4) W put1_enter (fun k W m h => h.stable.1 m) (fun k W o h => h.stable.2 o) (fun k W hk h => heap_cell h.1 4 rfl)
    (fun W h => h.step (by omega) _ _) (fun W h => h.step (by omega) _ _) (fun W h => h.step (by omega) _ _) (fun W h => h.step (by omega) _ _) (fun W h => h.step (by omega) _ _) (fun k W _ h11 h => h.step h11 _ _) h
theorem superB_steps (n : Nat → Int) : (bv (List.replicate 244 0)).take 0 ++ (bv [83, 67, 65, 78, 84, 76, 73, 78] ++ (bv (List.replicate 244 0)).drop (0 + [(83 : UInt8), 67, 65, 78, 84, 76, 73, 78].length)) = bv (magicB ++ List.replicate 236 0) ∧
    (bv (magicB ++ List.replicate 236 0)).take 8 ++ ((bv (packB (fldS n 11))).take (244 - 8) ++ (bv (magicB ++ List.replicate 236 0)).drop (8 + (bv (packB (fldS n 11))).length)) = bv (superB n) := by
  constructor
  · rw [bv_drop, bv_take, ← bv_append, ← bv_append]
    rfl
  · have h1 : (packB (fldS n 11)).take (244 - 8) = packB (fldS n 11) := List.take_of_length_le (by rw [packB_flen]; decide)
    have h2 : (magicB ++ List.replicate 236 0).take 8 = magicB := rfl
    have h3 : (magicB ++ List.replicate 236 0).drop (8 + 48) = List.replicate 188 (0 : UInt8) := rfl
    rw [bv_len, packB_flen, bv_drop, bv_take, bv_take, ← bv_append, ← bv_append, h1, h2, h3]
    rfl
set_option maxRecDepth 100000 in
set_option maxHeartbeats 2000000 in
theorem put_super (n : Nat → Int) (hw : ∀ i, i < 11 → (Lit.int .i64 (n i)).wf = true) (w : World) :
    Calls Try.prog 17 #[.agg (supC n)] w (GivesE 5 (bv (superV n)) (superE n) w) := by
  have hra := fun W => right_any n W
  have hpe := fun g r W h => eachput_any n w g r W h
  have hsz : (Try.prog.info? 5).map (·.size) = some 1 := by kernel_rfl
  obtain ⟨i0, hi, hz0, hz1, hz2⟩ := info_parts Try.infoU8
  have hss : (Try.prog.info? 23).map (·.size) = some (supC n).size := by
    rw [show (supC n).size = 11 from rfl]
    kernel_rfl
  have hs0 := heap_alloc_new w (.cells (supC n) 23)
  cases hok : okS n 11 with
  | false =>
    have hv : superV n = [] ∧ superE n = 1 := by unfold superV superE; rw [hok]; exact ⟨rfl, rfl⟩
    rw [hv.1, hv.2]
    rw [hok] at hra
    clear hv hpe hok
    generalize supC n = C at *
    go_enter Try.func17, Try.ntmps17
    go_wp2_with (refine wpList_load_row rfl 23 _ rfl w.heap.size rfl 23 _ _ _ hs0 Try.underlying23 rfl hss ?_)
    refine (hra _).mono ?_
    rintro e w1 ⟨rfl, hb1⟩
    have hB := below_then (below_alloc1 w _) hb1
    clear hra hb1
    go_wp2
    go_ret2
    exact ⟨none, 0, rfl, World.ownsRow_nil _ _ _ _, hB⟩
  | true =>
    have hv : superV n = superB n ∧ superE n = 0 := by unfold superV superE; rw [hok]; exact ⟨rfl, rfl⟩
    have hp0 := fldS_ok hok
    have hpk := fun A c W h => pack_any A c (fldS n 11) W (by rw [fldS_len]; decide) (by
      intro p hp
      unfold fldS at hp
      rcases List.mem_cons.1 hp with rfl | hp
      · decide
      · obtain ⟨i, hi, rfl⟩ := List.mem_map.1 hp
        exact hw i (by simpa using hi)) h
    rw [show packV (fldS n 11) = packB (fldS n 11) by unfold packV; rw [if_pos hp0], hp0, fldS_len] at hpk
    rw [hv.1, hv.2]
    rw [hok] at hra
    have HP0 : ∀ W r, W.heap[w.heap.size]? = some (.cells (supC n) 23) → Boxed W r 47 (.slice (some ⟨r - 1, 0, none⟩) 1 1) → True := fun _ _ _ _ => trivial
    have HC : Hid (supC n = supC n) := rfl
    have HBL := Lib.hid (superB_len n)
    have HS := Lib.hid (superB_steps n)
    have HPL := Lib.hid (packB_flen n)
    clear hv hok hp0 HP0 HC
    go_enter Try.func17, Try.ntmps17
    generalize hC : supC n = C at *
    go_wp2_with (refine wpList_load_row rfl 23 _ rfl w.heap.size rfl 23 _ _ _ hs0 Try.underlying23 rfl hss ?_)
    refine (hra _).mono ?_
    rintro e w1 ⟨rfl, hb1⟩
    have hs1 := heap_keep hs0 hb1
    have hB := below_then (below_alloc1 w _) hb1
    clear hra hb1 hs0
    go_wp2_with fail
    have hlit := World.ownsRow_lit (e := 49) (size := 2) (base := w.heap.size) w1 #[.int .i64 4, .int .i64 1] 1 hB.size (by decide) (by rfl)
    have hbx := Boxed.new (w1.alloc (.cells #[.int .i64 4, .int .i64 1] 49)) 47 (.slice (some ⟨w1.heap.size, 0, none⟩) 1 1)
    rw [World.size_alloc] at hbx
    have hgl : w.heap.size < w1.heap.size := (Array.getElem?_eq_some_iff.1 hs1).1
    have hp0 : PInv n w w.heap.size (w1.heap.size + 1) 0 ((w1.alloc (.cells #[.int .i64 4, .int .i64 1] 49)).alloc (.cells #[.slice (some ⟨w1.heap.size, 0, none⟩) 1 1] 47)) := by
      refine ⟨?_, ⟨_, _, hbx, hlit.alloc _⟩, hB.trans ((below_alloc2 w1 _ _).mono hB.size), by omega, by omega⟩
      rw [hC]
      exact heap_alloc' (heap_alloc' hs1 _) _
    refine (hpe _ _ _ hp0).mono ?_
    rintro e w2 ⟨rfl, hi2⟩
    clear hp0 hbx hlit hpe hs1 hss
    obtain ⟨-, ⟨A2, c2, hb2, ho2⟩, hbl2, hr2, -⟩ := hi2
    have hR2 := Reads2.of_own (by rw [fldS_len]) ho2
    have hc2 := hb2.cell
    clear ho2 hC
    go_wp2_with fail
    refine (hpk _ _ _ hR2).mono ?_
    rintro e w3 ⟨A3, c3, rfl, ho3, hb3⟩
    rw [bv_len, HPL.out] at ho3
    rw [bv_len, HPL.out]
    have hB3 := hbl2.trans (hb3.mono hbl2.size)
    have hr3 := Reads.of_own ho3
    have HM := Lib.hid (show (madeCells (Value.int .u8 0).cells (244 * 1)).toList = bv (List.replicate 244 0) from made_zeros 244)
    clear hpk hb3 hb2 hc2 hR2 hgl
    go_wp2_with (at_make; refine wpList_make_full _ rfl (.const _) (.const _) _ rfl w.heap.size 5 i0 _ 1 Try.underlying24 hi hz0 hz1 .i64 .i64 244 244 244 rfl rfl (by omega) (by omega) (by rw [hz2]; omega) (by simp only [maxLen]; omega) hB3.size ?_; intro w4 hown4 hg4; rw [HM.out] at hown4; have hB4 : Below w.heap.size w w4 := hB3.grown hg4 hB3.size (fun k hk => by cases hk); have hr4 := hr3.grown hg4 (Nat.le_refl _) (fun k hk => by cases hk); obtain ⟨w5, hrun5, hown5, hg5, hs5⟩ := run_copy_str w4 24 9 3 5 Try.underlying24 hsz w.heap.size w3.heap.size 244 244 (bv (List.replicate 244 0)) hown4 0 244 244 [83, 67, 65, 78, 84, 76, 73, 78] (by decide) (by decide); rw [HS.out.1] at hown5; have hB5 : Below w.heap.size w w5 := hB4.grown hg5 hB4.size (fun k hk => by cases hk; exact hB3.size); have hr5 := hr4.grown hg5 (by have := hg4.size; omega) (fun k hk => by cases hk; omega); obtain ⟨w6, hrun6, hown6, hg6, hs6⟩ := run_copy_to w5 24 24 3 5 Try.underlying24 hsz w.heap.size w3.heap.size 244 244 (bv (magicB ++ List.replicate 236 0)) hown5 8 (by decide) (some ⟨w3.heap.size, 8, none⟩) 236 236 (by decide) (fun _ => rfl) w3.heap.size A3 48 c3 (bv (packB (fldS n 11))) (by rw [bv_len, HPL.out]) hr5 (bv_one _); rw [HS.out.2] at hown6; have hB6 : Below w.heap.size w w6 := hB5.grown hg6 hB5.size (fun k hk => by cases hk; exact hB3.size); have hrun5 : (Builtin.copy_ #[24, 9] 3 #[.slice (some ⟨w3.heap.size, 0, none⟩) 244 244, .string ⟨#[83, 67, 65, 78, 84, 76, 73, 78]⟩]).run Try.prog w4 = .ok (.int .i64 8) w5 := hrun5; have hrun6 : (Builtin.copy_ #[24, 24] 3 #[.slice (some ⟨w3.heap.size, 8, none⟩) 236 236, .slice A3 48 c3]).run Try.prog w5 = .ok (.int .i64 48) w6 := hrun6)
    go_ret2
    exact ⟨_, 244, by rw [bv_len, HBL.out]; rfl, by rw [bv_len, HBL.out]; exact hown6, hB6⟩
end Go.Proofs.Ytahomneljdjjjaa
