/-
  Chapter 21: the example; TallySplits, walked.
-/
import Derived.Test.YtcnalndhlonblaaTly5
import Derived.Test.YtcnalndhlonblaaBase9
namespace Go.Proofs.Ytcnalndhlonblaa
open Go.RowKit
theorem ex21 : splitE [0, 5, 2] = 0 ∧ splitB [0, 5, 2] = [[0, 3, 2]] ∧ splitO [0, 5, 2] = [⟨1, cntB 5, 0⟩] := by
  obtain ⟨h1, h2, h3⟩ := splitE_ok (c := [0, 5, 2]) (by decide)
  refine ⟨h1, h2.trans (by decide), h3.trans ?_⟩
  simp [ovsN]
theorem cnt5 : cntB 5 = [5, 0, 0, 0] := by decide +kernel
set_option linter.unusedSimpArgs false in
set_option maxRecDepth 100000 in
set_option maxHeartbeats 4000000 in
theorem lives21 (w : World) : Calls Try.prog 10 #[] w fun e w' => e = .returned (.bool true) ∧ Below w.heap.size w w' := by
  have KS := split_any (some ⟨w.heap.size, 0, none⟩) 3 [0, 5, 2] (by decide) (w.alloc (.cells #[.int .i64 0, .int .i64 5, .int .i64 2] 3)) (by
    have := Reads.new w [.int .i64 0, .int .i64 5, .int .i64 2] 3 (0, 0)
    exact (show Reads _ (w.heap.size + 1) _ (iv [0, 5, 2]) from this).more (by simp))
  have HB1 := Lib.hid (below_alloc1 w (.cells #[.int .i64 0, .int .i64 5, .int .i64 2] 3))
  go_enter Try.func10, Try.ntmps10
  go_wp2_with fail
  refine KS.mono ?_
  rintro e w2 ⟨A1, c1, A2, c2, rfl, hL, hE, hb2⟩
  rw [ex21.1, ex21.2.1, ex21.2.2]
  rw [ex21.2.1] at hL
  rw [ex21.2.2] at hE
  have HB2 := Lib.hid (below_then HB1.out hb2)
  obtain ⟨b, o, rfl, -, hc⟩ := hE (by decide)
  obtain ⟨e0, e1, e2⟩ := hc 0 _ rfl
  rw [Nat.zero_mul, Nat.add_zero] at e0 e1 e2
  replace e0 : w2.cell? ⟨b, o, none⟩ = some (.int .i64 1) := e0
  replace e1 : w2.cell? ⟨b, o + 1, none⟩ = some (.string ⟨(cntB 5).toArray⟩) := e1
  replace e2 : w2.cell? ⟨b, o + 2, none⟩ = some (.int .i64 0) := e2
  rw [cnt5] at e1
  have KC := Lib.hid (fun (V : World) => (show Calls Try.prog 32 #[.int .i64 5] V fun e w' => e = .returned (.string ⟨#[5, 0, 0, 0]⟩) ∧ Below V.heap.size V w' from by
    have := vcount_any 5 V (by decide)
    rw [show valV [(countP, 5)] = [5, 0, 0, 0] from cnt5] at this
    exact this))
  have KB := Lib.hid (sameBits_any A1 c1 (some ⟨w2.heap.size + 1, 0, none⟩) 1 [[0, 3, 2]] ((w2.drew.alloc (.cells #[.int .i64 0, .int .i64 3, .int .i64 2] 3)).alloc (.cells #[.slice (some ⟨w2.heap.size, 0, none⟩) 3 3] 22)) w2.heap.size (w2.heap.size + 2) (by decide) (by decide) ((show Lists w2.drew w2.drew.heap.size A1 [[0, 3, 2]] from hL).below (below_alloc2 w2.drew _ _)) (fun _ => by
    refine ⟨⟨w2.heap.size + 1, 0, none⟩, rfl, by show w2.heap.size + 1 < w2.heap.size + 2; omega, fun j l hj => ?_⟩
    have hn := heap_alloc_new (w2.drew.alloc (.cells #[.int .i64 0, .int .i64 3, .int .i64 2] 3)) (.cells #[.slice (some ⟨w2.heap.size, 0, none⟩) 3 3] 22)
    rw [World.size_alloc] at hn
    have hr := Reads.new w2.drew [.int .i64 0, .int .i64 3, .int .i64 2] 3 (0, 0)
    rcases j with _ | j
    · simp at hj
      subst hj
      refine ⟨some ⟨w2.heap.size, 0, none⟩, 3, heap_cell hn 0 rfl, ?_⟩
      exact ((show Reads _ (w2.heap.size + 1) _ (iv [0, 3, 2]) from hr).alloc (by simp) _).more (by omega)
    · simp at hj))
  have hB9 := (Below.refl w2.heap.size w2).drew
  have HH := Lib.hid (fun (V : World) (hb : Below w2.heap.size w2 V) => below_then HB2.out hb)
  have HK := Lib.hid (fun (V V' : World) (hb : Below V.heap.size V V') (hS : Below w2.heap.size w2 V ∧ V.cell? ⟨b, o, none⟩ = some (.int .i64 1) ∧ V.cell? ⟨b, o + 1, none⟩ = some (.string ⟨#[5, 0, 0, 0]⟩) ∧ V.cell? ⟨b, o + 2, none⟩ = some (.int .i64 0)) =>
    (show Below w2.heap.size w2 V' ∧ V'.cell? ⟨b, o, none⟩ = some (.int .i64 1) ∧ V'.cell? ⟨b, o + 1, none⟩ = some (.string ⟨#[5, 0, 0, 0]⟩) ∧ V'.cell? ⟨b, o + 2, none⟩ = some (.int .i64 0) from
      ⟨below_then hS.1 hb, keep_cell hb hS.2.1, keep_cell hb hS.2.2.1, keep_cell hb hS.2.2.2⟩))
  clear KS hL hE hb2 hc
  go_upto_region 2 with fail
  refine wp_region_held_drew (S := (fun V => Below w2.heap.size w2 V ∧ V.cell? ⟨b, o, none⟩ = some (.int .i64 1) ∧ V.cell? ⟨b, o + 1, none⟩ = some (.string ⟨#[5, 0, 0, 0]⟩) ∧ V.cell? ⟨b, o + 2, none⟩ = some (.int .i64 0))) (by kernel_rfl) ?_ (fun hHeld => ?_)
  (focus ((try dsimp only); (first | exact ⟨hB9, e0, e1, e2⟩ | exact HK.out _ _ hb hHeld | exact HK.out _ _ (below_alloc1 _ _) hHeld)))
  first | (refine anyH_skip 0 (by kernel_rfl) (by kernel_rfl) (by simp only [List.getElem?_toArray, List.getElem?_cons_zero] <;> rfl) (by kernel_rfl) (by exact fun _ _ _ h => h) (by rfl) (by assumption) ?_; (try simp only [Act.put, List.setIfInBounds_toArray, List.set_cons_zero, List.set_cons_succ])) | (refine anyH_take 0 (v := ?_) (by kernel_rfl) (by kernel_rfl) (by simp only [List.getElem?_toArray, List.getElem?_cons_zero] <;> rfl) (by kernel_rfl) (by exact fun _ _ _ h => h) (by rfl) ?_ (by assumption) ?_; rotate_left; (focus (intro w hSw; (try dsimp only at hSw); (try simp only [List.getElem_toArray, List.getElem_cons_succ, List.getElem_cons_zero]); go_simp; try (with_reducible rfl))); (try simp only [Act.put, List.setIfInBounds_toArray, List.set_cons_zero, List.set_cons_succ]))
  first | (refine anyH_skip 1 (by kernel_rfl) (by kernel_rfl) (by simp only [List.getElem?_toArray, List.getElem?_cons_succ, List.getElem?_cons_zero] <;> rfl) (by kernel_rfl) (by exact fun _ _ _ h => h) (by rfl) (by assumption) ?_; (try simp only [Act.put, List.setIfInBounds_toArray, List.set_cons_zero, List.set_cons_succ])) | (refine anyH_take 1 (v := ?_) (by kernel_rfl) (by kernel_rfl) (by simp only [List.getElem?_toArray, List.getElem?_cons_succ, List.getElem?_cons_zero] <;> rfl) (by kernel_rfl) (by exact fun _ _ _ h => h) (by rfl) ?_ (by assumption) ?_; rotate_left; (focus (intro w hSw; (try dsimp only at hSw); (try simp only [List.getElem_toArray, List.getElem_cons_succ, List.getElem_cons_zero]); go_simp; try (with_reducible rfl))); (try simp only [Act.put, List.setIfInBounds_toArray, List.set_cons_zero, List.set_cons_succ]))
  first | (refine anyH_skip 2 (by kernel_rfl) (by kernel_rfl) (by simp only [List.getElem?_toArray, List.getElem?_cons_succ, List.getElem?_cons_zero] <;> rfl) (by kernel_rfl) (by exact fun _ _ _ h => h) (by rfl) (by assumption) ?_; (try simp only [Act.put, List.setIfInBounds_toArray, List.set_cons_zero, List.set_cons_succ])) | (refine anyH_take 2 (v := ?_) (by kernel_rfl) (by kernel_rfl) (by simp only [List.getElem?_toArray, List.getElem?_cons_succ, List.getElem?_cons_zero] <;> rfl) (by kernel_rfl) (by exact fun _ _ _ h => h) (by rfl) ?_ (by assumption) ?_; rotate_left; (focus (intro w hSw; (try dsimp only at hSw); (try simp only [List.getElem_toArray, List.getElem_cons_succ, List.getElem_cons_zero]); go_simp; try (with_reducible rfl))); (try simp only [Act.put, List.setIfInBounds_toArray, List.set_cons_zero, List.set_cons_succ]))
  first | (refine anyH_skip 3 (by kernel_rfl) (by kernel_rfl) (by simp only [List.getElem?_toArray, List.getElem?_cons_succ, List.getElem?_cons_zero] <;> rfl) (by kernel_rfl) (by exact fun _ _ _ h => h) (by rfl) (by assumption) ?_; (try simp only [Act.put, List.setIfInBounds_toArray, List.set_cons_zero, List.set_cons_succ])) | (refine anyH_take 3 (v := ?_) (by kernel_rfl) (by kernel_rfl) (by simp only [List.getElem?_toArray, List.getElem?_cons_succ, List.getElem?_cons_zero] <;> rfl) (by kernel_rfl) (by exact fun _ _ _ h => h) (by rfl) ?_ (by assumption) ?_; rotate_left; (focus (intro w hSw; (try dsimp only at hSw); (try simp only [List.getElem_toArray, List.getElem_cons_succ, List.getElem_cons_zero]); go_simp; try (with_reducible rfl))); (try simp only [Act.put, List.setIfInBounds_toArray, List.set_cons_zero, List.set_cons_succ]))
  first | (refine anyH_pass 4 (by kernel_rfl) (by simp only [List.getElem?_toArray, List.getElem?_cons_succ, List.getElem?_cons_zero] <;> rfl) (by rfl) (by assumption) ?_; (try simp only [Act.put, List.setIfInBounds_toArray, List.set_cons_zero, List.set_cons_succ])) | (refine anyH_one 4 (by kernel_rfl) (by simp only [List.getElem?_toArray, List.getElem?_cons_succ, List.getElem?_cons_zero] <;> rfl) (by rfl) (fun K hK => ?_); (try simp only [List.getElem_toArray, List.getElem_cons_succ, List.getElem_cons_zero]); go_simp; (first | (go_at_call 13; refine KB.out.mono ?_; rintro e w3 ⟨rfl, hb⟩) | (go_at_call 32; refine (KC.out _).mono ?_; rintro e w4 ⟨rfl, hb⟩) | skip); refine hK.out _ _ ?_ (fun hHeld => ?_); (focus ((try dsimp only); (first | exact ⟨hB9, e0, e1, e2⟩ | exact HK.out _ _ hb hHeld | exact HK.out _ _ (below_alloc1 _ _) hHeld))); clear hK K; (try simp only [Act.put, List.setIfInBounds_toArray, List.set_cons_zero, List.set_cons_succ]))
  first | (refine anyH_pass 5 (by kernel_rfl) (by simp only [List.getElem?_toArray, List.getElem?_cons_succ, List.getElem?_cons_zero] <;> rfl) (by rfl) (by assumption) ?_; (try simp only [Act.put, List.setIfInBounds_toArray, List.set_cons_zero, List.set_cons_succ])) | (refine anyH_one 5 (by kernel_rfl) (by simp only [List.getElem?_toArray, List.getElem?_cons_succ, List.getElem?_cons_zero] <;> rfl) (by rfl) (fun K hK => ?_); (try simp only [List.getElem_toArray, List.getElem_cons_succ, List.getElem_cons_zero]); go_simp; (first | (go_at_call 13; refine KB.out.mono ?_; rintro e w3 ⟨rfl, hb⟩) | (go_at_call 32; refine (KC.out _).mono ?_; rintro e w4 ⟨rfl, hb⟩) | skip); refine hK.out _ _ ?_ (fun hHeld => ?_); (focus ((try dsimp only); (first | exact ⟨hB9, e0, e1, e2⟩ | exact HK.out _ _ hb hHeld | exact HK.out _ _ (below_alloc1 _ _) hHeld))); clear hK K; (try simp only [Act.put, List.setIfInBounds_toArray, List.set_cons_zero, List.set_cons_succ]))
  first | (refine anyH_pass 6 (by kernel_rfl) (by simp only [List.getElem?_toArray, List.getElem?_cons_succ, List.getElem?_cons_zero] <;> rfl) (by rfl) (by assumption) ?_; (try simp only [Act.put, List.setIfInBounds_toArray, List.set_cons_zero, List.set_cons_succ])) | (refine anyH_one 6 (by kernel_rfl) (by simp only [List.getElem?_toArray, List.getElem?_cons_succ, List.getElem?_cons_zero] <;> rfl) (by rfl) (fun K hK => ?_); (try simp only [List.getElem_toArray, List.getElem_cons_succ, List.getElem_cons_zero]); go_simp; (first | (go_at_call 13; refine KB.out.mono ?_; rintro e w3 ⟨rfl, hb⟩) | (go_at_call 32; refine (KC.out _).mono ?_; rintro e w4 ⟨rfl, hb⟩) | skip); refine hK.out _ _ ?_ (fun hHeld => ?_); (focus ((try dsimp only); (first | exact ⟨hB9, e0, e1, e2⟩ | exact HK.out _ _ hb hHeld | exact HK.out _ _ (below_alloc1 _ _) hHeld))); clear hK K; (try simp only [Act.put, List.setIfInBounds_toArray, List.set_cons_zero, List.set_cons_succ]))
  first | (refine anyH_skip 7 (by kernel_rfl) (by kernel_rfl) (by simp only [List.getElem?_toArray, List.getElem?_cons_succ, List.getElem?_cons_zero] <;> rfl) (by kernel_rfl) (by exact fun _ _ _ h => h) (by rfl) (by assumption) ?_; (try simp only [Act.put, List.setIfInBounds_toArray, List.set_cons_zero, List.set_cons_succ])) | (refine anyH_take 7 (v := ?_) (by kernel_rfl) (by kernel_rfl) (by simp only [List.getElem?_toArray, List.getElem?_cons_succ, List.getElem?_cons_zero] <;> rfl) (by kernel_rfl) (by exact fun _ _ _ h => h) (by rfl) ?_ (by assumption) ?_; rotate_left; (focus (intro w hSw; (try dsimp only at hSw); (try simp only [List.getElem_toArray, List.getElem_cons_succ, List.getElem_cons_zero]); go_simp; try (with_reducible rfl))); (try simp only [Act.put, List.setIfInBounds_toArray, List.set_cons_zero, List.set_cons_succ]))
  first | (refine anyH_skip 8 (by kernel_rfl) (by kernel_rfl) (by simp only [List.getElem?_toArray, List.getElem?_cons_succ, List.getElem?_cons_zero] <;> rfl) (by kernel_rfl) (by exact fun _ _ _ h => h) (by rfl) (by assumption) ?_; (try simp only [Act.put, List.setIfInBounds_toArray, List.set_cons_zero, List.set_cons_succ])) | (refine anyH_take 8 (v := ?_) (by kernel_rfl) (by kernel_rfl) (by simp only [List.getElem?_toArray, List.getElem?_cons_succ, List.getElem?_cons_zero] <;> rfl) (by kernel_rfl) (by exact fun _ _ _ h => h) (by rfl) ?_ (by assumption) ?_; rotate_left; (focus (intro w hSw; (try dsimp only at hSw); (try simp only [List.getElem_toArray, List.getElem_cons_succ, List.getElem_cons_zero]); go_simp; try (with_reducible rfl))); (try simp only [Act.put, List.setIfInBounds_toArray, List.set_cons_zero, List.set_cons_succ]))
  first | (refine anyH_skip 9 (by kernel_rfl) (by kernel_rfl) (by simp only [List.getElem?_toArray, List.getElem?_cons_succ, List.getElem?_cons_zero] <;> rfl) (by kernel_rfl) (by exact fun _ _ _ h => h) (by rfl) (by assumption) ?_; (try simp only [Act.put, List.setIfInBounds_toArray, List.set_cons_zero, List.set_cons_succ])) | (refine anyH_take 9 (v := ?_) (by kernel_rfl) (by kernel_rfl) (by simp only [List.getElem?_toArray, List.getElem?_cons_succ, List.getElem?_cons_zero] <;> rfl) (by kernel_rfl) (by exact fun _ _ _ h => h) (by rfl) ?_ (by assumption) ?_; rotate_left; (focus (intro w hSw; (try dsimp only at hSw); (try simp only [List.getElem_toArray, List.getElem_cons_succ, List.getElem_cons_zero]); go_simp; try (with_reducible rfl))); (try simp only [Act.put, List.setIfInBounds_toArray, List.set_cons_zero, List.set_cons_succ]))
  first | (refine anyH_skip 10 (by kernel_rfl) (by kernel_rfl) (by simp only [List.getElem?_toArray, List.getElem?_cons_succ, List.getElem?_cons_zero] <;> rfl) (by kernel_rfl) (by exact fun _ _ _ h => h) (by rfl) (by assumption) ?_; (try simp only [Act.put, List.setIfInBounds_toArray, List.set_cons_zero, List.set_cons_succ])) | (refine anyH_take 10 (v := ?_) (by kernel_rfl) (by kernel_rfl) (by simp only [List.getElem?_toArray, List.getElem?_cons_succ, List.getElem?_cons_zero] <;> rfl) (by kernel_rfl) (by exact fun _ _ _ h => h) (by rfl) ?_ (by assumption) ?_; rotate_left; (focus (intro w hSw; (try dsimp only at hSw); (try simp only [List.getElem_toArray, List.getElem_cons_succ, List.getElem_cons_zero]); go_simp; try (with_reducible rfl))); (try simp only [Act.put, List.setIfInBounds_toArray, List.set_cons_zero, List.set_cons_succ]))
  first | (refine anyH_skip 11 (by kernel_rfl) (by kernel_rfl) (by simp only [List.getElem?_toArray, List.getElem?_cons_succ, List.getElem?_cons_zero] <;> rfl) (by kernel_rfl) (by exact fun _ _ _ h => h) (by rfl) (by assumption) ?_; (try simp only [Act.put, List.setIfInBounds_toArray, List.set_cons_zero, List.set_cons_succ])) | (refine anyH_take 11 (v := ?_) (by kernel_rfl) (by kernel_rfl) (by simp only [List.getElem?_toArray, List.getElem?_cons_succ, List.getElem?_cons_zero] <;> rfl) (by kernel_rfl) (by exact fun _ _ _ h => h) (by rfl) ?_ (by assumption) ?_; rotate_left; (focus (intro w hSw; (try dsimp only at hSw); (try simp only [List.getElem_toArray, List.getElem_cons_succ, List.getElem_cons_zero]); go_simp; try (with_reducible rfl))); (try simp only [Act.put, List.setIfInBounds_toArray, List.set_cons_zero, List.set_cons_succ]))
  first | (refine anyH_skip 12 (by kernel_rfl) (by kernel_rfl) (by simp only [List.getElem?_toArray, List.getElem?_cons_succ, List.getElem?_cons_zero] <;> rfl) (by kernel_rfl) (by exact fun _ _ _ h => h) (by rfl) (by assumption) ?_; (try simp only [Act.put, List.setIfInBounds_toArray, List.set_cons_zero, List.set_cons_succ])) | (refine anyH_take 12 (v := ?_) (by kernel_rfl) (by kernel_rfl) (by simp only [List.getElem?_toArray, List.getElem?_cons_succ, List.getElem?_cons_zero] <;> rfl) (by kernel_rfl) (by exact fun _ _ _ h => h) (by rfl) ?_ (by assumption) ?_; rotate_left; (focus (intro w hSw; (try dsimp only at hSw); (try simp only [List.getElem_toArray, List.getElem_cons_succ, List.getElem_cons_zero]); go_simp; try (with_reducible rfl))); (try simp only [Act.put, List.setIfInBounds_toArray, List.set_cons_zero, List.set_cons_succ]))
  first | (refine anyH_skip 13 (by kernel_rfl) (by kernel_rfl) (by simp only [List.getElem?_toArray, List.getElem?_cons_succ, List.getElem?_cons_zero] <;> rfl) (by kernel_rfl) (by exact fun _ _ _ h => h) (by rfl) (by assumption) ?_; (try simp only [Act.put, List.setIfInBounds_toArray, List.set_cons_zero, List.set_cons_succ])) | (refine anyH_take 13 (v := ?_) (by kernel_rfl) (by kernel_rfl) (by simp only [List.getElem?_toArray, List.getElem?_cons_succ, List.getElem?_cons_zero] <;> rfl) (by kernel_rfl) (by exact fun _ _ _ h => h) (by rfl) ?_ (by assumption) ?_; rotate_left; (focus (intro w hSw; (try dsimp only at hSw); (try simp only [List.getElem_toArray, List.getElem_cons_succ, List.getElem_cons_zero]); go_simp; try (with_reducible rfl))); (try simp only [Act.put, List.setIfInBounds_toArray, List.set_cons_zero, List.set_cons_succ]))
  first | (refine anyH_skip 14 (by kernel_rfl) (by kernel_rfl) (by simp only [List.getElem?_toArray, List.getElem?_cons_succ, List.getElem?_cons_zero] <;> rfl) (by kernel_rfl) (by exact fun _ _ _ h => h) (by rfl) (by assumption) ?_; (try simp only [Act.put, List.setIfInBounds_toArray, List.set_cons_zero, List.set_cons_succ])) | (refine anyH_take 14 (v := ?_) (by kernel_rfl) (by kernel_rfl) (by simp only [List.getElem?_toArray, List.getElem?_cons_succ, List.getElem?_cons_zero] <;> rfl) (by kernel_rfl) (by exact fun _ _ _ h => h) (by rfl) ?_ (by assumption) ?_; rotate_left; (focus (intro w hSw; (try dsimp only at hSw); (try simp only [List.getElem_toArray, List.getElem_cons_succ, List.getElem_cons_zero]); go_simp; try (with_reducible rfl))); (try simp only [Act.put, List.setIfInBounds_toArray, List.set_cons_zero, List.set_cons_succ]))
  first | (refine anyH_skip 15 (by kernel_rfl) (by kernel_rfl) (by simp only [List.getElem?_toArray, List.getElem?_cons_succ, List.getElem?_cons_zero] <;> rfl) (by kernel_rfl) (by exact fun _ _ _ h => h) (by rfl) (by assumption) ?_; (try simp only [Act.put, List.setIfInBounds_toArray, List.set_cons_zero, List.set_cons_succ])) | (refine anyH_take 15 (v := ?_) (by kernel_rfl) (by kernel_rfl) (by simp only [List.getElem?_toArray, List.getElem?_cons_succ, List.getElem?_cons_zero] <;> rfl) (by kernel_rfl) (by exact fun _ _ _ h => h) (by rfl) ?_ (by assumption) ?_; rotate_left; (focus (intro w hSw; (try dsimp only at hSw); (try simp only [List.getElem_toArray, List.getElem_cons_succ, List.getElem_cons_zero]); go_simp; try (with_reducible rfl))); (try simp only [Act.put, List.setIfInBounds_toArray, List.set_cons_zero, List.set_cons_succ]))
  first | (refine anyH_skip 16 (by kernel_rfl) (by kernel_rfl) (by simp only [List.getElem?_toArray, List.getElem?_cons_succ, List.getElem?_cons_zero] <;> rfl) (by kernel_rfl) (by exact fun _ _ _ h => h) (by rfl) (by assumption) ?_; (try simp only [Act.put, List.setIfInBounds_toArray, List.set_cons_zero, List.set_cons_succ])) | (refine anyH_take 16 (v := ?_) (by kernel_rfl) (by kernel_rfl) (by simp only [List.getElem?_toArray, List.getElem?_cons_succ, List.getElem?_cons_zero] <;> rfl) (by kernel_rfl) (by exact fun _ _ _ h => h) (by rfl) ?_ (by assumption) ?_; rotate_left; (focus (intro w hSw; (try dsimp only at hSw); (try simp only [List.getElem_toArray, List.getElem_cons_succ, List.getElem_cons_zero]); go_simp; try (with_reducible rfl))); (try simp only [Act.put, List.setIfInBounds_toArray, List.set_cons_zero, List.set_cons_succ]))
  first | (refine anyH_pass 17 (by kernel_rfl) (by simp only [List.getElem?_toArray, List.getElem?_cons_succ, List.getElem?_cons_zero] <;> rfl) (by rfl) (by assumption) ?_; (try simp only [Act.put, List.setIfInBounds_toArray, List.set_cons_zero, List.set_cons_succ])) | (refine anyH_one 17 (by kernel_rfl) (by simp only [List.getElem?_toArray, List.getElem?_cons_succ, List.getElem?_cons_zero] <;> rfl) (by rfl) (fun K hK => ?_); (try simp only [List.getElem_toArray, List.getElem_cons_succ, List.getElem_cons_zero]); go_simp; (first | (go_at_call 13; refine KB.out.mono ?_; rintro e w3 ⟨rfl, hb⟩) | (go_at_call 32; refine (KC.out _).mono ?_; rintro e w4 ⟨rfl, hb⟩) | skip); refine hK.out _ _ ?_ (fun hHeld => ?_); (focus ((try dsimp only); (first | exact ⟨hB9, e0, e1, e2⟩ | exact HK.out _ _ hb hHeld | exact HK.out _ _ (below_alloc1 _ _) hHeld))); clear hK K; (try simp only [Act.put, List.setIfInBounds_toArray, List.set_cons_zero, List.set_cons_succ]))
  first | (refine anyH_skip 18 (by kernel_rfl) (by kernel_rfl) (by simp only [List.getElem?_toArray, List.getElem?_cons_succ, List.getElem?_cons_zero] <;> rfl) (by kernel_rfl) (by exact fun _ _ _ h => h) (by rfl) (by assumption) ?_; (try simp only [Act.put, List.setIfInBounds_toArray, List.set_cons_zero, List.set_cons_succ])) | (refine anyH_take 18 (v := ?_) (by kernel_rfl) (by kernel_rfl) (by simp only [List.getElem?_toArray, List.getElem?_cons_succ, List.getElem?_cons_zero] <;> rfl) (by kernel_rfl) (by exact fun _ _ _ h => h) (by rfl) ?_ (by assumption) ?_; rotate_left; (focus (intro w hSw; (try dsimp only at hSw); (try simp only [List.getElem_toArray, List.getElem_cons_succ, List.getElem_cons_zero]); go_simp; try (with_reducible rfl))); (try simp only [Act.put, List.setIfInBounds_toArray, List.set_cons_zero, List.set_cons_succ]))
  first | (refine anyH_skip 19 (by kernel_rfl) (by kernel_rfl) (by simp only [List.getElem?_toArray, List.getElem?_cons_succ, List.getElem?_cons_zero] <;> rfl) (by kernel_rfl) (by exact fun _ _ _ h => h) (by rfl) (by assumption) ?_; (try simp only [Act.put, List.setIfInBounds_toArray, List.set_cons_zero, List.set_cons_succ])) | (refine anyH_take 19 (v := ?_) (by kernel_rfl) (by kernel_rfl) (by simp only [List.getElem?_toArray, List.getElem?_cons_succ, List.getElem?_cons_zero] <;> rfl) (by kernel_rfl) (by exact fun _ _ _ h => h) (by rfl) ?_ (by assumption) ?_; rotate_left; (focus (intro w hSw; (try dsimp only at hSw); (try simp only [List.getElem_toArray, List.getElem_cons_succ, List.getElem_cons_zero]); go_simp; try (with_reducible rfl))); (try simp only [Act.put, List.setIfInBounds_toArray, List.set_cons_zero, List.set_cons_succ]))
  first | (refine anyH_skip 20 (by kernel_rfl) (by kernel_rfl) (by simp only [List.getElem?_toArray, List.getElem?_cons_succ, List.getElem?_cons_zero] <;> rfl) (by kernel_rfl) (by exact fun _ _ _ h => h) (by rfl) (by assumption) ?_; (try simp only [Act.put, List.setIfInBounds_toArray, List.set_cons_zero, List.set_cons_succ])) | (refine anyH_take 20 (v := ?_) (by kernel_rfl) (by kernel_rfl) (by simp only [List.getElem?_toArray, List.getElem?_cons_succ, List.getElem?_cons_zero] <;> rfl) (by kernel_rfl) (by exact fun _ _ _ h => h) (by rfl) ?_ (by assumption) ?_; rotate_left; (focus (intro w hSw; (try dsimp only at hSw); (try simp only [List.getElem_toArray, List.getElem_cons_succ, List.getElem_cons_zero]); go_simp; try (with_reducible rfl))); (try simp only [Act.put, List.setIfInBounds_toArray, List.set_cons_zero, List.set_cons_succ]))
  first | (refine anyH_skip 21 (by kernel_rfl) (by kernel_rfl) (by simp only [List.getElem?_toArray, List.getElem?_cons_succ, List.getElem?_cons_zero] <;> rfl) (by kernel_rfl) (by exact fun _ _ _ h => h) (by rfl) (by assumption) ?_; (try simp only [Act.put, List.setIfInBounds_toArray, List.set_cons_zero, List.set_cons_succ])) | (refine anyH_take 21 (v := ?_) (by kernel_rfl) (by kernel_rfl) (by simp only [List.getElem?_toArray, List.getElem?_cons_succ, List.getElem?_cons_zero] <;> rfl) (by kernel_rfl) (by exact fun _ _ _ h => h) (by rfl) ?_ (by assumption) ?_; rotate_left; (focus (intro w hSw; (try dsimp only at hSw); (try simp only [List.getElem_toArray, List.getElem_cons_succ, List.getElem_cons_zero]); go_simp; try (with_reducible rfl))); (try simp only [Act.put, List.setIfInBounds_toArray, List.set_cons_zero, List.set_cons_succ]))
  first | (refine anyH_skip 22 (by kernel_rfl) (by kernel_rfl) (by simp only [List.getElem?_toArray, List.getElem?_cons_succ, List.getElem?_cons_zero] <;> rfl) (by kernel_rfl) (by exact fun _ _ _ h => h) (by rfl) (by assumption) ?_; (try simp only [Act.put, List.setIfInBounds_toArray, List.set_cons_zero, List.set_cons_succ])) | (refine anyH_take 22 (v := ?_) (by kernel_rfl) (by kernel_rfl) (by simp only [List.getElem?_toArray, List.getElem?_cons_succ, List.getElem?_cons_zero] <;> rfl) (by kernel_rfl) (by exact fun _ _ _ h => h) (by rfl) ?_ (by assumption) ?_; rotate_left; (focus (intro w hSw; (try dsimp only at hSw); (try simp only [List.getElem_toArray, List.getElem_cons_succ, List.getElem_cons_zero]); go_simp; try (with_reducible rfl))); (try simp only [Act.put, List.setIfInBounds_toArray, List.set_cons_zero, List.set_cons_succ]))
  first | (refine anyH_skip 23 (by kernel_rfl) (by kernel_rfl) (by simp only [List.getElem?_toArray, List.getElem?_cons_succ, List.getElem?_cons_zero] <;> rfl) (by kernel_rfl) (by exact fun _ _ _ h => h) (by rfl) (by assumption) ?_; (try simp only [Act.put, List.setIfInBounds_toArray, List.set_cons_zero, List.set_cons_succ])) | (refine anyH_take 23 (v := ?_) (by kernel_rfl) (by kernel_rfl) (by simp only [List.getElem?_toArray, List.getElem?_cons_succ, List.getElem?_cons_zero] <;> rfl) (by kernel_rfl) (by exact fun _ _ _ h => h) (by rfl) ?_ (by assumption) ?_; rotate_left; (focus (intro w hSw; (try dsimp only at hSw); (try simp only [List.getElem_toArray, List.getElem_cons_succ, List.getElem_cons_zero]); go_simp; try (with_reducible rfl))); (try simp only [Act.put, List.setIfInBounds_toArray, List.set_cons_zero, List.set_cons_succ]))
  first | (refine anyH_skip 24 (by kernel_rfl) (by kernel_rfl) (by simp only [List.getElem?_toArray, List.getElem?_cons_succ, List.getElem?_cons_zero] <;> rfl) (by kernel_rfl) (by exact fun _ _ _ h => h) (by rfl) (by assumption) ?_; (try simp only [Act.put, List.setIfInBounds_toArray, List.set_cons_zero, List.set_cons_succ])) | (refine anyH_take 24 (v := ?_) (by kernel_rfl) (by kernel_rfl) (by simp only [List.getElem?_toArray, List.getElem?_cons_succ, List.getElem?_cons_zero] <;> rfl) (by kernel_rfl) (by exact fun _ _ _ h => h) (by rfl) ?_ (by assumption) ?_; rotate_left; (focus (intro w hSw; (try dsimp only at hSw); (try simp only [List.getElem_toArray, List.getElem_cons_succ, List.getElem_cons_zero]); go_simp; try (with_reducible rfl))); (try simp only [Act.put, List.setIfInBounds_toArray, List.set_cons_zero, List.set_cons_succ]))
  first | (refine anyH_skip 25 (by kernel_rfl) (by kernel_rfl) (by simp only [List.getElem?_toArray, List.getElem?_cons_succ, List.getElem?_cons_zero] <;> rfl) (by kernel_rfl) (by exact fun _ _ _ h => h) (by rfl) (by assumption) ?_; (try simp only [Act.put, List.setIfInBounds_toArray, List.set_cons_zero, List.set_cons_succ])) | (refine anyH_take 25 (v := ?_) (by kernel_rfl) (by kernel_rfl) (by simp only [List.getElem?_toArray, List.getElem?_cons_succ, List.getElem?_cons_zero] <;> rfl) (by kernel_rfl) (by exact fun _ _ _ h => h) (by rfl) ?_ (by assumption) ?_; rotate_left; (focus (intro w hSw; (try dsimp only at hSw); (try simp only [List.getElem_toArray, List.getElem_cons_succ, List.getElem_cons_zero]); go_simp; try (with_reducible rfl))); (try simp only [Act.put, List.setIfInBounds_toArray, List.set_cons_zero, List.set_cons_succ]))
  first | (refine anyH_skip 26 (by kernel_rfl) (by kernel_rfl) (by simp only [List.getElem?_toArray, List.getElem?_cons_succ, List.getElem?_cons_zero] <;> rfl) (by kernel_rfl) (by exact fun _ _ _ h => h) (by rfl) (by assumption) ?_; (try simp only [Act.put, List.setIfInBounds_toArray, List.set_cons_zero, List.set_cons_succ])) | (refine anyH_take 26 (v := ?_) (by kernel_rfl) (by kernel_rfl) (by simp only [List.getElem?_toArray, List.getElem?_cons_succ, List.getElem?_cons_zero] <;> rfl) (by kernel_rfl) (by exact fun _ _ _ h => h) (by rfl) ?_ (by assumption) ?_; rotate_left; (focus (intro w hSw; (try dsimp only at hSw); (try simp only [List.getElem_toArray, List.getElem_cons_succ, List.getElem_cons_zero]); go_simp; try (with_reducible rfl))); (try simp only [Act.put, List.setIfInBounds_toArray, List.set_cons_zero, List.set_cons_succ]))
  first | (refine anyH_skip 27 (by kernel_rfl) (by kernel_rfl) (by simp only [List.getElem?_toArray, List.getElem?_cons_succ, List.getElem?_cons_zero] <;> rfl) (by kernel_rfl) (by exact fun _ _ _ h => h) (by rfl) (by assumption) ?_; (try simp only [Act.put, List.setIfInBounds_toArray, List.set_cons_zero, List.set_cons_succ])) | (refine anyH_take 27 (v := ?_) (by kernel_rfl) (by kernel_rfl) (by simp only [List.getElem?_toArray, List.getElem?_cons_succ, List.getElem?_cons_zero] <;> rfl) (by kernel_rfl) (by exact fun _ _ _ h => h) (by rfl) ?_ (by assumption) ?_; rotate_left; (focus (intro w hSw; (try dsimp only at hSw); (try simp only [List.getElem_toArray, List.getElem_cons_succ, List.getElem_cons_zero]); go_simp; try (with_reducible rfl))); (try simp only [Act.put, List.setIfInBounds_toArray, List.set_cons_zero, List.set_cons_succ]))
  first | (refine anyH_skip 28 (by kernel_rfl) (by kernel_rfl) (by simp only [List.getElem?_toArray, List.getElem?_cons_succ, List.getElem?_cons_zero] <;> rfl) (by kernel_rfl) (by exact fun _ _ _ h => h) (by rfl) (by assumption) ?_; (try simp only [Act.put, List.setIfInBounds_toArray, List.set_cons_zero, List.set_cons_succ])) | (refine anyH_take 28 (v := ?_) (by kernel_rfl) (by kernel_rfl) (by simp only [List.getElem?_toArray, List.getElem?_cons_succ, List.getElem?_cons_zero] <;> rfl) (by kernel_rfl) (by exact fun _ _ _ h => h) (by rfl) ?_ (by assumption) ?_; rotate_left; (focus (intro w hSw; (try dsimp only at hSw); (try simp only [List.getElem_toArray, List.getElem_cons_succ, List.getElem_cons_zero]); go_simp; try (with_reducible rfl))); (try simp only [Act.put, List.setIfInBounds_toArray, List.set_cons_zero, List.set_cons_succ]))
  all_goals (refine wpAnyH_done (by kernel_rfl) ?_ _)
  have HE := Lib.hid (HH.out _ hHeld.1)
  go_wp2
  go_ret
  exact ⟨rfl, HE.out⟩
theorem chunks_small {l x : List Int} (h : x ∈ chunks21 l) : x.length ≤ 960 := by
  unfold chunks21 chunksTo at h
  obtain ⟨j, _, rfl⟩ := List.mem_map.1 h
  rw [chunkN_len]
  omega
theorem splitB_small (l : List Int) (hl : l.length ≤ 65536) : (splitB l).length ≤ 1000000 ∧ (∀ x ∈ splitB l, x.length ≤ 1000000) ∧ (splitO l).length ≤ 1000000 := by
  unfold splitB splitO
  split
  · refine ⟨?_, fun x hx => ?_, ?_⟩
    · unfold chunks21
      rw [chunksTo_len, smalls_len]
      unfold parts
      omega
    · have := chunks_small hx
      omega
    · have := ovsN_len l l.length
      omega
  · exact ⟨by simp, fun x hx => by simp at hx, by simp⟩
set_option maxRecDepth 100000 in
set_option maxHeartbeats 4000000 in
theorem law_TallySplits (A0 : Option Addr) (c0 : Nat) (l0 : List Int) (w : World) (_q0 : l0.length ≤ c0) (m0 : l0.length * 8 ≤ reachBytes) (_f0 : ∀ x ∈ l0, (Lit.int .i64 x).wf = true) (r0 : Reads w w.heap.size A0 (iv l0)) :
    Calls Try.prog 3 #[.slice A0 l0.length c0] w fun e w' => e = .returned (.bool true) ∧ Below w.heap.size w w' := by
  simp only [reachBytes] at m0
  by_cases h5 : 5000 < l0.length
  · have hci : (5000 : Int) < (l0.length : Int) := by omega
    clear r0
    go_enter Try.func3, Try.ntmps3
    go_wp2_with fail
    refine (lives21 _).mono ?_
    rintro e w1 ⟨rfl, hb⟩
    have hB := hb
    clear hb
    go_wp2
    go_ret
    exact ⟨rfl, hB⟩
  have hci : decide (5000 < l0.length) = false := decide_eq_false h5
  have k1 := split_any A0 c0 l0 (by omega) w r0
  have K2 := Lib.hid (fun (V : World) (hb : Below w.heap.size w V) => rsplit_any A0 c0 l0 (by omega) V (r0.ext hb))
  have HZ := Lib.hid (splitB_small l0 (by omega))
  clear r0
  go_enter Try.func3, Try.ntmps3
  go_wp2_with fail
  refine k1.mono ?_
  rintro e w1 ⟨A1, c1, A2, c2, rfl, hL1, hE1, hb1⟩
  have HB1 := Lib.hid hb1
  have HL1 := Lib.hid hL1
  have HE1 := Lib.hid hE1
  have k2 := K2.out _ hb1
  clear k1 K2 hL1 hE1 hb1
  go_wp2_with fail
  refine k2.mono ?_
  rintro e w2 ⟨A3, c3, A4, c4, rfl, hL2, hE2, hb2⟩
  have HB2 := Lib.hid (below_then HB1.out hb2)
  have k3 := sameBits_any A1 c1 A3 c3 (splitB l0) w2 _ _ HZ.out.1 HZ.out.2.1 (HL1.out.ext hb2) hL2
  have K4 := Lib.hid (fun (V : World) (hb : Below w2.heap.size w2 V) => sameEnts_any A2 c2 A4 c4 (splitO l0) V _ _ HZ.out.2.2 ((HE1.out.ext hb2).ext hb) (hE2.ext hb))
  clear k2 hL2 hE2 hb2 HL1 HE1
  generalize (splitB l0).length = bn at *
  generalize (splitO l0).length = on at *
  generalize splitE l0 = E at *
  have d2 : (E == E) = true := by simp
  go_wp2_with fail
  refine k3.mono ?_
  rintro e w3 ⟨rfl, hb3⟩
  have HB3 := Lib.hid (below_then HB2.out hb3)
  have k4 := K4.out _ hb3
  clear k3 K4 hb3
  go_wp2_with fail
  refine k4.mono ?_
  rintro e w4 ⟨rfl, hb4⟩
  have HB4 := Lib.hid (below_then HB3.out hb4)
  clear k4 hb4
  go_wp2_with fail
  refine (lives21 _).mono ?_
  rintro e w5 ⟨rfl, hb5⟩
  have hB := below_then HB4.out hb5
  clear hb5
  go_wp2
  go_ret
  exact ⟨rfl, hB⟩
end Go.Proofs.Ytcnalndhlonblaa
