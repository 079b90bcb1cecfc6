/-
  Chapter 8's ValueBack, walked.
-/
import Derived.Test.YtahomneljdjjjaaVal13
import Derived.Deep.DeepCutAuto
namespace Go.Proofs.Ytahomneljdjjjaa
open Go.RowKit

/-- a text that is none, or one that is there -/
theorem text_two (l : List UInt8) : l = [] ∨ ∃ x xs, l = x :: xs := by cases l with | nil => exact .inl rfl | cons x xs => exact .inr ⟨x, xs, rfl⟩
theorem valV_some {z : List (Part × Int)} {x : UInt8} {xs : List UInt8} (h : valV z = x :: xs) : valE z = true := by
  cases hv : valE z with
  | true => rfl
  | false => rw [valV_not _ hv] at h; cases h
theorem good_one' {p : Part} {n : Int} (h : goodP p) : ∀ q ∈ [(p, n)], goodP q.1 := by
  intro q hq
  simp at hq
  subst hq
  exact h
theorem map_told (b t : Int) (x : UInt8) (xs : List UInt8) (h : mapV b t = x :: xs) : rd1 mapP (x :: xs) / 16777216 = b ∧ rd1 mapP (x :: xs) % 16777216 = t ∧ rdE [mapP] (x :: xs) = 0 ∧ xs.length = 7 := by
  unfold mapV at h
  split at h
  · rename_i hin
    simp only [mapIn, decide_eq_true_eq] at hin
    have hE := valV_some h
    obtain ⟨h1, h2, h3⟩ := told_read [(mapP, b * 16777216 + t)] (good_one' (good8 _ _ (by omega))) (by intro q hq; simp at hq; subst hq; simp [Lit.wf, IntKind.min, IntKind.max, IntKind.bits, IntKind.signed]; omega) hE
    rw [h] at h1 h2 h3
    simp only [List.map_cons, List.map_nil] at h1 h2 h3
    have h4 : rd1 mapP (x :: xs) = b * 16777216 + t := by unfold rd1; rw [h2]; rfl
    rw [h4]
    simp [wds, mapP] at h3
    exact ⟨by omega, by omega, h1, by omega⟩
  · cases h
theorem root_told (lo hi n : Int) (hlo : 0 ≤ lo) (hhi : hi < 4294967296) (hw : (Lit.int .i64 n).wf = true) (x : UInt8) (xs : List UInt8) (h : valV [((4, lo, hi), n)] = x :: xs) : rd1 (4, lo, hi) (x :: xs) = n ∧ rdE [(4, lo, hi)] (x :: xs) = 0 ∧ xs.length = 3 := by
  have hE := valV_some h
  obtain ⟨h1, h2, h3⟩ := told_read [((4, lo, hi), n)] (good_one' (good4 _ _ hlo hhi)) (by intro q hq; simp at hq; subst hq; exact hw) hE
  rw [h] at h1 h2 h3
  simp only [List.map_cons, List.map_nil] at h1 h2 h3
  simp [wds] at h3
  exact ⟨by unfold rd1; rw [h2]; rfl, h1, by omega⟩
theorem slot_told (a b c : Int) (wa : (Lit.int .i64 a).wf = true) (wb : (Lit.int .i64 b).wf = true) (wc : (Lit.int .i64 c).wf = true) (x : UInt8) (xs : List UInt8) (h : valV (slotZ a b c) = x :: xs) :
    rdN slotPs (x :: xs) = [a, b, c] ∧ rdE slotPs (x :: xs) = 0 ∧ xs.length = 15 := by
  have hE := valV_some h
  obtain ⟨h1, h2, h3⟩ := told_read (slotZ a b c) (slotZ_good a b c) (by intro q hq; simp [slotZ] at hq; rcases hq with rfl | rfl | rfl <;> assumption) hE
  rw [h] at h1 h2 h3
  rw [show (slotZ a b c).map (·.1) = slotPs from rfl] at h1 h2 h3
  simp [wds, slotPs] at h3
  exact ⟨by rw [h2]; rfl, h1, by omega⟩
theorem det_told (a b c d : Int) (wa : (Lit.int .i64 a).wf = true) (wb : (Lit.int .i64 b).wf = true) (wc : (Lit.int .i64 c).wf = true) (wd : (Lit.int .i64 d).wf = true) (x : UInt8) (xs : List UInt8) (h : valV (detZ a b c d) = x :: xs) :
    rdN detPs (x :: xs) = [a, b, c, d] ∧ rdE detPs (x :: xs) = 0 ∧ xs.length = 23 := by
  have hE := valV_some h
  obtain ⟨h1, h2, h3⟩ := told_read (detZ a b c d) (detZ_good a b c d) (by intro q hq; simp [detZ] at hq; rcases hq with rfl | rfl | rfl | rfl <;> assumption) hE
  rw [h] at h1 h2 h3
  rw [show (detZ a b c d).map (·.1) = detPs from rfl] at h1 h2 h3
  simp [wds, detPs] at h3
  exact ⟨by rw [h2]; rfl, h1, by omega⟩

set_option maxRecDepth 100000 in
set_option maxHeartbeats 4000000 in
theorem law_ValueBack (a0 a1 : Int) (a b c d : Int) (x y z : Int) (w : World) (w0 : (Lit.int .i64 a0).wf = true) (w1 : (Lit.int .i64 a1).wf = true)
    (wfa : (Lit.int .i64 a).wf = true) (wfb : (Lit.int .i64 b).wf = true) (wfc : (Lit.int .i64 c).wf = true) (wfd : (Lit.int .i64 d).wf = true)
    (wfx : (Lit.int .i64 x).wf = true) (wfy : (Lit.int .i64 y).wf = true) (wfz : (Lit.int .i64 z).wf = true) :
    Calls Try.prog 15 #[.int .i64 a0, .int .i64 a1, .agg #[.int .i64 a, .int .i64 b, .int .i64 c, .int .i64 d], .agg #[.int .i64 x, .int .i64 y, .int .i64 z]] w fun e w' => e = .returned (.bool true) ∧ Below w.heap.size w w' := by
  have c1 := vmap_any a0 a1
  have b1 := Lib.hid (@map_told a0 a1)
  generalize mapV a0 a1 = v1 at *
  have c2 := fun W => vdetail_any a b c d W wfa wfb wfc wfd
  have b2 := Lib.hid (@det_told a b c d wfa wfb wfc wfd)
  generalize valV (detZ a b c d) = v2 at *
  have c3 := fun W => vslot_any x y z W wfx wfy wfz
  have b3 := Lib.hid (@slot_told x y z wfx wfy wfz)
  generalize valV (slotZ x y z) = v3 at *
  have c4 := fun W => vroot_any a0 W w0
  have b4 := Lib.hid (@root_told 1 14399 a0 (by omega) (by omega) w0)
  rw [show ((4, 1, 14399) : Part) = rootP from rfl] at b4
  generalize valV [(rootP, a0)] = v4 at *
  have c5 := fun W => vcount_any a1 W w1
  have b5 := Lib.hid (@root_told 3 2147483647 a1 (by omega) (by omega) w1)
  rw [show ((4, 3, 2147483647) : Part) = countP from rfl] at b5
  generalize valV [(countP, a1)] = v5 at *
  have g1 := guard_det
  have g2 := guard_slot
  have q1 := fun W => neq_slot W x y z x y z
  have q2 := fun W => neq_det W a b c d a b c d
  simp only [BEq.rfl, Bool.and_self, Bool.not_true] at q1 q2
  have hB := below_alloc2 w (.cells #[.int .i64 a, .int .i64 b, .int .i64 c, .int .i64 d] 33) (.cells #[.int .i64 x, .int .i64 y, .int .i64 z] 35)
  have H1 := heap_alloc' (heap_alloc_new w (.cells #[.int .i64 a, .int .i64 b, .int .i64 c, .int .i64 d] 33)) (.cells #[.int .i64 x, .int .i64 y, .int .i64 z] 35)
  have H2 := heap_alloc_new (w.alloc (.cells #[.int .i64 a, .int .i64 b, .int .i64 c, .int .i64 d] 33)) (.cells #[.int .i64 x, .int .i64 y, .int .i64 z] 35)
  rw [World.size_alloc] at H2
  clear w0 w1 wfa wfb wfc wfd wfx wfy wfz
  go_enter Try.func15, Try.ntmps15
  go_upto_if 29 with ((go_at_call 22; refine (c1 _).mono ?_; rintro e w1 ⟨rfl, hb⟩))
  have hB1 := below_then hB hb
  have K1 := heap_keep H1 hb
  have K2 := heap_keep H2 hb
  clear hb hB H1 H2 c1
  go_cut [8] (fun s8 wx => s8 = .bool false ∧ Below w.heap.size w wx ∧ wx.heap[w.heap.size]? = some (.cells #[.int .i64 a, .int .i64 b, .int .i64 c, .int .i64 d] 33) ∧ wx.heap[w.heap.size + 1]? = some (.cells #[.int .i64 x, .int .i64 y, .int .i64 z] 35))
  case first =>
    rcases text_two v1 with rfl | ⟨u, us, rfl⟩
    · go_wp2
      go_meet
      exact ⟨rfl, hB1, K1, K2⟩
    · obtain ⟨e1, e2, e3, e4⟩ := b1.out u us rfl
      have cr := fun W => vreadMap_any (u :: us) W (by simp [reachBytes]; omega)
      rw [e1, e3, e2] at cr
      clear e1 e3 e2
      go_wp2_with fail
      refine (cr _).mono ?_
      rintro e w2 ⟨rfl, hb⟩
      have hB2 := below_then hB1 hb
      have L1 := heap_keep K1 hb
      have L2 := heap_keep K2 hb
      clear cr hb
      go_wp2
      go_meet
      exact ⟨rfl, hB2, L1, L2⟩
  case rest =>
    obtain ⟨rfl, hB, H1, H2⟩ := hcut
    clear hB1 K1 K2 b1
    have m0 := heap_cell H1 0 rfl
    have m1 := heap_cell H1 1 rfl
    have m2 := heap_cell H1 2 rfl
    have m3 := heap_cell H1 3 rfl
    go_upto_if 56 with ((go_at_call 24; refine (c2 _).mono ?_; rintro e w1 ⟨rfl, hb⟩))
    have hB1 := below_then hB hb
    have K1 := heap_keep H1 hb
    have K2 := heap_keep H2 hb
    clear hb hB H1 H2 c2 m0 m1 m2 m3
    go_cut [8] (fun s8 wx => s8 = .bool false ∧ Below w.heap.size w wx ∧ wx.heap[w.heap.size]? = some (.cells #[.int .i64 a, .int .i64 b, .int .i64 c, .int .i64 d] 33) ∧ wx.heap[w.heap.size + 1]? = some (.cells #[.int .i64 x, .int .i64 y, .int .i64 z] 35))
    case first =>
      rcases text_two v2 with rfl | ⟨u, us, rfl⟩
      · go_wp2
        go_meet
        exact ⟨rfl, hB1, K1, K2⟩
      · obtain ⟨e1, e3, e4⟩ := b2.out u us rfl
        have cr := fun W => vreadDetail_any (u :: us) W (by simp [reachBytes]; omega)
        rw [e1, e3] at cr
        simp only [iv, List.map_cons, List.map_nil] at cr
        clear e1 e3
        go_wp2_with fail
        refine (cr _).mono ?_
        rintro e w2 ⟨rfl, hb⟩
        have hB2 := below_then hB1 hb
        have L1 := heap_keep K1 hb
        have L2 := heap_keep K2 hb
        have N1 := heap_alloc' L1 (.cells #[.int .i64 a, .int .i64 b, .int .i64 c, .int .i64 d] 33)
        have N2 := heap_alloc' L2 (.cells #[.int .i64 a, .int .i64 b, .int .i64 c, .int .i64 d] 33)
        have hB3 := hB2.alloc hB2.size (.cells #[.int .i64 a, .int .i64 b, .int .i64 c, .int .i64 d] 33)
        have m0 := heap_cell N1 0 rfl
        have m1 := heap_cell N1 1 rfl
        have m2 := heap_cell N1 2 rfl
        have m3 := heap_cell N1 3 rfl
        clear cr hb
        go_wp2
        go_meet
        exact ⟨rfl, hB3, N1, N2⟩
    case rest =>
      obtain ⟨rfl, hB, H1, H2⟩ := hcut
      clear hB1 K1 K2 b2
      have m0 := heap_cell H2 0 rfl
      have m1 := heap_cell H2 1 rfl
      have m2 := heap_cell H2 2 rfl
      go_upto_if 77 with ((go_at_call 26; refine (c3 _).mono ?_; rintro e w1 ⟨rfl, hb⟩))
      have hB1 := below_then hB hb
      have K1 := heap_keep H1 hb
      have K2 := heap_keep H2 hb
      clear hb hB H1 H2 c3 m0 m1 m2
      go_cut [8] (fun s8 wx => s8 = .bool false ∧ Below w.heap.size w wx ∧ wx.heap[w.heap.size]? = some (.cells #[.int .i64 a, .int .i64 b, .int .i64 c, .int .i64 d] 33) ∧ wx.heap[w.heap.size + 1]? = some (.cells #[.int .i64 x, .int .i64 y, .int .i64 z] 35))
      case first =>
        rcases text_two v3 with rfl | ⟨u, us, rfl⟩
        · go_wp2
          go_meet
          exact ⟨rfl, hB1, K1, K2⟩
        · obtain ⟨e1, e3, e4⟩ := b3.out u us rfl
          have cr := fun W => vreadSlot_any (u :: us) W (by simp [reachBytes]; omega)
          rw [e1, e3] at cr
          simp only [iv, List.map_cons, List.map_nil] at cr
          clear e1 e3
          go_wp2_with fail
          refine (cr _).mono ?_
          rintro e w2 ⟨rfl, hb⟩
          have hB2 := below_then hB1 hb
          have L1 := heap_keep K1 hb
          have L2 := heap_keep K2 hb
          have N1 := heap_alloc' L1 (.cells #[.int .i64 x, .int .i64 y, .int .i64 z] 35)
          have N2 := heap_alloc' L2 (.cells #[.int .i64 x, .int .i64 y, .int .i64 z] 35)
          have hB3 := hB2.alloc hB2.size (.cells #[.int .i64 x, .int .i64 y, .int .i64 z] 35)
          have m0 := heap_cell N2 0 rfl
          have m1 := heap_cell N2 1 rfl
          have m2 := heap_cell N2 2 rfl
          clear cr hb
          go_wp2
          go_meet
          exact ⟨rfl, hB3, N1, N2⟩
      case rest =>
        obtain ⟨rfl, hB, H1, H2⟩ := hcut
        clear hB1 K1 K2 b3
        go_upto_if 98 with ((go_at_call 28; refine (c4 _).mono ?_; rintro e w1 ⟨rfl, hb⟩))
        have hB1 := below_then hB hb
        have K1 := heap_keep H1 hb
        have K2 := heap_keep H2 hb
        clear hb hB H1 H2 c4
        go_cut [8] (fun s8 wx => s8 = .bool false ∧ Below w.heap.size w wx ∧ wx.heap[w.heap.size]? = some (.cells #[.int .i64 a, .int .i64 b, .int .i64 c, .int .i64 d] 33) ∧ wx.heap[w.heap.size + 1]? = some (.cells #[.int .i64 x, .int .i64 y, .int .i64 z] 35))
        case first =>
          rcases text_two v4 with rfl | ⟨u, us, rfl⟩
          · go_wp2
            go_meet
            exact ⟨rfl, hB1, K1, K2⟩
          · obtain ⟨e1, e3, e4⟩ := b4.out u us rfl
            have cr := fun W => vreadRoot_any (u :: us) W (by simp [reachBytes]; omega)
            rw [e1, e3] at cr
            clear e1 e3
            go_wp2_with fail
            refine (cr _).mono ?_
            rintro e w2 ⟨rfl, hb⟩
            have hB2 := below_then hB1 hb
            have L1 := heap_keep K1 hb
            have L2 := heap_keep K2 hb
            clear cr hb
            go_wp2
            go_meet
            exact ⟨rfl, hB2, L1, L2⟩
        case rest =>
          obtain ⟨rfl, hB, H1, H2⟩ := hcut
          clear hB1 K1 K2 b4
          go_upto_if 114 with ((go_at_call 30; refine (c5 _).mono ?_; rintro e w1 ⟨rfl, hb⟩))
          have hB1 := below_then hB hb
          have K1 := heap_keep H1 hb
          have K2 := heap_keep H2 hb
          clear hb hB H1 H2 c5
          go_cut [8] (fun s8 wx => s8 = .bool false ∧ Below w.heap.size w wx ∧ wx.heap[w.heap.size]? = some (.cells #[.int .i64 a, .int .i64 b, .int .i64 c, .int .i64 d] 33) ∧ wx.heap[w.heap.size + 1]? = some (.cells #[.int .i64 x, .int .i64 y, .int .i64 z] 35))
          case first =>
            rcases text_two v5 with rfl | ⟨u, us, rfl⟩
            · go_wp2
              go_meet
              exact ⟨rfl, hB1, K1, K2⟩
            · obtain ⟨e1, e3, e4⟩ := b5.out u us rfl
              have cr := fun W => vreadCount_any (u :: us) W (by simp [reachBytes]; omega)
              rw [e1, e3] at cr
              clear e1 e3
              go_wp2_with fail
              refine (cr _).mono ?_
              rintro e w2 ⟨rfl, hb⟩
              have hB2 := below_then hB1 hb
              have L1 := heap_keep K1 hb
              have L2 := heap_keep K2 hb
              clear cr hb
              go_wp2
              go_meet
              exact ⟨rfl, hB2, L1, L2⟩
          case rest =>
            obtain ⟨rfl, hB, H1, H2⟩ := hcut
            clear hB1 K1 K2 b5
            go_wp2_with fail
            refine (lives08 _).mono ?_
            rintro e w2 ⟨rfl, hb⟩
            have hB2 := below_then hB hb
            go_wp2
            go_ret
            exact ⟨rfl, hB2⟩
end Go.Proofs.Ytahomneljdjjjaa
