/-
  Chapter 4: seal.Open, walked.
-/
import Derived.Test.YtilkcecjciiboaaSeal3
import Derived.Laws.EntriesVeiled
namespace Go.Proofs.Ytilkcecjciiboaa
open Go.RowKit

def askA (a b c : Nat) : Array Value := #[.func (.func 70) #[] #[.pointer (some ⟨b, 0, none⟩), .pointer (some ⟨c, 0, none⟩)], .int .i64 1, .func (.func 71) #[] #[.pointer (some ⟨a, 0, none⟩)], .int .i64 7,
  .func (.func 72) #[] #[.pointer (some ⟨a, 0, none⟩), .pointer (some ⟨b, 0, none⟩)], .int .i64 4, .func (.func 74) #[] #[.pointer (some ⟨a, 0, none⟩), .pointer (some ⟨c, 0, none⟩)], .int .i64 5,
  .func (.func 75) #[] #[.pointer (some ⟨a, 0, none⟩), .pointer (some ⟨b, 0, none⟩)], .int .i64 6, .func (.func 76) #[] #[.pointer (some ⟨a, 0, none⟩)], .int .i64 7]
structure OInv (A : Option Addr) (c : Nat) (l : List UInt8) (k n : Int) (w W : World) : Prop where
  s0 : W.heap[w.heap.size]? = some (.cells #[.slice A l.length c] 22)
  s1 : W.heap[w.heap.size + 1]? = some (.cells #[.int .i64 k] 3)
  s2 : W.heap[w.heap.size + 1 + 1]? = some (.cells #[.int .i64 n] 3)
  s3 : W.heap[w.heap.size + 1 + 1 + 1]? = some (.cells (askA w.heap.size (w.heap.size + 1) (w.heap.size + 1 + 1)) 93)
  rd : Reads W w.heap.size A (bv l)
  bl : Below w.heap.size w W
theorem OInv.step {A : Option Addr} {c : Nat} {l : List UInt8} {k n : Int} {w W W' : World} (h : OInv A c l k n w W) (hb : Below W.heap.size W W') : OInv A c l k n w W' :=
  ⟨heap_keep h.s0 hb, heap_keep h.s1 hb, heap_keep h.s2 hb, heap_keep h.s3 hb, h.rd.below (hb.mono h.bl.size), below_then h.bl hb⟩
/-- what of a block was seen to be right, before the j-th look -/
def okO (l : List UInt8) (k n : Int) (j : Nat) : Prop := (0 < j → knownK k n = true) ∧ (1 < j → l.length = 256) ∧ (2 < j → sumOK l k = true) ∧ (3 < j → (getN l 0 4 : Int) = n) ∧ (4 < j → (getN l 4 2 : Int) = k) ∧ (5 < j → getN l 6 2 = 0)
theorem openE_at {l : List UInt8} {k n : Int} :
    (okO l k n 0 → knownK k n = false → openE l k n = 1) ∧ (okO l k n 1 → l.length ≠ 256 → openE l k n = 7) ∧ (okO l k n 2 → sumOK l k = false → openE l k n = 4) ∧
    (okO l k n 3 → (getN l 0 4 : Int) ≠ n → openE l k n = 5) ∧ (okO l k n 4 → (getN l 4 2 : Int) ≠ k → openE l k n = 6) ∧ (okO l k n 5 → getN l 6 2 ≠ 0 → openE l k n = 7) ∧ (okO l k n 6 → openE l k n = 0) := by
  unfold okO openE
  refine ⟨?_, ?_, ?_, ?_, ?_, ?_, ?_⟩
  · rintro _ h; rw [if_pos h]
  · rintro ⟨a, _⟩ h; rw [a (by decide), if_neg (by decide), if_pos h]
  · rintro ⟨a, b, _⟩ h; rw [a (by decide), if_neg (by decide), if_neg (by simpa using b (by decide)), if_pos h]
  · rintro ⟨a, b, c, _⟩ h; rw [a (by decide), if_neg (by decide), if_neg (by simpa using b (by decide)), c (by decide), if_neg (by decide), if_pos h]
  · rintro ⟨a, b, c, d, _⟩ h; rw [a (by decide), if_neg (by decide), if_neg (by simpa using b (by decide)), c (by decide), if_neg (by decide), if_neg (by simpa using d (by decide)), if_pos h]
  · rintro ⟨a, b, c, d, e, _⟩ h; rw [a (by decide), if_neg (by decide), if_neg (by simpa using b (by decide)), c (by decide), if_neg (by decide), if_neg (by simpa using d (by decide)), if_neg (by simpa using e (by decide)), if_pos h]
  · rintro ⟨a, b, c, d, e, f⟩; rw [a (by decide), if_neg (by decide), if_neg (by simpa using b (by decide)), c (by decide), if_neg (by decide), if_neg (by simpa using d (by decide)), if_neg (by simpa using e (by decide)), if_neg (by simpa using f (by decide))]
theorem openV_no {l : List UInt8} {k n e : Int} (h : openE l k n = e) (h0 : e ≠ 0) : openV l k n = [] := by
  unfold openV
  rw [h, if_neg h0]
set_option maxRecDepth 100000 in
set_option maxHeartbeats 4000000 in
theorem open_any (A : Option Addr) (c : Nat) (l : List UInt8) (k n : Int) (w : World) (hq : l.length ≤ c) (h : Reads w w.heap.size A (bv l)) :
    Calls Try.prog 42 #[.slice A l.length c, .int .i64 k, .int .i64 n] w (GivesE 5 (bv (openV l k n)) (openE l k n) w) := by
  have h0 : OInv A c l k n w ((((w.alloc (.cells #[.slice A l.length c] 22)).alloc (.cells #[.int .i64 k] 3)).alloc (.cells #[.int .i64 n] 3)).alloc (.cells (askA w.heap.size (w.heap.size + 1) (w.heap.size + 1 + 1)) 93)) := by
    have e1 : (w.alloc (.cells #[.slice A l.length c] 22)).heap.size = w.heap.size + 1 := by simp
    have e2 : ((w.alloc (.cells #[.slice A l.length c] 22)).alloc (.cells #[.int .i64 k] 3)).heap.size = w.heap.size + 1 + 1 := by simp
    have e3 : (((w.alloc (.cells #[.slice A l.length c] 22)).alloc (.cells #[.int .i64 k] 3)).alloc (.cells #[.int .i64 n] 3)).heap.size = w.heap.size + 1 + 1 + 1 := by simp
    have a0 := heap_alloc_new w (.cells #[.slice A l.length c] 22)
    have a1 := heap_alloc_new (w.alloc (.cells #[.slice A l.length c] 22)) (.cells #[.int .i64 k] 3)
    have a2 := heap_alloc_new ((w.alloc (.cells #[.slice A l.length c] 22)).alloc (.cells #[.int .i64 k] 3)) (.cells #[.int .i64 n] 3)
    have a3 := heap_alloc_new (((w.alloc (.cells #[.slice A l.length c] 22)).alloc (.cells #[.int .i64 k] 3)).alloc (.cells #[.int .i64 n] 3)) (.cells (askA w.heap.size (w.heap.size + 1) (w.heap.size + 1 + 1)) 93)
    rw [e1] at a1
    rw [e2] at a2
    rw [e3] at a3
    have hB := (below_alloc2 w (.cells #[.slice A l.length c] 22) (.cells #[.int .i64 k] 3)).trans ((below_alloc2 _ (.cells #[.int .i64 n] 3) (.cells (askA w.heap.size (w.heap.size + 1) (w.heap.size + 1 + 1)) 93)).mono (by simp; omega))
    exact ⟨heap_alloc' (heap_alloc' (heap_alloc' a0 _) _) _, heap_alloc' (heap_alloc' a1 _) _, heap_alloc' a2 _, a3, h.below hB, hB⟩
  have HE := Lib.hid (@openE_at l k n)
  have HN := Lib.hid (fun e => @openV_no l k n e)
  have HV : Hid (openE l k n = 0 → openV l k n = (l.drop 8).take 244) := fun h => by unfold openV; rw [if_pos h]
  go_enter Try.func42, Try.ntmps42
  go_wp2_with fail
  have HI0 := Lib.hid h0
  clear h h0
  go_loopw [10, 26] (fun _ i wr => ∃ j : Nat, j ≤ 6 ∧ i = .int .i64 j ∧ OInv A c l k n w wr ∧ okO l k n j) (fun _ i _ => 6 - (intOf i).toNat)
  case atStart => exact ⟨0, by omega, rfl, HI0.out, by unfold okO; omega⟩
  case round =>
    obtain ⟨j, hj, rfl, hI, hok⟩ := hrel
    have HI := Lib.hid hI
    have HOK := Lib.hid hok
    clear hok HI0
    have hs3 := hI.s3
    have hj : j = 0 ∨ j = 1 ∨ j = 2 ∨ j = 3 ∨ j = 4 ∨ j = 5 ∨ j = 6 := by omega
    rcases hj with rfl | rfl | rfl | rfl | rfl | rfl | rfl
    · have e0 : wr.cell? ⟨w.heap.size + 1 + 1 + 1, 0, none⟩ = some (.func (.func 70) #[] #[.pointer (some ⟨w.heap.size + 1, 0, none⟩), .pointer (some ⟨w.heap.size + 1 + 1, 0, none⟩)]) := heap_cell hs3 0 rfl
      have e1 : wr.cell? ⟨w.heap.size + 1 + 1 + 1, 1, none⟩ = some (.int .i64 1) := heap_cell hs3 1 rfl
      have hI1 := hI.step (below_alloc1 wr (.cells #[(.func (.func 70) #[] #[.pointer (some ⟨w.heap.size + 1, 0, none⟩), .pointer (some ⟨w.heap.size + 1 + 1, 0, none⟩)]), .int .i64 1] 93))
      have q := open1_any _ _ k n _ (heap_cell hI1.s1 0 rfl) (heap_cell hI1.s2 0 rfl)
      obtain ⟨b, hb⟩ : ∃ b : Bool, (!knownK k n) = b := ⟨_, rfl⟩
      rw [hb] at q
      have HB := Lib.hid hb
      have HI1 := Lib.hid hI1
      clear hb hI hs3 hI1
      go_wp2_with fail
      refine q.mono ?_
      rintro e w2 ⟨rfl, rfl⟩
      have HI2 := HI1
      clear q
      cases b with
      | false =>
        have HOK2 : Hid (okO l k n 1) := ⟨fun _ => by have := HB.out; simpa using this, fun h => by omega, fun h => by omega, fun h => by omega, fun h => by omega, fun h => by omega⟩
        go_wp2
        go_roundw
        case rel => exact ⟨1, by omega, by go_num, HI2.out, HOK2.out⟩
        case measure => simp [intOf]
      | true =>
        have hE : Hid (openE l k n = 1) := HE.out.1 HOK.out (by have := HB.out; simpa using this)
        have hV := Lib.hid (HN.out 1 hE.out (by decide))
        go_wp2_with fail
        go_region
        go_wp2
        go_ret2
        refine ⟨none, 0, ?_, ?_, below_then HI2.out.bl (below_drewN (Below.refl _ _) 1)⟩
        · rw [hE.out, hV.out]; rfl
        · rw [hV.out]; exact World.ownsRow_nil _ _ _ _
    · have e0 : wr.cell? ⟨w.heap.size + 1 + 1 + 1, 2, none⟩ = some (.func (.func 71) #[] #[.pointer (some ⟨w.heap.size, 0, none⟩)]) := heap_cell hs3 2 rfl
      have e1 : wr.cell? ⟨w.heap.size + 1 + 1 + 1, 3, none⟩ = some (.int .i64 7) := heap_cell hs3 3 rfl
      have hI1 := hI.step (below_alloc1 wr (.cells #[(.func (.func 71) #[] #[.pointer (some ⟨w.heap.size, 0, none⟩)]), .int .i64 7] 93))
      have q := open2_any _ A l.length c _ (heap_cell hI1.s0 0 rfl)
      obtain ⟨b, hb⟩ : ∃ b : Bool, ((l.length : Int) != 256) = b := ⟨_, rfl⟩
      rw [hb] at q
      have HB := Lib.hid hb
      have HI1 := Lib.hid hI1
      clear hb hI hs3 hI1
      go_wp2_with fail
      refine q.mono ?_
      rintro e w2 ⟨rfl, rfl⟩
      have HI2 := HI1
      clear q
      cases b with
      | false =>
        have HOK2 : Hid (okO l k n 2) := ⟨fun _ => HOK.out.1 (by omega), fun _ => by have := HB.out; simp at this; omega, fun h => by omega, fun h => by omega, fun h => by omega, fun h => by omega⟩
        go_wp2
        go_roundw
        case rel => exact ⟨2, by omega, by go_num, HI2.out, HOK2.out⟩
        case measure => simp [intOf]
      | true =>
        have hE : Hid (openE l k n = 7) := HE.out.2.1 HOK.out (by have := HB.out; simp at this; omega)
        have hV := Lib.hid (HN.out 7 hE.out (by decide))
        go_wp2_with fail
        go_region
        go_wp2
        go_ret2
        refine ⟨none, 0, ?_, ?_, below_then HI2.out.bl (below_drewN (Below.refl _ _) 1)⟩
        · rw [hE.out, hV.out]; rfl
        · rw [hV.out]; exact World.ownsRow_nil _ _ _ _
    · have e0 : wr.cell? ⟨w.heap.size + 1 + 1 + 1, 4, none⟩ = some (.func (.func 72) #[] #[.pointer (some ⟨w.heap.size, 0, none⟩), .pointer (some ⟨w.heap.size + 1, 0, none⟩)]) := heap_cell hs3 4 rfl
      have e1 : wr.cell? ⟨w.heap.size + 1 + 1 + 1, 5, none⟩ = some (.int .i64 4) := heap_cell hs3 5 rfl
      have hI1 := hI.step (below_alloc1 wr (.cells #[(.func (.func 72) #[] #[.pointer (some ⟨w.heap.size, 0, none⟩), .pointer (some ⟨w.heap.size + 1, 0, none⟩)]), .int .i64 4] 93))
      have hl : l.length = 256 := HOK.out.2.1 (by omega)
      have hs0 := heap_cell hI1.s0 0 rfl
      have hs0 : _ = some (Value.slice A 256 c) := hs0.trans (by rw [← hl]; rfl)
      have q := open3_any _ _ A c l k _ hl (by omega) hs0 (heap_cell hI1.s1 0 rfl) (hI1.rd.more hI1.bl.size)
      obtain ⟨b, hb⟩ : ∃ b : Bool, (!sumOK l k) = b := ⟨_, rfl⟩
      rw [hb] at q
      have HB := Lib.hid hb
      have HI1 := Lib.hid hI1
      clear hb hI hs3 hI1 hs0 hl
      go_wp2_with fail
      refine q.mono ?_
      rintro e w2 ⟨rfl, hb2⟩
      have HI2 := Lib.hid (HI1.out.step hb2)
      have t0 := heap_keep (heap_alloc_new wr (.cells #[(.func (.func 72) #[] #[.pointer (some ⟨w.heap.size, 0, none⟩), .pointer (some ⟨w.heap.size + 1, 0, none⟩)]), .int .i64 4] 93)) hb2
      have t1 := heap_cell t0 1 rfl
      clear t0 hb2
      clear q
      cases b with
      | false =>
        have HOK2 : Hid (okO l k n 3) := ⟨fun _ => HOK.out.1 (by omega), fun _ => HOK.out.2.1 (by omega), fun _ => by have := HB.out; simpa using this, fun h => by omega, fun h => by omega, fun h => by omega⟩
        go_wp2
        go_roundw
        case rel => exact ⟨3, by omega, by go_num, HI2.out, HOK2.out⟩
        case measure => simp [intOf]
      | true =>
        have hE : Hid (openE l k n = 4) := HE.out.2.2.1 HOK.out (by have := HB.out; simpa using this)
        have hV := Lib.hid (HN.out 4 hE.out (by decide))
        go_wp2_with fail
        go_region
        go_wp2
        go_ret2
        refine ⟨none, 0, ?_, ?_, below_then HI2.out.bl (below_drewN (Below.refl _ _) 1)⟩
        · rw [hE.out, hV.out]; rfl
        · rw [hV.out]; exact World.ownsRow_nil _ _ _ _
    · have e0 : wr.cell? ⟨w.heap.size + 1 + 1 + 1, 6, none⟩ = some (.func (.func 74) #[] #[.pointer (some ⟨w.heap.size, 0, none⟩), .pointer (some ⟨w.heap.size + 1 + 1, 0, none⟩)]) := heap_cell hs3 6 rfl
      have e1 : wr.cell? ⟨w.heap.size + 1 + 1 + 1, 7, none⟩ = some (.int .i64 5) := heap_cell hs3 7 rfl
      have hI1 := hI.step (below_alloc1 wr (.cells #[(.func (.func 74) #[] #[.pointer (some ⟨w.heap.size, 0, none⟩), .pointer (some ⟨w.heap.size + 1 + 1, 0, none⟩)]), .int .i64 5] 93))
      have hl : l.length = 256 := HOK.out.2.1 (by omega)
      have hs0 := heap_cell hI1.s0 0 rfl
      have hs0 : _ = some (Value.slice A 256 c) := hs0.trans (by rw [← hl]; rfl)
      have q := open4_any _ _ A c l n _ hl hs0 (heap_cell hI1.s2 0 rfl) (hI1.rd.more hI1.bl.size)
      obtain ⟨b, hb⟩ : ∃ b : Bool, (((getN l 0 4 : Nat) : Int) != n) = b := ⟨_, rfl⟩
      rw [hb] at q
      have HB := Lib.hid hb
      have HI1 := Lib.hid hI1
      clear hb hI hs3 hI1 hs0 hl
      go_wp2_with fail
      refine q.mono ?_
      rintro e w2 ⟨rfl, m, rfl⟩
      have HI2 := Lib.hid (HI1.out.step (below_drewN (Below.refl _ _) m))
      clear q
      cases b with
      | false =>
        have HOK2 : Hid (okO l k n 4) := ⟨fun _ => HOK.out.1 (by omega), fun _ => HOK.out.2.1 (by omega), fun _ => HOK.out.2.2.1 (by omega), fun _ => by have := HB.out; simpa using this, fun h => by omega, fun h => by omega⟩
        go_wp2
        go_roundw
        case rel => exact ⟨4, by omega, by go_num, HI2.out, HOK2.out⟩
        case measure => simp [intOf]
      | true =>
        have hE : Hid (openE l k n = 5) := HE.out.2.2.2.1 HOK.out (by have := HB.out; simpa using this)
        have hV := Lib.hid (HN.out 5 hE.out (by decide))
        go_wp2_with fail
        go_region
        go_wp2
        go_ret2
        refine ⟨none, 0, ?_, ?_, below_then HI2.out.bl (below_drewN (Below.refl _ _) 1)⟩
        · rw [hE.out, hV.out]; rfl
        · rw [hV.out]; exact World.ownsRow_nil _ _ _ _
    · have e0 : wr.cell? ⟨w.heap.size + 1 + 1 + 1, 8, none⟩ = some (.func (.func 75) #[] #[.pointer (some ⟨w.heap.size, 0, none⟩), .pointer (some ⟨w.heap.size + 1, 0, none⟩)]) := heap_cell hs3 8 rfl
      have e1 : wr.cell? ⟨w.heap.size + 1 + 1 + 1, 9, none⟩ = some (.int .i64 6) := heap_cell hs3 9 rfl
      have hI1 := hI.step (below_alloc1 wr (.cells #[(.func (.func 75) #[] #[.pointer (some ⟨w.heap.size, 0, none⟩), .pointer (some ⟨w.heap.size + 1, 0, none⟩)]), .int .i64 6] 93))
      have hl : l.length = 256 := HOK.out.2.1 (by omega)
      have hs0 := heap_cell hI1.s0 0 rfl
      have hs0 : _ = some (Value.slice A 256 c) := hs0.trans (by rw [← hl]; rfl)
      have q := open5_any _ _ A c l k _ hl hs0 (heap_cell hI1.s1 0 rfl) (hI1.rd.more hI1.bl.size)
      obtain ⟨b, hb⟩ : ∃ b : Bool, (((getN l 4 2 : Nat) : Int) != k) = b := ⟨_, rfl⟩
      rw [hb] at q
      have HB := Lib.hid hb
      have HI1 := Lib.hid hI1
      clear hb hI hs3 hI1 hs0 hl
      go_wp2_with fail
      refine q.mono ?_
      rintro e w2 ⟨rfl, m, rfl⟩
      have HI2 := Lib.hid (HI1.out.step (below_drewN (Below.refl _ _) m))
      clear q
      cases b with
      | false =>
        have HOK2 : Hid (okO l k n 5) := ⟨fun _ => HOK.out.1 (by omega), fun _ => HOK.out.2.1 (by omega), fun _ => HOK.out.2.2.1 (by omega), fun _ => HOK.out.2.2.2.1 (by omega), fun _ => by have := HB.out; simpa using this, fun h => by omega⟩
        go_wp2
        go_roundw
        case rel => exact ⟨5, by omega, by go_num, HI2.out, HOK2.out⟩
        case measure => simp [intOf]
      | true =>
        have hE : Hid (openE l k n = 6) := HE.out.2.2.2.2.1 HOK.out (by have := HB.out; simpa using this)
        have hV := Lib.hid (HN.out 6 hE.out (by decide))
        go_wp2_with fail
        go_region
        go_wp2
        go_ret2
        refine ⟨none, 0, ?_, ?_, below_then HI2.out.bl (below_drewN (Below.refl _ _) 1)⟩
        · rw [hE.out, hV.out]; rfl
        · rw [hV.out]; exact World.ownsRow_nil _ _ _ _
    · have e0 : wr.cell? ⟨w.heap.size + 1 + 1 + 1, 10, none⟩ = some (.func (.func 76) #[] #[.pointer (some ⟨w.heap.size, 0, none⟩)]) := heap_cell hs3 10 rfl
      have e1 : wr.cell? ⟨w.heap.size + 1 + 1 + 1, 11, none⟩ = some (.int .i64 7) := heap_cell hs3 11 rfl
      have hI1 := hI.step (below_alloc1 wr (.cells #[(.func (.func 76) #[] #[.pointer (some ⟨w.heap.size, 0, none⟩)]), .int .i64 7] 93))
      have hl : l.length = 256 := HOK.out.2.1 (by omega)
      have hs0 := heap_cell hI1.s0 0 rfl
      have hs0 : _ = some (Value.slice A 256 c) := hs0.trans (by rw [← hl]; rfl)
      have q := open6_any _ A c l _ hl hs0 (hI1.rd.more hI1.bl.size)
      obtain ⟨b, hb⟩ : ∃ b : Bool, (((getN l 6 2 : Nat) : Int) != 0) = b := ⟨_, rfl⟩
      rw [hb] at q
      have HB := Lib.hid hb
      have HI1 := Lib.hid hI1
      clear hb hI hs3 hI1 hs0 hl
      go_wp2_with fail
      refine q.mono ?_
      rintro e w2 ⟨rfl, rfl⟩
      have HI2 := HI1
      clear q
      cases b with
      | false =>
        have HOK2 : Hid (okO l k n 6) := ⟨fun _ => HOK.out.1 (by omega), fun _ => HOK.out.2.1 (by omega), fun _ => HOK.out.2.2.1 (by omega), fun _ => HOK.out.2.2.2.1 (by omega), fun _ => HOK.out.2.2.2.2.1 (by omega), fun _ => by have := HB.out; simp at this; omega⟩
        go_wp2
        go_roundw
        case rel => exact ⟨6, by omega, by go_num, HI2.out, HOK2.out⟩
        case measure => simp [intOf]
      | true =>
        have hE : Hid (openE l k n = 7) := HE.out.2.2.2.2.2.1 HOK.out (by have := HB.out; simp at this; omega)
        have hV := Lib.hid (HN.out 7 hE.out (by decide))
        go_wp2_with fail
        go_region
        go_wp2
        go_ret2
        refine ⟨none, 0, ?_, ?_, below_then HI2.out.bl (below_drewN (Below.refl _ _) 1)⟩
        · rw [hE.out, hV.out]; rfl
        · rw [hV.out]; exact World.ownsRow_nil _ _ _ _
    · have hE : Hid (openE l k n = 0) := HE.out.2.2.2.2.2.2 HOK.out
      have hV := Lib.hid (HV.out hE.out)
      have hl : l.length = 256 := HOK.out.2.1 (by omega)
      have hs0 := heap_cell hI.s0 0 rfl
      have hs0 : wr.cell? ⟨w.heap.size, 0, none⟩ = some (Value.slice A 256 c) := hs0.trans (by rw [← hl]; rfl)
      have hr := (hI.rd.more hI.bl.size)
      have HLen := Lib.hid (show ((l.drop 8).take 244).length = 244 by rw [List.length_take, List.length_drop]; omega)
      have HB := Lib.hid hI.bl
      have hc252 : (252 : Int) ≤ (c : Int) := by omega
      have hcl := fun (A' : Option Addr) (h : A' = A.map (·.add 8)) => clone_any A' (c - 8) ((l.drop 8).take 244) wr wr.heap.size (Nat.le_refl _) (by simp only [reachBytes, List.length_take]; omega) (by
        have h2 := hr.drop (k := 8) (cap := c) (by rw [bv_len]; omega)
        rw [if_neg (by omega), bv_drop] at h2
        have h3 := h2.take 244
        rw [bv_take] at h3
        rw [h]
        exact h3)
      rw [show ((l.drop 8).take 244).length = 244 by rw [List.length_take, List.length_drop]; omega] at hcl
      obtain ⟨ad, rfl, -, -⟩ := hr.at_ (k := 0) (by rw [bv_len]; omega)
      have hcl := hcl (some (ad.add 8)) rfl
      have hne : c ≠ 8 := by omega
      clear hr hs3 hI hl
      go_wp2_with fail
      refine hcl.mono ?_
      rintro e w2 ⟨A2, c2, rfl, hown2, hb2⟩
      rw [bv_len, HLen.out] at hown2
      rw [bv_len, HLen.out]
      have hB2 := below_then HB.out hb2
      have hown3 := own_mono hown2 HB.out.size
      clear hown2 hb2 hcl hs0
      go_wp2
      go_ret2
      exact ⟨A2, c2, by rw [hE.out, hV.out, bv_len, HLen.out]; rfl, by rw [hV.out, bv_len, HLen.out]; exact hown3, hB2⟩
end Go.Proofs.Ytilkcecjciiboaa
