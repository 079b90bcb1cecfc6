/-
  Chapter 21: slices.Chunk of ints, its iterator, walked.
-/
import Derived.RangeFuncBox
import Derived.RangeFuncLeaves
import Derived.Shelf.Abstract
import Derived.WalkKit
import Derived.OwnWalkIn
import Derived.TacticsInMore
import Derived.LoopNIn
import Derived.LoopIn
import Derived.Maps.AppendAt
import Derived.ControlIn
import Derived.BigQuiet
import Derived.Deep.QuietTactic
import Derived.Deep.DeepCutAuto
import Derived.Test.YtcnalndhlonblaaTlyP
import Derived.Test.YtcnalndhlonblaaBase5
import Derived.Test.YtcnalndhlonblaaRef1C
namespace Go.Proofs.Ytcnalndhlonblaa
open Go.RowKit Go.Shelf
attribute [local go_sem] Oper.semAt_some
/-- what a round keeps: all below n₀, and two blocks -/
def KpC (n₀ b1 b2 : Nat) (W W' : World) : Prop := Below n₀ W W' ∧ W'.heap[b1]? = W.heap[b1]? ∧ W'.heap[b2]? = W.heap[b2]?
theorem KpC.refl (n₀ b1 b2 : Nat) (W : World) : KpC n₀ b1 b2 W W := ⟨Below.refl _ _, rfl, rfl⟩
theorem KpC.trans {n₀ b1 b2 : Nat} {A B C : World} (h : KpC n₀ b1 b2 A B) (k : KpC n₀ b1 b2 B C) : KpC n₀ b1 b2 A C := ⟨h.1.trans k.1, k.2.1.trans h.2.1, k.2.2.trans h.2.2⟩
theorem KpC.turn {n₀ b1 b2 : Nat} {w : World} (hn : n₀ ≤ w.heap.size) (hb1 : b1 < w.heap.size) (hb2 : b2 < w.heap.size) (W : World) (l : Nat) (o o' : Obj) (hl : w.heap.size ≤ l) (h : W.heap[l]? = some o) (h1 : o.isCells = false) (h2 : o.isWalk = false) : KpC n₀ b1 b2 W (W.putObj l o') :=
  ⟨belowK_b hn W l o o' hl h h1 h2, World.putObj_heap_other (by omega), World.putObj_heap_other (by omega)⟩
/-- the slice that chunk j is handed over in -/
def chunkV (ad : Addr) (l : List Int) (j : Nat) : Value := .slice (some (ad.add (960 * j))) (chunkN l j).length (chunkN l j).length
set_option maxRecDepth 100000 in
set_option maxHeartbeats 4000000 in
theorem chunk1_in (n : Nat) (hn : 1 ≤ n) (lp b1 b2 n₀ : Nat) (ad : Addr) (A : Option Addr) (c : Nat) (l : List Int) (hA : 0 < l.length → A = some ad) (hm : l.length ≤ 65536) (hc : l.length ≤ c) (J Jx : List Nat → World → Prop)
    (hY : ∀ pre x W, J pre W → pre.length < parts l.length → x < parts l.length → YieldAt Fence.wide (n - 1) Try.prog lp #[chunkV ad l x] W fun e W' =>
      (e = .returned (.bool true) ∧ J (pre ++ [x]) W' ∧ KpC n₀ b1 b2 W W') ∨ (e = .returned (.bool false) ∧ Jx (pre ++ [x]) W'))
    (hJd : ∀ pre W q, J pre W → J pre (W.drewN q))
    (W : World) (hb1 : W.heap[b1]? = some (.cells #[.slice A l.length c] 22)) (hb2 : W.heap[b2]? = some (.cells #[.int .i64 960] 3)) (h0 : J [] W) :
    CallsIn Fence.wide n Try.prog 60 #[.func (.yield lp) #[] #[], .pointer (some ⟨b1, 0, none⟩), .pointer (some ⟨b2, 0, none⟩)] W fun e W' => (∃ v, e = .returned v) ∧
      ((∃ ys, ys = List.range (parts l.length) ∧ J ys W') ∨ (∃ pre, True ∧ Jx pre W')) := by
  refine callsIn_of_wp Try.func60 rfl trivial ?_ rfl
  simp only [Try.ntmps60, List.size_toArray, List.length_cons, List.length_nil, Nat.reduceAdd, Nat.reduceSub, Array.replicate_succ, Array.replicate_zero, List.push_toArray, List.append_toArray, List.nil_append, List.cons_append]
  gi_wp2
  gi_loopw [4] (fun i wr => ∃ k : Nat, k ≤ parts l.length ∧ i = .int .i64 ((960 * k : Nat) : Int) ∧ J (List.range k) wr ∧ KpC n₀ b1 b2 W wr)
    (fun i _ => 100000 - (intOf i).toNat)
  case atStart => exact ⟨0, Nat.zero_le _, rfl, h0, KpC.refl _ _ _ _⟩
  case round =>
    obtain ⟨k, hk, rfl, hJs, hkp⟩ := hrel
    have hc0 := heap_cell (hkp.2.1.trans hb1) 0 rfl
    have hc1 := heap_cell (hkp.2.2.trans hb2) 0 rfl
    have HJ := Lib.hid hJs
    have HKP := Lib.hid hkp
    clear hJs hkp
    obtain ⟨i, hi⟩ : ∃ i, i = 960 * k := ⟨_, rfl⟩
    rw [← hi]
    have HI := Lib.hid hi
    by_cases hlt : i < l.length
    · have hci : (i : Int) < (l.length : Int) := by omega
      have hkp : k < parts l.length := by unfold parts; omega
      obtain rfl := hA (by omega)
      have HKP2 := Lib.hid hkp
      clear hi hk hkp
      gi_wp2
      refine wpIn_wide.2 ?_
      have i1 : (i : Int) ≤ (l.length : Int) := by omega
      have i2 : i ≤ l.length := by omega
      have i3 : ¬ c = i := by omega
      go_quiet (fail)
      obtain ⟨e, he⟩ : ∃ e, e = (chunkN l k).length := ⟨_, rfl⟩
      have hel : e = min 960 (l.length - i) := by rw [he, chunkN_len, HI.out]
      obtain ⟨j, hj⟩ : ∃ j, j = i + e := ⟨_, rfl⟩
      have hmin : (if ((l.length - i : Nat) : Int) < 960 then ((l.length - i : Nat) : Int) else 960) = (e : Int) := by split <;> omega
      rw [hmin]
      have hcv : chunkV ad l k = .slice (some (ad.add i)) (j - i) (j - i) := by
        unfold chunkV
        rw [← he, ← HI.out, show j - i = e by omega]
      have hyk := hY (List.range k) k (wr.drewN nq) (hJd _ _ _ HJ.out) (by rw [List.length_range]; exact HKP2.out) HKP2.out
      rw [hcv] at hyk
      obtain ⟨fn, tmps, assign, body, hy, hR⟩ := hyk
      have e1 : IntKind.i64.wrap ((i : Int) + (e : Int)) = (j : Int) := by rw [hj, IntKind.wrap_i64]; omega
      have j1 : i ≤ j := by omega
      have j2 : j ≤ c := by omega
      have j3 : ¬ j = i := by omega
      have j4 : (i : Int) ≤ (j : Int) := by omega
      have j5 : (j : Int) ≤ (c : Int) := by omega
      have j6 : 0 < j - i := by omega
      have h65 : 960 * k < 65536 := by rw [← HI.out]; omega
      have e2 : IntKind.i64.wrap ((i : Int) + 960) = ((960 * (k + 1) : Nat) : Int) := by rw [IntKind.wrap_i64, HI.out]; omega
      have HKPN := Lib.hid (show KpC n₀ b1 b2 W (wr.drewN nq) from ⟨below_drewN HKP.out.1 _, HKP.out.2⟩)
      have H65 := Lib.hid h65
      try dsimp only at hy
      clear h65 hmin hcv he hel hj i1 i2 i3
      go_wp2_with fail
      gi_wp2
      refine hR.mono ?_
      rintro e W3 (⟨rfl, hJ3, hk3⟩ | ⟨rfl, hJx3⟩)
      · have hkp3 := HKPN.out.trans hk3
        have hc1' := heap_cell (hkp3.2.2.trans hb2) 0 rfl
        gi_wp2
        go_roundw
        case rel => exact ⟨k + 1, HKP2.out, by first | rfl | go_num, by rw [List.range_succ]; exact hJ3, hkp3⟩
        case measure => simp [intOf]; have := H65.out; have := HI.out; omega
      · gi_wp2
        refine bodyPost_ret (results_none rfl _ _ _) rfl ?_
        exact ⟨⟨_, rfl⟩, .inr ⟨_, trivial, hJx3⟩⟩
    · have hci : decide (i < l.length) = false := decide_eq_false hlt
      have hke : k = parts l.length := by unfold parts at *; omega
      subst hke
      clear hi hk hlt
      gi_wp2
      go_end0
      exact ⟨⟨_, rfl⟩, .inl ⟨_, rfl, HJ.out⟩⟩
set_option maxHeartbeats 1000000 in
theorem chunk_in (n : Nat) (A : Option Addr) (m c : Nat) (w : World) :
    CallsIn Fence.wide n Try.prog 33 #[.slice A m c, .int .i64 960] w fun e w' => e = .returned (.func (.func 60) #[] #[.pointer (some ⟨w.heap.size, 0, none⟩), .pointer (some ⟨w.heap.size + 1, 0, none⟩)]) ∧ w' = (w.alloc (.cells #[.slice A m c] 22)).alloc (.cells #[.int .i64 960] 3) := by
  refine callsIn_of_wp Try.func33 rfl trivial ?_ rfl
  simp only [Try.ntmps33, List.size_toArray, List.length_cons, List.length_nil, Nat.reduceAdd, Nat.reduceSub, Array.replicate_succ, Array.replicate_zero, List.push_toArray, List.append_toArray, List.nil_append, List.cons_append]
  have h2 := heap_cell (heap_alloc_new (w.alloc (.cells #[.slice A m c] 22)) (.cells #[.int .i64 960] 3)) 0 rfl
  rw [World.size_alloc] at h2
  gi_wp2
  go_ret
  exact ⟨rfl, rfl⟩
/-- a chunk's number -/
abbrev CSpot (l : List Int) := { j : Nat // j < parts l.length }
theorem chunk_stops (n : Nat) (hn : 1 ≤ n) (b1 b2 n₀ : Nat) (ad : Addr) (A : Option Addr) (c : Nat) (l : List Int) (hA : 0 < l.length → A = some ad) (hm : l.length ≤ 65536) (hc : l.length ≤ c) (w : World) (h1 : b1 < w.heap.size) (h2 : b2 < w.heap.size)
    (hb1 : w.heap[b1]? = some (.cells #[.slice A l.length c] 22)) (hb2 : w.heap[b2]? = some (.cells #[.int .i64 960] 3)) :
    SeqStopsK Fence.wide n Try.prog 60 #[.pointer (some ⟨b1, 0, none⟩), .pointer (some ⟨b2, 0, none⟩)] (fun x : CSpot l => #[chunkV ad l x.1]) (KpC n₀ b1 b2) (fun ys => ys.map (·.1) = List.range (parts l.length))
      (fun _ => True) (parts l.length) w := fun lp J Jx W hW hJ _ hY h0 => by
  refine (chunk1_in n hn lp b1 b2 n₀ ad A c l hA hm hc (fun pre W => ∃ ps : List (CSpot l), ps.map (·.1) = pre ∧ J ps W) (fun pre W => ∃ ps : List (CSpot l), ps.map (·.1) = pre ∧ Jx ps W) ?_ ?_ W ((hW.block b1 h1).trans hb1) ((hW.block b2 h2).trans hb2) ⟨[], rfl, h0⟩).mono ?_
  · rintro _ x W1 ⟨ps, rfl, hp⟩ hl hx
    rw [List.length_map] at hl
    have := hY ps ⟨x, hx⟩ W1 hp hl
    obtain ⟨fn, tmps, assign, body, hy, hR⟩ := this
    refine ⟨fn, tmps, assign, body, hy, hR.mono ?_⟩
    rintro e W3 (⟨rfl, h3, h4⟩ | ⟨rfl, h3⟩)
    · exact .inl ⟨rfl, ⟨_, by rw [List.map_append]; rfl, h3⟩, h4⟩
    · exact .inr ⟨rfl, _, by rw [List.map_append]; rfl, h3⟩
  · rintro _ W1 q ⟨ps, rfl, hp⟩
    exact ⟨ps, rfl, hJ ps W1 (W1.drewN q) none hp ⟨rfl, rfl, rfl, Nat.le_refl _, fun _ _ _ => rfl⟩ (fun r e => by cases e)⟩
  · rintro e W1 ⟨hv, ⟨ys, hys, ps, hps, hJ1⟩ | ⟨pre, _, ps, _, hJ1⟩⟩
    · exact ⟨hv, .inl ⟨ps, hps.trans hys, hJ1⟩⟩
    · exact ⟨hv, .inr ⟨ps, trivial, hJ1⟩⟩
end Go.Proofs.Ytcnalndhlonblaa
