/-
  Chapter 44: the iterator over runs, walked.
-/
import Derived.RangeFuncBox
import Derived.RangeFuncLeaves
import Derived.Shelf.Abstract
import Derived.WalkKit
import Derived.OwnWalkIn
import Derived.TacticsInMore
import Derived.LoopNIn
import Derived.LoopIn
import Derived.Maps.AppendAt
import Derived.ControlIn
import Derived.BigQuiet
import Derived.Deep.QuietTactic
import Derived.Test.YtcnalndhlonblaaSqP
import Derived.Test.YtcnalndhlonblaaCode
import Derived.Test.YtcnalndhlonblaaBase5
import Derived.Test.YtcnalndhlonblaaRef1C
namespace Go.Proofs.Ytcnalndhlonblaa
open Go.RowKit Go.Shelf
attribute [local go_sem] Oper.semAt_some

/-- what a round keeps: all below n₀, and block b -/
def KpS (n₀ b : Nat) (W W' : World) : Prop := Below n₀ W W' ∧ W'.heap[b]? = W.heap[b]?
theorem KpS.refl (n₀ b : Nat) (W : World) : KpS n₀ b W W := ⟨Below.refl _ _, rfl⟩
theorem KpS.trans {n₀ b : Nat} {A B C : World} (h : KpS n₀ b A B) (k : KpS n₀ b B C) : KpS n₀ b A C := ⟨h.1.trans k.1, k.2.trans h.2⟩
theorem KpS.turn {n₀ b : Nat} {w : World} (hn : n₀ ≤ w.heap.size) (hb : b < w.heap.size) (W : World) (l : Nat) (o o' : Obj) (hl : w.heap.size ≤ l) (h : W.heap[l]? = some o) (h1 : o.isCells = false) (h2 : o.isWalk = false) : KpS n₀ b W (W.putObj l o') :=
  ⟨belowK_b hn W l o o' hl h h1 h2, World.putObj_heap_other (by omega)⟩
set_option maxRecDepth 100000 in
set_option maxHeartbeats 2000000 in
theorem runs1_in (n : Nat) (hn : 1 ≤ n) (l Bb n₀ : Nat) (A : Option Addr) (c : Nat) (b : List UInt8) (hm : b.length ≤ reachBytes) (J Jx : List (Nat × Nat) → World → Prop)
    (hY : ∀ pre x W, J pre W → pre.length < b.length → x.1 < b.length → x.1 + x.2 ≤ b.length → YieldAt Fence.wide (n - 1) Try.prog l #[.int .i64 (x.1 : Int), .int .i64 (x.2 : Int)] W fun e W' =>
      (e = .returned (.bool true) ∧ J (pre ++ [x]) W' ∧ KpS n₀ Bb W W') ∨ (e = .returned (.bool false) ∧ Jx (pre ++ [x]) W'))
    (hJd : ∀ pre W q, J pre W → J pre (W.drewN q))
    (W : World) (hBb : W.heap[Bb]? = some (.cells #[.slice A b.length c] 43)) (hr : Reads W n₀ A (bv b)) (h0 : J [] W) :
    CallsIn Fence.wide n Try.prog 85 #[.func (.yield l) #[] #[], .pointer (some ⟨Bb, 0, none⟩)] W fun e W' => (∃ v, e = .returned v) ∧
      ((∃ ys, ys = restL b 0 ∧ J ys W') ∨ (∃ pre, (∃ at_, restL b 0 = pre ++ restL b at_) ∧ Jx pre W')) := by
  simp only [reachBytes] at hm
  refine callsIn_of_wp Try.func85 rfl trivial ?_ rfl
  simp only [Try.ntmps85, List.size_toArray, List.length_cons, List.length_nil, Nat.reduceAdd, Nat.reduceSub, Array.replicate_succ, Array.replicate_zero, List.push_toArray, List.append_toArray, List.nil_append, List.cons_append]
  gi_wp2
  gi_loopw [3] (fun i wr => ∃ (k : Nat) (pre : List (Nat × Nat)), k ≤ b.length ∧ i = .int .i64 k ∧ restL b 0 = pre ++ restL b k ∧ pre.length ≤ k ∧ J pre wr ∧ KpS n₀ Bb W wr)
    (fun i _ => b.length - (intOf i).toNat)
  case atStart => exact ⟨0, [], Nat.zero_le _, rfl, rfl, Nat.le_refl _, h0, KpS.refl _ _ _⟩
  case round =>
    rename World => wo
    obtain ⟨k, pre, hk, rfl, hpre, hpl, hJs, hkp⟩ := hrel
    have hbox : wo.heap[Bb]? = some (.cells #[.slice A b.length c] 43) := hkp.2.trans hBb
    have hc0 := heap_cell hbox 0 rfl
    have hrr := hr.below hkp.1
    by_cases hlt : k < b.length
    · have HP := Lib.hid hpre
      have HJ := Lib.hid hJs
      have HKP := Lib.hid hkp
      clear hpre hJs hkp
      gi_wp2
      refine wpIn_wide.2 ?_
      obtain ⟨ad, hA, -, hck⟩ := hrr.at_ (k := k) (by rw [bv_len]; exact hlt)
      subst hA
      replace hck : wo.cell? (ad.add k) = some (.int .u8 ((b[k]?.getD 0).toNat : Int)) := by
        rw [hck, List.getElem?_eq_getElem hlt]
        simp [bv]
      have hNpos := runN_pos b k
      have hNfit := runN_fits hlt
      have HIN := Lib.hid (fun m (h1 : m < runN b k) (h0 : 1 ≤ m) => runN_in (b := b) (at_ := k) h1 h0)
      have HEND := Lib.hid (runN_end b k)
      have HST := Lib.hid (restL_step hlt)
      generalize hy : b[k]?.getD 0 = y at *
      generalize runN b k = N at *
      clear hy hc0
      have HCB := Lib.hid (show ∀ q, (wo.drewN q).cell? ⟨Bb, 0, none⟩ = some (.slice (some ad) b.length c) from fun q => heap_cell hbox 0 rfl)
      clear hbox
      have k0 : (0 : Int) ≤ (k : Int) := by omega
      have k1 : (k : Int) < (b.length : Int) := by omega
      go_loopw [4] (fun s4 wx => ∃ m q : Nat, 1 ≤ m ∧ m ≤ N ∧ s4 = .int .i64 m ∧ wx = wo.drewN q) (fun s4 _ => N - (intOf s4).toNat)
      case atStart => exact ⟨1, 0, by omega, by omega, rfl, rfl⟩
      case round =>
        obtain ⟨m, q, hm1, hmN, rfl, hwx⟩ := hrel
        have HWX := Lib.hid hwx
        have hcb := HCB.out q
        have hck' : (wo.drewN q).cell? (ad.add k) = some (.int .u8 (y.toNat : Int)) := hck
        have j0 : (0 : Int) ≤ (k : Int) + (m : Int) := by omega
        by_cases hlm : k + m < b.length
        · obtain ⟨ad', hA', -, hcm⟩ := hrr.at_ (k := k + m) (by rw [bv_len]; exact hlm)
          cases hA'
          replace hcm : (wo.drewN q).cell? (ad.add (k + m)) = some (.int .u8 ((b[k + m]?.getD 0).toNat : Int)) := by
            show wo.cell? _ = _
            rw [hcm, List.getElem?_eq_getElem hlm]
            simp [bv]
          have j1 : (k : Int) + (m : Int) < (b.length : Int) := by omega
          rw [← hwx] at hcb hck' hcm
          by_cases hmn : m < N
          · have he := HIN.out m hmn hm1
            rw [he, Option.getD_some] at hcm
            clear hwx hck he
            go_wp2_with fail
            go_quiet (fail)
            go_wp2
            go_roundw
            case rel => exact ⟨m + 1, _, by omega, by omega, by go_num, by rw [HWX.out, World.drewN_drewN]⟩
            case measure => simp [intOf]; omega
          · obtain rfl : m = N := by omega
            have hne := HEND.out
            rw [List.getElem?_eq_getElem hlm] at hne hcm
            have hz : b[k + m] ≠ y := fun h => hne (by rw [h])
            have hz2 : (((b[k + m]).toNat : Int) == (y.toNat : Int)) = false := by
              rw [beq_eq_false_iff_ne]
              intro h
              exact hz (UInt8.toNat_inj.1 (by omega))
            rw [Option.getD_some] at hcm
            generalize b[k + m] = z at *
            clear hwx hck hz hne
            go_wp2_with fail
            go_quiet (fail)
            have HW := Lib.hid (show ∃ q2, wr.drewN nq = wo.drewN q2 from ⟨q + nq, by rw [HWX.out, World.drewN_drewN]⟩)
            obtain ⟨fn, tmps, assign, body, hy, hR⟩ := hY pre (k, m) (wr.drewN nq) (by rw [HWX.out, World.drewN_drewN]; exact hJd _ _ _ HJ.out) (by show pre.length < _; omega) hlt hNfit
            have HK2 := Lib.hid (show KpS n₀ Bb W (wr.drewN nq) from by rw [HWX.out, World.drewN_drewN]; exact ⟨below_drewN HKP.out.1 _, HKP.out.2⟩)
            dsimp only at hy
            clear hcb hck' hcm
            go_wp2_with fail
            gi_wp2
            refine hR.mono ?_
            rintro e W3 (⟨rfl, hJ3, hk3⟩ | ⟨rfl, hJx3⟩)
            · gi_wp2
              go_roundw
              case rel => exact ⟨k + m, pre ++ [(k, m)], hNfit, by go_num, by rw [HP.out, HST.out, List.append_assoc]; rfl, by rw [List.length_append]; show _ + 1 ≤ _; omega, hJ3, HK2.out.trans hk3⟩
              case measure => simp [intOf]; omega
            · gi_wp2
              refine bodyPost_ret (results_none rfl _ _ _) rfl ?_
              exact ⟨⟨_, rfl⟩, .inr ⟨_, ⟨k + m, by rw [HP.out, HST.out, List.append_assoc]; rfl⟩, hJx3⟩⟩
        · obtain rfl : m = N := by omega
          have j1 : decide ((k : Int) + (m : Int) < (b.length : Int)) = false := decide_eq_false (by omega)
          rw [← hwx] at hcb hck'
          clear hwx hck
          go_wp2_with fail
          go_quiet (fail)
          have HW := Lib.hid (show ∃ q2, wr.drewN nq = wo.drewN q2 from ⟨q + nq, by rw [HWX.out, World.drewN_drewN]⟩)
          obtain ⟨fn, tmps, assign, body, hy, hR⟩ := hY pre (k, m) (wr.drewN nq) (by rw [HWX.out, World.drewN_drewN]; exact hJd _ _ _ HJ.out) (by show pre.length < _; omega) hlt hNfit
          have HK2 := Lib.hid (show KpS n₀ Bb W (wr.drewN nq) from by rw [HWX.out, World.drewN_drewN]; exact ⟨below_drewN HKP.out.1 _, HKP.out.2⟩)
          dsimp only at hy
          clear hcb hck'
          go_wp2_with fail
          gi_wp2
          refine hR.mono ?_
          rintro e W3 (⟨rfl, hJ3, hk3⟩ | ⟨rfl, hJx3⟩)
          · gi_wp2
            go_roundw
            case rel => exact ⟨k + m, pre ++ [(k, m)], hNfit, by go_num, by rw [HP.out, HST.out, List.append_assoc]; rfl, by rw [List.length_append]; show _ + 1 ≤ _; omega, hJ3, HK2.out.trans hk3⟩
            case measure => simp [intOf]; omega
          · gi_wp2
            refine bodyPost_ret (results_none rfl _ _ _) rfl ?_
            exact ⟨⟨_, rfl⟩, .inr ⟨_, ⟨k + m, by rw [HP.out, HST.out, List.append_assoc]; rfl⟩, hJx3⟩⟩
    · obtain rfl : k = b.length := by omega
      rw [restL_end (Nat.le_refl _), List.append_nil] at hpre
      subst hpre
      gi_wp2
      go_end0
      exact ⟨⟨_, rfl⟩, .inl ⟨_, rfl, hJs⟩⟩
set_option maxHeartbeats 1000000 in
theorem runs_in (n : Nat) (A : Option Addr) (m c : Nat) (w : World) :
    CallsIn Fence.wide n Try.prog 69 #[.slice A m c] w fun e w' => e = .returned (.func (.func 85) #[] #[.pointer (some ⟨w.heap.size, 0, none⟩)]) ∧ w' = w.alloc (.cells #[.slice A m c] 43) := by
  refine callsIn_of_wp Try.func69 rfl trivial ?_ rfl
  simp only [Try.ntmps69, List.size_toArray, List.length_cons, List.length_nil, Nat.reduceAdd, Nat.reduceSub, Array.replicate_succ, Array.replicate_zero, List.push_toArray, List.append_toArray, List.nil_append, List.cons_append]
  gi_wp2
  go_ret
  exact ⟨rfl, rfl⟩
theorem runs_stops (n : Nat) (hn : 1 ≤ n) (Bb n₀ : Nat) (A : Option Addr) (c : Nat) (b : List UInt8) (hm : b.length ≤ reachBytes) (w : World) (hb : Bb < w.heap.size) (hn₀ : n₀ ≤ w.heap.size)
    (hBb : w.heap[Bb]? = some (.cells #[.slice A b.length c] 43)) (hr : Reads w n₀ A (bv b)) :
    SeqStopsK Fence.wide n Try.prog 85 #[.pointer (some ⟨Bb, 0, none⟩)] (fun x : Nat × Nat => #[Value.int .i64 (x.1 : Int), Value.int .i64 (x.2 : Int)]) (KpS n₀ Bb) (fun ys => ys = restL b 0)
      (fun pre => ∃ at_, restL b 0 = pre ++ restL b at_) b.length w := fun l J Jx W hW hJ _ hY h0 =>
  runs1_in n hn l Bb n₀ A c b hm J Jx (fun pre x W h1 h2 _ _ => hY pre x W h1 h2) (fun pre W q h => hJ pre W (W.drewN q) none h ⟨rfl, rfl, rfl, Nat.le_refl _, fun _ _ _ => rfl⟩ (fun r e => by cases e)) W ((hW.block Bb hb).trans hBb) (hr.below (hW.mono hn₀)) h0
/-- a place of b, and how many there -/
abbrev Spot (b : List UInt8) := { x : Nat × Nat // x.1 < b.length ∧ x.1 + x.2 ≤ b.length }
theorem runs_stops_at (n : Nat) (hn : 1 ≤ n) (Bb n₀ : Nat) (A : Option Addr) (c : Nat) (b : List UInt8) (hm : b.length ≤ reachBytes) (w : World) (hb : Bb < w.heap.size) (hn₀ : n₀ ≤ w.heap.size)
    (hBb : w.heap[Bb]? = some (.cells #[.slice A b.length c] 43)) (hr : Reads w n₀ A (bv b)) :
    SeqStopsK Fence.wide n Try.prog 85 #[.pointer (some ⟨Bb, 0, none⟩)] (fun x : Spot b => #[Value.int .i64 (x.1.1 : Int), Value.int .i64 (x.1.2 : Int)]) (KpS n₀ Bb) (fun ys => ys.map (·.1) = restL b 0)
      (fun _ => True) b.length w := fun l J Jx W hW hJ _ hY h0 => by
  refine (runs1_in n hn l Bb n₀ A c b hm (fun pre W => ∃ ps : List (Spot b), ps.map (·.1) = pre ∧ J ps W) (fun pre W => ∃ ps : List (Spot b), ps.map (·.1) = pre ∧ Jx ps W) ?_ ?_ W ((hW.block Bb hb).trans hBb) (hr.below (hW.mono hn₀)) ⟨[], rfl, h0⟩).mono ?_
  · rintro _ x W1 ⟨ps, rfl, hp⟩ hl h1 h2
    rw [List.length_map] at hl
    have := hY ps ⟨x, h1, h2⟩ W1 hp hl
    obtain ⟨fn, tmps, assign, body, hy, hR⟩ := this
    refine ⟨fn, tmps, assign, body, hy, hR.mono ?_⟩
    rintro e W3 (⟨rfl, h3, h4⟩ | ⟨rfl, h3⟩)
    · exact .inl ⟨rfl, ⟨_, by rw [List.map_append]; rfl, h3⟩, h4⟩
    · exact .inr ⟨rfl, _, by rw [List.map_append]; rfl, h3⟩
  · rintro _ W1 q ⟨ps, rfl, hp⟩
    exact ⟨ps, rfl, hJ ps W1 (W1.drewN q) none hp ⟨rfl, rfl, rfl, Nat.le_refl _, fun _ _ _ => rfl⟩ (fun r e => by cases e)⟩
  · rintro e W1 ⟨hv, ⟨ys, hys, ps, hps, hJ1⟩ | ⟨pre, _, ps, _, hJ1⟩⟩
    · exact ⟨hv, .inl ⟨ps, hps.trans hys, hJ1⟩⟩
    · exact ⟨hv, .inr ⟨ps, trivial, hJ1⟩⟩
end Go.Proofs.Ytcnalndhlonblaa
