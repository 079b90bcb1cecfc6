/-
  What the reference's Pack, Unpack, Same and code.Unpack compute, each walked once.
-/
import Derived.Test.YtcnalndhlonblaaCode3
import Derived.Test.YtcnalndhlonblaaRef1B
import Derived.Test.YtcnalndhlonblaaBase3
import Derived.Deep.QuietTactic
import Derived.BigQuiet
namespace Go.Proofs.Ytcnalndhlonblaa
open Go.RowKit
theorem below_drewN {B : Nat} {w w' : World} (h : Below B w w') (k : Nat) : Below B w (w'.drewN k) := ⟨h.os, h.tape, h.output, h.size, h.block⟩
attribute [local go_sem ↓] Go.wp_at_zero Go.wp_at_succ

theorem unpE_append (b : List UInt8) (x : List Int) : ∀ (a : Int) (y : List Int), unpE b a (x ++ y) = if unpE b a x = 0 then unpE b (a + x.sum) y else unpE b a x := by
  induction x with
  | nil => intro a y; simp [unpE]
  | cons w x ih =>
    intro a y
    simp only [List.cons_append, unpE, ih, List.sum_cons]
    split
    · rw [Int.add_assoc]
    · simp [*]
theorem unpB_append (b : List UInt8) (x : List Int) : ∀ (a : Int) (y : List Int), unpB b a (x ++ y) = unpB b a x ++ unpB b (a + x.sum) y := by
  induction x with
  | nil => intro a y; simp [unpB]
  | cons w x ih =>
    intro a y
    simp only [List.cons_append, unpB, ih, List.sum_cons]
    rw [Int.add_assoc]
theorem unpB_len (b : List UInt8) (x : List Int) : ∀ a, (unpB b a x).length = x.length := by
  induction x with
  | nil => intro a; rfl
  | cons w x ih => intro a; simp [unpB, ih]
theorem getV_ok {l : List UInt8} {a x : Int} (h : (getV l a x).2 = 0) : 0 ≤ a ∧ a + x ≤ l.length ∧ 1 ≤ x := by
  unfold getV at h
  split at h
  · rename_i ht
    obtain ⟨hk, h0, h1⟩ := thereV_zero ht
    have := (knownB_iff x).1 hk
    exact ⟨h0, h1, by omega⟩
  · rename_i ht
    exact absurd h ht

set_option maxRecDepth 100000 in
set_option maxHeartbeats 1000000 in
theorem unpack_any (A : Option Addr) (c : Nat) (l : List UInt8) (A2 : Option Addr) (c2 : Nat) (ws : List Int) (w : World) (hm : l.length ≤ reachBytes) (hm2 : ws.length * 8 ≤ reachBytes) (h : Reads w w.heap.size A (bv l)) (h2 : Reads w w.heap.size A2 (iv ws)) :
    Calls Try.prog 84 #[.slice A l.length c, .slice A2 ws.length c2] w (GivesE 3 (iv (unpV l 0 ws)) (unpE l 0 ws) w) := by
  have mm := hm
  simp only [reachBytes] at mm hm2
  obtain ⟨i0, hi, hz0, hz1, hz2⟩ := info_parts Try.infoInt
  go_enter Try.func84, Try.ntmps84
  go_wp2_with fail
  go_loopw [6, 7, 14] (fun v a i wr => ∃ (k : Nat) (at_ : Int), k ≤ ws.length ∧ i = .int .i64 k ∧ a = .int .i64 at_ ∧ at_ = (ws.take k).sum ∧ 0 ≤ at_ ∧ at_ ≤ l.length ∧ unpE l 0 (ws.take k) = 0 ∧ wr.ownsRow w.heap.size 3 1 v k (iv (unpB l 0 (ws.take k))) ∧ Below w.heap.size w wr) (fun _ _ i _ => ws.length - (intOf i).toNat)
  case atStart => exact ⟨0, 0, by omega, rfl, rfl, by simp, by omega, by omega, by simp [unpE], World.ownsRow_nil _ _ _ _, Below.refl _ _⟩
  case round =>
    obtain ⟨k, at_, hk, rfl, rfl, hat, ha0, ha1, he, hown, hbr⟩ := hrel
    by_cases hlt : k < ws.length
    · obtain ⟨ad, rfl, hadb, hc⟩ := (h2.below hbr).num hlt
      have hsn := take_snoc ws k hlt
      have hE : unpE l 0 (ws.take (k + 1)) = unpE l at_ [ws[k]] := by rw [hsn, unpE_append, if_pos he, hat, Int.zero_add]
      have hall : unpE l 0 ws = if unpE l at_ [ws[k]] = 0 then unpE l (0 + (ws.take (k + 1)).sum) (ws.drop (k + 1)) else unpE l at_ [ws[k]] := by
        conv => lhs; rw [← List.take_append_drop (k + 1) ws]
        rw [unpE_append, hE]
      have hB : unpB l 0 (ws.take (k + 1)) = unpB l 0 (ws.take k) ++ unpB l at_ [ws[k]] := by rw [hsn, unpB_append, hat, Int.zero_add]
      have hS : (ws.take (k + 1)).sum = at_ + ws[k] := by rw [hsn, List.sum_append, ← hat]; simp
      have HE := Lib.hid hE
      have HALL := Lib.hid hall
      have HB := Lib.hid hB
      have HS := Lib.hid hS
      clear hsn hE hall hB hS hat he
      generalize ws[k] = wd at *
      have hg := get_any A c l at_ wd wr _ hm (h.below hbr)
      by_cases hok : (getV l at_ wd).2 = 0
      · obtain ⟨_, hw1, hw2⟩ := getV_ok hok
        have h1 : unpE l at_ [wd] = 0 := by simp [unpE, hok]
        have h3 : unpB l at_ [wd] = [(getV l at_ wd).1] := by simp [unpB]
        rw [h1] at HE
        rw [h3] at HB
        rw [hok] at hg
        clear hok h1 h3 HALL
        generalize (getV l at_ wd).1 = g at *
        have hr2 := Reads.new wr (iv [g]) 3 (0, 0)
        go_wp2_with fail
        refine hg.mono ?_
        rintro e w1 ⟨rfl, rfl⟩
        clear hg
        go_wp2_with (at_builtin; refine wpList_append_to _ rfl (.tmp 28) (.tmp 30) _ rfl w.heap.size 3 i0 _ 8 Try.underlying22 hi hz0 hz1 hz2 rfl _ k (iv (unpB l 0 (ws.take k))) rfl (hown.alloc _) _ _ 1 1 (iv [g]) rfl rfl hr2 (iv_one _) (by simp only [maxLen]; omega) (by omega) (by have := hbr.size; simp; omega) ?_; intro A' c' w2 hown2 hg2 hb2 _)
        go_roundw
        case rel => exact ⟨k + 1, at_ + wd, by omega, by go_num, by go_num, HS.out.symm, by omega, by omega, HE.out, by rw [HB.out, iv_append]; exact hown2, (hbr.trans ((below_alloc1 wr _).mono hbr.size)).trans hb2⟩
        case measure => simp [intOf]; omega
      · have h1 : unpE l at_ [wd] = (getV l at_ wd).2 := by simp [unpE, hok]
        rw [h1, if_neg hok] at HALL
        have hP : unpV l 0 ws = [] := by unfold unpV; rw [HALL.out, if_neg hok]
        rw [HALL.out, hP]
        have d0 : ((getV l at_ wd).2 != 0) = true := by simpa using hok
        clear h1 HALL hP HE HB hok
        generalize (getV l at_ wd).1 = g at *
        generalize (getV l at_ wd).2 = ge at *
        go_wp2_with fail
        refine hg.mono ?_
        rintro e w1 ⟨rfl, rfl⟩
        clear hg
        go_wp2
        go_ret2
        exact ⟨none, 0, rfl, World.ownsRow_nil _ _ _ _, hbr⟩
    · obtain rfl : k = ws.length := by omega
      rw [List.take_length] at he hown
      have hP : unpV l 0 ws = unpB l 0 ws := by unfold unpV; rw [if_pos he]
      have HP := Lib.hid hP
      have HE0 := Lib.hid he
      clear he hP hat
      obtain ⟨A1, c1, rfl⟩ := own_form hown
      go_wp2
      go_ret2
      exact ⟨A1, c1, by rw [HP.out, HE0.out, iv_len, unpB_len]; rfl, by rw [HP.out, iv_len, unpB_len]; exact hown, hbr⟩

set_option maxHeartbeats 1000000 in
theorem same_any (A : Option Addr) (c : Nat) (A2 : Option Addr) (c2 : Nat) (l : List Int) (w : World) (B B2 : Nat) (hm : l.length * 8 ≤ reachBytes) (h : Reads w B A (iv l)) (h2 : Reads w B2 A2 (iv l)) :
    Calls Try.prog 18 #[.slice A l.length c, .slice A2 l.length c2] w fun e w' => e = .returned (.bool true) ∧ ∃ m, w' = w.drewN m := by
  simp only [reachBytes] at hm
  go_enter Try.func18, Try.ntmps18
  go_wp2_with fail
  go_loopw [5] (fun i wr => ∃ k m : Nat, k ≤ l.length ∧ i = .int .i64 k ∧ wr = w.drewN m) (fun i _ => l.length - (intOf i).toNat)
  case atStart => exact ⟨0, 0, by omega, rfl, rfl⟩
  case round =>
    obtain ⟨k, m, hk, rfl, hwr⟩ := hrel
    have HWR := Lib.hid hwr
    by_cases hlt : k < l.length
    · obtain ⟨ad, rfl, _, hc⟩ := (h.drewN m).num hlt
      obtain ⟨ad2, rfl, _, hc2⟩ := (h2.drewN m).num hlt
      rw [← hwr] at hc hc2
      clear hwr
      have hbk : (0 : Int) ≤ (k : Int) := by omega
      have hlt' : (k : Int) < (l.length : Int) := by omega
      go_wp2_with fail
      go_quiet (fail)
      go_wp2
      go_roundw
      case rel => exact ⟨k + 1, _, by omega, by go_num, by rw [HWR.out, World.drewN_drewN]⟩
      case measure => simp [intOf]; omega
    · obtain rfl : k = l.length := by omega
      clear hwr
      go_wp2
      go_ret
      exact ⟨rfl, m, HWR.out⟩
end Go.Proofs.Ytcnalndhlonblaa
