/-
  Chapter 10: lists of slots that are the same; the example (under way).
-/
import Derived.Test.YtilkcecjciiboaaSlot2
import Derived.Test.YtilkcecjciiboaaSlot4
import Derived.BigRegion
import Derived.BigQuiet
import Derived.Deep.QuietTactic
namespace Go.Proofs.Ytilkcecjciiboaa
open Go.RowKit

theorem own_cap {w : World} {B n c : Nat} {e : TypeId} {A : Option Addr} {xs : List Value} (h : w.ownsRow B e 1 (.slice A n c) n xs) (hn : 0 < n) : n ≤ c := by
  rcases h.2 with ⟨hv, hz⟩ | ⟨g', cap, cur, hv, _, _, hnc, _⟩
  · omega
  · injection hv with e1 e2 e3
    omega
theorem Reads3.of_own {w : World} {base : Nat} {e : TypeId} {A : Option Addr} {n c : Nat} {ls : List S3} (hn : n = ls.length) (h : w.ownsRow base e 3 (.slice A n c) n (tv ls)) : Reads3 w w.heap.size A ls := fun hp => by
  rcases h.2 with ⟨hv, hz⟩ | ⟨g, cap, cur, hv, hb, hg, _⟩
  · omega
  · injection hv with h1 h2 h3
    subst h1
    have hc := h.cells (g := g) rfl
    refine ⟨g, 0, rfl, (Array.getElem?_eq_some_iff.1 hg).1, fun j p hj => ?_⟩
    obtain ⟨t0, t1, t2⟩ := tv_get ls j p hj
    have q0 := hc _ _ t0
    have q1 := hc _ _ t1
    have q2 := hc _ _ t2
    rw [add_plain, Nat.zero_add] at q0 q1 q2
    rw [Nat.zero_add]
    exact ⟨q0, q1, q2⟩
set_option maxHeartbeats 1000000 in
theorem same3_any (A : Option Addr) (c : Nat) (A2 : Option Addr) (c2 : Nat) (l : List S3) (w : World) (B B2 : Nat) (hm : l.length * 24 ≤ reachBytes) (h : Reads3 w B A l) (h2 : Reads3 w B2 A2 l) :
    Calls Try.prog 51 #[.slice A l.length c, .slice A2 l.length c2] w fun e w' => e = .returned (.bool true) ∧ Below w.heap.size w w' := by
  simp only [reachBytes] at hm
  go_enter Try.func51, Try.ntmps51
  go_wp2_with fail
  go_loopw [5] (fun i wr => ∃ k m : Nat, k ≤ l.length ∧ i = .int .i64 k ∧ wr = w.drewN m) (fun i _ => l.length - (intOf i).toNat)
  case atStart => exact ⟨0, 0, by omega, rfl, rfl⟩
  case round =>
    obtain ⟨k, m, hk, rfl, hwr⟩ := hrel
    have HWR := Lib.hid hwr
    by_cases hlt : k < l.length
    · obtain ⟨b, o, rfl, _, hc⟩ := (show Reads3 (w.drewN m) B A l from h) (by omega)
      obtain ⟨b2, o2, rfl, _, hc2⟩ := (show Reads3 (w.drewN m) B2 A2 l from h2) (by omega)
      have hp := List.getElem?_eq_getElem hlt
      obtain ⟨e0, e1, e2⟩ := hc k _ hp
      obtain ⟨g0, g1, g2⟩ := hc2 k _ hp
      rw [← hwr] at e0 e1 e2 g0 g1 g2
      clear hwr hc hc2 hp
      generalize l[k].1 = x0 at *
      generalize l[k].2.1 = x1 at *
      generalize l[k].2.2 = x2 at *
      have hbk : (0 : Int) ≤ (k : Int) := by omega
      have hlt' : (k : Int) < (l.length : Int) := by omega
      go_wp2_with fail
      go_quiet (fail)
      go_wp2
      go_roundw
      case rel => exact ⟨k + 1, _, by omega, by go_num, by rw [HWR.out, World.drewN_drewN]⟩
      case measure => simp [intOf]; omega
    · obtain rfl : k = l.length := by omega
      clear hwr
      go_wp2
      go_ret
      exact ⟨rfl, by rw [HWR.out]; exact below_drewN (Below.refl _ _) m⟩
theorem slots_example : slotsOK [(7, 1, 2)] = true ∧ slotsOK [] = true ∧ slotsB [] = List.replicate 244 0 := by decide +kernel
set_option maxRecDepth 100000 in
set_option maxHeartbeats 2000000 in
theorem lives10 (w : World) : Calls Try.prog 46 #[] w fun e w' => e = .returned (.bool true) ∧ Below w.heap.size w w' := by
  obtain ⟨iU, hi, hz0, hz1, hz2⟩ := info_parts Try.infoU8
  have hp0 := sput_any none 0 [] w (by simp) (by simp [reachBytes]) (fun h => absurd h (by simp))
  have hv0 : slotsV [] = List.replicate 244 0 ∧ slotsE [] = 0 := by unfold slotsV slotsE; rw [slots_example.2.1]; exact ⟨slots_example.2.2, rfl⟩
  rw [hv0.1, hv0.2] at hp0
  have hv1 : slotsV [(7, 1, 2)] = slotsB [(7, 1, 2)] ∧ slotsE [(7, 1, 2)] = 0 := by unfold slotsV slotsE; rw [slots_example.1]; exact ⟨rfl, rfl⟩
  have hp1 := fun (W : World) h => sput_any (some ⟨W.heap.size, 0, none⟩) 1 [(7, 1, 2)] (W.alloc (.cells #[.int .i64 7, .int .i64 1, .int .i64 2] 66)) (by decide) (by decide) h
  rw [hv1.1, hv1.2] at hp1
  have hw1 : ∀ p ∈ ([(7, 1, 2)] : List S3), (Lit.int .i64 p.1).wf = true ∧ (Lit.int .i64 p.2.1).wf = true ∧ (Lit.int .i64 p.2.2).wf = true := by decide
  obtain ⟨hr1, hr2⟩ := slots_read hw1 slots_example.1
  have hrd := fun A c W hq h => vslots_any A c (slotsB [(7, 1, 2)]) W hq (by rw [slotsB_len _ (by decide)]; decide) h
  rw [hr1, hr2, slotsB_len _ (by decide)] at hrd
  have HL := Lib.hid (slotsB_len [(7, 1, 2)] (by decide))
  have HR3 := Lib.hid (fun W => Reads3.new W [(7, 1, 2)] 66 (0, 0))
  have HZ := Lib.hid (show (madeCells (Value.int .u8 0).cells (244 * 1)).toList = bv (List.replicate 244 0) from made_zeros' 244)
  obtain ⟨Z, hZ⟩ : ∃ Z : List UInt8, Z = List.replicate 244 0 := ⟨_, rfl⟩
  have hZl : Z.length = 244 := by rw [hZ, List.length_replicate]
  rw [← hZ] at hp0 HZ
  have HZL := Lib.hid hZl
  clear hv0 hv1 hr1 hr2 hw1 hZ hZl
  generalize slotsB [(7, 1, 2)] = X at *
  go_enter Try.func46, Try.ntmps46
  go_wp2_with fail
  refine hp0.mono ?_
  rintro e w1 ⟨A1, c1, rfl, hown1, hb1⟩
  rw [bv_len, HZL.out] at hown1
  rw [bv_len, HZL.out]
  have hh1 := (HR3.out w1).more (show w1.heap.size + 1 ≤ (w1.alloc (.cells #[.int .i64 7, .int .i64 1, .int .i64 2] 66)).heap.size by simp)
  have k2 := hp1 w1 hh1
  clear hp0 hp1 hh1
  go_wp2_with fail
  refine k2.mono ?_
  rintro e w2 ⟨A2, c2, rfl, hown2, hb2⟩
  rw [bv_len, HL.out] at hown2
  rw [bv_len, HL.out]
  have hcap2 := own_cap hown2 (by omega)
  have hB2 := below_then (hb1.alloc hb1.size (.cells #[.int .i64 7, .int .i64 1, .int .i64 2] 66)) hb2
  have hown1' := own_keep (hown1.alloc (.cells #[.int .i64 7, .int .i64 1, .int .i64 2] 66)) hb2
  have k3 := hrd A2 c2 w2 hcap2 (Reads.of_own hown2)
  clear k2 hb1 hb2 hown1 hrd hown2
  go_wp2_with fail
  refine k3.mono ?_
  rintro e w3 ⟨A3, c3, rfl, hown3, hb3⟩
  have hown3' : w3.ownsRow w2.heap.size 66 3 (.slice A3 1 c3) 1 [.int .i64 7, .int .i64 1, .int .i64 2] := hown3
  have hB3 := below_then hB2 hb3
  have hownA := own_keep hown1' hb3
  have hrA := Reads.of_own hownA
  obtain ⟨g3, rfl, hcell3⟩ : ∃ g3, A3 = some ⟨g3, 0, none⟩ ∧ w3.cell? ⟨g3, 0, none⟩ = some (.int .i64 7) := by
    rcases hown3'.2 with ⟨hv, hz⟩ | ⟨g, cap, cur, hv, _, _, _⟩
    · omega
    · injection hv with q1 q2 q3
      subst q1
      exact ⟨g, rfl, hown3'.cells rfl 0 _ rfl⟩
  have hcv1 := run_conv_bytes (P := Try.prog) w3.drew 22 9 5 Try.underlying22 Try.underlying5 Try.underlying9 244 c1 HZL.out.symm hrA
  obtain ⟨w4, hrun, hown4, hg4⟩ := run_make_full (P := Try.prog) w3.drew w3.heap.size 22 5 iU _ 1 Try.underlying22 hi hz0 hz1 .i64 .i64 244 (by rw [hz2]; omega) (by simp only [maxLen]; omega) (Nat.le_refl _)
  rw [HZ.out] at hown4
  rw [show ((244 : Nat) : Int) = 244 from rfl] at hrun
  have hb4 : Below w3.heap.size w3 w4 := by
    have := (Below.refl w3.heap.size w3.drew).grown hg4 (Nat.le_refl _) (fun k hk => by cases hk)
    exact undrew (w := w3) this
  have hcv2 := run_conv_bytes (P := Try.prog) w4 22 9 5 Try.underlying22 Try.underlying5 Try.underlying9 244 c1 HZL.out.symm (hrA.ext hb4)
  have hcv3 := run_conv_bytes (P := Try.prog) w4 22 9 5 Try.underlying22 Try.underlying5 Try.underlying9 244 244 HZL.out.symm (Reads.of_own hown4)
  have hcell4 : w4.cell? ⟨g3, 0, none⟩ = some (.int .i64 7) := by
    have hb := block_lt_of_cell hcell3
    have := hb4.cell hb
    exact this.trans hcell3
  have hB4 := below_then hB3 hb4
  clear hown1' hown3 hown3' hownA hrA k3 hb3 hB2 hB3 hown4 hg4 hb4 HR3 HL hcell3 hcap2
  rw [show w3.drew.heap.size = w3.heap.size from rfl] at hrun hcv3
  go_wp2_with fail
  go_region
  all_goals
    go_wp2
    go_ret
    exact ⟨rfl, hB4⟩
end Go.Proofs.Ytilkcecjciiboaa
