/-
  Chapter 7's NodeReads, walked.
-/
import Derived.Test.YtilkcecjciiboaaLaw07
import Derived.Test.YtilkcecjciiboaaNod14
namespace Go.Proofs.Ytilkcecjciiboaa
open Go.RowKit
theorem readV_small (s : List UInt8) : (readV s).keys.length ≤ 18 ∧ (readV s).vals.length ≤ 18 := by
  by_cases h : readE s = 0
  · have hV : readV s = partN s (n2 s) := by unfold readV; rw [if_pos h]
    have hf : formN s = true := by
      cases hf : formN s with
      | true => rfl
      | false => rw [(read_bad hf).1] at h; cases h
    have h1 := (formN_of hf).c
    have h2 := (formN_of hf).m18
    rw [hV]
    exact ⟨by show (keysN s (n2 s)).length ≤ 18; rw [keysN_len]; omega, by show (valsN s (n2 s)).length ≤ 18; rw [valsN_len]; omega⟩
  · have hV : readV s = zeroN := by unfold readV; rw [if_neg h]
    rw [hV]
    exact ⟨by decide, by decide⟩
set_option maxRecDepth 100000 in
set_option maxHeartbeats 4000000 in
theorem law_NodeReads (A0 : Option Addr) (c0 : Nat) (l0 : List UInt8) (w : World) (q0 : l0.length ≤ c0) (m0 : l0.length ≤ reachBytes) (r0 : Reads w w.heap.size A0 (bv l0)) :
    Calls Try.prog 15 #[.slice A0 l0.length c0] w fun e w' => e = .returned (.bool true) ∧ Below w.heap.size w w' := by
  have mm := m0
  simp only [reachBytes] at mm
  have r6 := r0.take 600
  rw [bv_take] at r6
  have hl6 : (l0.take 600).length = min 600 l0.length := List.length_take ..
  go_enter Try.func15, Try.ntmps15
  go_upto_if 9 with fail
  go_cut [0] (fun s0 wx => w = wx ∧ ∃ s : List UInt8, s0 = .slice A0 s.length c0 ∧ s.length ≤ 600 ∧ s.length ≤ c0 ∧ Reads w w.heap.size A0 (bv s))
  case first =>
    by_cases h1 : 600 < l0.length
    · have d1 : decide (600 < (l0.length : Int)) = true := decide_eq_true (by omega)
      have q1 : (600 : Int) ≤ (c0 : Int) := by omega
      go_wp2
      go_meet
      exact ⟨rfl, l0.take 600, by rw [hl6, Nat.min_eq_left (by omega)], by omega, by omega, r6⟩
    · have d1 : decide (600 < (l0.length : Int)) = false := decide_eq_false (by omega)
      go_wp2
      go_meet
      exact ⟨rfl, l0, rfl, by omega, q0, r0⟩
  case rest =>
    obtain ⟨rfl, s, rfl, hs, hc, hr⟩ := hcut
    clear r0 r6 hl6 m0 q0 mm
    have hm : s.length ≤ reachBytes := by simp only [reachBytes]; omega
    have k1 := read_node A0 c0 s w hc hm hr
    have K2 := Lib.hid (fun (V : World) (hb : Below w.heap.size w V) => rread_node A0 c0 s V hc hm (hr.ext hb))
    obtain ⟨hs1, hs2⟩ := readV_small s
    have HZ := Lib.hid (And.intro (show (readV s).keys.length ≤ 1000000 by omega) (show (readV s).vals.length ≤ 1000000 by omega))
    clear hs1 hs2 hr hm
    have HS := Lib.hid (sameN_self (readV s))
    generalize readV s = n at *
    generalize readE s = E at *
    have d2 : (E == E) = true := by simp
    go_wp2_with fail
    refine k1.mono ?_
    rintro e w1 ⟨A, c, A2, c2, rfl, hnr, hb1⟩
    have HB1 := Lib.hid (below_then hb1 (below_alloc1 w1 (.cells (nodV n A c A2 c2) 31)))
    have HC1 := Lib.hid (fun (V : World) (hb : Below (w1.alloc (.cells (nodV n A c A2 c2) 31)).heap.size (w1.alloc (.cells (nodV n A c A2 c2) 31)) V) => (show V.heap[w1.heap.size]? = some (.cells (nodV n A c A2 c2) 31) from heap_keep (heap_alloc_new w1 _) hb))
    have HN1 := Lib.hid (fun (V : World) (hb : Below (w1.alloc (.cells (nodV n A c A2 c2) 31)).heap.size (w1.alloc (.cells (nodV n A c A2 c2) 31)) V) => (hnr.ext (below_alloc1 w1 (.cells (nodV n A c A2 c2) 31))).ext hb)
    have k2 := K2.out _ HB1.out
    clear k1 K2 hnr hb1
    go_wp2_with fail
    refine k2.mono ?_
    rintro e w2 ⟨B, d, B2, d2', rfl, hnr2, hb2⟩
    have hb3 := below_then hb2 (below_alloc1 w2 (.cells (nodV n B d B2 d2') 31))
    have HB2 := Lib.hid (below_then HB1.out hb3)
    have h1 := HC1.out _ hb3
    have h2 := heap_alloc_new w2 (.cells (nodV n B d B2 d2') 31)
    have hsm := rsame_node (HN1.out _ hb3) (hnr2.ext (below_alloc1 w2 (.cells (nodV n B d B2 d2') 31))) HZ.out.1 HZ.out.2 HZ.out.1 HZ.out.2
    rw [HS.out] at hsm
    have p0 := heap_cell h1 0 rfl
    have p1 := heap_cell h1 1 rfl
    have p2 := heap_cell h1 2 rfl
    have p3 := heap_cell h1 3 rfl
    have s0 := heap_cell h2 0 rfl
    have s1 := heap_cell h2 1 rfl
    have s2 := heap_cell h2 2 rfl
    have s3 := heap_cell h2 3 rfl
    clear k2 hnr2 hb2 hb3 h1 h2 HC1 HN1 HZ HS HB1
    unfold nodV at p0 p1 p2 p3 s0 s1 s2 s3 hsm HB2
    generalize n.t = t at *
    generalize n.leaf = lf at *
    generalize n.keys.length = kn at *
    generalize n.vals.length = vn at *
    go_wp2_with fail
    refine hsm.mono ?_
    rintro e w3 ⟨rfl, hb3⟩
    have HB3 := Lib.hid (below_then HB2.out hb3)
    clear hsm p0 p1 p2 p3 s0 s1 s2 s3 hb3
    go_wp2_with fail
    refine (lives07 _).mono ?_
    rintro e w4 ⟨rfl, hb4⟩
    have hB := below_then HB3.out hb4
    clear hb4
    go_wp2
    go_ret
    exact ⟨rfl, hB⟩
end Go.Proofs.Ytilkcecjciiboaa
