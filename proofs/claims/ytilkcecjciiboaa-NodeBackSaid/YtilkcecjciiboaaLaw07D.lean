/-
  Chapter 7's NodeBack, walked.
-/
import Derived.Test.YtilkcecjciiboaaLaw07C
namespace Go.Proofs.Ytilkcecjciiboaa
open Go.RowKit
theorem nodr_zero (w : World) : NodR w w.heap.size zeroN none 0 none 0 := ⟨Reads.nil_ _ _ _, Reads.nil_ _ _ _, Nat.le_refl _, Nat.le_refl _⟩
set_option maxRecDepth 100000 in
set_option maxHeartbeats 8000000 in
theorem law_NodeBack (n0 : NodeL) (A0 : Option Addr) (c0 : Nat) (B0 : Option Addr) (d0 : Nat) (A1 : Option Addr) (c1 : Nat) (l1 : List UInt8) (w : World)
    (_w0 : (Lit.int .i64 n0.t).wf = true) (_f0 : ∀ x ∈ n0.keys, (Lit.int .i64 x).wf = true) (_g0 : ∀ x ∈ n0.vals, x.length ≤ maxLen) (m0 : n0.keys.length * 8 ≤ reachBytes) (l0 : n0.vals.length * 16 ≤ reachBytes) (r0 : NodR w w.heap.size n0 A0 c0 B0 d0)
    (q1 : l1.length ≤ c1) (m1 : l1.length ≤ reachBytes) (r1 : Reads w w.heap.size A1 (bv l1)) :
    Calls Try.prog 16 #[.agg #[.int .i64 n0.t, .bool n0.leaf, .slice A0 n0.keys.length c0, .slice B0 n0.vals.length d0], .slice A1 l1.length c1] w
      fun e w' => e = .returned (.bool true) ∧ Below w.heap.size w w' := by
  obtain ⟨w1, hw1⟩ : ∃ w1, w1 = w.alloc (.cells (nodV n0 A0 c0 B0 d0) 31) := ⟨_, rfl⟩
  have hb1 : Below w.heap.size w w1 := by rw [hw1]; exact below_alloc1 w _
  have hk1 : w1.heap[w.heap.size]? = some (.cells (nodV n0 A0 c0 B0 d0) 31) := by rw [hw1]; exact heap_alloc_new w _
  have HB1 := Lib.hid hb1
  have HC := Lib.hid (fun (V : World) (hb : Below w1.heap.size w1 V) => (show V.cell? ⟨w.heap.size, 0, none⟩ = some (.int .i64 n0.t) ∧ V.cell? ⟨w.heap.size, 1, none⟩ = some (.bool n0.leaf) ∧ V.cell? ⟨w.heap.size, 2, none⟩ = some (.slice A0 n0.keys.length c0) ∧ V.cell? ⟨w.heap.size, 3, none⟩ = some (.slice B0 n0.vals.length d0) from by
    have h := heap_keep hk1 hb
    exact ⟨heap_cell h 0 rfl, heap_cell h 1 rfl, heap_cell h 2 rfl, heap_cell h 3 rfl⟩))
  have HNR := Lib.hid (fun (V : World) (hb : Below w1.heap.size w1 V) => r0.ext (below_then hb1 hb))
  have hlv : ∃ l, l = l1.length := ⟨_, rfl⟩
  have KS := short_any (r0.ext hb1) m0 l0
  have r6 := r1.take 600
  rw [bv_take] at r6
  have hl6 : (l1.take 600).length = min 600 l1.length := List.length_take ..
  have mm := m1
  simp only [reachBytes] at mm
  clear m0 l0 _w0 _f0 _g0 r0 hk1 hb1 hlv
  go_enter Try.func16, Try.ntmps16
  go_upto_region 1 with fail
  rw [show w.alloc (.cells #[.int .i64 n0.t, .bool n0.leaf, .slice A0 n0.keys.length c0, .slice B0 n0.vals.length d0] 31) = w1 from hw1.symm]
  clear hw1
  have HC0 := Lib.hid (show n0.t = n0.t ∧ True from ⟨rfl, trivial⟩)
  obtain ⟨p0, p1, p2, p3⟩ := HC.out w1 (Below.refl _ _)
  go_wp2_with fail
  refine KS.mono ?_
  rintro e w2 ⟨q, rfl, hsq, hb2⟩
  clear KS p0 p1 p2 p3 HC0
  have HB2 := Lib.hid hb2
  have HW2 := Lib.hid (below_then HB1.out hb2)
  clear hb2
  cases q with
  | false =>
    clear r6 hl6 r1 q1 m1 mm hsq HC HNR
    go_wp2_with fail
    refine (lives07 _).mono ?_
    rintro e w4 ⟨rfl, hb4⟩
    have hB := below_then HW2.out hb4
    clear hb4
    go_wp2
    go_ret
    exact ⟨rfl, hB⟩
  | true =>
    have hsm := hsq.out (by first | rfl | trivial)
    clear hsq
    go_upto_if 19 with fail
    go_cut [1] (fun s1 wx => w2 = wx ∧ ∃ s : List UInt8, s1 = .slice A1 s.length c1 ∧ s.length ≤ 600 ∧ s.length ≤ c1 ∧ Hid (Reads w w.heap.size A1 (bv s)))
    case first =>
      clear HC HNR hsm
      by_cases h2 : 600 < l1.length
      · have d2 : decide (600 < (l1.length : Int)) = true := decide_eq_true (by omega)
        have q1' : (600 : Int) ≤ (c1 : Int) := by omega
        go_wp2
        go_meet
        exact ⟨rfl, l1.take 600, by rw [hl6, Nat.min_eq_left (by omega)], by omega, by omega, Lib.hid r6⟩
      · have d2 : decide (600 < (l1.length : Int)) = false := decide_eq_false (by omega)
        go_wp2
        go_meet
        exact ⟨rfl, l1, rfl, by omega, q1, Lib.hid r1⟩
    case rest =>
      obtain ⟨rfl, s, rfl, hs, hc, HR⟩ := hcut
      clear r1 r6 hl6 m1 mm q1
      have hm : s.length ≤ reachBytes := by simp only [reachBytes]; omega
      have KRD := Lib.hid (fun (V : World) (hb : Below w.heap.size w V) => read_node A1 c1 s V hc hm (HR.out.ext hb))
      have HRS := Lib.hid (fun (V : World) (hb : Below w.heap.size w V) => HR.out.ext hb)
      have HLN := Lib.hid (And.intro (show n0.keys.length ≤ 1000000 by omega) (show n0.vals.length ≤ 1000000 by omega))
      have KP := put_node (HNR.out _ HB2.out) HLN.out.1 HLN.out.2
      have HRT := Lib.hid (fun (V : World) (hb : Below w1.heap.size w1 V) => right_any (HNR.out V hb) HLN.out.1 HLN.out.2)
      obtain ⟨p0, p1, p2, p3⟩ := HC.out _ HB2.out
      have HPV := Lib.hid (show (rightN n0 = true → putNV n0 = nodeB n0 ∧ putNE n0 = 0) ∧ (rightN n0 = false → putNE n0 = 1) from
        ⟨fun h => by unfold putNV putNE; rw [h]; exact ⟨rfl, rfl⟩, fun h => by unfold putNE; rw [h]; rfl⟩)
      have HRB := Lib.hid (fun (h : rightN n0 = true) => read_put h)
      clear HR hsm hm
      go_wp2_with fail
      refine KP.mono ?_
      rintro e w3 ⟨A3, c3, rfl, hown3, hb3⟩
      have HB3 := Lib.hid (below_then HB2.out hb3)
      clear KP p0 p1 p2 p3
      obtain ⟨p0, p1, p2, p3⟩ := HC.out _ HB3.out
      have K4 := HRT.out _ HB3.out
      go_wp2_with fail
      refine K4.mono ?_
      rintro e w4 ⟨rfl, hb4⟩
      have HB4 := Lib.hid (below_then HB3.out hb4)
      have HO4 := Lib.hid (own_keep hown3 hb4)
      clear K4 p0 p1 p2 p3 hown3 hb4 HRT HB3
      have HSM := Lib.hid (sameN_self n0)
      generalize hX : putNV n0 = X at *
      generalize hE : putNE n0 = E at *
      generalize hq : rightN n0 = q at *
      have d9 : (E == 0) = q := by
        cases q with
        | false => rw [HPV.out.2 (by first | rfl | trivial)]; rfl
        | true => rw [(HPV.out.1 (by first | rfl | trivial)).2]; rfl
      clear hX hE hq
      rw [bv_len] at HO4 ⊢
      go_upto_if 33 with fail
      go_cut [7, 8, 34, 35, 36, 37, 38, 39, 40, 41, 42, 43, 44, 45, 46, 47, 48, 49, 50, 51] (fun _ _ _ _ _ _ _ _ _ _ _ _ _ _ _ _ _ _ _ _ wx => Hid (Below w1.heap.size w1 wx))
      case first =>
        cases q with
        | false =>
          clear HC HNR HPV HRB HSM HO4 HLN KRD HRS
          go_wp2
          go_meet
          exact HB4
        | true =>
          obtain ⟨hX, -⟩ := HPV.out.1 (by first | rfl | trivial)
          obtain ⟨e1, e2, e3⟩ := HRB.out (by first | rfl | trivial)
          rw [← hX] at e1 e2 e3
          have ho := HO4.out
          have hcap := own_capO ho
          have K5 := read_node A3 c3 X w4 hcap (by rw [e3]; decide) (Reads.of_own ho)
          rw [e1, e2] at K5
          have d8 : ((X.length : Int) != 244) = false := by rw [e3]; rfl
          have HNC := Lib.hid (fun (V : World) (hb : Below w4.heap.size w4 V) => And.intro (HNR.out V (below_then HB4.out hb)) (HC.out V (below_then HB4.out hb)))
          clear hX e1 e2 e3 ho hcap HO4 HPV HRB HC HNR KRD HRS d9
          go_wp2_with fail
          refine K5.mono ?_
          rintro e w5 ⟨A, c, A2, c2, rfl, hnr, hb5⟩
          have hb6 := below_then hb5 (below_alloc1 w5 (.cells (nodV n0 A c A2 c2) 31))
          obtain ⟨hn, p0, p1, p2, p3⟩ := HNC.out _ hb6
          have HB6 := Lib.hid (below_then HB4.out hb6)
          have K6 := same_node (hnr.ext (below_alloc1 w5 (.cells (nodV n0 A c A2 c2) 31))) hn HLN.out.1 HLN.out.2 HLN.out.1 HLN.out.2
          rw [HSM.out] at K6
          have hk5 := heap_alloc_new w5 (.cells (nodV n0 A c A2 c2) 31)
          have s0 := heap_cell hk5 0 rfl
          have s1 := heap_cell hk5 1 rfl
          have s2 := heap_cell hk5 2 rfl
          have s3 := heap_cell hk5 3 rfl
          clear K5 hnr hb5 hb6 hn HNC hk5 HSM HLN HB4
          unfold nodV at p0 p1 p2 p3 s0 s1 s2 s3 K6 HB6
          generalize n0.t = t at *
          generalize n0.leaf = lf at *
          generalize n0.keys.length = kn at *
          generalize n0.vals.length = vn at *
          go_wp2_with fail
          refine K6.mono ?_
          rintro e w7 ⟨rfl, hb7⟩
          have HB7 := Lib.hid (below_then HB6.out hb7)
          clear K6 p0 p1 p2 p3 s0 s1 s2 s3 hb7
          go_wp2
          go_meet
          exact HB7
      case rest =>
        have HBX := Lib.hid (below_then HB1.out hcut.out)
        clear HC HNR HPV HRB HSM HO4 HLN d9 hcut HB4 HB2 HW2
        obtain ⟨hs1, hs2⟩ := readV_small s
        have HZ := Lib.hid (And.intro (show (readV s).keys.length ≤ 1000000 by omega) (show (readV s).vals.length ≤ 1000000 by omega))
        clear hs1 hs2
        have HPR := Lib.hid (fun (h : readE s = 0) => put_read h)
        have HVZ := Lib.hid (fun (h : readE s ≠ 0) => (show readV s = zeroN from by unfold readV; rw [if_neg h]))
        have HPV := Lib.hid (show rightN (readV s) = true → putNV (readV s) = nodeB (readV s) ∧ putNE (readV s) = 0 from
          fun h => by unfold putNV putNE; rw [h]; exact ⟨rfl, rfl⟩)
        have K5 := KRD.out _ HBX.out
        clear KRD
        generalize readV s = m at *
        generalize readE s = F at *
        go_wp2_with fail
        refine K5.mono ?_
        rintro e w5 ⟨A, c, A2, c2, rfl, hnr, hb5⟩
        have hb6 := below_then HBX.out (below_then hb5 (below_alloc1 w5 (.cells (nodV m A c A2 c2) 31)))
        have HB6 := Lib.hid hb6
        have hnr6 := hnr.ext (below_alloc1 w5 (.cells (nodV m A c A2 c2) 31))
        have hk5 := heap_alloc_new w5 (.cells (nodV m A c A2 c2) 31)
        clear K5 hnr hb5 hb6
        by_cases hF : F = 0
        case neg =>
          have d1 : (F != 0) = true := by rw [bne_iff_ne]; exact hF
          have hmz := HVZ.out hF
          subst hmz
          have K6 := same_node hnr6 (nodr_zero _) HZ.out.1 HZ.out.2 HZ.out.1 HZ.out.2
          rw [sameN_self] at K6
          have s0 := heap_cell hk5 0 rfl
          have s1 := heap_cell hk5 1 rfl
          have s2 := heap_cell hk5 2 rfl
          have s3 := heap_cell hk5 3 rfl
          clear hk5 hnr6 HZ HPR HVZ HPV hF
          unfold nodV at s0 s1 s2 s3 K6 HB6
          simp only [zeroN, List.length_nil] at s0 s1 s2 s3 K6 HB6 ⊢
          go_wp2_with fail
          refine K6.mono ?_
          rintro e w7 ⟨rfl, hb7⟩
          have HB7 := Lib.hid (below_then HB6.out hb7)
          clear K6 s0 s1 s2 s3 hb7
          go_wp2_with fail
          refine (lives07 _).mono ?_
          rintro e w8 ⟨rfl, hb8⟩
          have hB := below_then HB7.out hb8
          clear hb8
          go_wp2
          go_ret
          exact ⟨rfl, hB⟩
        subst hF
        obtain ⟨e1, e2⟩ := HPR.out rfl
        obtain ⟨e3, e4⟩ := HPV.out e1
        have K6 := put_node hnr6 HZ.out.1 HZ.out.2
        rw [e3, e4, e2] at K6
        have HRT := Lib.hid (fun (V : World) (hb : Below (w5.alloc (.cells (nodV m A c A2 c2) 31)).heap.size (w5.alloc (.cells (nodV m A c A2 c2) 31)) V) => right_any (hnr6.ext hb) HZ.out.1 HZ.out.2)
        rw [e1] at HRT
        have HKK := Lib.hid (fun (V : World) (hb : Below (w5.alloc (.cells (nodV m A c A2 c2) 31)).heap.size (w5.alloc (.cells (nodV m A c A2 c2) 31)) V) => (show V.heap[w5.heap.size]? = some (.cells (nodV m A c A2 c2) 31) from heap_keep hk5 hb))
        have s0 := heap_cell hk5 0 rfl
        have s1 := heap_cell hk5 1 rfl
        have s2 := heap_cell hk5 2 rfl
        have s3 := heap_cell hk5 3 rfl
        clear hk5 hnr6 HZ HPR HVZ HPV e1 e2 e3 e4
        unfold nodV at s0 s1 s2 s3
        go_wp2_with fail
        refine K6.mono ?_
        rintro e w6 ⟨A6, c6, rfl, hown6, hb6⟩
        have HB7 := Lib.hid (below_then HB6.out hb6)
        have hk6 := HKK.out _ hb6
        have K7 := HRT.out _ hb6
        rw [bv_len] at hown6
        rw [bv_len]
        have hcv1 := run_conv_bytes (P := Try.prog) w6 22 9 5 Try.underlying22 Try.underlying5 Try.underlying9 s.length c6 rfl (Reads.of_own hown6)
        have hcv2 := run_conv_bytes (P := Try.prog) w6 22 9 5 Try.underlying22 Try.underlying5 Try.underlying9 s.length c1 rfl (HRS.out _ HB7.out)
        clear s0 s1 s2 s3 K6 hown6 hb6 HRT HKK HRS
        have s0 := heap_cell hk6 0 rfl
        have s1 := heap_cell hk6 1 rfl
        have s2 := heap_cell hk6 2 rfl
        have s3 := heap_cell hk6 3 rfl
        clear hk6
        go_wp2_with fail
        refine K7.mono ?_
        rintro e w7 ⟨rfl, hb7⟩
        have HB8 := Lib.hid (below_then HB7.out hb7)
        clear K7 s0 s1 s2 s3 hb7
        go_wp2_with fail
        refine (lives07 _).mono ?_
        rintro e w8 ⟨rfl, hb8⟩
        have hB := below_then HB8.out hb8
        clear hb8
        go_wp2
        go_ret
        exact ⟨rfl, hB⟩
end Go.Proofs.Ytilkcecjciiboaa
