/-
  Chapter 7's laws: short, lives and NodePuts, walked.
-/
import Derived.Test.YtilkcecjciiboaaNod7
import Derived.Test.YtilkcecjciiboaaNod8
import Derived.Test.YtilkcecjciiboaaOpen4
import Derived.Test.YtilkcecjciiboaaBase9
namespace Go.Proofs.Ytilkcecjciiboaa
open Go.RowKit
set_option maxHeartbeats 4000000 in
theorem short_any {w : World} {n : NodeL} {A : Option Addr} {c : Nat} {A2 : Option Addr} {c2 : Nat} (h : NodR w w.heap.size n A c A2 c2) (hk : n.keys.length * 8 ≤ reachBytes) (hv : n.vals.length * 16 ≤ reachBytes) :
    Calls Try.prog 35 #[.agg #[.int .i64 n.t, .bool n.leaf, .slice A n.keys.length c, .slice A2 n.vals.length c2]] w fun e w' => ∃ q : Bool, e = .returned (.bool q) ∧ Hid (q = true → n.keys.length ≤ 100 ∧ n.vals.length ≤ 100) ∧ Below w.heap.size w w' := by
  simp only [reachBytes] at hk hv
  obtain ⟨w1, hw1⟩ : ∃ w1, w1 = w.alloc (.cells (nodV n A c A2 c2) 31) := ⟨_, rfl⟩
  have hb : NodBox w1 w.heap.size w.heap.size n A c A2 c2 := by rw [hw1]; exact NodBox.new h
  have HB1 := Lib.hid (show Below w.heap.size w w1 by rw [hw1]; exact below_alloc1 w _)
  have HR := Lib.hid hb.nr.vl
  obtain ⟨q0, q1, q2, q3, -⟩ := hb
  go_enter Try.func35, Try.ntmps35
  go_upto_region 2 with fail
  rw [show w.alloc (.cells #[.int .i64 n.t, .bool n.leaf, .slice A n.keys.length c, .slice A2 n.vals.length c2] 31) = w1 from hw1.symm]
  clear hw1 h q0 q1
  have HQ := Lib.hid (show ∀ q : Bool, (q = true → n.keys.length ≤ 100 ∧ n.vals.length ≤ 100) → (q = true → n.keys.length ≤ 100 ∧ n.vals.length ≤ 100) from fun q h => h)
  obtain ⟨kn, hkn⟩ : ∃ x, x = n.keys.length := ⟨_, rfl⟩
  obtain ⟨vn, hvn⟩ : ∃ x, x = n.vals.length := ⟨_, rfl⟩
  rw [← hkn] at q2 hk
  rw [← hvn] at q3 hv
  rw [← hkn, ← hvn]
  have HVN := Lib.hid hvn
  have HKN := Lib.hid hkn
  clear hkn hvn
  go_wp2_with fail
  go_loopw [3, 4] (fun s3 s4 wr => ∃ (k : Nat) (s : Int), k ≤ vn ∧ k ≤ 101 ∧ s3 = .int .i64 s ∧ s4 = .int .i64 k ∧ Hid (wr = w1)) (fun _ s4 _ => 101 - (intOf s4).toNat)
  case atStart => exact ⟨0, 0, by omega, by omega, rfl, rfl, Lib.hid rfl⟩
  case round =>
    obtain ⟨k, s, hkv, hk1, rfl, rfl, HW⟩ := hrel
    obtain rfl := HW.out
    clear HW
    by_cases hgo : k < vn ∧ k < 101
    · obtain ⟨hlt, h101⟩ := hgo
      obtain ⟨ad, rfl, _, hc⟩ := HR.out.at_ (k := k) (by rw [sv_len, ← HVN.out]; exact hlt)
      rw [sv_getD n.vals (by rw [← HVN.out]; exact hlt)] at hc
      have hci : (k : Int) < (vn : Int) := by omega
      have hcj : (k : Int) < 101 := by omega
      generalize n.vals.getD k [] = y at *
      go_wp2
      go_roundw
      case rel => exact ⟨k + 1, _, by omega, by omega, rfl, by go_num, by first | exact Lib.hid trivial | exact Lib.hid rfl⟩
      case measure => simp [intOf]; omega
    · have hex : vn ≤ k ∨ (k < vn ∧ k = 101) := by omega
      clear hgo
      rcases hex with hex | ⟨hlt, rfl⟩
      · obtain rfl : k = vn := by omega
        by_cases h1 : kn ≤ 100
        · have d1 : (kn : Int) ≤ 100 := by omega
          by_cases h2 : k ≤ 100
          · have d2 : (k : Int) ≤ 100 := by omega
            have HF := Lib.hid (HQ.out (decide (s ≤ 3000)) (fun _ => ⟨by rw [← HKN.out]; exact h1, by rw [← HVN.out]; exact h2⟩))
            clear h1 h2 HQ hex hk1
            by_cases h3 : s ≤ 3000
            · rw [decide_eq_true h3] at HF
              go_wp2
              go_ret
              exact Or.inr ⟨rfl, Lib.hid (HF.out trivial), HB1.out⟩
            · rw [decide_eq_false h3] at HF
              have d3 : decide (s ≤ 3000) = false := decide_eq_false h3
              clear h3
              go_wp2
              go_ret
              exact ⟨false, rfl, HF, HB1.out⟩
          · have d2 : decide ((k : Int) ≤ 100) = false := decide_eq_false (by omega)
            have HF := Lib.hid (HQ.out false (fun h => by cases h))
            clear h1 h2 HQ hex hk1
            go_wp2
            go_ret
            exact ⟨_, rfl, HF, HB1.out⟩
        · have d1 : decide ((kn : Int) ≤ 100) = false := decide_eq_false (by omega)
          have HF := Lib.hid (HQ.out false (fun h => by cases h))
          clear h1 HQ hex hk1
          go_wp2
          go_ret
          exact ⟨_, rfl, HF, HB1.out⟩
      · have HF := Lib.hid (HQ.out false (fun h => by cases h))
        have hci : (101 : Int) < (vn : Int) := by omega
        have d2 : decide ((vn : Int) ≤ 100) = false := decide_eq_false (by omega)
        clear HQ hk1 hkv
        by_cases h1 : kn ≤ 100
        · have d1 : (kn : Int) ≤ 100 := by omega
          clear h1
          go_wp2
          go_ret
          exact ⟨_, rfl, HF, HB1.out⟩
        · have d1 : decide ((kn : Int) ≤ 100) = false := decide_eq_false (by omega)
          clear h1
          go_wp2
          go_ret
          exact ⟨_, rfl, HF, HB1.out⟩
theorem own_capN {w : World} {B n c : Nat} {e : TypeId} {A : Option Addr} {xs : List Value} (h : w.ownsRow B e 1 (.slice A n c) n xs) (hn : 0 < n) : n ≤ c := by
  rcases h.2 with ⟨hv, hz⟩ | ⟨g', cap, cur, hv, _, _, hnc, _⟩
  · omega
  · injection hv with e1 e2 e3
    omega
def exN : NodeL := ⟨5, true, [9], [[97, 98, 99, 100]]⟩
theorem exN_ok : rightN exN = true ∧ (nodeB exN).take 13 = [1, 5, 1, 0, 4, 0, 18, 0, 0, 0, 0, 0, 9] := by decide +kernel
set_option maxRecDepth 100000 in
theorem lives07 (w : World) : Calls Try.prog 27 #[] w fun e w' => e = .returned (.bool true) ∧ Below w.heap.size w w' := by
  obtain ⟨w1, hw1⟩ : ∃ w1, w1 = (w.alloc (.cells #[.int .i64 9] 3)).alloc (.cells #[.string ⟨#[97, 98, 99, 100]⟩] 9) := ⟨_, rfl⟩
  have hnr : NodR w1 w1.heap.size exN (some ⟨w.heap.size, 0, none⟩) 1 (some ⟨w.heap.size + 1, 0, none⟩) 1 := by
    rw [hw1]
    have r1 : Reads (w.alloc (.cells #[.int .i64 9] 3)) (w.heap.size + 1) (some ⟨w.heap.size, 0, none⟩) (iv [9]) := Reads.new w [.int .i64 9] 3 (0, 0)
    have r2 := Reads.new (w.alloc (.cells #[.int .i64 9] 3)) [.string ⟨#[97, 98, 99, 100]⟩] 9 (0, 0)
    have hs : (w.alloc (.cells #[.int .i64 9] 3)).heap.size = w.heap.size + 1 := by simp
    refine ⟨(r1.alloc (by simp) _).more (by simp), ?_, by decide, by decide⟩
    have r3 : Reads ((w.alloc (.cells #[.int .i64 9] 3)).alloc (.cells #[.string ⟨#[97, 98, 99, 100]⟩] 9)) ((w.alloc (.cells #[.int .i64 9] 3)).heap.size + 1) (some ⟨(w.alloc (.cells #[.int .i64 9] 3)).heap.size, 0, none⟩) (sv [[97, 98, 99, 100]]) := r2
    rw [hs] at r3
    exact r3.more (by simp)
  have hp := put_node hnr (by decide) (by decide)
  have hv : putNV exN = nodeB exN ∧ putNE exN = 0 := by unfold putNV putNE; rw [exN_ok.1]; exact ⟨rfl, rfl⟩
  rw [hv.1, hv.2] at hp
  have hl := nodeB_len (rightN_of exN_ok.1)
  have h6 := exN_ok.2
  have hp : Calls Try.prog 25 #[.agg #[.int .i64 5, .bool true, .slice (some ⟨w.heap.size, 0, none⟩) 1 1, .slice (some ⟨w.heap.size + 1, 0, none⟩) 1 1]] w1 (GivesE 5 (bv (nodeB exN)) 0 w1) := hp
  generalize nodeB exN = x at *
  have HL := Lib.hid hl
  have H6 := Lib.hid h6
  have HB1 := Lib.hid (show Below w.heap.size w w1 by rw [hw1]; exact below_alloc2 w _ _)
  rw [hw1] at hp
  clear hl h6 hv hnr
  go_enter Try.func27, Try.ntmps27
  go_wp2_with fail
  refine hp.mono ?_
  rintro e w2 ⟨A, c, rfl, hown, hb⟩
  rw [← hw1] at hown hb
  have hB := below_then HB1.out hb
  rw [bv_len, HL.out] at hown
  rw [bv_len, HL.out]
  have hcap := own_capN hown (by omega)
  have hR := (Reads.of_own hown).take 13
  rw [bv_take, H6.out] at hR
  have hcv := run_conv_bytes (P := Try.prog) w2 22 9 5 Try.underlying22 Try.underlying5 Try.underlying9 13 c rfl hR
  obtain ⟨g, rfl, _⟩ := own_cells hown (by omega)
  have c6 : 13 ≤ c := by omega
  have c7 : (13 : Int) ≤ (c : Int) := by omega
  clear hp hown hR hb hw1
  go_wp2
  go_ret
  exact ⟨rfl, hB⟩
set_option maxRecDepth 100000 in
set_option maxHeartbeats 8000000 in
theorem law_NodePuts (n0 : NodeL) (A0 : Option Addr) (c0 : Nat) (B0 : Option Addr) (d0 : Nat) (n1 : NodeL) (A1 : Option Addr) (c1 : Nat) (B1 : Option Addr) (d1 : Nat) (a2 : Int) (a3 : Bool) (w : World)
    (_w0 : (Lit.int .i64 n0.t).wf = true) (_f0 : ∀ x ∈ n0.keys, (Lit.int .i64 x).wf = true) (_g0 : ∀ x ∈ n0.vals, x.length ≤ maxLen) (m0 : n0.keys.length * 8 ≤ reachBytes) (l0 : n0.vals.length * 16 ≤ reachBytes) (r0 : NodR w w.heap.size n0 A0 c0 B0 d0)
    (_w1 : (Lit.int .i64 n1.t).wf = true) (_f1 : ∀ x ∈ n1.keys, (Lit.int .i64 x).wf = true) (_g1 : ∀ x ∈ n1.vals, x.length ≤ maxLen) (m1 : n1.keys.length * 8 ≤ reachBytes) (l1 : n1.vals.length * 16 ≤ reachBytes) (r1 : NodR w w.heap.size n1 A1 c1 B1 d1) (_w2 : (Lit.int .i64 a2).wf = true) :
    Calls Try.prog 7 #[.agg #[.int .i64 n0.t, .bool n0.leaf, .slice A0 n0.keys.length c0, .slice B0 n0.vals.length d0], .agg #[.int .i64 n1.t, .bool n1.leaf, .slice A1 n1.keys.length c1, .slice B1 n1.vals.length d1], .int .i64 a2, .bool a3] w
      fun e w' => e = .returned (.bool true) ∧ Below w.heap.size w w' := by
  obtain ⟨w2, hw2⟩ : ∃ w2, w2 = (w.alloc (.cells (nodV n0 A0 c0 B0 d0) 31)).alloc (.cells (nodV n1 A1 c1 B1 d1) 31) := ⟨_, rfl⟩
  obtain ⟨hx, hy, hb2, hs2⟩ := two_boxes r0 r1 w2 hw2
  have HB2 := Lib.hid hb2
  have HX := Lib.hid (fun (V : World) (hb : Below w2.heap.size w2 V) => (hx.ext (by omega) (by omega) hb))
  have HY := Lib.hid (fun (V : World) (hb : Below w2.heap.size w2 V) => (hy.ext (by omega) (by omega) hb))
  have HC := Lib.hid (fun (V : World) (hb : Below w2.heap.size w2 V) => And.intro (HX.out V hb).q0 (And.intro (HX.out V hb).q1 (And.intro (HX.out V hb).q2 (And.intro (HX.out V hb).q3 (And.intro (HY.out V hb).q0 (And.intro (HY.out V hb).q1 (And.intro (HY.out V hb).q2 (HY.out V hb).q3)))))))
  have KS0 := Lib.hid (fun (V : World) (hb : Below w.heap.size w V) => short_any (r0.ext hb) m0 l0)
  have KS1 := Lib.hid (fun (V : World) (hb : Below w.heap.size w V) => short_any (r1.ext hb) m1 l1)
  have KP := Lib.hid (fun (V : World) (hb : Below w.heap.size w V) hk hv => put_node (r0.ext hb) hk hv)
  have KQ := Lib.hid (fun (V : World) (hb : Below w.heap.size w V) hk hv => rput_node (r0.ext hb) hk hv)
  have KR := Lib.hid (fun (V : World) (hb : Below w.heap.size w V) hk hv => right_any (r0.ext hb) hk hv)
  have KT := Lib.hid (fun (V : World) (hb : Below w.heap.size w V) hk hv => rright_any (r0.ext hb) hk hv)
  have KU := Lib.hid (fun (V : World) (hb : Below w.heap.size w V) k1 v1 k2 v2 => same_node (r0.ext hb) (r1.ext hb) k1 v1 k2 v2)
  have KV := Lib.hid (fun (V : World) (hb : Below w.heap.size w V) k1 v1 k2 v2 => rsame_node (r0.ext hb) (r1.ext hb) k1 v1 k2 v2)
  have KW := Lib.hid (fun (V : World) => (show Calls Try.prog 24 #[.int .i64 a2, .bool a3] V fun e w' => e = .returned (.int .i64 (widthV a2 a3)) ∧ Below V.heap.size V w' from (width_any a2 a3 V).mono fun e w' ⟨h1, h2⟩ => ⟨h1, by rw [← h2]; exact Below.refl _ _⟩))
  have KX := Lib.hid (fun (V : World) => rwidth7_any a2 a3 V)
  have KY := Lib.hid (fun (V : World) => (show Calls Try.prog 23 #[.int .i64 a2, .bool a3] V fun e w' => e = .returned (.int .i64 (maxV a2 a3)) ∧ Below V.heap.size V w' from (max_any a2 a3 V).mono fun e w' ⟨h1, h2⟩ => ⟨h1, by rw [← h2]; exact Below.refl _ _⟩))
  have KZ := Lib.hid (fun (V : World) => rmax_any a2 a3 V)
  have KL := Lib.hid (fun (V : World) => lives07 V)
  go_enter Try.func7, Try.ntmps7
  go_upto_region 1 with fail
  rw [show (w.alloc (.cells #[.int .i64 n0.t, .bool n0.leaf, .slice A0 n0.keys.length c0, .slice B0 n0.vals.length d0] 31)).alloc (.cells #[.int .i64 n1.t, .bool n1.leaf, .slice A1 n1.keys.length c1, .slice B1 n1.vals.length d1] 31) = w2 from hw2.symm]
  clear hw2 hx hy hs2 HX HY r0 r1
  generalize widthV a2 a3 = wv at *
  generalize maxV a2 a3 = mv at *
  generalize rightN n0 = rv at *
  generalize sameN n0 n1 = uv at *
  generalize putNV n0 = X at *
  generalize putNE n0 = E at *
  generalize n0.t = t0 at *
  generalize n0.leaf = e0 at *
  generalize n0.keys.length = kn0 at *
  generalize n0.vals.length = vn0 at *
  generalize n1.t = t1 at *
  generalize n1.leaf = e1 at *
  generalize n1.keys.length = kn1 at *
  generalize n1.vals.length = vn1 at *
  have K0 := KS0.out w2 hb2
  obtain ⟨q0, q1, q2, q3, q4, q5, q6, q7⟩ := HC.out w2 (Below.refl _ _)
  clear hb2 KS0
  go_wp2_with fail
  refine K0.mono ?_
  rintro e w3 ⟨s0, rfl, hs0, hb3⟩
  have HB3 := Lib.hid hb3
  clear K0 q0 q1 q2 q3 q4 q5 q6 q7
  obtain ⟨q0, q1, q2, q3, q4, q5, q6, q7⟩ := HC.out w3 hb3
  have HW3 := Lib.hid (below_then HB2.out hb3)
  clear hb3
  cases s0 with
  | false =>
    go_wp2_with fail
    refine (KL.out _).mono ?_
    rintro e w4 ⟨rfl, hb⟩
    have hB := below_then HW3.out hb
    clear hb
    go_wp2
    go_ret
    exact ⟨rfl, hB⟩
  | true =>
    have K1 := KS1.out w3 HW3.out
    clear KS1
    go_wp2_with fail
    refine K1.mono ?_
    rintro e w4 ⟨s1, rfl, hs1, hb4⟩
    have HB4 := Lib.hid (below_then HB3.out hb4)
    clear K1 q0 q1 q2 q3 q4 q5 q6 q7
    obtain ⟨q0, q1, q2, q3, q4, q5, q6, q7⟩ := HC.out w4 HB4.out
    have HW4 := Lib.hid (below_then HW3.out hb4)
    clear hb4 HB3 HW3
    cases s1 with
    | false =>
      go_wp2_with fail
      refine (KL.out _).mono ?_
      rintro e w5 ⟨rfl, hb⟩
      have hB := below_then HW4.out hb
      clear hb
      go_wp2
      go_ret
      exact ⟨rfl, hB⟩
    | true =>
      have h0 := hs0.out (by first | rfl | trivial)
      have h1 := hs1.out (by first | rfl | trivial)
      have hk0 : kn0 ≤ 1000000 := by omega
      have hv0 : vn0 ≤ 1000000 := by omega
      have hk1 : kn1 ≤ 1000000 := by omega
      have hv1 : vn1 ≤ 1000000 := by omega
      have K2 := KP.out w4 HW4.out hk0 hv0
      have KR := Lib.hid (fun V hb => KR.out V hb hk0 hv0)
      have KT := Lib.hid (fun V hb => KT.out V hb hk0 hv0)
      have KU := Lib.hid (fun V hb => KU.out V hb hk0 hv0 hk1 hv1)
      have KV := Lib.hid (fun V hb => KV.out V hb hk0 hv0 hk1 hv1)
      clear hs0 hs1 h0 h1 KP
      go_wp2_with fail
      refine K2.mono ?_
      rintro e w5 ⟨A5, c5, rfl, hown5, hb5⟩
      have HW5 := Lib.hid (below_then HW4.out hb5)
      have HB5 := Lib.hid (below_then HB4.out hb5)
      have HR5 := Lib.hid (Reads.of_own hown5)
      have K3 := KQ.out w5 HW5.out hk0 hv0
      clear K2 q0 q1 q2 q3 q4 q5 q6 q7 hown5 hb5 HW4 HB4 KQ hk0 hv0 hk1 hv1
      obtain ⟨q0, q1, q2, q3, q4, q5, q6, q7⟩ := HC.out w5 HB5.out
      go_wp2_with fail
      refine K3.mono ?_
      rintro e w6 ⟨A6, c6, rfl, hown6, hb6⟩
      have HW6 := Lib.hid (below_then HW5.out hb6)
      have HB6 := Lib.hid (below_then HB5.out hb6)
      have HR6 := Lib.hid (HR5.out.ext hb6)
      have HR7 := Lib.hid (Reads.of_own hown6)
      clear K3 q0 q1 q2 q3 q4 q5 q6 q7 hown6 hb6 HW5 HB5 HR5
      obtain ⟨q0, q1, q2, q3, q4, q5, q6, q7⟩ := HC.out w6 HB6.out
      have hB9 := (Below.refl w6.heap.size w6).drew
      have HH := Lib.hid (fun (V : World) (hb : Below w6.heap.size w6 V) => below_then HW6.out hb)
      have hcv1 := fun (V : World) (hS : Below w6.heap.size w6 V ∧ V.cell? ⟨w.heap.size, 0, none⟩ = some (.int .i64 t0) ∧ V.cell? ⟨w.heap.size, 1, none⟩ = some (.bool e0) ∧ V.cell? ⟨w.heap.size, 2, none⟩ = some (.slice A0 kn0 c0) ∧ V.cell? ⟨w.heap.size, 3, none⟩ = some (.slice B0 vn0 d0) ∧ V.cell? ⟨w.heap.size + 1, 0, none⟩ = some (.int .i64 t1) ∧ V.cell? ⟨w.heap.size + 1, 1, none⟩ = some (.bool e1) ∧ V.cell? ⟨w.heap.size + 1, 2, none⟩ = some (.slice A1 kn1 c1) ∧ V.cell? ⟨w.heap.size + 1, 3, none⟩ = some (.slice B1 vn1 d1)) =>
        run_conv_bytes (P := Try.prog) V 22 9 5 Try.underlying22 Try.underlying5 Try.underlying9 (bv X).length c5 (bv_len X) (HR6.out.ext hS.1)
      have hcv2 := fun (V : World) (hS : Below w6.heap.size w6 V ∧ V.cell? ⟨w.heap.size, 0, none⟩ = some (.int .i64 t0) ∧ V.cell? ⟨w.heap.size, 1, none⟩ = some (.bool e0) ∧ V.cell? ⟨w.heap.size, 2, none⟩ = some (.slice A0 kn0 c0) ∧ V.cell? ⟨w.heap.size, 3, none⟩ = some (.slice B0 vn0 d0) ∧ V.cell? ⟨w.heap.size + 1, 0, none⟩ = some (.int .i64 t1) ∧ V.cell? ⟨w.heap.size + 1, 1, none⟩ = some (.bool e1) ∧ V.cell? ⟨w.heap.size + 1, 2, none⟩ = some (.slice A1 kn1 c1) ∧ V.cell? ⟨w.heap.size + 1, 3, none⟩ = some (.slice B1 vn1 d1)) =>
        run_conv_bytes (P := Try.prog) V 22 9 5 Try.underlying22 Try.underlying5 Try.underlying9 (bv X).length c6 (bv_len X) (HR7.out.ext hS.1)
      have HK := Lib.hid (fun (V V' : World) (hb : Below V.heap.size V V') (hS : Below w6.heap.size w6 V ∧ V.cell? ⟨w.heap.size, 0, none⟩ = some (.int .i64 t0) ∧ V.cell? ⟨w.heap.size, 1, none⟩ = some (.bool e0) ∧ V.cell? ⟨w.heap.size, 2, none⟩ = some (.slice A0 kn0 c0) ∧ V.cell? ⟨w.heap.size, 3, none⟩ = some (.slice B0 vn0 d0) ∧ V.cell? ⟨w.heap.size + 1, 0, none⟩ = some (.int .i64 t1) ∧ V.cell? ⟨w.heap.size + 1, 1, none⟩ = some (.bool e1) ∧ V.cell? ⟨w.heap.size + 1, 2, none⟩ = some (.slice A1 kn1 c1) ∧ V.cell? ⟨w.heap.size + 1, 3, none⟩ = some (.slice B1 vn1 d1)) =>
        (show Below w6.heap.size w6 V' ∧ V'.cell? ⟨w.heap.size, 0, none⟩ = some (.int .i64 t0) ∧ V'.cell? ⟨w.heap.size, 1, none⟩ = some (.bool e0) ∧ V'.cell? ⟨w.heap.size, 2, none⟩ = some (.slice A0 kn0 c0) ∧ V'.cell? ⟨w.heap.size, 3, none⟩ = some (.slice B0 vn0 d0) ∧ V'.cell? ⟨w.heap.size + 1, 0, none⟩ = some (.int .i64 t1) ∧ V'.cell? ⟨w.heap.size + 1, 1, none⟩ = some (.bool e1) ∧ V'.cell? ⟨w.heap.size + 1, 2, none⟩ = some (.slice A1 kn1 c1) ∧ V'.cell? ⟨w.heap.size + 1, 3, none⟩ = some (.slice B1 vn1 d1) from
          ⟨below_then hS.1 hb, keep_cell hb hS.2.1, keep_cell hb hS.2.2.1, keep_cell hb hS.2.2.2.1, keep_cell hb hS.2.2.2.2.1, keep_cell hb hS.2.2.2.2.2.1, keep_cell hb hS.2.2.2.2.2.2.1, keep_cell hb hS.2.2.2.2.2.2.2.1, keep_cell hb hS.2.2.2.2.2.2.2.2⟩))
      clear HR6 HR7 HW6 HB6 HC HB2
      generalize (bv X).length = xn at *
      go_upto_region 5 with fail
      refine wp_region_held_drew (S := (fun V => Below w6.heap.size w6 V ∧ V.cell? ⟨w.heap.size, 0, none⟩ = some (.int .i64 t0) ∧ V.cell? ⟨w.heap.size, 1, none⟩ = some (.bool e0) ∧ V.cell? ⟨w.heap.size, 2, none⟩ = some (.slice A0 kn0 c0) ∧ V.cell? ⟨w.heap.size, 3, none⟩ = some (.slice B0 vn0 d0) ∧ V.cell? ⟨w.heap.size + 1, 0, none⟩ = some (.int .i64 t1) ∧ V.cell? ⟨w.heap.size + 1, 1, none⟩ = some (.bool e1) ∧ V.cell? ⟨w.heap.size + 1, 2, none⟩ = some (.slice A1 kn1 c1) ∧ V.cell? ⟨w.heap.size + 1, 3, none⟩ = some (.slice B1 vn1 d1))) (by kernel_rfl) ?_ (fun hHeld => ?_)
      (focus ((try dsimp only); (first | exact ⟨hB9, q0, q1, q2, q3, q4, q5, q6, q7⟩ | exact HK.out _ _ hb hHeld)))
      first | (refine anyH_skip 0 (by kernel_rfl) (by kernel_rfl) (by simp only [List.getElem?_toArray, List.getElem?_cons_zero] <;> rfl) (by kernel_rfl) (by exact fun _ _ _ h => h) (by rfl) (by assumption) ?_; (try simp only [Act.put, List.setIfInBounds_toArray, List.set_cons_zero, List.set_cons_succ])) | (refine anyH_take 0 (v := ?_) (by kernel_rfl) (by kernel_rfl) (by simp only [List.getElem?_toArray, List.getElem?_cons_zero] <;> rfl) (by kernel_rfl) (by exact fun _ _ _ h => h) (by rfl) ?_ (by assumption) ?_; rotate_left; (focus (intro w hSw; (try dsimp only at hSw); (try simp only [List.getElem_toArray, List.getElem_cons_succ, List.getElem_cons_zero]); go_simp; try (with_reducible rfl))); (try simp only [Act.put, List.setIfInBounds_toArray, List.set_cons_zero, List.set_cons_succ]))
      first | (refine anyH_skip 1 (by kernel_rfl) (by kernel_rfl) (by simp only [List.getElem?_toArray, List.getElem?_cons_succ, List.getElem?_cons_zero] <;> rfl) (by kernel_rfl) (by exact fun _ _ _ h => h) (by rfl) (by assumption) ?_; (try simp only [Act.put, List.setIfInBounds_toArray, List.set_cons_zero, List.set_cons_succ])) | (refine anyH_take 1 (v := ?_) (by kernel_rfl) (by kernel_rfl) (by simp only [List.getElem?_toArray, List.getElem?_cons_succ, List.getElem?_cons_zero] <;> rfl) (by kernel_rfl) (by exact fun _ _ _ h => h) (by rfl) ?_ (by assumption) ?_; rotate_left; (focus (intro w hSw; (try dsimp only at hSw); (try simp only [List.getElem_toArray, List.getElem_cons_succ, List.getElem_cons_zero]); go_simp; try (with_reducible rfl))); (try simp only [Act.put, List.setIfInBounds_toArray, List.set_cons_zero, List.set_cons_succ]))
      first | (refine anyH_skip 2 (by kernel_rfl) (by kernel_rfl) (by simp only [List.getElem?_toArray, List.getElem?_cons_succ, List.getElem?_cons_zero] <;> rfl) (by kernel_rfl) (by exact fun _ _ _ h => h) (by rfl) (by assumption) ?_; (try simp only [Act.put, List.setIfInBounds_toArray, List.set_cons_zero, List.set_cons_succ])) | (refine anyH_take 2 (v := ?_) (by kernel_rfl) (by kernel_rfl) (by simp only [List.getElem?_toArray, List.getElem?_cons_succ, List.getElem?_cons_zero] <;> rfl) (by kernel_rfl) (by exact fun _ _ _ h => h) (by rfl) ?_ (by assumption) ?_; rotate_left; (focus (intro w hSw; (try dsimp only at hSw); (try simp only [List.getElem_toArray, List.getElem_cons_succ, List.getElem_cons_zero]); go_simp; try (with_reducible rfl))); (try simp only [Act.put, List.setIfInBounds_toArray, List.set_cons_zero, List.set_cons_succ]))
      first | (refine anyH_skip 3 (by kernel_rfl) (by kernel_rfl) (by simp only [List.getElem?_toArray, List.getElem?_cons_succ, List.getElem?_cons_zero] <;> rfl) (by kernel_rfl) (by exact fun _ _ _ h => h) (by rfl) (by assumption) ?_; (try simp only [Act.put, List.setIfInBounds_toArray, List.set_cons_zero, List.set_cons_succ])) | (refine anyH_take 3 (v := ?_) (by kernel_rfl) (by kernel_rfl) (by simp only [List.getElem?_toArray, List.getElem?_cons_succ, List.getElem?_cons_zero] <;> rfl) (by kernel_rfl) (by exact fun _ _ _ h => h) (by rfl) ?_ (by assumption) ?_; rotate_left; (focus (intro w hSw; (try dsimp only at hSw); (try simp only [List.getElem_toArray, List.getElem_cons_succ, List.getElem_cons_zero]); go_simp; try (with_reducible rfl))); (try simp only [Act.put, List.setIfInBounds_toArray, List.set_cons_zero, List.set_cons_succ]))
      first | (refine anyH_skip 4 (by kernel_rfl) (by kernel_rfl) (by simp only [List.getElem?_toArray, List.getElem?_cons_succ, List.getElem?_cons_zero] <;> rfl) (by kernel_rfl) (by exact fun _ _ _ h => h) (by rfl) (by assumption) ?_; (try simp only [Act.put, List.setIfInBounds_toArray, List.set_cons_zero, List.set_cons_succ])) | (refine anyH_take 4 (v := ?_) (by kernel_rfl) (by kernel_rfl) (by simp only [List.getElem?_toArray, List.getElem?_cons_succ, List.getElem?_cons_zero] <;> rfl) (by kernel_rfl) (by exact fun _ _ _ h => h) (by rfl) ?_ (by assumption) ?_; rotate_left; (focus (intro w hSw; (try dsimp only at hSw); (try simp only [List.getElem_toArray, List.getElem_cons_succ, List.getElem_cons_zero]); go_simp; try (with_reducible rfl))); (try simp only [Act.put, List.setIfInBounds_toArray, List.set_cons_zero, List.set_cons_succ]))
      first | (refine anyH_skip 5 (by kernel_rfl) (by kernel_rfl) (by simp only [List.getElem?_toArray, List.getElem?_cons_succ, List.getElem?_cons_zero] <;> rfl) (by kernel_rfl) (by exact fun _ _ _ h => h) (by rfl) (by assumption) ?_; (try simp only [Act.put, List.setIfInBounds_toArray, List.set_cons_zero, List.set_cons_succ])) | (refine anyH_take 5 (v := ?_) (by kernel_rfl) (by kernel_rfl) (by simp only [List.getElem?_toArray, List.getElem?_cons_succ, List.getElem?_cons_zero] <;> rfl) (by kernel_rfl) (by exact fun _ _ _ h => h) (by rfl) ?_ (by assumption) ?_; rotate_left; (focus (intro w hSw; (try dsimp only at hSw); (try simp only [List.getElem_toArray, List.getElem_cons_succ, List.getElem_cons_zero]); go_simp; try (with_reducible rfl))); (try simp only [Act.put, List.setIfInBounds_toArray, List.set_cons_zero, List.set_cons_succ]))
      first | (refine anyH_skip 6 (by kernel_rfl) (by kernel_rfl) (by simp only [List.getElem?_toArray, List.getElem?_cons_succ, List.getElem?_cons_zero] <;> rfl) (by kernel_rfl) (by exact fun _ _ _ h => h) (by rfl) (by assumption) ?_; (try simp only [Act.put, List.setIfInBounds_toArray, List.set_cons_zero, List.set_cons_succ])) | (refine anyH_take 6 (v := ?_) (by kernel_rfl) (by kernel_rfl) (by simp only [List.getElem?_toArray, List.getElem?_cons_succ, List.getElem?_cons_zero] <;> rfl) (by kernel_rfl) (by exact fun _ _ _ h => h) (by rfl) ?_ (by assumption) ?_; rotate_left; (focus (intro w hSw; (try dsimp only at hSw); (try simp only [List.getElem_toArray, List.getElem_cons_succ, List.getElem_cons_zero]); go_simp; try (with_reducible rfl))); (try simp only [Act.put, List.setIfInBounds_toArray, List.set_cons_zero, List.set_cons_succ]))
      first | (refine anyH_skip 7 (by kernel_rfl) (by kernel_rfl) (by simp only [List.getElem?_toArray, List.getElem?_cons_succ, List.getElem?_cons_zero] <;> rfl) (by kernel_rfl) (by exact fun _ _ _ h => h) (by rfl) (by assumption) ?_; (try simp only [Act.put, List.setIfInBounds_toArray, List.set_cons_zero, List.set_cons_succ])) | (refine anyH_take 7 (v := ?_) (by kernel_rfl) (by kernel_rfl) (by simp only [List.getElem?_toArray, List.getElem?_cons_succ, List.getElem?_cons_zero] <;> rfl) (by kernel_rfl) (by exact fun _ _ _ h => h) (by rfl) ?_ (by assumption) ?_; rotate_left; (focus (intro w hSw; (try dsimp only at hSw); (try simp only [List.getElem_toArray, List.getElem_cons_succ, List.getElem_cons_zero]); go_simp; try (with_reducible rfl))); (try simp only [Act.put, List.setIfInBounds_toArray, List.set_cons_zero, List.set_cons_succ]))
      first | (refine anyH_skip 8 (by kernel_rfl) (by kernel_rfl) (by simp only [List.getElem?_toArray, List.getElem?_cons_succ, List.getElem?_cons_zero] <;> rfl) (by kernel_rfl) (by exact fun _ _ _ h => h) (by rfl) (by assumption) ?_; (try simp only [Act.put, List.setIfInBounds_toArray, List.set_cons_zero, List.set_cons_succ])) | (refine anyH_take 8 (v := ?_) (by kernel_rfl) (by kernel_rfl) (by simp only [List.getElem?_toArray, List.getElem?_cons_succ, List.getElem?_cons_zero] <;> rfl) (by kernel_rfl) (by exact fun _ _ _ h => h) (by rfl) ?_ (by assumption) ?_; rotate_left; (focus (intro w hSw; (try dsimp only at hSw); (try simp only [List.getElem_toArray, List.getElem_cons_succ, List.getElem_cons_zero]); go_simp; try (with_reducible rfl))); (try simp only [Act.put, List.setIfInBounds_toArray, List.set_cons_zero, List.set_cons_succ]))
      first | (refine anyH_skip 9 (by kernel_rfl) (by kernel_rfl) (by simp only [List.getElem?_toArray, List.getElem?_cons_succ, List.getElem?_cons_zero] <;> rfl) (by kernel_rfl) (by exact fun _ _ _ h => h) (by rfl) (by assumption) ?_; (try simp only [Act.put, List.setIfInBounds_toArray, List.set_cons_zero, List.set_cons_succ])) | (refine anyH_take 9 (v := ?_) (by kernel_rfl) (by kernel_rfl) (by simp only [List.getElem?_toArray, List.getElem?_cons_succ, List.getElem?_cons_zero] <;> rfl) (by kernel_rfl) (by exact fun _ _ _ h => h) (by rfl) ?_ (by assumption) ?_; rotate_left; (focus (intro w hSw; (try dsimp only at hSw); (try simp only [List.getElem_toArray, List.getElem_cons_succ, List.getElem_cons_zero]); go_simp; try (with_reducible rfl))); (try simp only [Act.put, List.setIfInBounds_toArray, List.set_cons_zero, List.set_cons_succ]))
      first | (refine anyH_skip 10 (by kernel_rfl) (by kernel_rfl) (by simp only [List.getElem?_toArray, List.getElem?_cons_succ, List.getElem?_cons_zero] <;> rfl) (by kernel_rfl) (by exact fun _ _ _ h => h) (by rfl) (by assumption) ?_; (try simp only [Act.put, List.setIfInBounds_toArray, List.set_cons_zero, List.set_cons_succ])) | (refine anyH_take 10 (v := ?_) (by kernel_rfl) (by kernel_rfl) (by simp only [List.getElem?_toArray, List.getElem?_cons_succ, List.getElem?_cons_zero] <;> rfl) (by kernel_rfl) (by exact fun _ _ _ h => h) (by rfl) ?_ (by assumption) ?_; rotate_left; (focus (intro w hSw; (try dsimp only at hSw); (try simp only [List.getElem_toArray, List.getElem_cons_succ, List.getElem_cons_zero]); go_simp; try (with_reducible rfl))); (try simp only [Act.put, List.setIfInBounds_toArray, List.set_cons_zero, List.set_cons_succ]))
      first | (refine anyH_skip 11 (by kernel_rfl) (by kernel_rfl) (by simp only [List.getElem?_toArray, List.getElem?_cons_succ, List.getElem?_cons_zero] <;> rfl) (by kernel_rfl) (by exact fun _ _ _ h => h) (by rfl) (by assumption) ?_; (try simp only [Act.put, List.setIfInBounds_toArray, List.set_cons_zero, List.set_cons_succ])) | (refine anyH_take 11 (v := ?_) (by kernel_rfl) (by kernel_rfl) (by simp only [List.getElem?_toArray, List.getElem?_cons_succ, List.getElem?_cons_zero] <;> rfl) (by kernel_rfl) (by exact fun _ _ _ h => h) (by rfl) ?_ (by assumption) ?_; rotate_left; (focus (intro w hSw; (try dsimp only at hSw); (try simp only [List.getElem_toArray, List.getElem_cons_succ, List.getElem_cons_zero]); go_simp; try (with_reducible rfl))); (try simp only [Act.put, List.setIfInBounds_toArray, List.set_cons_zero, List.set_cons_succ]))
      first | (refine anyH_skip 13 (by kernel_rfl) (by kernel_rfl) (by simp only [List.getElem?_toArray, List.getElem?_cons_succ, List.getElem?_cons_zero] <;> rfl) (by kernel_rfl) (by exact fun _ _ _ h => h) (by rfl) (by assumption) ?_; (try simp only [Act.put, List.setIfInBounds_toArray, List.set_cons_zero, List.set_cons_succ])) | (refine anyH_take 13 (v := ?_) (by kernel_rfl) (by kernel_rfl) (by simp only [List.getElem?_toArray, List.getElem?_cons_succ, List.getElem?_cons_zero] <;> rfl) (by kernel_rfl) (by exact fun _ _ _ h => h) (by rfl) ?_ (by assumption) ?_; rotate_left; (focus (intro w hSw; (try dsimp only at hSw); (try simp only [List.getElem_toArray, List.getElem_cons_succ, List.getElem_cons_zero]); go_simp; try (with_reducible rfl))); (try simp only [Act.put, List.setIfInBounds_toArray, List.set_cons_zero, List.set_cons_succ]))
      first | (refine anyH_pass 12 (by kernel_rfl) (by simp only [List.getElem?_toArray, List.getElem?_cons_succ, List.getElem?_cons_zero] <;> rfl) (by rfl) (by assumption) ?_; (try simp only [Act.put, List.setIfInBounds_toArray, List.set_cons_zero, List.set_cons_succ])) | (refine anyH_one 12 (by kernel_rfl) (by simp only [List.getElem?_toArray, List.getElem?_cons_succ, List.getElem?_cons_zero] <;> rfl) (by rfl) (fun K hK => ?_); (try simp only [List.getElem_toArray, List.getElem_cons_succ, List.getElem_cons_zero]); go_simp; (first | (go_at_call 26; refine (KR.out _ (HH.out _ hHeld.1)).mono ?_; rintro e w7 ⟨rfl, hb⟩) | (go_at_call 37; refine (KT.out _ (HH.out _ hHeld.1)).mono ?_; rintro e w7 ⟨rfl, hb⟩) | (go_at_call 38; refine (KU.out _ (HH.out _ hHeld.1)).mono ?_; rintro e w7 ⟨rfl, hb⟩) | (go_at_call 39; refine (KV.out _ (HH.out _ hHeld.1)).mono ?_; rintro e w7 ⟨rfl, hb⟩) | (go_at_call 24; refine (KW.out _).mono ?_; rintro e w7 ⟨rfl, hb⟩) | (go_at_call 40; refine (KX.out _).mono ?_; rintro e w7 ⟨rfl, hb⟩) | (go_at_call 23; refine (KY.out _).mono ?_; rintro e w7 ⟨rfl, hb⟩) | (go_at_call 41; refine (KZ.out _).mono ?_; rintro e w7 ⟨rfl, hb⟩) | (go_at_call 27; refine (KL.out _).mono ?_; rintro e w7 ⟨rfl, hb⟩)); refine hK.out _ _ ?_ (fun hHeld => ?_); (focus ((try dsimp only); (first | exact ⟨hB9, q0, q1, q2, q3, q4, q5, q6, q7⟩ | exact HK.out _ _ hb hHeld))); clear hK K; (try simp only [Act.put, List.setIfInBounds_toArray, List.set_cons_zero, List.set_cons_succ]))
      first | (refine anyH_pass 14 (by kernel_rfl) (by simp only [List.getElem?_toArray, List.getElem?_cons_succ, List.getElem?_cons_zero] <;> rfl) (by rfl) (by assumption) ?_; (try simp only [Act.put, List.setIfInBounds_toArray, List.set_cons_zero, List.set_cons_succ])) | (refine anyH_one 14 (by kernel_rfl) (by simp only [List.getElem?_toArray, List.getElem?_cons_succ, List.getElem?_cons_zero] <;> rfl) (by rfl) (fun K hK => ?_); (try simp only [List.getElem_toArray, List.getElem_cons_succ, List.getElem_cons_zero]); go_simp; (first | (go_at_call 26; refine (KR.out _ (HH.out _ hHeld.1)).mono ?_; rintro e w7 ⟨rfl, hb⟩) | (go_at_call 37; refine (KT.out _ (HH.out _ hHeld.1)).mono ?_; rintro e w7 ⟨rfl, hb⟩) | (go_at_call 38; refine (KU.out _ (HH.out _ hHeld.1)).mono ?_; rintro e w7 ⟨rfl, hb⟩) | (go_at_call 39; refine (KV.out _ (HH.out _ hHeld.1)).mono ?_; rintro e w7 ⟨rfl, hb⟩) | (go_at_call 24; refine (KW.out _).mono ?_; rintro e w7 ⟨rfl, hb⟩) | (go_at_call 40; refine (KX.out _).mono ?_; rintro e w7 ⟨rfl, hb⟩) | (go_at_call 23; refine (KY.out _).mono ?_; rintro e w7 ⟨rfl, hb⟩) | (go_at_call 41; refine (KZ.out _).mono ?_; rintro e w7 ⟨rfl, hb⟩) | (go_at_call 27; refine (KL.out _).mono ?_; rintro e w7 ⟨rfl, hb⟩)); refine hK.out _ _ ?_ (fun hHeld => ?_); (focus ((try dsimp only); (first | exact ⟨hB9, q0, q1, q2, q3, q4, q5, q6, q7⟩ | exact HK.out _ _ hb hHeld))); clear hK K; (try simp only [Act.put, List.setIfInBounds_toArray, List.set_cons_zero, List.set_cons_succ]))
      first | (refine anyH_skip 15 (by kernel_rfl) (by kernel_rfl) (by simp only [List.getElem?_toArray, List.getElem?_cons_succ, List.getElem?_cons_zero] <;> rfl) (by kernel_rfl) (by exact fun _ _ _ h => h) (by rfl) (by assumption) ?_; (try simp only [Act.put, List.setIfInBounds_toArray, List.set_cons_zero, List.set_cons_succ])) | (refine anyH_take 15 (v := ?_) (by kernel_rfl) (by kernel_rfl) (by simp only [List.getElem?_toArray, List.getElem?_cons_succ, List.getElem?_cons_zero] <;> rfl) (by kernel_rfl) (by exact fun _ _ _ h => h) (by rfl) ?_ (by assumption) ?_; rotate_left; (focus (intro w hSw; (try dsimp only at hSw); (try simp only [List.getElem_toArray, List.getElem_cons_succ, List.getElem_cons_zero]); go_simp; try (with_reducible rfl))); (try simp only [Act.put, List.setIfInBounds_toArray, List.set_cons_zero, List.set_cons_succ]))
      first | (refine anyH_skip 16 (by kernel_rfl) (by kernel_rfl) (by simp only [List.getElem?_toArray, List.getElem?_cons_succ, List.getElem?_cons_zero] <;> rfl) (by kernel_rfl) (by exact fun _ _ _ h => h) (by rfl) (by assumption) ?_; (try simp only [Act.put, List.setIfInBounds_toArray, List.set_cons_zero, List.set_cons_succ])) | (refine anyH_take 16 (v := ?_) (by kernel_rfl) (by kernel_rfl) (by simp only [List.getElem?_toArray, List.getElem?_cons_succ, List.getElem?_cons_zero] <;> rfl) (by kernel_rfl) (by exact fun _ _ _ h => h) (by rfl) ?_ (by assumption) ?_; rotate_left; (focus (intro w hSw; (try dsimp only at hSw); (try simp only [List.getElem_toArray, List.getElem_cons_succ, List.getElem_cons_zero]); go_simp; try (with_reducible rfl))); (try simp only [Act.put, List.setIfInBounds_toArray, List.set_cons_zero, List.set_cons_succ]))
      first | (refine anyH_skip 17 (by kernel_rfl) (by kernel_rfl) (by simp only [List.getElem?_toArray, List.getElem?_cons_succ, List.getElem?_cons_zero] <;> rfl) (by kernel_rfl) (by exact fun _ _ _ h => h) (by rfl) (by assumption) ?_; (try simp only [Act.put, List.setIfInBounds_toArray, List.set_cons_zero, List.set_cons_succ])) | (refine anyH_take 17 (v := ?_) (by kernel_rfl) (by kernel_rfl) (by simp only [List.getElem?_toArray, List.getElem?_cons_succ, List.getElem?_cons_zero] <;> rfl) (by kernel_rfl) (by exact fun _ _ _ h => h) (by rfl) ?_ (by assumption) ?_; rotate_left; (focus (intro w hSw; (try dsimp only at hSw); (try simp only [List.getElem_toArray, List.getElem_cons_succ, List.getElem_cons_zero]); go_simp; try (with_reducible rfl))); (try simp only [Act.put, List.setIfInBounds_toArray, List.set_cons_zero, List.set_cons_succ]))
      first | (refine anyH_skip 18 (by kernel_rfl) (by kernel_rfl) (by simp only [List.getElem?_toArray, List.getElem?_cons_succ, List.getElem?_cons_zero] <;> rfl) (by kernel_rfl) (by exact fun _ _ _ h => h) (by rfl) (by assumption) ?_; (try simp only [Act.put, List.setIfInBounds_toArray, List.set_cons_zero, List.set_cons_succ])) | (refine anyH_take 18 (v := ?_) (by kernel_rfl) (by kernel_rfl) (by simp only [List.getElem?_toArray, List.getElem?_cons_succ, List.getElem?_cons_zero] <;> rfl) (by kernel_rfl) (by exact fun _ _ _ h => h) (by rfl) ?_ (by assumption) ?_; rotate_left; (focus (intro w hSw; (try dsimp only at hSw); (try simp only [List.getElem_toArray, List.getElem_cons_succ, List.getElem_cons_zero]); go_simp; try (with_reducible rfl))); (try simp only [Act.put, List.setIfInBounds_toArray, List.set_cons_zero, List.set_cons_succ]))
      first | (refine anyH_skip 19 (by kernel_rfl) (by kernel_rfl) (by simp only [List.getElem?_toArray, List.getElem?_cons_succ, List.getElem?_cons_zero] <;> rfl) (by kernel_rfl) (by exact fun _ _ _ h => h) (by rfl) (by assumption) ?_; (try simp only [Act.put, List.setIfInBounds_toArray, List.set_cons_zero, List.set_cons_succ])) | (refine anyH_take 19 (v := ?_) (by kernel_rfl) (by kernel_rfl) (by simp only [List.getElem?_toArray, List.getElem?_cons_succ, List.getElem?_cons_zero] <;> rfl) (by kernel_rfl) (by exact fun _ _ _ h => h) (by rfl) ?_ (by assumption) ?_; rotate_left; (focus (intro w hSw; (try dsimp only at hSw); (try simp only [List.getElem_toArray, List.getElem_cons_succ, List.getElem_cons_zero]); go_simp; try (with_reducible rfl))); (try simp only [Act.put, List.setIfInBounds_toArray, List.set_cons_zero, List.set_cons_succ]))
      first | (refine anyH_skip 21 (by kernel_rfl) (by kernel_rfl) (by simp only [List.getElem?_toArray, List.getElem?_cons_succ, List.getElem?_cons_zero] <;> rfl) (by kernel_rfl) (by exact fun _ _ _ h => h) (by rfl) (by assumption) ?_; (try simp only [Act.put, List.setIfInBounds_toArray, List.set_cons_zero, List.set_cons_succ])) | (refine anyH_take 21 (v := ?_) (by kernel_rfl) (by kernel_rfl) (by simp only [List.getElem?_toArray, List.getElem?_cons_succ, List.getElem?_cons_zero] <;> rfl) (by kernel_rfl) (by exact fun _ _ _ h => h) (by rfl) ?_ (by assumption) ?_; rotate_left; (focus (intro w hSw; (try dsimp only at hSw); (try simp only [List.getElem_toArray, List.getElem_cons_succ, List.getElem_cons_zero]); go_simp; try (with_reducible rfl))); (try simp only [Act.put, List.setIfInBounds_toArray, List.set_cons_zero, List.set_cons_succ]))
      first | (refine anyH_skip 22 (by kernel_rfl) (by kernel_rfl) (by simp only [List.getElem?_toArray, List.getElem?_cons_succ, List.getElem?_cons_zero] <;> rfl) (by kernel_rfl) (by exact fun _ _ _ h => h) (by rfl) (by assumption) ?_; (try simp only [Act.put, List.setIfInBounds_toArray, List.set_cons_zero, List.set_cons_succ])) | (refine anyH_take 22 (v := ?_) (by kernel_rfl) (by kernel_rfl) (by simp only [List.getElem?_toArray, List.getElem?_cons_succ, List.getElem?_cons_zero] <;> rfl) (by kernel_rfl) (by exact fun _ _ _ h => h) (by rfl) ?_ (by assumption) ?_; rotate_left; (focus (intro w hSw; (try dsimp only at hSw); (try simp only [List.getElem_toArray, List.getElem_cons_succ, List.getElem_cons_zero]); go_simp; try (with_reducible rfl))); (try simp only [Act.put, List.setIfInBounds_toArray, List.set_cons_zero, List.set_cons_succ]))
      first | (refine anyH_pass 20 (by kernel_rfl) (by simp only [List.getElem?_toArray, List.getElem?_cons_succ, List.getElem?_cons_zero] <;> rfl) (by rfl) (by assumption) ?_; (try simp only [Act.put, List.setIfInBounds_toArray, List.set_cons_zero, List.set_cons_succ])) | (refine anyH_one 20 (by kernel_rfl) (by simp only [List.getElem?_toArray, List.getElem?_cons_succ, List.getElem?_cons_zero] <;> rfl) (by rfl) (fun K hK => ?_); (try simp only [List.getElem_toArray, List.getElem_cons_succ, List.getElem_cons_zero]); go_simp; (first | (go_at_call 26; refine (KR.out _ (HH.out _ hHeld.1)).mono ?_; rintro e w7 ⟨rfl, hb⟩) | (go_at_call 37; refine (KT.out _ (HH.out _ hHeld.1)).mono ?_; rintro e w7 ⟨rfl, hb⟩) | (go_at_call 38; refine (KU.out _ (HH.out _ hHeld.1)).mono ?_; rintro e w7 ⟨rfl, hb⟩) | (go_at_call 39; refine (KV.out _ (HH.out _ hHeld.1)).mono ?_; rintro e w7 ⟨rfl, hb⟩) | (go_at_call 24; refine (KW.out _).mono ?_; rintro e w7 ⟨rfl, hb⟩) | (go_at_call 40; refine (KX.out _).mono ?_; rintro e w7 ⟨rfl, hb⟩) | (go_at_call 23; refine (KY.out _).mono ?_; rintro e w7 ⟨rfl, hb⟩) | (go_at_call 41; refine (KZ.out _).mono ?_; rintro e w7 ⟨rfl, hb⟩) | (go_at_call 27; refine (KL.out _).mono ?_; rintro e w7 ⟨rfl, hb⟩)); refine hK.out _ _ ?_ (fun hHeld => ?_); (focus ((try dsimp only); (first | exact ⟨hB9, q0, q1, q2, q3, q4, q5, q6, q7⟩ | exact HK.out _ _ hb hHeld))); clear hK K; (try simp only [Act.put, List.setIfInBounds_toArray, List.set_cons_zero, List.set_cons_succ]))
      first | (refine anyH_pass 23 (by kernel_rfl) (by simp only [List.getElem?_toArray, List.getElem?_cons_succ, List.getElem?_cons_zero] <;> rfl) (by rfl) (by assumption) ?_; (try simp only [Act.put, List.setIfInBounds_toArray, List.set_cons_zero, List.set_cons_succ])) | (refine anyH_one 23 (by kernel_rfl) (by simp only [List.getElem?_toArray, List.getElem?_cons_succ, List.getElem?_cons_zero] <;> rfl) (by rfl) (fun K hK => ?_); (try simp only [List.getElem_toArray, List.getElem_cons_succ, List.getElem_cons_zero]); go_simp; (first | (go_at_call 26; refine (KR.out _ (HH.out _ hHeld.1)).mono ?_; rintro e w7 ⟨rfl, hb⟩) | (go_at_call 37; refine (KT.out _ (HH.out _ hHeld.1)).mono ?_; rintro e w7 ⟨rfl, hb⟩) | (go_at_call 38; refine (KU.out _ (HH.out _ hHeld.1)).mono ?_; rintro e w7 ⟨rfl, hb⟩) | (go_at_call 39; refine (KV.out _ (HH.out _ hHeld.1)).mono ?_; rintro e w7 ⟨rfl, hb⟩) | (go_at_call 24; refine (KW.out _).mono ?_; rintro e w7 ⟨rfl, hb⟩) | (go_at_call 40; refine (KX.out _).mono ?_; rintro e w7 ⟨rfl, hb⟩) | (go_at_call 23; refine (KY.out _).mono ?_; rintro e w7 ⟨rfl, hb⟩) | (go_at_call 41; refine (KZ.out _).mono ?_; rintro e w7 ⟨rfl, hb⟩) | (go_at_call 27; refine (KL.out _).mono ?_; rintro e w7 ⟨rfl, hb⟩)); refine hK.out _ _ ?_ (fun hHeld => ?_); (focus ((try dsimp only); (first | exact ⟨hB9, q0, q1, q2, q3, q4, q5, q6, q7⟩ | exact HK.out _ _ hb hHeld))); clear hK K; (try simp only [Act.put, List.setIfInBounds_toArray, List.set_cons_zero, List.set_cons_succ]))
      first | (refine anyH_skip 24 (by kernel_rfl) (by kernel_rfl) (by simp only [List.getElem?_toArray, List.getElem?_cons_succ, List.getElem?_cons_zero] <;> rfl) (by kernel_rfl) (by exact fun _ _ _ h => h) (by rfl) (by assumption) ?_; (try simp only [Act.put, List.setIfInBounds_toArray, List.set_cons_zero, List.set_cons_succ])) | (refine anyH_take 24 (v := ?_) (by kernel_rfl) (by kernel_rfl) (by simp only [List.getElem?_toArray, List.getElem?_cons_succ, List.getElem?_cons_zero] <;> rfl) (by kernel_rfl) (by exact fun _ _ _ h => h) (by rfl) ?_ (by assumption) ?_; rotate_left; (focus (intro w hSw; (try dsimp only at hSw); (try simp only [List.getElem_toArray, List.getElem_cons_succ, List.getElem_cons_zero]); go_simp; try (with_reducible rfl))); (try simp only [Act.put, List.setIfInBounds_toArray, List.set_cons_zero, List.set_cons_succ]))
      first | (refine anyH_skip 25 (by kernel_rfl) (by kernel_rfl) (by simp only [List.getElem?_toArray, List.getElem?_cons_succ, List.getElem?_cons_zero] <;> rfl) (by kernel_rfl) (by exact fun _ _ _ h => h) (by rfl) (by assumption) ?_; (try simp only [Act.put, List.setIfInBounds_toArray, List.set_cons_zero, List.set_cons_succ])) | (refine anyH_take 25 (v := ?_) (by kernel_rfl) (by kernel_rfl) (by simp only [List.getElem?_toArray, List.getElem?_cons_succ, List.getElem?_cons_zero] <;> rfl) (by kernel_rfl) (by exact fun _ _ _ h => h) (by rfl) ?_ (by assumption) ?_; rotate_left; (focus (intro w hSw; (try dsimp only at hSw); (try simp only [List.getElem_toArray, List.getElem_cons_succ, List.getElem_cons_zero]); go_simp; try (with_reducible rfl))); (try simp only [Act.put, List.setIfInBounds_toArray, List.set_cons_zero, List.set_cons_succ]))
      first | (refine anyH_skip 26 (by kernel_rfl) (by kernel_rfl) (by simp only [List.getElem?_toArray, List.getElem?_cons_succ, List.getElem?_cons_zero] <;> rfl) (by kernel_rfl) (by exact fun _ _ _ h => h) (by rfl) (by assumption) ?_; (try simp only [Act.put, List.setIfInBounds_toArray, List.set_cons_zero, List.set_cons_succ])) | (refine anyH_take 26 (v := ?_) (by kernel_rfl) (by kernel_rfl) (by simp only [List.getElem?_toArray, List.getElem?_cons_succ, List.getElem?_cons_zero] <;> rfl) (by kernel_rfl) (by exact fun _ _ _ h => h) (by rfl) ?_ (by assumption) ?_; rotate_left; (focus (intro w hSw; (try dsimp only at hSw); (try simp only [List.getElem_toArray, List.getElem_cons_succ, List.getElem_cons_zero]); go_simp; try (with_reducible rfl))); (try simp only [Act.put, List.setIfInBounds_toArray, List.set_cons_zero, List.set_cons_succ]))
      first | (refine anyH_skip 27 (by kernel_rfl) (by kernel_rfl) (by simp only [List.getElem?_toArray, List.getElem?_cons_succ, List.getElem?_cons_zero] <;> rfl) (by kernel_rfl) (by exact fun _ _ _ h => h) (by rfl) (by assumption) ?_; (try simp only [Act.put, List.setIfInBounds_toArray, List.set_cons_zero, List.set_cons_succ])) | (refine anyH_take 27 (v := ?_) (by kernel_rfl) (by kernel_rfl) (by simp only [List.getElem?_toArray, List.getElem?_cons_succ, List.getElem?_cons_zero] <;> rfl) (by kernel_rfl) (by exact fun _ _ _ h => h) (by rfl) ?_ (by assumption) ?_; rotate_left; (focus (intro w hSw; (try dsimp only at hSw); (try simp only [List.getElem_toArray, List.getElem_cons_succ, List.getElem_cons_zero]); go_simp; try (with_reducible rfl))); (try simp only [Act.put, List.setIfInBounds_toArray, List.set_cons_zero, List.set_cons_succ]))
      first | (refine anyH_skip 28 (by kernel_rfl) (by kernel_rfl) (by simp only [List.getElem?_toArray, List.getElem?_cons_succ, List.getElem?_cons_zero] <;> rfl) (by kernel_rfl) (by exact fun _ _ _ h => h) (by rfl) (by assumption) ?_; (try simp only [Act.put, List.setIfInBounds_toArray, List.set_cons_zero, List.set_cons_succ])) | (refine anyH_take 28 (v := ?_) (by kernel_rfl) (by kernel_rfl) (by simp only [List.getElem?_toArray, List.getElem?_cons_succ, List.getElem?_cons_zero] <;> rfl) (by kernel_rfl) (by exact fun _ _ _ h => h) (by rfl) ?_ (by assumption) ?_; rotate_left; (focus (intro w hSw; (try dsimp only at hSw); (try simp only [List.getElem_toArray, List.getElem_cons_succ, List.getElem_cons_zero]); go_simp; try (with_reducible rfl))); (try simp only [Act.put, List.setIfInBounds_toArray, List.set_cons_zero, List.set_cons_succ]))
      first | (refine anyH_skip 30 (by kernel_rfl) (by kernel_rfl) (by simp only [List.getElem?_toArray, List.getElem?_cons_succ, List.getElem?_cons_zero] <;> rfl) (by kernel_rfl) (by exact fun _ _ _ h => h) (by rfl) (by assumption) ?_; (try simp only [Act.put, List.setIfInBounds_toArray, List.set_cons_zero, List.set_cons_succ])) | (refine anyH_take 30 (v := ?_) (by kernel_rfl) (by kernel_rfl) (by simp only [List.getElem?_toArray, List.getElem?_cons_succ, List.getElem?_cons_zero] <;> rfl) (by kernel_rfl) (by exact fun _ _ _ h => h) (by rfl) ?_ (by assumption) ?_; rotate_left; (focus (intro w hSw; (try dsimp only at hSw); (try simp only [List.getElem_toArray, List.getElem_cons_succ, List.getElem_cons_zero]); go_simp; try (with_reducible rfl))); (try simp only [Act.put, List.setIfInBounds_toArray, List.set_cons_zero, List.set_cons_succ]))
      first | (refine anyH_skip 31 (by kernel_rfl) (by kernel_rfl) (by simp only [List.getElem?_toArray, List.getElem?_cons_succ, List.getElem?_cons_zero] <;> rfl) (by kernel_rfl) (by exact fun _ _ _ h => h) (by rfl) (by assumption) ?_; (try simp only [Act.put, List.setIfInBounds_toArray, List.set_cons_zero, List.set_cons_succ])) | (refine anyH_take 31 (v := ?_) (by kernel_rfl) (by kernel_rfl) (by simp only [List.getElem?_toArray, List.getElem?_cons_succ, List.getElem?_cons_zero] <;> rfl) (by kernel_rfl) (by exact fun _ _ _ h => h) (by rfl) ?_ (by assumption) ?_; rotate_left; (focus (intro w hSw; (try dsimp only at hSw); (try simp only [List.getElem_toArray, List.getElem_cons_succ, List.getElem_cons_zero]); go_simp; try (with_reducible rfl))); (try simp only [Act.put, List.setIfInBounds_toArray, List.set_cons_zero, List.set_cons_succ]))
      first | (refine anyH_pass 29 (by kernel_rfl) (by simp only [List.getElem?_toArray, List.getElem?_cons_succ, List.getElem?_cons_zero] <;> rfl) (by rfl) (by assumption) ?_; (try simp only [Act.put, List.setIfInBounds_toArray, List.set_cons_zero, List.set_cons_succ])) | (refine anyH_one 29 (by kernel_rfl) (by simp only [List.getElem?_toArray, List.getElem?_cons_succ, List.getElem?_cons_zero] <;> rfl) (by rfl) (fun K hK => ?_); (try simp only [List.getElem_toArray, List.getElem_cons_succ, List.getElem_cons_zero]); go_simp; (first | (go_at_call 26; refine (KR.out _ (HH.out _ hHeld.1)).mono ?_; rintro e w7 ⟨rfl, hb⟩) | (go_at_call 37; refine (KT.out _ (HH.out _ hHeld.1)).mono ?_; rintro e w7 ⟨rfl, hb⟩) | (go_at_call 38; refine (KU.out _ (HH.out _ hHeld.1)).mono ?_; rintro e w7 ⟨rfl, hb⟩) | (go_at_call 39; refine (KV.out _ (HH.out _ hHeld.1)).mono ?_; rintro e w7 ⟨rfl, hb⟩) | (go_at_call 24; refine (KW.out _).mono ?_; rintro e w7 ⟨rfl, hb⟩) | (go_at_call 40; refine (KX.out _).mono ?_; rintro e w7 ⟨rfl, hb⟩) | (go_at_call 23; refine (KY.out _).mono ?_; rintro e w7 ⟨rfl, hb⟩) | (go_at_call 41; refine (KZ.out _).mono ?_; rintro e w7 ⟨rfl, hb⟩) | (go_at_call 27; refine (KL.out _).mono ?_; rintro e w7 ⟨rfl, hb⟩)); refine hK.out _ _ ?_ (fun hHeld => ?_); (focus ((try dsimp only); (first | exact ⟨hB9, q0, q1, q2, q3, q4, q5, q6, q7⟩ | exact HK.out _ _ hb hHeld))); clear hK K; (try simp only [Act.put, List.setIfInBounds_toArray, List.set_cons_zero, List.set_cons_succ]))
      first | (refine anyH_pass 32 (by kernel_rfl) (by simp only [List.getElem?_toArray, List.getElem?_cons_succ, List.getElem?_cons_zero] <;> rfl) (by rfl) (by assumption) ?_; (try simp only [Act.put, List.setIfInBounds_toArray, List.set_cons_zero, List.set_cons_succ])) | (refine anyH_one 32 (by kernel_rfl) (by simp only [List.getElem?_toArray, List.getElem?_cons_succ, List.getElem?_cons_zero] <;> rfl) (by rfl) (fun K hK => ?_); (try simp only [List.getElem_toArray, List.getElem_cons_succ, List.getElem_cons_zero]); go_simp; (first | (go_at_call 26; refine (KR.out _ (HH.out _ hHeld.1)).mono ?_; rintro e w7 ⟨rfl, hb⟩) | (go_at_call 37; refine (KT.out _ (HH.out _ hHeld.1)).mono ?_; rintro e w7 ⟨rfl, hb⟩) | (go_at_call 38; refine (KU.out _ (HH.out _ hHeld.1)).mono ?_; rintro e w7 ⟨rfl, hb⟩) | (go_at_call 39; refine (KV.out _ (HH.out _ hHeld.1)).mono ?_; rintro e w7 ⟨rfl, hb⟩) | (go_at_call 24; refine (KW.out _).mono ?_; rintro e w7 ⟨rfl, hb⟩) | (go_at_call 40; refine (KX.out _).mono ?_; rintro e w7 ⟨rfl, hb⟩) | (go_at_call 23; refine (KY.out _).mono ?_; rintro e w7 ⟨rfl, hb⟩) | (go_at_call 41; refine (KZ.out _).mono ?_; rintro e w7 ⟨rfl, hb⟩) | (go_at_call 27; refine (KL.out _).mono ?_; rintro e w7 ⟨rfl, hb⟩)); refine hK.out _ _ ?_ (fun hHeld => ?_); (focus ((try dsimp only); (first | exact ⟨hB9, q0, q1, q2, q3, q4, q5, q6, q7⟩ | exact HK.out _ _ hb hHeld))); clear hK K; (try simp only [Act.put, List.setIfInBounds_toArray, List.set_cons_zero, List.set_cons_succ]))
      first | (refine anyH_skip 33 (by kernel_rfl) (by kernel_rfl) (by simp only [List.getElem?_toArray, List.getElem?_cons_succ, List.getElem?_cons_zero] <;> rfl) (by kernel_rfl) (by exact fun _ _ _ h => h) (by rfl) (by assumption) ?_; (try simp only [Act.put, List.setIfInBounds_toArray, List.set_cons_zero, List.set_cons_succ])) | (refine anyH_take 33 (v := ?_) (by kernel_rfl) (by kernel_rfl) (by simp only [List.getElem?_toArray, List.getElem?_cons_succ, List.getElem?_cons_zero] <;> rfl) (by kernel_rfl) (by exact fun _ _ _ h => h) (by rfl) ?_ (by assumption) ?_; rotate_left; (focus (intro w hSw; (try dsimp only at hSw); (try simp only [List.getElem_toArray, List.getElem_cons_succ, List.getElem_cons_zero]); go_simp; try (with_reducible rfl))); (try simp only [Act.put, List.setIfInBounds_toArray, List.set_cons_zero, List.set_cons_succ]))
      first | (refine anyH_skip 34 (by kernel_rfl) (by kernel_rfl) (by simp only [List.getElem?_toArray, List.getElem?_cons_succ, List.getElem?_cons_zero] <;> rfl) (by kernel_rfl) (by exact fun _ _ _ h => h) (by rfl) (by assumption) ?_; (try simp only [Act.put, List.setIfInBounds_toArray, List.set_cons_zero, List.set_cons_succ])) | (refine anyH_take 34 (v := ?_) (by kernel_rfl) (by kernel_rfl) (by simp only [List.getElem?_toArray, List.getElem?_cons_succ, List.getElem?_cons_zero] <;> rfl) (by kernel_rfl) (by exact fun _ _ _ h => h) (by rfl) ?_ (by assumption) ?_; rotate_left; (focus (intro w hSw; (try dsimp only at hSw); (try simp only [List.getElem_toArray, List.getElem_cons_succ, List.getElem_cons_zero]); go_simp; try (with_reducible rfl))); (try simp only [Act.put, List.setIfInBounds_toArray, List.set_cons_zero, List.set_cons_succ]))
      first | (refine anyH_skip 35 (by kernel_rfl) (by kernel_rfl) (by simp only [List.getElem?_toArray, List.getElem?_cons_succ, List.getElem?_cons_zero] <;> rfl) (by kernel_rfl) (by exact fun _ _ _ h => h) (by rfl) (by assumption) ?_; (try simp only [Act.put, List.setIfInBounds_toArray, List.set_cons_zero, List.set_cons_succ])) | (refine anyH_take 35 (v := ?_) (by kernel_rfl) (by kernel_rfl) (by simp only [List.getElem?_toArray, List.getElem?_cons_succ, List.getElem?_cons_zero] <;> rfl) (by kernel_rfl) (by exact fun _ _ _ h => h) (by rfl) ?_ (by assumption) ?_; rotate_left; (focus (intro w hSw; (try dsimp only at hSw); (try simp only [List.getElem_toArray, List.getElem_cons_succ, List.getElem_cons_zero]); go_simp; try (with_reducible rfl))); (try simp only [Act.put, List.setIfInBounds_toArray, List.set_cons_zero, List.set_cons_succ]))
      first | (refine anyH_skip 36 (by kernel_rfl) (by kernel_rfl) (by simp only [List.getElem?_toArray, List.getElem?_cons_succ, List.getElem?_cons_zero] <;> rfl) (by kernel_rfl) (by exact fun _ _ _ h => h) (by rfl) (by assumption) ?_; (try simp only [Act.put, List.setIfInBounds_toArray, List.set_cons_zero, List.set_cons_succ])) | (refine anyH_take 36 (v := ?_) (by kernel_rfl) (by kernel_rfl) (by simp only [List.getElem?_toArray, List.getElem?_cons_succ, List.getElem?_cons_zero] <;> rfl) (by kernel_rfl) (by exact fun _ _ _ h => h) (by rfl) ?_ (by assumption) ?_; rotate_left; (focus (intro w hSw; (try dsimp only at hSw); (try simp only [List.getElem_toArray, List.getElem_cons_succ, List.getElem_cons_zero]); go_simp; try (with_reducible rfl))); (try simp only [Act.put, List.setIfInBounds_toArray, List.set_cons_zero, List.set_cons_succ]))
      first | (refine anyH_skip 37 (by kernel_rfl) (by kernel_rfl) (by simp only [List.getElem?_toArray, List.getElem?_cons_succ, List.getElem?_cons_zero] <;> rfl) (by kernel_rfl) (by exact fun _ _ _ h => h) (by rfl) (by assumption) ?_; (try simp only [Act.put, List.setIfInBounds_toArray, List.set_cons_zero, List.set_cons_succ])) | (refine anyH_take 37 (v := ?_) (by kernel_rfl) (by kernel_rfl) (by simp only [List.getElem?_toArray, List.getElem?_cons_succ, List.getElem?_cons_zero] <;> rfl) (by kernel_rfl) (by exact fun _ _ _ h => h) (by rfl) ?_ (by assumption) ?_; rotate_left; (focus (intro w hSw; (try dsimp only at hSw); (try simp only [List.getElem_toArray, List.getElem_cons_succ, List.getElem_cons_zero]); go_simp; try (with_reducible rfl))); (try simp only [Act.put, List.setIfInBounds_toArray, List.set_cons_zero, List.set_cons_succ]))
      first | (refine anyH_skip 39 (by kernel_rfl) (by kernel_rfl) (by simp only [List.getElem?_toArray, List.getElem?_cons_succ, List.getElem?_cons_zero] <;> rfl) (by kernel_rfl) (by exact fun _ _ _ h => h) (by rfl) (by assumption) ?_; (try simp only [Act.put, List.setIfInBounds_toArray, List.set_cons_zero, List.set_cons_succ])) | (refine anyH_take 39 (v := ?_) (by kernel_rfl) (by kernel_rfl) (by simp only [List.getElem?_toArray, List.getElem?_cons_succ, List.getElem?_cons_zero] <;> rfl) (by kernel_rfl) (by exact fun _ _ _ h => h) (by rfl) ?_ (by assumption) ?_; rotate_left; (focus (intro w hSw; (try dsimp only at hSw); (try simp only [List.getElem_toArray, List.getElem_cons_succ, List.getElem_cons_zero]); go_simp; try (with_reducible rfl))); (try simp only [Act.put, List.setIfInBounds_toArray, List.set_cons_zero, List.set_cons_succ]))
      first | (refine anyH_skip 40 (by kernel_rfl) (by kernel_rfl) (by simp only [List.getElem?_toArray, List.getElem?_cons_succ, List.getElem?_cons_zero] <;> rfl) (by kernel_rfl) (by exact fun _ _ _ h => h) (by rfl) (by assumption) ?_; (try simp only [Act.put, List.setIfInBounds_toArray, List.set_cons_zero, List.set_cons_succ])) | (refine anyH_take 40 (v := ?_) (by kernel_rfl) (by kernel_rfl) (by simp only [List.getElem?_toArray, List.getElem?_cons_succ, List.getElem?_cons_zero] <;> rfl) (by kernel_rfl) (by exact fun _ _ _ h => h) (by rfl) ?_ (by assumption) ?_; rotate_left; (focus (intro w hSw; (try dsimp only at hSw); (try simp only [List.getElem_toArray, List.getElem_cons_succ, List.getElem_cons_zero]); go_simp; try (with_reducible rfl))); (try simp only [Act.put, List.setIfInBounds_toArray, List.set_cons_zero, List.set_cons_succ]))
      first | (refine anyH_pass 38 (by kernel_rfl) (by simp only [List.getElem?_toArray, List.getElem?_cons_succ, List.getElem?_cons_zero] <;> rfl) (by rfl) (by assumption) ?_; (try simp only [Act.put, List.setIfInBounds_toArray, List.set_cons_zero, List.set_cons_succ])) | (refine anyH_one 38 (by kernel_rfl) (by simp only [List.getElem?_toArray, List.getElem?_cons_succ, List.getElem?_cons_zero] <;> rfl) (by rfl) (fun K hK => ?_); (try simp only [List.getElem_toArray, List.getElem_cons_succ, List.getElem_cons_zero]); go_simp; (first | (go_at_call 26; refine (KR.out _ (HH.out _ hHeld.1)).mono ?_; rintro e w7 ⟨rfl, hb⟩) | (go_at_call 37; refine (KT.out _ (HH.out _ hHeld.1)).mono ?_; rintro e w7 ⟨rfl, hb⟩) | (go_at_call 38; refine (KU.out _ (HH.out _ hHeld.1)).mono ?_; rintro e w7 ⟨rfl, hb⟩) | (go_at_call 39; refine (KV.out _ (HH.out _ hHeld.1)).mono ?_; rintro e w7 ⟨rfl, hb⟩) | (go_at_call 24; refine (KW.out _).mono ?_; rintro e w7 ⟨rfl, hb⟩) | (go_at_call 40; refine (KX.out _).mono ?_; rintro e w7 ⟨rfl, hb⟩) | (go_at_call 23; refine (KY.out _).mono ?_; rintro e w7 ⟨rfl, hb⟩) | (go_at_call 41; refine (KZ.out _).mono ?_; rintro e w7 ⟨rfl, hb⟩) | (go_at_call 27; refine (KL.out _).mono ?_; rintro e w7 ⟨rfl, hb⟩)); refine hK.out _ _ ?_ (fun hHeld => ?_); (focus ((try dsimp only); (first | exact ⟨hB9, q0, q1, q2, q3, q4, q5, q6, q7⟩ | exact HK.out _ _ hb hHeld))); clear hK K; (try simp only [Act.put, List.setIfInBounds_toArray, List.set_cons_zero, List.set_cons_succ]))
      first | (refine anyH_pass 41 (by kernel_rfl) (by simp only [List.getElem?_toArray, List.getElem?_cons_succ, List.getElem?_cons_zero] <;> rfl) (by rfl) (by assumption) ?_; (try simp only [Act.put, List.setIfInBounds_toArray, List.set_cons_zero, List.set_cons_succ])) | (refine anyH_one 41 (by kernel_rfl) (by simp only [List.getElem?_toArray, List.getElem?_cons_succ, List.getElem?_cons_zero] <;> rfl) (by rfl) (fun K hK => ?_); (try simp only [List.getElem_toArray, List.getElem_cons_succ, List.getElem_cons_zero]); go_simp; (first | (go_at_call 26; refine (KR.out _ (HH.out _ hHeld.1)).mono ?_; rintro e w7 ⟨rfl, hb⟩) | (go_at_call 37; refine (KT.out _ (HH.out _ hHeld.1)).mono ?_; rintro e w7 ⟨rfl, hb⟩) | (go_at_call 38; refine (KU.out _ (HH.out _ hHeld.1)).mono ?_; rintro e w7 ⟨rfl, hb⟩) | (go_at_call 39; refine (KV.out _ (HH.out _ hHeld.1)).mono ?_; rintro e w7 ⟨rfl, hb⟩) | (go_at_call 24; refine (KW.out _).mono ?_; rintro e w7 ⟨rfl, hb⟩) | (go_at_call 40; refine (KX.out _).mono ?_; rintro e w7 ⟨rfl, hb⟩) | (go_at_call 23; refine (KY.out _).mono ?_; rintro e w7 ⟨rfl, hb⟩) | (go_at_call 41; refine (KZ.out _).mono ?_; rintro e w7 ⟨rfl, hb⟩) | (go_at_call 27; refine (KL.out _).mono ?_; rintro e w7 ⟨rfl, hb⟩)); refine hK.out _ _ ?_ (fun hHeld => ?_); (focus ((try dsimp only); (first | exact ⟨hB9, q0, q1, q2, q3, q4, q5, q6, q7⟩ | exact HK.out _ _ hb hHeld))); clear hK K; (try simp only [Act.put, List.setIfInBounds_toArray, List.set_cons_zero, List.set_cons_succ]))
      first | (refine anyH_skip 42 (by kernel_rfl) (by kernel_rfl) (by simp only [List.getElem?_toArray, List.getElem?_cons_succ, List.getElem?_cons_zero] <;> rfl) (by kernel_rfl) (by exact fun _ _ _ h => h) (by rfl) (by assumption) ?_; (try simp only [Act.put, List.setIfInBounds_toArray, List.set_cons_zero, List.set_cons_succ])) | (refine anyH_take 42 (v := ?_) (by kernel_rfl) (by kernel_rfl) (by simp only [List.getElem?_toArray, List.getElem?_cons_succ, List.getElem?_cons_zero] <;> rfl) (by kernel_rfl) (by exact fun _ _ _ h => h) (by rfl) ?_ (by assumption) ?_; rotate_left; (focus (intro w hSw; (try dsimp only at hSw); (try simp only [List.getElem_toArray, List.getElem_cons_succ, List.getElem_cons_zero]); go_simp; try (with_reducible rfl))); (try simp only [Act.put, List.setIfInBounds_toArray, List.set_cons_zero, List.set_cons_succ]))
      first | (refine anyH_skip 43 (by kernel_rfl) (by kernel_rfl) (by simp only [List.getElem?_toArray, List.getElem?_cons_succ, List.getElem?_cons_zero] <;> rfl) (by kernel_rfl) (by exact fun _ _ _ h => h) (by rfl) (by assumption) ?_; (try simp only [Act.put, List.setIfInBounds_toArray, List.set_cons_zero, List.set_cons_succ])) | (refine anyH_take 43 (v := ?_) (by kernel_rfl) (by kernel_rfl) (by simp only [List.getElem?_toArray, List.getElem?_cons_succ, List.getElem?_cons_zero] <;> rfl) (by kernel_rfl) (by exact fun _ _ _ h => h) (by rfl) ?_ (by assumption) ?_; rotate_left; (focus (intro w hSw; (try dsimp only at hSw); (try simp only [List.getElem_toArray, List.getElem_cons_succ, List.getElem_cons_zero]); go_simp; try (with_reducible rfl))); (try simp only [Act.put, List.setIfInBounds_toArray, List.set_cons_zero, List.set_cons_succ]))
      first | (refine anyH_skip 44 (by kernel_rfl) (by kernel_rfl) (by simp only [List.getElem?_toArray, List.getElem?_cons_succ, List.getElem?_cons_zero] <;> rfl) (by kernel_rfl) (by exact fun _ _ _ h => h) (by rfl) (by assumption) ?_; (try simp only [Act.put, List.setIfInBounds_toArray, List.set_cons_zero, List.set_cons_succ])) | (refine anyH_take 44 (v := ?_) (by kernel_rfl) (by kernel_rfl) (by simp only [List.getElem?_toArray, List.getElem?_cons_succ, List.getElem?_cons_zero] <;> rfl) (by kernel_rfl) (by exact fun _ _ _ h => h) (by rfl) ?_ (by assumption) ?_; rotate_left; (focus (intro w hSw; (try dsimp only at hSw); (try simp only [List.getElem_toArray, List.getElem_cons_succ, List.getElem_cons_zero]); go_simp; try (with_reducible rfl))); (try simp only [Act.put, List.setIfInBounds_toArray, List.set_cons_zero, List.set_cons_succ]))
      first | (refine anyH_pass 45 (by kernel_rfl) (by simp only [List.getElem?_toArray, List.getElem?_cons_succ, List.getElem?_cons_zero] <;> rfl) (by rfl) (by assumption) ?_; (try simp only [Act.put, List.setIfInBounds_toArray, List.set_cons_zero, List.set_cons_succ])) | (refine anyH_one 45 (by kernel_rfl) (by simp only [List.getElem?_toArray, List.getElem?_cons_succ, List.getElem?_cons_zero] <;> rfl) (by rfl) (fun K hK => ?_); (try simp only [List.getElem_toArray, List.getElem_cons_succ, List.getElem_cons_zero]); go_simp; (first | (go_at_call 26; refine (KR.out _ (HH.out _ hHeld.1)).mono ?_; rintro e w7 ⟨rfl, hb⟩) | (go_at_call 37; refine (KT.out _ (HH.out _ hHeld.1)).mono ?_; rintro e w7 ⟨rfl, hb⟩) | (go_at_call 38; refine (KU.out _ (HH.out _ hHeld.1)).mono ?_; rintro e w7 ⟨rfl, hb⟩) | (go_at_call 39; refine (KV.out _ (HH.out _ hHeld.1)).mono ?_; rintro e w7 ⟨rfl, hb⟩) | (go_at_call 24; refine (KW.out _).mono ?_; rintro e w7 ⟨rfl, hb⟩) | (go_at_call 40; refine (KX.out _).mono ?_; rintro e w7 ⟨rfl, hb⟩) | (go_at_call 23; refine (KY.out _).mono ?_; rintro e w7 ⟨rfl, hb⟩) | (go_at_call 41; refine (KZ.out _).mono ?_; rintro e w7 ⟨rfl, hb⟩) | (go_at_call 27; refine (KL.out _).mono ?_; rintro e w7 ⟨rfl, hb⟩)); refine hK.out _ _ ?_ (fun hHeld => ?_); (focus ((try dsimp only); (first | exact ⟨hB9, q0, q1, q2, q3, q4, q5, q6, q7⟩ | exact HK.out _ _ hb hHeld))); clear hK K; (try simp only [Act.put, List.setIfInBounds_toArray, List.set_cons_zero, List.set_cons_succ]))
      first | (refine anyH_skip 46 (by kernel_rfl) (by kernel_rfl) (by simp only [List.getElem?_toArray, List.getElem?_cons_succ, List.getElem?_cons_zero] <;> rfl) (by kernel_rfl) (by exact fun _ _ _ h => h) (by rfl) (by assumption) ?_; (try simp only [Act.put, List.setIfInBounds_toArray, List.set_cons_zero, List.set_cons_succ])) | (refine anyH_take 46 (v := ?_) (by kernel_rfl) (by kernel_rfl) (by simp only [List.getElem?_toArray, List.getElem?_cons_succ, List.getElem?_cons_zero] <;> rfl) (by kernel_rfl) (by exact fun _ _ _ h => h) (by rfl) ?_ (by assumption) ?_; rotate_left; (focus (intro w hSw; (try dsimp only at hSw); (try simp only [List.getElem_toArray, List.getElem_cons_succ, List.getElem_cons_zero]); go_simp; try (with_reducible rfl))); (try simp only [Act.put, List.setIfInBounds_toArray, List.set_cons_zero, List.set_cons_succ]))
      first | (refine anyH_skip 47 (by kernel_rfl) (by kernel_rfl) (by simp only [List.getElem?_toArray, List.getElem?_cons_succ, List.getElem?_cons_zero] <;> rfl) (by kernel_rfl) (by exact fun _ _ _ h => h) (by rfl) (by assumption) ?_; (try simp only [Act.put, List.setIfInBounds_toArray, List.set_cons_zero, List.set_cons_succ])) | (refine anyH_take 47 (v := ?_) (by kernel_rfl) (by kernel_rfl) (by simp only [List.getElem?_toArray, List.getElem?_cons_succ, List.getElem?_cons_zero] <;> rfl) (by kernel_rfl) (by exact fun _ _ _ h => h) (by rfl) ?_ (by assumption) ?_; rotate_left; (focus (intro w hSw; (try dsimp only at hSw); (try simp only [List.getElem_toArray, List.getElem_cons_succ, List.getElem_cons_zero]); go_simp; try (with_reducible rfl))); (try simp only [Act.put, List.setIfInBounds_toArray, List.set_cons_zero, List.set_cons_succ]))
      all_goals (refine wpAnyH_done (by kernel_rfl) ?_ _)
      have HE := Lib.hid (HH.out _ hHeld.1)
      go_wp2
      go_ret
      exact ⟨rfl, HE.out⟩
end Go.Proofs.Ytilkcecjciiboaa
