/-
  Chapter 6's SuperBack, walked.
-/
import Derived.Test.YtahomneljdjjjaaSup9
import Derived.Test.YtahomneljdjjjaaLaw06
import Derived.Deep.DeepCutAuto
namespace Go.Proofs.Ytahomneljdjjjaa
open Go.RowKit

theorem readS_super {n : Nat → Int} (h : okS n 11 = true) : supC (readS (superB n)) = supC n ∧ readE (superB n) = 0 := by
  have := readOK_super h
  unfold readS readE
  rw [this]
  exact ⟨supC_congr fun i hi => readN_super h hi, rfl⟩
theorem readS_short (l : List UInt8) (h : l.length ≠ 244) : supC (readS l) = (supC fun _ => 0) ∧ readE l = 7 := by
  have : readOK l = false := by unfold readOK; rw [decide_eq_false h]; rfl
  unfold readS readE
  rw [this]
  exact ⟨rfl, rfl⟩
theorem readS_yes {l : List UInt8} (h : readOK l = true) : readS l = readN l ∧ readE l = 0 ∧ superV (readN l) = l ∧ superE (readN l) = 0 := by
  unfold readS readE
  rw [h]
  unfold readOK at h
  simp only [Bool.and_eq_true, decide_eq_true_eq] at h
  unfold superV superE
  rw [h.2.1]
  exact ⟨rfl, rfl, h.2.2, rfl⟩
set_option maxRecDepth 100000 in
set_option maxHeartbeats 4000000 in
theorem law_SuperBack' (n : Nat → Int) (hw : ∀ i, i < 11 → (Lit.int .i64 (n i)).wf = true) (A1 : Option Addr) (c1 : Nat) (l1 : List UInt8) (w : World) (q1 : l1.length ≤ c1) (m1 : l1.length ≤ reachBytes) (r1 : Reads w w.heap.size A1 (bv l1)) :
    Calls Try.prog 13 #[.agg (supC n), .slice A1 l1.length c1] w fun e w' => e = .returned (.bool true) ∧ Below w.heap.size w w' := by
  have mm := m1
  simp only [reachBytes] at mm
  have r6 := r1.take 600
  rw [bv_take] at r6
  have hl6 : (l1.take 600).length = min 600 l1.length := List.length_take ..
  have k1 : ∀ W, Calls Try.prog 17 #[.agg #[.int .i64 (n 0), .int .i64 (n 1), .int .i64 (n 2), .int .i64 (n 3), .int .i64 (n 4), .int .i64 (n 5), .int .i64 (n 6), .int .i64 (n 7), .int .i64 (n 8), .int .i64 (n 9), .int .i64 (n 10)]] W (GivesE 5 (bv (superV n)) (superE n) W) := fun W => put_super n hw W
  have HSN : Hid (supC n = #[.int .i64 (n 0), .int .i64 (n 1), .int .i64 (n 2), .int .i64 (n 3), .int .i64 (n 4), .int .i64 (n 5), .int .i64 (n 6), .int .i64 (n 7), .int .i64 (n 8), .int .i64 (n 9), .int .i64 (n 10)]) := rfl
  have hsz2 : (Try.prog.info? 23).map (·.size) = some (#[.int .i64 (n 0), .int .i64 (n 1), .int .i64 (n 2), .int .i64 (n 3), .int .i64 (n 4), .int .i64 (n 5), .int .i64 (n 6), .int .i64 (n 7), .int .i64 (n 8), .int .i64 (n 9), .int .i64 (n 10)] : Array Value).size := sup_size fun _ => 0
  have HREAD := Lib.hid (fun (hok : okS n 11 = true) (A : Option Addr) (c : Nat) (W : World) (h : Reads W W.heap.size A (bv (superB n))) => (show Calls Try.prog 52 #[.slice A 244 c] W fun e w' => e = .returned (.tuple #[.agg #[.int .i64 (n 0), .int .i64 (n 1), .int .i64 (n 2), .int .i64 (n 3), .int .i64 (n 4), .int .i64 (n 5), .int .i64 (n 6), .int .i64 (n 7), .int .i64 (n 8), .int .i64 (n 9), .int .i64 (n 10)], .int .i64 0]) ∧ Below W.heap.size W w' by
    have := read_super A c (superB n) W (by rw [superB_len]; decide) h
    rw [superB_len, (readS_super hok).1, (readS_super hok).2] at this
    exact this))
  have HREAD2 := Lib.hid (fun (A : Option Addr) (c : Nat) (W : World) (h : Reads W W.heap.size A (bv (superB n))) => (show Calls Try.prog 52 #[.slice A 243 c] W fun e w' => e = .returned (.tuple #[.agg #[.int .i64 0, .int .i64 0, .int .i64 0, .int .i64 0, .int .i64 0, .int .i64 0, .int .i64 0, .int .i64 0, .int .i64 0, .int .i64 0, .int .i64 0], .int .i64 7]) ∧ Below W.heap.size W w' by
    have hl : ((superB n).take 243).length = 243 := by rw [List.length_take, superB_len]; rfl
    have := read_super A c ((superB n).take 243) W (by rw [hl]; decide) (by have := h.take 243; rw [bv_take] at this; exact this)
    rw [hl, (readS_short _ (by rw [hl]; decide)).1, (readS_short _ (by rw [hl]; decide)).2] at this
    exact this))
  have HV := Lib.hid (show okS n 11 = true → superV n = superB n ∧ superE n = 0 from fun h => by unfold superV superE; rw [h]; exact ⟨rfl, rfl⟩)
  have HV2 := Lib.hid (show okS n 11 = false → superE n = 1 from fun h => by unfold superE; rw [h]; rfl)
  have HSL := Lib.hid (superB_len n)
  have hs0 : (w.alloc (.cells #[.int .i64 (n 0), .int .i64 (n 1), .int .i64 (n 2), .int .i64 (n 3), .int .i64 (n 4), .int .i64 (n 5), .int .i64 (n 6), .int .i64 (n 7), .int .i64 (n 8), .int .i64 (n 9), .int .i64 (n 10)] 23)).heap[w.heap.size]? = some (.cells #[.int .i64 (n 0), .int .i64 (n 1), .int .i64 (n 2), .int .i64 (n 3), .int .i64 (n 4), .int .i64 (n 5), .int .i64 (n 6), .int .i64 (n 7), .int .i64 (n 8), .int .i64 (n 9), .int .i64 (n 10)] 23) := heap_alloc_new w _
  have hB0 := below_alloc1 w (.cells #[.int .i64 (n 0), .int .i64 (n 1), .int .i64 (n 2), .int .i64 (n 3), .int .i64 (n 4), .int .i64 (n 5), .int .i64 (n 6), .int .i64 (n 7), .int .i64 (n 8), .int .i64 (n 9), .int .i64 (n 10)] 23)
  have r1' := r1.ext hB0
  have r6' := r6.ext hB0
  rw [HSN.out]
  generalize superB n = SB at *
  generalize superV n = X at *
  generalize superE n = E at *
  generalize n 0 = n0 at *
  generalize n 1 = n1 at *
  generalize n 2 = n2 at *
  generalize n 3 = n3 at *
  generalize n 4 = n4 at *
  generalize n 5 = n5 at *
  generalize n 6 = n6 at *
  generalize n 7 = n7 at *
  generalize n 8 = n8 at *
  generalize n 9 = n9 at *
  generalize n 10 = n10 at *
  clear hw HSN
  go_enter Try.func13, Try.ntmps13
  go_upto_if 17 with fail
  go_cut [1] (fun s1 wx => (w.alloc (.cells #[.int .i64 n0, .int .i64 n1, .int .i64 n2, .int .i64 n3, .int .i64 n4, .int .i64 n5, .int .i64 n6, .int .i64 n7, .int .i64 n8, .int .i64 n9, .int .i64 n10] 23)) = wx ∧ ∃ s : List UInt8, s1 = .slice A1 s.length c1 ∧ s.length ≤ 600 ∧ s.length ≤ c1 ∧ Reads w w.heap.size A1 (bv s))
  case first =>
    by_cases h2 : 600 < l1.length
    · have d2 : decide (600 < (l1.length : Int)) = true := decide_eq_true (by omega)
      have q1' : (600 : Int) ≤ (c1 : Int) := by omega
      go_wp2
      go_meet
      exact ⟨rfl, l1.take 600, by rw [hl6, Nat.min_eq_left (by omega)], by omega, by omega, r6⟩
    · have d2 : decide (600 < (l1.length : Int)) = false := decide_eq_false (by omega)
      go_wp2
      go_meet
      exact ⟨rfl, l1, rfl, by omega, q1, r1⟩
  case rest =>
    obtain ⟨rfl, s, rfl, hs, hc, hr⟩ := hcut
    clear r1 r6 hl6 m1 mm q1 r1' r6'
    have hm : s.length ≤ reachBytes := by simp only [reachBytes]; omega
    go_upto_if 26 with (first | (refine wpList_load_row rfl 23 _ rfl w.heap.size rfl 23 _ _ _ hs0 Try.underlying23 rfl hsz2 ?_) | (go_at_call 17; refine (k1 _).mono ?_; rintro e w1 ⟨Ab, cb, rfl, hown1, hb1⟩; rw [bv_len] at hown1; rw [bv_len]))
    have hs1 := heap_keep hs0 hb1
    have hB1 := below_then hB0 hb1
    clear k1 hb1 hs0 hB0
    go_cut [5, 6, 7, 8, 9, 10, 20, 22, 23, 24, 25, 26] (fun _ _ _ _ _ _ _ _ _ _ _ _ wx => Below w.heap.size w wx)
    case first =>
      cases hok : okS n 11 with
      | false =>
        have hE := HV2.out hok
        subst hE
        go_wp2
        go_meet
        exact hB1
      | true =>
        obtain ⟨rfl, rfl⟩ := HV.out hok
        have hcap := own_cap hown1 (by rw [HSL.out]; omega)
        rw [HSL.out] at hcap hown1 ⊢
        have k3 := HREAD.out hok Ab cb w1 (Reads.of_own hown1)
        obtain ⟨gb, rfl, _⟩ := own_cells hown1 (by omega)
        have c243 : 243 ≤ cb := by omega
        have ci243 : (243 : Int) ≤ (cb : Int) := by omega
        go_wp2_with fail
        refine k3.mono ?_
        rintro e w2 ⟨rfl, hb2⟩
        have hB2 := below_then hB1 hb2
        have hr2 := (Reads.of_own hown1).ext hb2
        have hs2 := heap_keep hs1 hb2
        have hB2' := hB2.alloc hB2.size (.cells #[.int .i64 n0, .int .i64 n1, .int .i64 n2, .int .i64 n3, .int .i64 n4, .int .i64 n5, .int .i64 n6, .int .i64 n7, .int .i64 n8, .int .i64 n9, .int .i64 n10] 23)
        have hs2' := heap_alloc' hs2 (.cells #[.int .i64 n0, .int .i64 n1, .int .i64 n2, .int .i64 n3, .int .i64 n4, .int .i64 n5, .int .i64 n6, .int .i64 n7, .int .i64 n8, .int .i64 n9, .int .i64 n10] 23)
        have ht2 := heap_alloc_new w2 (.cells #[.int .i64 n0, .int .i64 n1, .int .i64 n2, .int .i64 n3, .int .i64 n4, .int .i64 n5, .int .i64 n6, .int .i64 n7, .int .i64 n8, .int .i64 n9, .int .i64 n10] 23)
        have k4 := HREAD2.out (some ⟨gb, 0, none⟩) cb (w2.alloc (.cells #[.int .i64 n0, .int .i64 n1, .int .i64 n2, .int .i64 n3, .int .i64 n4, .int .i64 n5, .int .i64 n6, .int .i64 n7, .int .i64 n8, .int .i64 n9, .int .i64 n10] 23)) (hr2.ext (below_alloc1 w2 _))
        clear k3 hb2 hr2 hs2 hB2 hown1
        go_wp2_with fail
        refine k4.mono ?_
        rintro e w3 ⟨rfl, hb3⟩
        have hs3 := heap_alloc' (heap_keep hs2' hb3) (.cells #[.int .i64 0, .int .i64 0, .int .i64 0, .int .i64 0, .int .i64 0, .int .i64 0, .int .i64 0, .int .i64 0, .int .i64 0, .int .i64 0, .int .i64 0] 23)
        have ht3 := heap_alloc' (heap_keep ht2 hb3) (.cells #[.int .i64 0, .int .i64 0, .int .i64 0, .int .i64 0, .int .i64 0, .int .i64 0, .int .i64 0, .int .i64 0, .int .i64 0, .int .i64 0, .int .i64 0] 23)
        have hB3 := below_then hB2' hb3
        have hB3' := hB3.alloc hB3.size (.cells #[.int .i64 0, .int .i64 0, .int .i64 0, .int .i64 0, .int .i64 0, .int .i64 0, .int .i64 0, .int .i64 0, .int .i64 0, .int .i64 0, .int .i64 0] 23)
        clear k4 hb3 hs2' ht2 hB2'
        go_wp2_with (first | (refine wpList_load_row rfl 23 _ rfl w.heap.size rfl 23 _ _ _ hs3 Try.underlying23 rfl hsz2 ?_) | (refine wpList_load_row rfl 23 _ rfl w2.heap.size rfl 23 _ _ _ ht3 Try.underlying23 rfl hsz2 ?_))
        go_meet
        exact hB3'
    case rest =>
      have hx := hcut
      have hrx := hr.ext hx
      have k5 := read_super A1 c1 s _ hm hrx
      clear HREAD HREAD2 HV HV2 HSL hown1 hs1 hB1
      cases hok : readOK s with
      | false =>
        have hno : supC (readS s) = supC (fun _ => 0) ∧ readE s = 7 := by unfold readS readE; rw [hok]; exact ⟨rfl, rfl⟩
        rw [hno.1, hno.2, show (supC fun _ => 0) = #[.int .i64 0, .int .i64 0, .int .i64 0, .int .i64 0, .int .i64 0, .int .i64 0, .int .i64 0, .int .i64 0, .int .i64 0, .int .i64 0, .int .i64 0] from rfl] at k5
        clear hno hok
        go_wp2_with fail
        refine k5.mono ?_
        rintro e w5 ⟨rfl, hb5⟩
        have hB5 := below_then hx hb5
        have hB5' := hB5.alloc hB5.size (.cells #[.int .i64 0, .int .i64 0, .int .i64 0, .int .i64 0, .int .i64 0, .int .i64 0, .int .i64 0, .int .i64 0, .int .i64 0, .int .i64 0, .int .i64 0] 23)
        clear k5 hb5
        go_wp2_with fail
        refine (lives06 _).mono ?_
        rintro e w6 ⟨rfl, hb6⟩
        have hB6 := below_then hB5' hb6
        go_wp2
        go_ret
        exact ⟨rfl, hB6⟩
      | true =>
        obtain ⟨hy1, hy2, hy3, hy4⟩ := readS_yes hok
        have hp : ∀ W, Calls Try.prog 17 #[.agg #[.int .i64 (readN s 0), .int .i64 (readN s 1), .int .i64 (readN s 2), .int .i64 (readN s 3), .int .i64 (readN s 4), .int .i64 (readN s 5), .int .i64 (readN s 6), .int .i64 (readN s 7), .int .i64 (readN s 8), .int .i64 (readN s 9), .int .i64 (readN s 10)]] W (GivesE 5 (bv s) 0 W) := fun W => by
          have := put_super (readN s) (fun i _ => by
            have := readN_lt s i
            simp [Lit.wf, IntKind.min, IntKind.max, IntKind.bits, IntKind.signed]
            omega) W
          rw [hy3, hy4] at this
          exact this
        rw [hy1, hy2] at k5
        rw [show supC (readN s) = #[.int .i64 (readN s 0), .int .i64 (readN s 1), .int .i64 (readN s 2), .int .i64 (readN s 3), .int .i64 (readN s 4), .int .i64 (readN s 5), .int .i64 (readN s 6), .int .i64 (readN s 7), .int .i64 (readN s 8), .int .i64 (readN s 9), .int .i64 (readN s 10)] from rfl] at k5
        clear hok hy1 hy2 hy3 hy4
        generalize readN s 0 = m0 at *
        generalize readN s 1 = m1 at *
        generalize readN s 2 = m2 at *
        generalize readN s 3 = m3 at *
        generalize readN s 4 = m4 at *
        generalize readN s 5 = m5 at *
        generalize readN s 6 = m6 at *
        generalize readN s 7 = m7 at *
        generalize readN s 8 = m8 at *
        generalize readN s 9 = m9 at *
        generalize readN s 10 = m10 at *
        go_wp2_with fail
        refine k5.mono ?_
        rintro e w5 ⟨rfl, hb5⟩
        have hB5 := below_then hx hb5
        have hB5' := hB5.alloc hB5.size (.cells #[.int .i64 m0, .int .i64 m1, .int .i64 m2, .int .i64 m3, .int .i64 m4, .int .i64 m5, .int .i64 m6, .int .i64 m7, .int .i64 m8, .int .i64 m9, .int .i64 m10] 23)
        have hr5 := hr.ext hB5'
        clear k5 hb5
        go_wp2_with fail
        refine (hp _).mono ?_
        rintro e w6 ⟨A6, c6, rfl, hown6, hb6⟩
        rw [bv_len] at hown6
        rw [bv_len]
        have hB6 := below_then hB5' hb6
        have cv1 := run_conv_bytes (P := Try.prog) w6 24 9 5 Try.underlying24 Try.underlying5 Try.underlying9 s.length c6 rfl (Reads.of_own hown6)
        have cv2 := run_conv_bytes (P := Try.prog) w6 24 9 5 Try.underlying24 Try.underlying5 Try.underlying9 s.length c1 rfl (hr5.ext hb6)
        clear hp hown6 hb6 hB5 hB5' hr5
        go_wp2_with fail
        refine (lives06 _).mono ?_
        rintro e w7 ⟨rfl, hb7⟩
        have hB7 := below_then hB6 hb7
        go_wp2
        go_ret
        exact ⟨rfl, hB7⟩
theorem law_SuperBack (a b c d e f g h i j k : Int) (A1 : Option Addr) (c1 : Nat) (l1 : List UInt8) (w : World) (wa : (Lit.int .i64 a).wf = true) (wb : (Lit.int .i64 b).wf = true) (wc : (Lit.int .i64 c).wf = true) (wd : (Lit.int .i64 d).wf = true) (we : (Lit.int .i64 e).wf = true) (wf : (Lit.int .i64 f).wf = true) (wg : (Lit.int .i64 g).wf = true) (wh : (Lit.int .i64 h).wf = true) (wi : (Lit.int .i64 i).wf = true) (wj : (Lit.int .i64 j).wf = true) (wk : (Lit.int .i64 k).wf = true) (q1 : l1.length ≤ c1) (m1 : l1.length ≤ reachBytes) (r1 : Reads w w.heap.size A1 (bv l1)) :
    Calls Try.prog 13 #[.agg #[.int .i64 a, .int .i64 b, .int .i64 c, .int .i64 d, .int .i64 e, .int .i64 f, .int .i64 g, .int .i64 h, .int .i64 i, .int .i64 j, .int .i64 k], .slice A1 l1.length c1] w fun e w' => e = .returned (.bool true) ∧ Below w.heap.size w w' :=
  law_SuperBack' (ofS a b c d e f g h i j k) (ofS_wf wa wb wc wd we wf wg wh wi wj wk) A1 c1 l1 w q1 m1 r1
end Go.Proofs.Ytahomneljdjjjaa
