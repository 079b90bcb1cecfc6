/-
  Chapter 7: the reference's form, walked.
-/
import Derived.Test.YtilkcecjciiboaaNod12
import Derived.Test.YtilkcecjciiboaaNod3
namespace Go.Proofs.Ytilkcecjciiboaa
open Go.RowKit
attribute [local go_sem ↓] Go.wp_at_zero Go.wp_at_succ
theorem n0_byte {l : List UInt8} (h : 0 < l.length) : n0 l = (l[0]'h).toNat := by
  cases l with
  | nil => cases h
  | cons a r => simp [n0, le]
theorem n1_byte {l : List UInt8} (h : 1 < l.length) : n1 l = (l[1]'h).toNat := by
  match l, h with
  | a :: b :: r, _ => simp [n1, le]
theorem n2_byte {l : List UInt8} (h : 3 < l.length) : n2 l = (l[2]'(by omega)).toNat + 256 * (l[3]'h).toNat := by
  match l, h with
  | a :: b :: c :: d :: r, _ => simp [n2, le]
set_option maxRecDepth 100000 in
set_option maxHeartbeats 8000000 in
theorem rform_any (A : Option Addr) (c : Nat) (l : List UInt8) (w : World) (hq : l.length ≤ c) (hm : l.length ≤ reachBytes) (h : Reads w w.heap.size A (bv l)) :
    Calls Try.prog 88 #[.slice A l.length c] w fun e w' => e = .returned (.bool (formN l)) ∧ Below w.heap.size w w' := by
  have HM := Lib.hid hm
  simp only [reachBytes] at hm
  by_cases hl : l.length = 244
  case neg =>
    have HS := Lib.hid (form_shape (shape_len l hl))
    have d1 : ((l.length : Int) != 244) = true := by rw [bne_iff_ne]; omega
    clear hl h
    go_enter Try.func88, Try.ntmps88
    go_wp2
    go_ret
    exact ⟨by rw [HS.out]; rfl, Below.refl _ _⟩
  obtain ⟨ad, rfl, hlt0, hc0⟩ := h.byte (k := 0) (by omega)
  rw [← n0_byte (by omega)] at hc0
  have hc1 : w.cell? ad = some (.int .u8 (n0 l : Int)) := hc0
  by_cases h1 : 1 < n0 l
  · have HS := Lib.hid (show formN l = false from form_shape (by
      cases hs : shapeOk l with
      | false => rfl
      | true => have := (shape_fit hs).2.1; omega))
    have hci : (1 : Int) < (n0 l : Int) := by omega
    clear h1 h
    generalize n0 l = y0 at *
    go_enter Try.func88, Try.ntmps88
    go_wp2
    go_ret
    exact ⟨by rw [HS.out]; rfl, Below.refl _ _⟩
  obtain ⟨u1, u2, u3⟩ := unp6 l (by omega)
  have HI := Lib.hid (shape_iff l hl)
  have HLF := Lib.hid (show ∀ y : Int, y = (n0 l : Int) → lfN l = (y == 1) from fun y hy => by
    subst hy
    unfold lfN
    rw [Bool.eq_iff_iff, decide_eq_true_iff, beq_iff_eq]
    omega)
  have HW := Lib.hid (fun W => rwidth7_any (n1 l) (lfN l) W)
  have HX := Lib.hid (fun W => rmax_any (n1 l) (lfN l) W)
  have KU := runpack_any (some ad) c l (some ⟨w.heap.size, 0, none⟩) 6 [1, 1, 2, 2, 2, 4] (w.alloc (.cells #[.int .i64 1, .int .i64 1, .int .i64 2, .int .i64 2, .int .i64 2, .int .i64 4] 3)) HM.out (by decide) (h.ext (below_alloc1 w _)) (by
    have := Reads.new w [.int .i64 1, .int .i64 1, .int .i64 2, .int .i64 2, .int .i64 2, .int .i64 4] 3 (0, 0)
    exact (show Reads _ (w.heap.size + 1) _ (iv [1, 1, 2, 2, 2, 4]) from this).more (by simp))
  rw [u1, u2] at KU
  have HR := Lib.hid h
  have HQ := Lib.hid hq
  have d0 : decide (1 < n0 l) = false := decide_eq_false h1
  have H1 := Lib.hid h1
  have HFS := Lib.hid (fun (hs : shapeOk l = false) => form_shape hs)
  have HFT := Lib.hid (fun (hs : shapeOk l = true) => And.intro (form_zeros hs) (shape_fit hs))
  generalize hW : widthV (n1 l) (lfN l) = W at *
  generalize hMM : maxV (n1 l) (lfN l) = M at *
  have HMM := Lib.hid (show M = mB l from hMM.symm)
  have HLL := Lib.hid hW
  generalize hlf : lfN l = lf at *
  have HLF2 := Lib.hid (HLF.out _ rfl)
  clear HLF hlf hW hMM
  generalize hok : shapeOk l = ok at *
  obtain ⟨y0, hy0⟩ : ∃ y, y = (n0 l : Int) := ⟨_, rfl⟩
  obtain ⟨y1, hy1⟩ : ∃ y, y = (n1 l : Int) := ⟨_, rfl⟩
  obtain ⟨y2, hy2⟩ : ∃ y, y = (n2 l : Int) := ⟨_, rfl⟩
  obtain ⟨y3, hy3⟩ : ∃ y, y = (n3 l : Int) := ⟨_, rfl⟩
  obtain ⟨y4, hy4⟩ : ∃ y, y = (n4 l : Int) := ⟨_, rfl⟩
  obtain ⟨y5, hy5⟩ : ∃ y, y = (n5 l : Int) := ⟨_, rfl⟩
  rw [← hy0] at HI KU HLF2 hc0 hc1
  rw [← hy1] at HW HX KU
  rw [← hy2] at HI KU
  rw [← hy3] at HI KU
  rw [← hy4] at HI KU
  rw [← hy5] at HI KU
  have hz2 : 0 ≤ y2 := by omega
  have hz0 : y0 ≤ 1 := by omega
  have HY2 := Lib.hid hy2
  clear hy0 hy1 hy2 hy3 hy4 hy5 u1 u2 u3 d0
  obtain ⟨Mi, hMi⟩ : ∃ y, y = (M : Int) := ⟨_, rfl⟩
  rw [← hMi] at HX HI
  have HMI := Lib.hid hMi
  clear hMi hok hm hq h1
  have HL := Lib.hid hl
  rw [hl] at KU ⊢
  clear hl
  go_enter Try.func88, Try.ntmps88
  go_wp2_with fail
  refine KU.mono ?_
  rintro e w3 ⟨A3, c3, rfl, hown, hb⟩
  rw [iv_len, show [y0, y1, y2, y3, y4, y5].length = 6 from rfl] at hown
  rw [iv_len, show [y0, y1, y2, y3, y4, y5].length = 6 from rfl]
  obtain ⟨g, rfl, hc⟩ := own_cells hown (by omega)
  have hgl : g < w3.heap.size := by
    obtain ⟨ad2, e, hlt, _⟩ := (Reads.of_own hown).at_ (k := 0) (by simp [iv])
    injection e with e
    subst e
    exact hlt
  have HC := Lib.hid (fun (V : World) (hb : Below w3.heap.size w3 V) (i : Nat) v (hv : (iv [y0, y1, y2, y3, y4, y5])[i]? = some v) => (show V.cell? ⟨g, i, none⟩ = some v from (hb.cell (p := ⟨g, i, none⟩) hgl).trans (hc i v hv)))
  have HB3 := Lib.hid (below_then (below_alloc1 w (.cells #[.int .i64 1, .int .i64 1, .int .i64 2, .int .i64 2, .int .i64 2, .int .i64 4] 3)) hb)
  have k0 := HC.out w3 (Below.refl _ _) 0 _ rfl
  have k1 := HC.out w3 (Below.refl _ _) 1 _ rfl
  clear KU hc hown hb hgl hc0 hc1
  go_upto_region 5 with fail
  rw [← HLF2.out]
  go_wp2_with fail
  refine (HW.out _).mono ?_
  rintro e w4 ⟨rfl, hb4⟩
  have HB4 := Lib.hid (below_then HB3.out hb4)
  have k1' := HC.out w4 hb4 1 _ rfl
  have HB34 := Lib.hid hb4
  clear HW k0 k1 hb4
  go_wp2_with fail
  refine (HX.out _).mono ?_
  rintro e w5 ⟨rfl, hb5⟩
  have HB5 := Lib.hid (below_then HB4.out hb5)
  have hb35 := below_then HB34.out hb5
  have k2 := HC.out w5 hb35 2 _ rfl
  have k3 := HC.out w5 hb35 3 _ rfl
  have k4 := HC.out w5 hb35 4 _ rfl
  have k5 := HC.out w5 hb35 5 _ rfl
  clear HX k1' hb35 hb5 HC HB34 HB4 HB3 HLF2
  go_upto_region 7 with fail
  go_cut [75] (fun s75 wx => s75 = .bool (!ok) ∧ wx = w5)
  case first =>
    have bad : ¬ (W ≠ 0 ∧ y2 ≤ Mi ∧ y3 = W ∧ y4 = Mi ∧ y5 = 0 ∧ (lf = true ∨ 0 < y2)) → ok = false := fun h => by
      cases ok with
      | false => rfl
      | true => exact absurd (HI.out.1 (by first | rfl | trivial)).2 h
    have good : (W ≠ 0 ∧ y2 ≤ Mi ∧ y3 = W ∧ y4 = Mi ∧ y5 = 0 ∧ (lf = true ∨ 0 < y2)) → ok = true := fun h => HI.out.2 ⟨hz0, h⟩
    clear HI HFS HFT hz0 HLL
    by_cases c0 : W = 0
    · have e := bad (fun h => h.1 c0)
      have d3 : (W == 0) = true := by rw [beq_iff_eq]; exact c0
      subst e c0
      clear bad good
      go_wp2
      go_meet
      exact ⟨rfl, rfl⟩
    have d2 : (W == 0) = false := by rw [beq_eq_false_iff_ne]; exact c0
    by_cases c2 : y3 = W
    case neg =>
      have e := bad (fun h => c2 h.2.2.1)
      have d3 : (y3 != W) = true := by rw [bne_iff_ne]; exact c2
      subst e
      clear bad good c2 c0
      go_wp2
      go_meet
      exact ⟨rfl, rfl⟩
    by_cases c3 : y4 = Mi
    case neg =>
      have e := bad (fun h => c3 h.2.2.2.1)
      have d3 : (y4 != Mi) = true := by rw [bne_iff_ne]; exact c3
      subst e c2
      clear bad good c3 c0
      go_wp2
      go_meet
      exact ⟨rfl, rfl⟩
    by_cases c4 : y5 = 0
    case neg =>
      have e := bad (fun h => c4 h.2.2.2.2.1)
      have d3 : (y5 != 0) = true := by rw [bne_iff_ne]; exact c4
      subst e c2 c3
      clear bad good c4 c0
      go_wp2
      go_meet
      exact ⟨rfl, rfl⟩
    by_cases c1 : y2 ≤ Mi
    case neg =>
      have e := bad (fun h => c1 h.2.1)
      have d3 : Mi < y2 := by omega
      subst e c2 c3 c4
      clear bad good c1 c0
      go_wp2
      go_meet
      exact ⟨rfl, rfl⟩
    have d4 : decide (Mi < y2) = false := decide_eq_false (by omega)
    cases lf with
    | true =>
      have e := good ⟨c0, c1, c2, c3, c4, .inl rfl⟩
      subst e c2 c3 c4
      clear bad good c0 c1
      go_wp2
      go_meet
      exact ⟨rfl, rfl⟩
    | false =>
      by_cases c5 : 0 < y2
      · have e := good ⟨c0, c1, c2, c3, c4, .inr c5⟩
        have d5 : (y2 == 0) = false := by rw [beq_eq_false_iff_ne]; omega
        subst e c2 c3 c4
        clear bad good c0 c1
        go_wp2
        go_meet
        exact ⟨rfl, rfl⟩
      · have e := bad (fun h => by rcases h.2.2.2.2.2 with h | h; cases h; exact c5 h)
        have d5 : y2 = 0 := by omega
        subst e c2 c3 c4 d5
        clear bad good c5 c0 c1
        go_wp2
        go_meet
        exact ⟨rfl, rfl⟩
  case rest =>
    obtain ⟨rfl, rfl⟩ := hcut
    cases ok with
    | false =>
      have HS := Lib.hid (HFS.out (by first | rfl | trivial))
      clear HI HFS HFT
      go_wp2
      go_ret
      exact ⟨by rw [HS.out]; rfl, HB5.out⟩
    | true =>
      obtain ⟨f1, g1, g2, hWW, g4, g5, g6, g7, g8⟩ := HFT.out (by first | rfl | trivial)
      have hMM := HMM.out
      have hMi := HMI.out
      have hy2 := HY2.out
      clear HI HFS HFT HLL HMM HMI HY2 k3 k4 k5 hz2 hz0
      subst hWW
      subst hMM
      subst hMi
      subst hy2
      have hle : wB l * n2 l ≤ wB l * mB l := Nat.mul_le_mul_left _ g7
      have hq := HQ.out
      rw [g1] at hq
      have hd1 := HR.out.drop (k := 12 + 8 * n2 l) (cap := c) (by rw [bv_len]; omega)
      rw [if_neg (by omega), bv_drop] at hd1
      have hd1 := hd1.take (8 * mB l - 8 * n2 l)
      rw [bv_take] at hd1
      have hd2 := HR.out.drop (k := 12 + 8 * mB l + wB l * n2 l) (cap := c) (by rw [bv_len]; omega)
      rw [if_neg (by omega), bv_drop] at hd2
      have KZ1 := Lib.hid (rzero_any (some (ad.add (12 + 8 * n2 l))) (c - (12 + 8 * n2 l)) (z1N l) wc _ (by unfold z1N; rw [List.length_take, List.length_drop]; simp only [reachBytes]; omega) ((show Reads w w.heap.size (some (ad.add (12 + 8 * n2 l))) (bv (z1N l)) from hd1).ext HB5.out))
      have KZ2 := Lib.hid (rzero_any (some (ad.add (12 + 8 * mB l + wB l * n2 l))) (c - (12 + 8 * mB l + wB l * n2 l)) (z2N l) wc _ (by unfold z2N; rw [List.length_drop]; simp only [reachBytes]; omega) ((show Reads w w.heap.size (some (ad.add (12 + 8 * mB l + wB l * n2 l))) (bv (z2N l)) from hd2).ext HB5.out))
      rw [show (z1N l).length = (12 + 8 * mB l) - (12 + 8 * n2 l) from by unfold z1N; rw [List.length_take, List.length_drop]; omega] at KZ1
      rw [show (z2N l).length = 244 - (12 + 8 * mB l + wB l * n2 l) from by unfold z2N; rw [List.length_drop]; omega] at KZ2
      obtain ⟨m8, hm8⟩ : ∃ x, x = 8 * mB l := ⟨_, rfl⟩
      obtain ⟨k8, hk8⟩ : ∃ x, x = 8 * n2 l := ⟨_, rfl⟩
      obtain ⟨v, hv⟩ : ∃ x, x = 12 + m8 := ⟨_, rfl⟩
      obtain ⟨a2, ha2⟩ : ∃ x, x = 12 + k8 := ⟨_, rfl⟩
      obtain ⟨p0, hp0⟩ : ∃ x, x = wB l * n2 l := ⟨_, rfl⟩
      obtain ⟨b0, hb0⟩ : ∃ x, x = v + p0 := ⟨_, rfl⟩
      rw [← hm8, ← hk8, ← hv, ← ha2] at KZ1
      rw [← hm8, ← hp0, ← hv, ← hb0] at KZ2
      have e1 : IntKind.i64.wrap (8 * (mB l : Int)) = (m8 : Int) := by rw [hm8, IntKind.wrap_i64]; omega
      have e2 : IntKind.i64.wrap (12 + (m8 : Int)) = (v : Int) := by rw [hv, IntKind.wrap_i64]; omega
      have e3 : IntKind.i64.wrap (8 * (n2 l : Int)) = (k8 : Int) := by rw [hk8, IntKind.wrap_i64]; omega
      have e4 : IntKind.i64.wrap (12 + (k8 : Int)) = (a2 : Int) := by rw [ha2, IntKind.wrap_i64]; omega
      have e5 : IntKind.i64.wrap ((wB l : Int) * (n2 l : Int)) = (p0 : Int) := by
        rw [show (wB l : Int) * (n2 l : Int) = (p0 : Int) by rw [hp0, Int.natCast_mul], IntKind.wrap_i64]; omega
      have e6 : IntKind.i64.wrap ((v : Int) + (p0 : Int)) = (b0 : Int) := by rw [hb0, IntKind.wrap_i64]; omega
      have i1 : a2 ≤ v := by omega
      have i2 : v ≤ c := by omega
      have i3 : ¬ c = a2 := by omega
      have i4 : ¬ c = b0 := by omega
      have i5 : (a2 : Int) ≤ (v : Int) := by omega
      have i6 : (v : Int) ≤ (c : Int) := by omega
      have i7 : b0 ≤ 244 := by omega
      have i8 : (b0 : Int) ≤ 244 := by omega
      have i9 : (244 : Int) ≤ (c : Int) := by omega
      have HF := Lib.hid f1
      clear hm8 hk8 hv ha2 hp0 hb0 hd1 hd2 g1 g2 g4 g5 g6 g7 g8 hle f1
      go_wp2_with fail
      refine KZ1.out.mono ?_
      rintro e w6 ⟨rfl, rfl⟩
      clear KZ1
      cases hz1 : zeroB (z1N l) with
      | false =>
        have HS := Lib.hid (show formN l = false from by rw [HF.out, hz1]; rfl)
        clear hz1 HF
        go_wp2
        go_ret
        exact ⟨by rw [HS.out]; rfl, HB5.out⟩
      | true =>
        have HS := Lib.hid (show formN l = zeroB (z2N l) from by rw [HF.out, hz1]; rfl)
        clear hz1 HF
        go_wp2_with fail
        refine KZ2.out.mono ?_
        rintro e w6 ⟨rfl, rfl⟩
        clear KZ2
        rw [← HS.out]
        go_wp2
        go_ret
        exact ⟨rfl, HB5.out⟩
end Go.Proofs.Ytilkcecjciiboaa
