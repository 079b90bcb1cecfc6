/-
  Chapter 12's RefsPlays, walked.
-/
import Derived.Test.YtnebmkkaobedaaaLaw12C
import Derived.Test.YtnebmkkaobedaaaRefs3
import Derived.BigQuiet
import Derived.BigRegion
import Derived.Deep.QuietTactic
namespace Go.Proofs.Ytnebmkkaobedaaa
open Go.RowKit

theorem cnts_get (n : Nat) (L : List Int) (j : Nat) (h : j < n) : (cntsL n L)[j]?.getD 0 = ((L.count (j : Int) : Nat) : Int) := by rw [cntsL_get n L j h]; rfl
theorem addL_cnts (n : Nat) (L : List Int) (k : Int) : addL (cntsL n L) k = cntsL n (rL n L k) := by
  unfold addL addE rL
  rw [cntsL_len]
  by_cases h : k < 0 ∨ (n : Int) ≤ k
  · rw [if_pos h, if_pos h, if_neg (by decide)]
  · rw [if_neg h, if_neg h, if_pos rfl]
    obtain ⟨m, rfl⟩ := Int.eq_ofNat_of_zero_le (show 0 ≤ k by omega)
    rw [Int.toNat_natCast, List.getD_eq_getElem?_getD, cnts_get n L m (by omega), cntsL_add n L m (by omega)]
theorem addN_cnts (n : Nat) (L : List Int) (k : Int) : addN (cntsL n L) k = rN n L k := by
  unfold addN addE rN
  rw [cntsL_len]
  by_cases h : k < 0 ∨ (n : Int) ≤ k
  · rw [if_pos h, if_pos h, if_neg (by decide)]
  · rw [if_neg h, if_neg h, if_pos rfl]
    obtain ⟨m, rfl⟩ := Int.eq_ofNat_of_zero_le (show 0 ≤ k by omega)
    rw [Int.toNat_natCast, List.getD_eq_getElem?_getD, cnts_get n L m (by omega)]
    simp
theorem addE_cnts (n : Nat) (L : List Int) (k : Int) : addE (cntsL n L).length k = rE n k := by
  unfold addE rE
  rw [cntsL_len]
theorem cntN_cnts (n : Nat) (L : List Int) (h : ∀ x ∈ L, 0 ≤ x ∧ x < n) (k : Int) : cntN (cntsL n L) k = ((L.count k : Nat) : Int) := by
  unfold cntN
  rw [cntsL_len]
  by_cases hk : k < 0 ∨ (n : Int) ≤ k
  · rw [if_pos hk, List.count_eq_zero.2 (fun hm => by have := h k hm; omega)]
    rfl
  · rw [if_neg hk]
    obtain ⟨m, rfl⟩ := Int.eq_ofNat_of_zero_le (show 0 ≤ k by omega)
    rw [Int.toNat_natCast, List.getD_eq_getElem?_getD, cnts_get n L m (by omega)]
theorem countP_succ (L : List Int) (k : Nat) : L.countP (fun x => decide (x < ((k + 1 : Nat) : Int))) = L.countP (fun x => decide (x < (k : Int))) + L.count (k : Int) := by
  induction L with
  | nil => rfl
  | cons x L ih =>
    rw [List.countP_cons, List.countP_cons, List.count_cons, ih]
    by_cases h1 : x < (k : Int)
    · rw [show decide (x < ((k + 1 : Nat) : Int)) = true from decide_eq_true (by omega), show decide (x < (k : Int)) = true from decide_eq_true h1, show (x == (k : Int)) = false by rw [beq_eq_false_iff_ne]; omega]
      simp only [if_true, Bool.false_eq_true, if_false]
      omega
    · by_cases h4 : x = (k : Int)
      · rw [show decide (x < ((k + 1 : Nat) : Int)) = true from decide_eq_true (by omega), show decide (x < (k : Int)) = false from decide_eq_false h1, show (x == (k : Int)) = true by rw [beq_iff_eq]; exact h4]
        simp only [if_true, Bool.false_eq_true, if_false]
        omega
      · rw [show decide (x < ((k + 1 : Nat) : Int)) = false from decide_eq_false (by omega), show decide (x < (k : Int)) = false from decide_eq_false h1, show (x == (k : Int)) = false by rw [beq_eq_false_iff_ne]; exact h4]
        simp only [Bool.false_eq_true, if_false]
        omega
theorem sum_cnts (n : Nat) (L : List Int) (hl : L.length ≤ 200) (h0 : ∀ x ∈ L, 0 ≤ x) : ∀ k, k ≤ n → sumW (pickL 0 (cntsL n L) k) = ((L.countP (fun x => decide (x < (k : Int))) : Nat) : Int)
  | 0, _ => by
    have : L.countP (fun x => decide (x < ((0 : Nat) : Int))) = 0 := by
      rw [List.countP_eq_zero]
      intro x hx
      have := h0 x hx
      simp
      omega
    rw [this]
    rfl
  | k + 1, hk => by
    have hg := cnts_get n L k (by omega)
    have hc := List.countP_le_length (p := fun x => decide (x < ((k + 1 : Nat) : Int))) (l := L)
    rw [pickL_yes (by rw [hg]; omega), sumW_snoc, sum_cnts n L hl h0 k (by omega), hg]
    rw [countP_succ] at hc ⊢
    have : wrap64 (((L.countP (fun x => decide (x < (k : Int))) : Nat) : Int) + ((L.count (k : Int) : Nat) : Int)) = ((L.countP (fun x => decide (x < (k : Int))) : Nat) : Int) + ((L.count (k : Int) : Nat) : Int) := by
      unfold wrap64
      omega
    rw [this]
    push_cast
    rfl
theorem total_cnts (n : Nat) (L : List Int) (hl : L.length ≤ 200) (h : ∀ x ∈ L, 0 ≤ x ∧ x < n) : sumW (pickL 0 (cntsL n L) (cntsL n L).length) = (L.length : Int) := by
  rw [cntsL_len, sum_cnts n L hl (fun x hx => (h x hx).1) n (Nat.le_refl _)]
  congr 1
  rw [List.countP_eq_length]
  intro x hx
  have := h x hx
  simpa using this.2
theorem cnts_bound (n : Nat) (L : List Int) (hl : L.length ≤ 200) : ∀ x ∈ cntsL n L, 0 ≤ x ∧ x < 9223372036854775807 := by
  intro x hx
  unfold cntsL at hx
  obtain ⟨j, _, rfl⟩ := List.mem_map.1 hx
  have := List.count_le_length (a := (j : Int)) (l := L)
  omega
theorem rL_len (n : Nat) (L : List Int) (k : Int) : (rL n L k).length ≤ L.length + 1 := by
  unfold rL
  split
  · omega
  · simp
theorem Cnt.low {W W' : World} {B g S : Nat} {A : Option Addr} {c : Nat} {l : List Int} (h : Cnt W B g A c l) (hb : Below S W W') (hg : g < S) (hr : ∀ k, (Value.slice A l.length c).ownBlock = some k → k < S) : Cnt W' B g A c l := by
  refine ⟨(hb.block g hg).trans h.1, ⟨h.2.1.1, ?_⟩, h.2.2⟩
  rcases h.2.1.2 with h1 | ⟨b, cap, cur, hv, hbb, hgb, hrest⟩
  · exact .inl h1
  · exact .inr ⟨b, cap, cur, hv, hbb, (hb.block b (hr b (by rw [hv]; rfl))).trans hgb, hrest⟩
/-- what was counted -/
def accL (n : Nat) (l : List Int) : List Int := l.foldl (rL n) []
theorem accL_snoc (n : Nat) (l : List Int) (k : Int) : accL n (l ++ [k]) = rL n (accL n l) k := by simp [accL]
theorem accL_len (n : Nat) (l : List Int) : ∀ j, (accL n (l.take j)).length ≤ j
  | 0 => by simp [accL]
  | j + 1 => by
    by_cases h : j < l.length
    · rw [take_snoc l j h, accL_snoc]
      have := rL_len n (accL n (l.take j)) l[j]
      have := accL_len n l j
      omega
    · rw [List.take_of_length_le (by omega)]
      have := accL_len n l j
      rw [List.take_of_length_le (by omega)] at this
      omega
/-- the program's counter, and the document's, made behind it -/
structure Pl (w : World) (S1 g1 g2 : Nat) (A1 : Option Addr) (c1 : Nat) (A2 : Option Addr) (c2 : Nat) (n : Nat) (L : List Int) (W : World) : Prop where
  x : Cnt W w.heap.size g1 A1 c1 (cntsL n L)
  xa : g1 < S1 ∧ ∀ k, (Value.slice A1 (cntsL n L).length c1).ownBlock = some k → k < S1
  y : RCnt W S1 g2 n A2 c2 L
  s : w.heap.size ≤ S1 ∧ S1 ≤ W.heap.size
  b : Below w.heap.size w W
section
variable {w : World} {S1 g1 g2 : Nat} {A1 : Option Addr} {c1 : Nat} {A2 : Option Addr} {c2 n : Nat} {L : List Int} {W W' : World}
theorem Pl.below (h : Pl w S1 g1 g2 A1 c1 A2 c2 n L W) (hb : Below W.heap.size W W') : Pl w S1 g1 g2 A1 c1 A2 c2 n L W' :=
  ⟨h.x.below hb, h.xa, h.y.below hb, ⟨h.s.1, Nat.le_trans h.s.2 hb.size⟩, below_then h.b hb⟩
theorem Pl.add (h : Pl w S1 g1 g2 A1 c1 A2 c2 n L W) {k : Int} (hx : Cnt W' w.heap.size g1 A1 c1 (cntsL n (rL n L k))) (hg : W.grownBy W' (Value.slice A1 (cntsL n L).length c1).ownBlock) {W2 : World} {A3 : Option Addr} {c3 : Nat}
    (hy : RCnt W2 S1 g2 n A3 c3 (rL n L k)) (hb : Below S1 W' W2) : Pl w S1 g1 g2 A1 c1 A3 c3 n (rL n L k) W2 := by
  have hxa : ∀ j, (Value.slice A1 (cntsL n (rL n L k)).length c1).ownBlock = some j → j < S1 := by
    rw [cntsL_len]
    have := h.xa.2
    rwa [cntsL_len] at this
  exact ⟨hx.low hb h.xa.1 hxa, ⟨h.xa.1, hxa⟩, hy, ⟨h.s.1, Nat.le_trans h.s.2 (Nat.le_trans hg.size hb.size)⟩, (h.b.grown hg h.b.size fun k hk => own_ge h.x.2.1 hk).trans (hb.mono h.s.1)⟩
theorem Pl.midy (h : Pl w S1 g1 g2 A1 c1 A2 c2 n L W) (hg : W.grownBy W' (Value.slice A1 (cntsL n L).length c1).ownBlock) : RCnt W' S1 g2 n A2 c2 L ∧ S1 ≤ W'.heap.size := by
  refine ⟨h.y.kept hg (fun e => ?_) (apart_of h.y.2.1 h.xa.2), Nat.le_trans h.s.2 hg.size⟩
  have := h.xa.2 _ e
  have := h.y.2.2.2.1
  omega
end
attribute [local go_sem ↓] Go.wp_at_zero Go.wp_at_succ
set_option maxRecDepth 100000 in
set_option maxHeartbeats 4000000 in
theorem law_RefsPlays (a0 : Int) (A : Option Addr) (c : Nat) (l : List Int) (a2 : Int) (w : World) (w0 : (Lit.int .i64 a0).wf = true) (_q1 : l.length ≤ c) (m1 : l.length * 8 ≤ reachBytes) (_f1 : ∀ x ∈ l, (Lit.int .i64 x).wf = true) (r1 : Reads w w.heap.size A (iv l)) (_w2 : (Lit.int .i64 a2).wf = true) :
    Calls Try.prog 17 #[.int .i64 a0, .slice A l.length c, .int .i64 a2] w fun e w' => e = .returned (.bool true) ∧ Below w.heap.size w w' := by
  simp only [reachBytes] at m1
  have hw0 := wf_i64 w0
  clear w0
  go_enter Try.func17, Try.ntmps17
  go_upto_region 1 with fail
  go_cut [21] (fun s21 wx => w = wx ∧ s21 = .bool (decide (2000 < a0 ∧ a0 ≤ 65536)))
  case first =>
    by_cases h1 : 2000 < a0
    · by_cases h2 : a0 ≤ 65536
      · have d1 : decide (2000 < a0) = true := decide_eq_true h1
        have d2 : decide (a0 ≤ 65536) = true := decide_eq_true h2
        go_wp2
        go_meet
        exact ⟨rfl, by rw [decide_eq_true ⟨h1, h2⟩]⟩
      · have d1 : decide (2000 < a0) = true := decide_eq_true h1
        have d2 : decide (a0 ≤ 65536) = false := decide_eq_false h2
        go_wp2
        go_meet
        exact ⟨rfl, by rw [show decide (2000 < a0 ∧ a0 ≤ 65536) = false from decide_eq_false (by omega)]⟩
    · have d1 : decide (2000 < a0) = false := decide_eq_false h1
      go_wp2
      go_meet
      exact ⟨rfl, by rw [show decide (2000 < a0 ∧ a0 ≤ 65536) = false from decide_eq_false (by omega)]⟩
  case rest =>
   obtain ⟨rfl, rfl⟩ := hcut
   go_upto_if 21 with fail
   go_cut [0] (fun s0 wx => w = wx ∧ ∃ n : Int, s0 = .int .i64 n ∧ (n < 0 ∨ 65536 < n ∨ 0 ≤ n ∧ n ≤ 2000))
   case first =>
    by_cases h1 : 2000 < a0 ∧ a0 ≤ 65536
    · have d1 : decide (2000 < a0 ∧ a0 ≤ 65536) = true := decide_eq_true h1
      rw [d1]
      go_wp2
      go_meet
      exact ⟨rfl, a0 % 2000, rfl, by omega⟩
    · have d1 : decide (2000 < a0 ∧ a0 ≤ 65536) = false := decide_eq_false h1
      rw [d1]
      go_wp2
      go_meet
      exact ⟨rfl, a0, rfl, by omega⟩
   case rest =>
    obtain ⟨rfl, a, rfl, ha⟩ := hcut
    by_cases hbad : a < 0 ∨ 65536 < a
    · have k1 := cnew_bad a hbad w
      have k2 := rcnew_bad a hbad w
      clear ha hbad
      go_wp2_with fail
      refine k1.mono ?_
      rintro e w1 ⟨rfl, rfl⟩
      clear k1
      go_wp2_with fail
      refine k2.mono ?_
      rintro e w1 ⟨rfl, rfl⟩
      clear k2
      by_cases hl : 200 < l.length
      · have d1 : decide (200 < (l.length : Int)) = true := decide_eq_true (by omega)
        go_wp2_with fail
        refine (lives12 _).mono ?_
        rintro e w3 ⟨rfl, hb3⟩
        go_wp2
        go_ret
        exact ⟨rfl, hb3⟩
      · have d1 : decide (200 < (l.length : Int)) = false := decide_eq_false (by omega)
        go_wp2_with fail
        refine (lives12 _).mono ?_
        rintro e w3 ⟨rfl, hb3⟩
        go_wp2
        go_ret
        exact ⟨rfl, hb3⟩
    · obtain ⟨n, rfl⟩ := Int.eq_ofNat_of_zero_le (show 0 ≤ a by omega)
      have hn : n ≤ 2000 := by omega
      clear ha hbad hw0
      have k1 := cnew_ok n (by omega) w
      go_wp2_with fail
      refine k1.mono ?_
      rintro e w1 ⟨g1, A1, c1, rfl, hx1, hb1⟩
      rw [← cntsL_nil] at hx1
      have hG1 := hx1.1.lt
      have hR1 : ∀ k, (Value.slice A1 (cntsL n []).length c1).ownBlock = some k → k < w1.heap.size := fun k hk => (hx1.2.1.lt k hk).2
      have k2 := rcnew_ok n (by omega) w1
      clear k1
      go_wp2_with fail
      refine k2.mono ?_
      rintro e w2 ⟨g2, rfl, hy2, hb2⟩
      have hx2 := hx1.below hb2
      have hB2 := below_then hb1 hb2
      by_cases hl : 200 < l.length
      · have d1 : decide (200 < (l.length : Int)) = true := decide_eq_true (by omega)
        clear k2 hx1 hx2 hy2 hR1 hG1 hb1 hb2
        go_wp2_with fail
        refine (lives12 _).mono ?_
        rintro e w3 ⟨rfl, hb3⟩
        have hB3 := below_then hB2 hb3
        go_wp2
        go_ret
        exact ⟨rfl, hB3⟩
      · have d1 : decide (200 < (l.length : Int)) = false := decide_eq_false (by omega)
        have hll : l.length ≤ 200 := by omega
        have HP := Lib.hid (show Pl w w1.heap.size g1 g2 A1 c1 none 0 n [] w2 from ⟨hx2, ⟨hG1, hR1⟩, hy2, ⟨hb1.size, hb2.size⟩, hB2⟩)
        clear k2 hx1 hx2 hy2 hR1 hG1 hb1 hb2 hB2
        go_wp2_with fail
        go_loopw [11] (fun i wr => ∃ (j : Nat) (A2 : Option Addr) (c2 : Nat), j ≤ l.length ∧ i = .int .i64 j ∧ Pl w w1.heap.size g1 g2 A1 c1 A2 c2 n (accL n (l.take j)) wr) (fun i _ => l.length - (intOf i).toNat)
        case atStart => exact ⟨0, none, 0, Nat.zero_le _, rfl, HP.out⟩
        case round =>
          obtain ⟨j, A2, c2, hj, rfl, hT⟩ := hrel
          have HT := Lib.hid hT
          have hal := accL_len n l j
          by_cases hlt : j < l.length
          · obtain ⟨ad, hA, -, -⟩ := r1.at_ (k := j) (by rw [iv_len]; exact hlt)
            have HCF := Lib.hid (show ∀ W, Below w.heap.size w W → W.cell? (ad.add j) = some (.int .i64 l[j]) from fun W hW => by
              obtain ⟨ad', hA', -, hc⟩ := (r1.below hW).at_ (k := j) (by rw [iv_len]; exact hlt)
              rw [hA] at hA'
              cases hA'
              rw [hc]
              simp [iv])
            subst hA
            have HSN := Lib.hid (show accL n (l.take (j + 1)) = rL n (accL n (l.take j)) l[j] by rw [take_snoc l j hlt, accL_snoc])
            have q1 := add_any hT.x l[j] (cnts_bound n _ (by omega))
            rw [addN_cnts, addE_cnts, addL_cnts] at q1
            have hc1 := HCF.out wr hT.b
            have i0 : (0 : Int) ≤ (j : Int) := by omega
            have i1 : (j : Int) < (l.length : Int) := by omega
            generalize accL n (l.take j) = L at *
            generalize l[j] = x at *
            have hrl := rL_len n L x
            clear hT
            go_wp2_with fail
            refine q1.mono ?_
            rintro e w4 ⟨rfl, hx4, hg4⟩
            obtain ⟨hy4, hs4⟩ := HT.out.midy hg4
            have q2 := radd_any hy4 (by omega) hs4 x
            have HX4 := Lib.hid hx4
            have HG4 := Lib.hid hg4
            have hc4 := HCF.out w4 (HT.out.b.grown hg4 HT.out.b.size fun k hk => own_ge HT.out.x.2.1 hk)
            clear q1 hc1 hx4 hg4 hy4 hs4
            go_wp2_with fail
            refine q2.mono ?_
            rintro e w5 ⟨rfl, ⟨A5, c5, hy5⟩, hb5⟩
            have HT5 := Lib.hid (HT.out.add HX4.out HG4.out hy5 hb5)
            clear q2 hc4 hy5 hb5 HX4 HG4
            have hc5 := HCF.out w5 HT5.out.b
            have n1 := fun m => (count_any (HT5.out.x.below (below_drewN (Below.refl _ w5) m)) x).mono (fun e w' h => (show e = _ ∧ w' = w5.drewN m from ⟨h.1, h.2.symm⟩))
            have n2 := fun m => (rcount_any (HT5.out.y.below (below_drewN (Below.refl _ w5) m)) (by omega) x).mono (fun e w' h => (show e = _ ∧ w' = w5.drewN m from ⟨h.1, h.2.symm⟩))
            rw [cntN_cnts n _ HT5.out.y.2.2.1] at n1
            generalize rN n L x = N at *
            generalize rE n x = E at *
            generalize rL n L x = L' at *
            generalize ((L'.count x : Nat) : Int) = C at *
            have dN : (N != N) = false := by simp
            have dE : (E != E) = false := by simp
            have dC : (C != C) = false := by simp
            go_wp2_with fail
            go_quiet (first | (go_at_call 58; exact Calls.quiet_of_same (n1 _)) | (go_at_call 59; exact Calls.quiet_of_same (n2 _)))
            have HT6 := Lib.hid (HT5.out.below (below_drewN (Below.refl _ w5) nq))
            clear n1 n2 hc5 dN dE dC
            go_wp2
            go_roundw
            case rel => exact ⟨j + 1, A5, c5, by omega, by go_num, by rw [HSN.out]; exact HT6.out⟩
            case measure => simp [intOf]; omega
          · obtain rfl : j = l.length := by omega
            rw [List.take_length] at hT hal HT
            generalize accL n l = L at *
            have hLL : L.length ≤ 200 := by omega
            clear hT hal HP
            replace HT := Lib.hid (HT.out.below (Below.refl wr.heap.size wr).drew)
            have kL := len_any HT.out.x
            rw [cntsL_len] at kL
            have HZ := Lib.hid (show (cntsL n L).length * 8 ≤ reachBytes by rw [cntsL_len]; simp only [reachBytes]; omega)
            have HZ2 := Lib.hid (fun W (h : Nums (some ⟨g1, 0, none⟩) A1 c1 (cntsL n L) W.heap.size W) => total_any h)
            have HS := Lib.hid (total_cnts n L hLL HT.out.y.2.2.1)
            have HF := Lib.hid (show (kvL (pickL a2 (cntsL n L) (cntsL n L).length)).length * 8 ≤ reachBytes by
              rw [kvL_len]
              have := pickL_len a2 (cntsL n L) (cntsL n L).length
              rw [cntsL_len] at this ⊢
              simp only [reachBytes]
              omega)
            have hc0 := HT.out.y.l1
            have dn : ((n : Int) == (n : Int)) = true := by simp
            have dL : ((L.length : Int) == (L.length : Int)) = true := by simp
            go_wp2_with fail
            go_region_held3 (fun W => W.cell? ⟨g2, 1, none⟩ = some (.slice A2 L.length c2)) (first | go_keep | exact keep_cell hb (by assumption)) (first
              | (go_at_call 60; refine kL.mono ?_; rintro e w4 ⟨rfl, rfl⟩; clear kL)
              | (go_at_call 37; refine (list_any HT.out.x).mono ?_; rintro e w5 ⟨A5, c5, rfl, ho5, hb⟩; rw [iv_len] at ho5; rw [iv_len]; replace HT := Lib.hid (HT.out.below hb))
              | (go_at_call 61; refine (rlist_any HT.out.y hLL).mono ?_; rintro e w6 ⟨A6, c6, rfl, ho6, hb⟩; rw [iv_len] at ho6; rw [iv_len]; replace HT := Lib.hid (HT.out.below hb); have kS := sameI_any A5 c5 A6 c6 (cntsL n L) w6 _ _ HZ.out ((Reads.of_own ho5).ext hb) (Reads.of_own ho6); clear ho5 ho6)
              | (go_at_call 33; refine kS.mono ?_; rintro e w7 ⟨rfl, hb⟩; replace HT := Lib.hid (HT.out.below hb); clear kS)
              | (go_at_call 39; refine (HZ2.out _ HT.out.x.nums).mono ?_; rintro e w8 ⟨rfl, hb⟩; rw [HS.out]; replace HT := Lib.hid (HT.out.below hb))
              | (go_at_call 62; refine (from_any a2 HT.out.x.nums).mono ?_; rintro e w9 ⟨A9, c9, rfl, ho9, hb⟩; rw [iv_len] at ho9; rw [iv_len]; replace HT := Lib.hid (HT.out.below hb))
              | (go_at_call 63; refine (rfrom_any HT.out.y hLL a2).mono ?_; rintro e w10 ⟨A10, c10, rfl, ho10, hb⟩; rw [iv_len] at ho10; rw [iv_len]; replace HT := Lib.hid (HT.out.below hb); have kS := sameI_any A9 c9 A10 c10 _ w10 _ _ HF.out ((Reads.of_own ho9).ext hb) (Reads.of_own ho10); clear ho9 ho10)
              | (go_at_call 32; refine (lives12 _).mono ?_; rintro e w11 ⟨rfl, hb⟩; replace HT := Lib.hid (HT.out.below hb)))
            all_goals
              have hbE := HT.out.b
              clear HT
              go_wp2
              go_ret
              exact ⟨rfl, hbE⟩
end Go.Proofs.Ytnebmkkaobedaaa
