/-
  Chapter 44: the reference's Squeeze, walked.
-/
import Derived.Test.YtcnalndhlonblaaSq2
import Derived.Test.YtcnalndhlonblaaSq7
import Derived.Deep.DeepCutAuto
namespace Go.Proofs.Ytcnalndhlonblaa
open Go.RowKit
attribute [local go_sem ↓] Go.wp_at_zero Go.wp_at_succ
theorem loneF_len : ∀ (f : Nat) (w : List UInt8), (loneF f w).length ≤ 2 * w.length
  | 0, _ => by simp [loneF]
  | f + 1, w => by
    unfold loneF
    by_cases hw : w = []
    · rw [if_pos hw]; simp
    · have hp := List.length_pos_iff.2 hw
      have ih := loneF_len f (w.drop 128)
      rw [if_neg hw, List.length_cons, List.length_append]
      rw [List.length_drop] at ih
      rw [List.length_take]
      omega
theorem lone_len (w : List UInt8) : (lone w).length ≤ 2 * w.length := loneF_len _ _
/-- the bytes of b from i to j -/
def mid (b : List UInt8) (i j : Nat) : List UInt8 := (b.drop i).take (j - i)
theorem mid_len (b : List UInt8) {i j : Nat} (h : j ≤ b.length) : (mid b i j).length = j - i := by unfold mid; rw [List.length_take, List.length_drop]; omega
theorem mid_nil (b : List UInt8) (i : Nat) : mid b i i = [] := by unfold mid; rw [Nat.sub_self]; rfl
theorem mid_more {b : List UInt8} {i j k : Nat} {y : UInt8} (h : i ≤ j) (hy : ∀ t, t < k → b[j + t]? = some y) : mid b i (j + k) = mid b i j ++ List.replicate k y := by
  unfold mid
  rw [show j + k - i = (j - i) + k by omega, List.take_add, List.drop_drop, show i + (j - i) = j by omega]
  congr 1
  apply List.ext_getElem?
  intro t
  rw [List.getElem?_take, List.getElem?_replicate]
  by_cases ht : t < k
  · rw [if_pos ht, if_pos ht, List.getElem?_drop, hy t ht]
  · rw [if_neg ht, if_neg ht]
theorem Reads.mid {w : World} {B : Nat} {A : Option Addr} {b : List UInt8} (h : Reads w B A (bv b)) {i j c : Nat} (hc : b.length ≤ c) : Reads w B (if c = i then A else A.map (·.add i)) (bv (mid b i j)) := by
  have := (h.drop (k := i) (cap := c) (by rw [bv_len]; exact hc)).take (j - i)
  rw [bv_drop, bv_take] at this
  exact this
set_option maxRecDepth 100000 in
set_option maxHeartbeats 4000000 in
theorem rsq_any (A : Option Addr) (c : Nat) (b : List UInt8) (hb6 : b.length ≤ 6000) (hbc : b.length ≤ c) (w : World) (hr : Reads w w.heap.size A (bv b)) :
    Calls Try.prog 48 #[.slice A b.length c] w (Gives 5 (bv (squeezeL b)) w) := by
  obtain ⟨i0, hi, hz0, hz1, hz2⟩ := info_parts Try.infoU44
  go_enter Try.func48, Try.ntmps48
  go_wp2_with fail
  refine (rruns_any A c b hb6 w hr).mono ?_
  rintro e w1 ⟨A1, c1, rfl, hown1, hb1⟩
  have HR1 := Lib.hid (Reads.of_own hown1)
  have HRA := Lib.hid ((hr.below hb1).more hb1.size)
  have HB1 := Lib.hid hb1
  obtain ⟨R, hR⟩ : ∃ R, R = (iv (kvS (restL b 0))).length := ⟨_, rfl⟩
  have hRl : R = (restL b 0).length := by rw [hR, iv_len, kvS_len]
  rw [← hR]
  have HRL := Lib.hid hRl
  obtain ⟨bl, hbl⟩ : ∃ bl, bl = b.length := ⟨_, rfl⟩
  have HBL := Lib.hid hbl
  rw [← hbl] at hb6 hbc ⊢
  have hR6 : R ≤ 6000 := by have := restL_len b b.length 0 (by omega); omega
  clear hr hown1 hb1 hR hRl hbl
  obtain ⟨S1, hS1⟩ : ∃ S1, S1 = w1.heap.size := ⟨_, rfl⟩
  have HS1 := Lib.hid hS1
  replace HR1 := Lib.hid (show Reads w1 S1 A1 (iv (kvS (restL b 0))) by rw [hS1]; exact HR1.out)
  clear hS1
  rcases A with _ | ad
  · have hb0 : b = [] := by
      rcases b with _ | ⟨x, l⟩
      · rfl
      · obtain ⟨ad, h, _⟩ := HRA.out.at_ (k := 0) (by simp [bv])
        cases h
    subst hb0
    have hbl0 : bl = 0 := HBL.out
    have hR0 : R = 0 := HRL.out
    subst hbl0 hR0
    have HSQ := Lib.hid (show squeezeL [] = [] from rfl)
    have HLN := Lib.hid (show ∀ c', Calls Try.prog 74 #[.slice none 0 c'] w1 (Gives 5 (bv (lone [])) w1) from fun c' => lone_any none c' [] (by simp) (by simp) w1 (Reads.nil_ _ _ _))
    have hS : S1 ≤ w1.heap.size := by have := HS1.out; omega
    go_wp2_with fail
    go_loopw [4, 5, 6, 7, 8, 9] (fun s4 s5 s6 s7 _ _ wr => (∃ (A2 : Option Addr) (m c2 : Nat), s4 = .slice A2 m c2 ∧ m ≤ 5 ∧ Hid (w1.ownsRow S1 5 1 (.slice A2 m c2) m (bv []))) ∧ s5 = .int .i64 0 ∧ s6 = .int .i64 0 ∧ s7 = .int .i64 0 ∧ wr = w1) (fun _ _ _ s7 _ _ _ => 0)
    case atStart => exact ⟨⟨none, 0, 0, rfl, by omega, Lib.hid (World.ownsRow_nil _ _ _ _)⟩, rfl, rfl, rfl, rfl⟩
    case round =>
      obtain ⟨⟨A2, m, c2, rfl, hm5, HO⟩, rfl, rfl, rfl, rfl⟩ := hrel
      go_wp2_with (first
        | (go_at_call 74; refine (HLN.out _).mono ?_; rintro e w5 ⟨A5, c5, rfl, hown5, hb5⟩; obtain ⟨M5, hM5⟩ : ∃ M5, M5 = (bv (lone [])).length := ⟨_, rfl⟩; rw [← hM5] at hown5 ⊢; have HR5 := Lib.hid (Reads.of_own hown5); have HB5 := Lib.hid (hb5); have HM5 := Lib.hid hM5; have hm51 : M5 ≤ 5 := (by rw [hM5]; decide); have HO5 := Lib.hid (own_keep HO.out hb5); clear hown5 hb5 hM5)
        | (at_builtin; refine wpList_append_to _ rfl (.tmp 54) (.tmp 59) _ rfl S1 5 i0 _ 1 Try.underlying43 hi hz0 hz1 hz2 rfl _ m (bv []) rfl HO5.out _ _ M5 _ (bv (lone [])) rfl HM5.out HR5.out (bv_one _) (by simp only [maxLen]; omega) (by omega) (by have := HB5.out.size; omega) ?_; intro A7 c7 w7 hown7 hg7 hb7 hl7; have HO7 := Lib.hid hown7; have HB7 := Lib.hid ((HB5.out.mono hS).trans hb7); clear hown7 hg7 hb7 hl7))
      go_ret
      have h9 := HO7.out
      rw [← bv_append, own_len h9] at h9
      refine ⟨A7, c7, ?_, own_mono h9 (by rw [HS1.out]; exact HB1.out.size), HB1.out.trans (HB7.out.mono (by rw [HS1.out]; exact HB1.out.size))⟩
      have := own_len HO7.out
      rw [← bv_append] at this
      rw [this]
      rfl
  have HRB := Lib.hid (show ∀ (i j : Nat) (W : World), Below S1 w1 W → Reads W S1 (if c = i then some ad else some (ad.add i)) (bv (mid b i j)) from fun i j W hW => by
    have := HRA.out.mid (i := i) (j := j) (c := c) (by have := HBL.out; omega)
    rw [← HS1.out] at this
    exact this.below hW)
  go_wp2_with fail
  go_loopw [4, 5, 6, 7, 8, 9] (fun s4 s5 s6 s7 _ _ wr => ∃ (pre : List (Nat × Nat)) (i at_ fr : Nat) (A2 : Option Addr) (m c2 : Nat) (o : List UInt8), s4 = .slice A2 m c2 ∧ s5 = .int .i64 (at_ : Int) ∧ s6 = .int .i64 (fr : Int) ∧ s7 = .int .i64 (i : Int) ∧
      Hid (i = pre.length) ∧ Hid (restL b 0 = pre ++ restL b at_) ∧ at_ ≤ bl ∧ fr ≤ at_ ∧ i ≤ 6000 ∧ Hid (sqL b pre = (o, mid b fr at_)) ∧ m + 2 * (at_ - fr) ≤ 2 * at_ ∧ Hid (wr.ownsRow S1 5 1 (.slice A2 m c2) m (bv o)) ∧ Hid (Below S1 w1 wr)) (fun _ _ _ s7 _ _ _ => R - (intOf s7).toNat)
  case atStart => exact ⟨[], 0, 0, 0, none, 0, 0, [], rfl, rfl, rfl, rfl, Lib.hid rfl, Lib.hid rfl, by omega, by omega, by omega, Lib.hid (by rw [mid_nil]; rfl), by omega, Lib.hid (World.ownsRow_nil _ _ _ _), Lib.hid (Below.refl _ _)⟩
  case round =>
    obtain ⟨pre, i, at_, fr, A2, m, c2, o, rfl, rfl, rfl, rfl, HI, HP, hat, hfr, hi6, HQ, hm, HO, HB⟩ := hrel
    have hbs := HB.out.size
    have key : (i < R ∧ at_ < bl) ∨ (i = R ∧ at_ = bl) := by
      have h1 := HRL.out
      have h2 := HI.out
      have h3 := HBL.out
      rw [HP.out, List.length_append] at h1
      by_cases h : at_ < bl
      · rw [restL_step (by omega), List.length_cons] at h1
        exact .inl ⟨by omega, h⟩
      · rw [restL_end (by omega)] at h1
        simp at h1
        exact .inr ⟨by omega, by omega⟩
    rcases key with ⟨hiR, hab⟩ | ⟨rfl, rfl⟩
    · have hab' : at_ < b.length := by rw [← HBL.out]; exact hab
      have HST := Lib.hid (restL_step hab')
      have hNfit := runN_fits hab'
      rw [← HBL.out] at hNfit
      have hNpos := runN_pos b at_
      obtain ⟨y, hy⟩ : ∃ y, y = b[at_]?.getD 0 := ⟨_, rfl⟩
      have HY := Lib.hid (show ∀ t, t < runN b at_ → b[at_ + t]? = some y from fun t ht => by
        rw [hy]
        by_cases h0 : t = 0
        · subst h0
          rw [Nat.add_zero, List.getElem?_eq_getElem hab']
          rfl
        · exact runN_in ht (by omega))
      have HSN := Lib.hid (show sqL b (pre ++ [(at_, runN b at_)]) = runT y (runN b at_) (o, mid b fr at_) by rw [sqL_snoc, HQ.out, hy])
      clear hy
      have hcell := (HR1.out.below HB.out).num (k := i) (by rw [kvS_len]; have := HRL.out; omega)
      obtain ⟨ad1, rfl, -, hcell⟩ := hcell
      have hval : (kvS (restL b 0))[i]? = some (runN b at_ : Int) := by
        unfold kvS
        rw [List.getElem?_map, HP.out, List.getElem?_append_right (by have := HI.out; omega), HST.out, show i - pre.length = 0 by have := HI.out; omega]
        rfl
      rw [(List.getElem_eq_iff _).2 hval] at hcell
      have HNN := Lib.hid (show ∃ N, N = runN b at_ from ⟨_, rfl⟩)
      generalize runN b at_ = N at *
      have i1 : (0 : Int) ≤ (i : Int) := by omega
      have i2 : (i : Int) < (R : Int) := by omega
      have HW := Lib.hid (show ∀ W, Below S1 w1 W → Reads W S1 (some ad) (bv b) from fun W hW => by have := HRA.out; rw [← HS1.out] at this; exact this.below hW)
      clear hval hab' HRA
      go_wp2_with fail
      go_loopw [4, 5, 6, 8, 9] (fun s4 s5 s6 s8 _ wx => ∃ (q at1 fr1 : Nat) (A3 : Option Addr) (m1 c3 : Nat) (o1 : List UInt8), s4 = .slice A3 m1 c3 ∧ s5 = .int .i64 (at1 : Int) ∧ s6 = .int .i64 (fr1 : Int) ∧ s8 = .int .i64 (q : Int) ∧
        at1 + q = at_ + N ∧ fr1 ≤ at1 ∧ at_ ≤ at1 ∧ Hid (runT y q (o1, mid b fr1 at1) = runT y N (o, mid b fr at_)) ∧ m1 + 2 * (at1 - fr1) ≤ 2 * at1 ∧ Hid (wx.ownsRow S1 5 1 (.slice A3 m1 c3) m1 (bv o1)) ∧ Hid (Below S1 w1 wx)) (fun _ _ _ s8 _ _ => (intOf s8).toNat)
      case atStart => exact ⟨N, at_, fr, A2, m, c2, o, rfl, rfl, rfl, rfl, rfl, hfr, Nat.le_refl _, Lib.hid rfl, hm, HO, HB⟩
      case round =>
        rename World => wx
        obtain ⟨q, at1, fr1, A3, m1, c3, o1, rfl, rfl, rfl, rfl, hq1, hfr1, hat1, HT, hm1, HO1, HBx⟩ := hrel
        have hbs1 := HBx.out.size
        by_cases hq : 2 < q
        · have h2i : (2 : Int) < (q : Int) := by omega
          have j1 : (0 : Int) ≤ (fr1 : Int) := by omega
          have j2 : (fr1 : Int) ≤ (at1 : Int) := by omega
          have j3 : (at1 : Int) ≤ (c : Int) := by omega
          have j4 : (at1 : Int) < (bl : Int) := by omega
          have j5 : (0 : Int) ≤ (at1 : Int) := by omega
          have HRM := Lib.hid (show Reads wx S1 (some (ad.add fr1)) (bv (mid b fr1 at1)) by have := HRB.out fr1 at1 wx HBx.out; rw [if_neg (by omega)] at this; exact this)
          have HML := Lib.hid (show (mid b fr1 at1).length = at1 - fr1 from mid_len b (by have := HBL.out; omega))
          have hs1 : S1 ≤ wx.heap.size := by have := HS1.out; omega
          have HLN := Lib.hid (show ∀ A' c' , at1 - fr1 ≤ c' → Reads wx S1 A' (bv (mid b fr1 at1)) → Calls Try.prog 74 #[.slice A' (at1 - fr1) c'] wx (Gives 5 (bv (lone (mid b fr1 at1))) wx) from fun A' c' hc' hR => by
            have := lone_any A' c' (mid b fr1 at1) (by rw [HML.out]; omega) (by rw [HML.out]; exact hc') wx (hR.more hs1)
            rw [HML.out] at this
            exact this)
          have hll := lone_len (mid b fr1 at1)
          rw [HML.out] at hll
          have HLL := Lib.hid hll
          clear hll
          go_upto_if 33 with (first
            | (go_at_call 74; refine (HLN.out _ _ (by omega) HRM.out).mono ?_; rintro e w5 ⟨A5, c5, rfl, hown5, hb5⟩; obtain ⟨M5, hM5⟩ : ∃ M5, M5 = (bv (lone (mid b fr1 at1))).length := ⟨_, rfl⟩; rw [← hM5] at hown5 ⊢; have HM5 := Lib.hid hM5; have HO5 := Lib.hid (own_keep HO1.out hb5); have HR5 := Lib.hid (Reads.of_own hown5); have HB5 := Lib.hid (HBx.out.trans (hb5.mono hs1)); have hm5 : M5 ≤ 2 * (at1 - fr1) := (by rw [hM5, bv_len]; exact HLL.out); clear hown5 hb5 hM5)
            | (at_builtin; refine wpList_append_to _ rfl (.tmp 24) (.tmp 29) _ rfl S1 5 i0 _ 1 Try.underlying43 hi hz0 hz1 hz2 rfl _ m1 (bv o1) rfl HO5.out _ _ M5 _ (bv (lone (mid b fr1 at1))) rfl HM5.out HR5.out (bv_one _) (by simp only [maxLen]; omega) (by omega) (by have := HB5.out.size; have := HS1.out; omega) ?_; intro A7 c7 w7 hown7 hg7 hb7 hl7; have HO7 := Lib.hid hown7; have HB7 := Lib.hid (HB5.out.trans hb7); clear hown7 hg7 hb7 hl7))
          go_cut [9] (fun s9 wy => w7 = wy ∧ ∃ k : Nat, s9 = .int .i64 (k : Int) ∧ 3 ≤ k ∧ k ≤ 130 ∧ k ≤ q ∧ Hid (k = min q 130))
          case first =>
            by_cases h130 : 130 < q
            · have d2 : decide (130 < (q : Int)) = true := decide_eq_true (by omega)
              go_wp2
              go_meet
              exact ⟨rfl, 130, rfl, by omega, by omega, by omega, Lib.hid (by omega)⟩
            · have d2 : decide (130 < (q : Int)) = false := decide_eq_false (by omega)
              go_wp2
              go_meet
              exact ⟨rfl, q, rfl, by omega, by omega, by omega, Lib.hid (by omega)⟩
          case rest =>
            obtain ⟨rfl, k, rfl, hk3, hk130, hkq, HK⟩ := hcut
            have hyc := (HW.out w7 HB7.out).byte (k := at1) (by have := HBL.out; omega)
            obtain ⟨ad', hA', -, hyc⟩ := hyc
            cases hA'
            have hyv : b[at1]? = some y := by
              have := HY.out (at1 - at_) (by omega)
              rw [show at_ + (at1 - at_) = at1 by omega] at this
              exact this
            rw [(List.getElem_eq_iff _).2 hyv] at hyc
            have hs7 : S1 ≤ w7.heap.size := by have := HB7.out.size; have := HS1.out; omega
            have hk0 : (3 : Int) ≤ (k : Int) := by omega
            have hk1 : (k : Int) ≤ 130 := by omega
            have HOa := Lib.hid (HO7.out.alloc (.cells #[.int .u8 ((k : Int) + 125), .int .u8 (y.toNat : Int)] 5))
            have HNa := Lib.hid (Reads.new w7 [Value.int .u8 ((k : Int) + 125), .int .u8 (y.toNat : Int)] 5 (0, 0))
            have HBa := Lib.hid (HB7.out.alloc hs7 (.cells #[.int .u8 ((k : Int) + 125), .int .u8 (y.toNat : Int)] 5))
            have hbd : S1 ≤ (w7.alloc (.cells #[.int .u8 ((k : Int) + 125), .int .u8 (y.toNat : Int)] 5)).heap.size := by simp; omega
            clear hyv
            go_wp2_with (at_builtin; refine wpList_append_to _ rfl (.tmp 34) (.tmp 42) _ rfl S1 5 i0 _ 1 Try.underlying43 hi hz0 hz1 hz2 rfl _ (m1 + M5) (bv o1 ++ bv (lone (mid b fr1 at1))) rfl HOa.out _ _ 2 2 [Value.int .u8 ((k : Int) + 125), .int .u8 (y.toNat : Int)] rfl rfl HNa.out (by simp [Value.oneCell']) (by simp only [maxLen]; omega) (by omega) hbd ?_; intro A9 c9 w9 hown9 hg9 hb9 hl9; have HO9 := Lib.hid hown9; have HB9 := Lib.hid (HBa.out.trans hb9); clear hown9 hg9 hb9 hl9)
            go_roundw
            case rel =>
              refine ⟨q - k, at1 + k, at1 + k, A9, m1 + M5 + 2, c9, o1 ++ lone (mid b fr1 at1) ++ [UInt8.ofNat (k + 125), y], rfl, by go_num, by go_num, by go_num, by omega, Nat.le_refl _, by omega, Lib.hid ?_, by omega, Lib.hid ?_, HB9⟩
              · rw [← HT.out, runT_long (s := (o1, mid b fr1 at1)) (by omega), ← HK.out, mid_nil]
              · have h9 := HO9.out
                rw [show bv o1 ++ bv (lone (mid b fr1 at1)) ++ [Value.int .u8 ((k : Int) + 125), .int .u8 (y.toNat : Int)] = bv (o1 ++ lone (mid b fr1 at1) ++ [UInt8.ofNat (k + 125), y]) by simp [bv]; omega] at h9
                exact h9
            case measure => simp [intOf]; omega
        · have h2i : ¬ (2 : Int) < (q : Int) := by omega
          have HRS := Lib.hid (runT_short (c := y) (n := q) (s := (o1, mid b fr1 at1)) (by omega))
          have HMM := Lib.hid (mid_more (b := b) (i := fr1) (j := at1) (k := q) (y := y) hfr1 (fun t ht => by
            have := HY.out (at1 - at_ + t) (by omega)
            rw [show at_ + (at1 - at_ + t) = at1 + t by omega] at this
            exact this))
          go_wp2
          go_roundw
          case rel =>
            refine ⟨pre ++ [(at_, N)], i + 1, at1 + q, fr1, A3, m1, c3, o1, rfl, by go_num, rfl, by go_num, Lib.hid (by rw [List.length_append, ← HI.out]; rfl), Lib.hid ?_, by omega, by omega, by omega, Lib.hid ?_, by omega, HO1, HBx⟩
            · rw [HP.out, HST.out, hq1, List.append_assoc]
              rfl
            · rw [HSN.out, ← HT.out, HRS.out, HMM.out]
          case measure => simp [intOf]; omega
    · have j1 : (0 : Int) ≤ (fr : Int) := by omega
      have j2 : (fr : Int) ≤ (at_ : Int) := by omega
      have j3 : (at_ : Int) ≤ (c : Int) := by omega
      have hsq : squeezeL b = o ++ lone (mid b fr at_) := by
        have hp : restL b 0 = pre := by rw [HP.out, restL_end (by have := HBL.out; omega), List.append_nil]
        unfold squeezeL
        rw [hp, HQ.out]
      have HSQ := Lib.hid hsq
      have HRM := Lib.hid (HRB.out fr at_ wr HB.out)
      have HML := Lib.hid (show (mid b fr at_).length = at_ - fr from mid_len b (by have := HBL.out; omega))
      have hs1 : S1 ≤ wr.heap.size := by have := HS1.out; omega
      have hll := lone_len (mid b fr at_)
      rw [HML.out] at hll
      have HLL := Lib.hid hll
      have HLN := Lib.hid (show ∀ A' c', at_ - fr ≤ c' → Reads wr S1 A' (bv (mid b fr at_)) → Calls Try.prog 74 #[.slice A' (at_ - fr) c'] wr (Gives 5 (bv (lone (mid b fr at_))) wr) from fun A' c' h1 h2 => by
        have := lone_any A' c' (mid b fr at_) (by rw [HML.out]; omega) (by rw [HML.out]; exact h1) wr (h2.more hs1)
        rw [HML.out] at this
        exact this)
      clear hll hsq
      rcases (show c = fr ∨ c ≠ fr by omega) with hcf | hcf
      · have HRX := Lib.hid (show Reads wr S1 (some ad) (bv (mid b fr at_)) by have := HRM.out; rw [if_pos hcf] at this; exact this)
        subst hcf
        have HLX := HLN.out (some ad) 0 (by omega) HRX.out
        rw [show at_ - c = 0 by omega] at HLX
        replace HLX := Lib.hid HLX
        go_wp2_with (first
          | (go_at_call 74; refine HLX.out.mono ?_; rintro e w5 ⟨A5, c5, rfl, hown5, hb5⟩; obtain ⟨M5, hM5⟩ : ∃ M5, M5 = (bv (lone (mid b c at_))).length := ⟨_, rfl⟩; rw [← hM5] at hown5 ⊢; have HM5 := Lib.hid hM5; have HO5 := Lib.hid (own_keep HO.out hb5); have HR5 := Lib.hid (Reads.of_own hown5); have HB5 := Lib.hid (HB.out.trans (hb5.mono hs1)); have hm5 : M5 ≤ 2 * (at_ - c) := (by rw [hM5, bv_len]; exact HLL.out); clear hown5 hb5 hM5)
          | (at_builtin; refine wpList_append_to _ rfl (.tmp 54) (.tmp 59) _ rfl S1 5 i0 _ 1 Try.underlying43 hi hz0 hz1 hz2 rfl _ m (bv o) rfl HO5.out _ _ M5 _ (bv (lone (mid b c at_))) rfl HM5.out HR5.out (bv_one _) (by simp only [maxLen]; omega) (by omega) (by have := HB5.out.size; have := HS1.out; omega) ?_; intro A7 c7 w7 hown7 hg7 hb7 hl7; have HO7 := Lib.hid hown7; have HB7 := Lib.hid (HB5.out.trans hb7); clear hown7 hg7 hb7 hl7))
        go_ret
        have h9 := HO7.out
        rw [← bv_append, ← HSQ.out, own_len h9] at h9
        refine ⟨A7, c7, ?_, own_mono h9 (by rw [HS1.out]; exact HB1.out.size), HB1.out.trans (HB7.out.mono (by rw [HS1.out]; exact HB1.out.size))⟩
        have := own_len HO7.out
        rw [← bv_append, ← HSQ.out] at this
        rw [← this]
        rfl
      · have HRX := Lib.hid (show Reads wr S1 (some (ad.add fr)) (bv (mid b fr at_)) by have := HRM.out; rw [if_neg hcf] at this; exact this)
        have HLX := Lib.hid (HLN.out (some (ad.add fr)) (c - fr) (by omega) HRX.out)
        go_wp2_with (first
          | (go_at_call 74; refine HLX.out.mono ?_; rintro e w5 ⟨A5, c5, rfl, hown5, hb5⟩; obtain ⟨M5, hM5⟩ : ∃ M5, M5 = (bv (lone (mid b fr at_))).length := ⟨_, rfl⟩; rw [← hM5] at hown5 ⊢; have HM5 := Lib.hid hM5; have HO5 := Lib.hid (own_keep HO.out hb5); have HR5 := Lib.hid (Reads.of_own hown5); have HB5 := Lib.hid (HB.out.trans (hb5.mono hs1)); have hm5 : M5 ≤ 2 * (at_ - fr) := (by rw [hM5, bv_len]; exact HLL.out); clear hown5 hb5 hM5)
          | (at_builtin; refine wpList_append_to _ rfl (.tmp 54) (.tmp 59) _ rfl S1 5 i0 _ 1 Try.underlying43 hi hz0 hz1 hz2 rfl _ m (bv o) rfl HO5.out _ _ M5 _ (bv (lone (mid b fr at_))) rfl HM5.out HR5.out (bv_one _) (by simp only [maxLen]; omega) (by omega) (by have := HB5.out.size; have := HS1.out; omega) ?_; intro A7 c7 w7 hown7 hg7 hb7 hl7; have HO7 := Lib.hid hown7; have HB7 := Lib.hid (HB5.out.trans hb7); clear hown7 hg7 hb7 hl7))
        go_ret
        have h9 := HO7.out
        rw [← bv_append, ← HSQ.out, own_len h9] at h9
        refine ⟨A7, c7, ?_, own_mono h9 (by rw [HS1.out]; exact HB1.out.size), HB1.out.trans (HB7.out.mono (by rw [HS1.out]; exact HB1.out.size))⟩
        have := own_len HO7.out
        rw [← bv_append, ← HSQ.out] at this
        rw [← this]
        rfl
end Go.Proofs.Ytcnalndhlonblaa
