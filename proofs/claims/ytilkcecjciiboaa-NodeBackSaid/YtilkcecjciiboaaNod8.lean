/-
  Chapter 7: node.Same and the reference's Same, walked.
-/
import Derived.Test.YtilkcecjciiboaaNod1
import Derived.Test.YtilkcecjciiboaaNod5
namespace Go.Proofs.Ytilkcecjciiboaa
open Go.RowKit
def sameN (a b : NodeL) : Bool := decide (a.t = b.t ∧ a.leaf = b.leaf ∧ a.keys = b.keys ∧ a.vals = b.vals)
theorem sameN_self (a : NodeL) : sameN a a = true := decide_eq_true ⟨rfl, rfl, rfl, rfl⟩
theorem two_boxes {w : World} {a b : NodeL} {A : Option Addr} {c : Nat} {A2 : Option Addr} {c2 : Nat} {B : Option Addr} {d : Nat} {B2 : Option Addr} {d2 : Nat} (h : NodR w w.heap.size a A c A2 c2) (h2 : NodR w w.heap.size b B d B2 d2) (w2 : World)
    (hw : w2 = (w.alloc (.cells (nodV a A c A2 c2) 31)).alloc (.cells (nodV b B d B2 d2) 31)) :
    NodBox w2 w.heap.size w.heap.size a A c A2 c2 ∧ NodBox w2 w.heap.size (w.heap.size + 1) b B d B2 d2 ∧ Below w.heap.size w w2 ∧ w2.heap.size = w.heap.size + 2 := by
  have e1 := NodBox.new h
  have hs : (w.alloc (.cells (nodV a A c A2 c2) 31)).heap.size = w.heap.size + 1 := by simp
  have e2 : NodR (w.alloc (.cells (nodV a A c A2 c2) 31)) (w.alloc (.cells (nodV a A c A2 c2) 31)).heap.size b B d B2 d2 := h2.ext (below_alloc1 w _)
  have e3 := NodBox.new e2
  rw [hw]
  refine ⟨e1.ext (by omega) (by omega) (below_alloc1 _ _), ?_, below_then (below_alloc1 w _) (below_alloc1 _ _), by simp⟩
  rw [hs] at e3
  exact ⟨e3.q0, e3.q1, e3.q2, e3.q3, h2.below (below_then (below_alloc1 w _) (below_alloc1 _ _))⟩
set_option maxHeartbeats 4000000 in
theorem same_node {w : World} {a b : NodeL} {A : Option Addr} {c : Nat} {A2 : Option Addr} {c2 : Nat} {B : Option Addr} {d : Nat} {B2 : Option Addr} {d2 : Nat} (h : NodR w w.heap.size a A c A2 c2) (h2 : NodR w w.heap.size b B d B2 d2)
    (k1 : a.keys.length ≤ 1000000) (v1 : a.vals.length ≤ 1000000) (k2 : b.keys.length ≤ 1000000) (v2 : b.vals.length ≤ 1000000) :
    Calls Try.prog 38 #[.agg #[.int .i64 a.t, .bool a.leaf, .slice A a.keys.length c, .slice A2 a.vals.length c2], .agg #[.int .i64 b.t, .bool b.leaf, .slice B b.keys.length d, .slice B2 b.vals.length d2]] w fun e w' => e = .returned (.bool (sameN a b)) ∧ Below w.heap.size w w' := by
  obtain ⟨w2, hw2⟩ : ∃ w2, w2 = (w.alloc (.cells (nodV a A c A2 c2) 31)).alloc (.cells (nodV b B d B2 d2) 31) := ⟨_, rfl⟩
  obtain ⟨hx, hy, hb2, hs2⟩ := two_boxes h h2 w2 hw2
  have HB2 := Lib.hid hb2
  have HX := Lib.hid (fun (V : World) (hb : Below w2.heap.size w2 V) => (hx.ext (by omega) (by omega) hb))
  have HY := Lib.hid (fun (V : World) (hb : Below w2.heap.size w2 V) => (hy.ext (by omega) (by omega) hb))
  have KI := Lib.hid (fun (V : World) (hb : Below w2.heap.size w2 V) => equali_any A c B d a.keys b.keys V _ _ k1 k2 (HX.out V hb).nr.ky (HY.out V hb).nr.ky)
  have KS := Lib.hid (fun (V : World) (hb : Below w2.heap.size w2 V) => equals_any A2 c2 B2 d2 a.vals b.vals V _ _ v1 v2 (HX.out V hb).nr.vl (HY.out V hb).nr.vl)
  have HXQ := Lib.hid (fun (V : World) (hb : Below w2.heap.size w2 V) => And.intro (HX.out V hb).q2 (And.intro (HX.out V hb).q3 (And.intro (HY.out V hb).q2 (HY.out V hb).q3)))
  obtain ⟨p0, p1, p2, p3, -⟩ := hx
  obtain ⟨r0, r1, r2, r3, -⟩ := hy
  have HS := Lib.hid (show sameN a b = decide (a.t = b.t ∧ a.leaf = b.leaf ∧ a.keys = b.keys ∧ a.vals = b.vals) from rfl)
  go_enter Try.func38, Try.ntmps38
  go_upto_region 1 with fail
  rw [show (w.alloc (.cells #[.int .i64 a.t, .bool a.leaf, .slice A a.keys.length c, .slice A2 a.vals.length c2] 31)).alloc (.cells #[.int .i64 b.t, .bool b.leaf, .slice B b.keys.length d, .slice B2 b.vals.length d2] 31) = w2 from hw2.symm]
  clear hw2 h h2 hs2 hb2 HX HY
  generalize a.t = t at *
  generalize b.t = t' at *
  generalize a.leaf = lf at *
  generalize b.leaf = lf' at *
  generalize a.keys.length = an at *
  generalize a.vals.length = av at *
  generalize b.keys.length = bn at *
  generalize b.vals.length = bw at *
  by_cases ht : t = t'
  case neg =>
    have hf : sameN a b = false := by rw [HS.out]; exact decide_eq_false fun h => ht h.1
    have HF := Lib.hid hf
    have d0 : (t == t') = false := by rw [beq_eq_false_iff_ne]; exact ht
    clear hf ht
    go_wp2
    go_ret
    exact ⟨by rw [HF.out]; rfl, HB2.out⟩
  subst ht
  by_cases hl : lf = lf'
  case neg =>
    have hf : sameN a b = false := by rw [HS.out]; exact decide_eq_false fun h => hl h.2.1
    have HF := Lib.hid hf
    have d0 : (lf == lf') = false := by rw [beq_eq_false_iff_ne]; exact hl
    clear hf hl
    go_wp2
    go_ret
    exact ⟨by rw [HF.out]; rfl, HB2.out⟩
  subst hl
  have K1 := KI.out w2 (Below.refl _ _)
  by_cases hk : a.keys = b.keys
  case neg =>
    have hf : sameN a b = false := by rw [HS.out]; exact decide_eq_false fun h => hk h.2.2.1
    have HF := Lib.hid hf
    rw [decide_eq_false hk] at K1
    clear hf hk
    go_wp2_with fail
    refine K1.mono ?_
    rintro e w3 ⟨rfl, hb⟩
    have hB := below_then HB2.out hb
    clear hb K1
    go_wp2
    go_ret
    exact ⟨by rw [HF.out]; rfl, hB⟩
  rw [decide_eq_true hk] at K1
  have hf : sameN a b = decide (a.vals = b.vals) := by
    rw [HS.out]
    by_cases hv : a.vals = b.vals
    · rw [decide_eq_true hv]; exact decide_eq_true ⟨rfl, rfl, hk, hv⟩
    · rw [decide_eq_false hv]; exact decide_eq_false fun h => hv h.2.2.2
  have HF := Lib.hid hf
  clear hf hk
  generalize decide (a.vals = b.vals) = sv' at *
  go_wp2_with fail
  refine K1.mono ?_
  rintro e w3 ⟨rfl, hb⟩
  have K2 := KS.out w3 hb
  obtain ⟨-, e1, -, e2⟩ := HXQ.out w3 hb
  have HB := Lib.hid (below_then HB2.out hb)
  clear hb K1 p2 p3 r2 r3
  go_wp2_with fail
  refine K2.mono ?_
  rintro e w4 ⟨rfl, hb⟩
  have hB := below_then HB.out hb
  clear hb K2
  go_wp2
  go_ret
  exact ⟨by rw [HF.out]; rfl, hB⟩
set_option maxRecDepth 100000 in
set_option maxHeartbeats 4000000 in
theorem rsame_node {w : World} {a b : NodeL} {A : Option Addr} {c : Nat} {A2 : Option Addr} {c2 : Nat} {B : Option Addr} {d : Nat} {B2 : Option Addr} {d2 : Nat} (h : NodR w w.heap.size a A c A2 c2) (h2 : NodR w w.heap.size b B d B2 d2)
    (k1 : a.keys.length ≤ 1000000) (v1 : a.vals.length ≤ 1000000) (k2 : b.keys.length ≤ 1000000) (v2 : b.vals.length ≤ 1000000) :
    Calls Try.prog 39 #[.agg #[.int .i64 a.t, .bool a.leaf, .slice A a.keys.length c, .slice A2 a.vals.length c2], .agg #[.int .i64 b.t, .bool b.leaf, .slice B b.keys.length d, .slice B2 b.vals.length d2]] w fun e w' => e = .returned (.bool (sameN a b)) ∧ Below w.heap.size w w' := by
  obtain ⟨w2, hw2⟩ : ∃ w2, w2 = (w.alloc (.cells (nodV a A c A2 c2) 31)).alloc (.cells (nodV b B d B2 d2) 31) := ⟨_, rfl⟩
  obtain ⟨hx, hy, hb2, hs2⟩ := two_boxes h h2 w2 hw2
  have HB2 := Lib.hid hb2
  have HXK := Lib.hid (fun m => And.intro (hx.nr.ky.drewN m) (hy.nr.ky.drewN m))
  have HXV := Lib.hid (fun m => And.intro (hx.nr.vl.drewN m) (hy.nr.vl.drewN m))
  obtain ⟨p0, p1, p2, p3, -⟩ := hx
  obtain ⟨r0, r1, r2, r3, -⟩ := hy
  have HS := Lib.hid (show sameN a b = decide (a.t = b.t ∧ a.leaf = b.leaf ∧ a.keys = b.keys ∧ a.vals = b.vals) from rfl)
  have HKA := Lib.hid (show a.keys.length = a.keys.length from rfl)
  go_enter Try.func39, Try.ntmps39
  go_upto_region 1 with fail
  rw [show (w.alloc (.cells #[.int .i64 a.t, .bool a.leaf, .slice A a.keys.length c, .slice A2 a.vals.length c2] 31)).alloc (.cells #[.int .i64 b.t, .bool b.leaf, .slice B b.keys.length d, .slice B2 b.vals.length d2] 31) = w2 from hw2.symm]
  clear hw2 h h2 hs2 hb2
  generalize a.t = t at *
  generalize b.t = t' at *
  generalize a.leaf = lf at *
  generalize b.leaf = lf' at *
  obtain ⟨an, han⟩ : ∃ x, x = a.keys.length := ⟨_, rfl⟩
  obtain ⟨av, hav⟩ : ∃ x, x = a.vals.length := ⟨_, rfl⟩
  obtain ⟨bn, hbn⟩ : ∃ x, x = b.keys.length := ⟨_, rfl⟩
  obtain ⟨bw, hbw⟩ : ∃ x, x = b.vals.length := ⟨_, rfl⟩
  rw [← han] at p2 k1 ⊢
  rw [← hav] at p3 v1 ⊢
  rw [← hbn] at r2 k2 ⊢
  rw [← hbw] at r3 v2 ⊢
  have HAN := Lib.hid han
  have HAV := Lib.hid hav
  have HBN := Lib.hid hbn
  have HBW := Lib.hid hbw
  clear han hav hbn hbw HKA
  by_cases ht : t = t'
  case neg =>
    have hf : sameN a b = false := by rw [HS.out]; exact decide_eq_false fun h => ht h.1
    have HF := Lib.hid hf
    have d0 : (t != t') = true := by rw [bne_iff_ne]; exact ht
    clear hf ht
    go_wp2
    go_ret
    exact ⟨by rw [HF.out]; rfl, HB2.out⟩
  subst ht
  by_cases hl : lf = lf'
  case neg =>
    have hf : sameN a b = false := by rw [HS.out]; exact decide_eq_false fun h => hl h.2.1
    have HF := Lib.hid hf
    clear hf
    cases lf <;> cases lf'
    case false.false => exact absurd rfl hl
    case true.true => exact absurd rfl hl
    all_goals
      clear hl
      go_wp2
      go_ret
      exact ⟨by rw [HF.out]; rfl, HB2.out⟩
  subst hl
  by_cases hkl : an = bn
  case neg =>
    have hf : sameN a b = false := by rw [HS.out]; exact decide_eq_false fun h => hkl (by rw [HAN.out, HBN.out, h.2.2.1])
    have HF := Lib.hid hf
    have d0 : ((an : Int) != (bn : Int)) = true := by rw [bne_iff_ne]; omega
    clear hf hkl
    go_wp2
    go_ret
    exact ⟨by rw [HF.out]; rfl, HB2.out⟩
  subst hkl
  by_cases hvl : av = bw
  case neg =>
    have hf : sameN a b = false := by rw [HS.out]; exact decide_eq_false fun h => hvl (by rw [HAV.out, HBW.out, h.2.2.2])
    have HF := Lib.hid hf
    have d0 : ((av : Int) != (bw : Int)) = true := by rw [bne_iff_ne]; omega
    clear hf hvl
    go_wp2
    go_ret
    exact ⟨by rw [HF.out]; rfl, HB2.out⟩
  subst hvl
  go_wp2_with fail
  go_loopw [5] (fun s5 wr => ∃ k m : Nat, k ≤ an ∧ s5 = .int .i64 k ∧ Hid (wr = w2.drewN m) ∧ Hid (∀ j, j < k → a.keys[j]? = b.keys[j]?)) (fun s5 _ => an - (intOf s5).toNat)
  case atStart => exact ⟨0, 0, by omega, rfl, Lib.hid rfl, Lib.hid (fun j hj => absurd hj (by omega))⟩
  case round =>
    obtain ⟨k, m, hk, rfl, HW, HZ⟩ := hrel
    have e2 : wr.cell? ⟨w.heap.size, 2, none⟩ = some (.slice A an c) := by rw [HW.out]; exact p2
    have e2' : wr.cell? ⟨w.heap.size + 1, 2, none⟩ = some (.slice B an d) := by rw [HW.out]; exact r2
    by_cases hlt : k < an
    · obtain ⟨ad, rfl, _, hc⟩ := (HXK.out m).1.num (show k < a.keys.length by rw [← HAN.out]; exact hlt)
      obtain ⟨ad2, rfl, _, hc2⟩ := (HXK.out m).2.num (show k < b.keys.length by rw [← HBN.out]; exact hlt)
      rw [← HW.out] at hc hc2
      have g1 := List.getElem?_eq_getElem (show k < a.keys.length by rw [← HAN.out]; exact hlt)
      have g2 := List.getElem?_eq_getElem (show k < b.keys.length by rw [← HBN.out]; exact hlt)
      have hlt' : (k : Int) < (an : Int) := by omega
      have HG := Lib.hid (And.intro g1 g2)
      clear g1 g2
      have HNE := Lib.hid (fun (hab : a.keys[k]'(by rw [← HAN.out]; exact hlt) ≠ b.keys[k]'(by rw [← HBN.out]; exact hlt)) => (show sameN a b = false from by
        rw [HS.out]
        refine decide_eq_false fun h => hab ?_
        have e : a.keys[k]? = b.keys[k]? := by rw [h.2.2.1]
        rw [HG.out.1, HG.out.2] at e
        injection e))
      have HXY := Lib.hid (fun (hab : a.keys[k]'(by rw [← HAN.out]; exact hlt) = b.keys[k]'(by rw [← HBN.out]; exact hlt)) => (show a.keys[k]? = b.keys[k]? by rw [HG.out.1, HG.out.2, hab]))
      clear HG
      generalize a.keys[k]'(by rw [← HAN.out]; exact hlt) = x at *
      generalize b.keys[k]'(by rw [← HBN.out]; exact hlt) = y at *
      by_cases hab : x = y
      · have HS2 := Lib.hid (fun j (hj : j < k + 1) => (show a.keys[j]? = b.keys[j]? by
          rcases Nat.lt_or_ge j k with h1 | h1
          · exact HZ.out j h1
          · obtain rfl : j = k := by omega
            exact HXY.out hab))
        rw [← hab] at hc2
        have d1 : (x != x) = false := by simp
        clear hab HNE HXY HXK HXV HZ
        go_wp2_with fail
        go_quiet (fail)
        go_wp2
        go_roundw
        case rel => exact ⟨k + 1, _, by omega, by go_num, Lib.hid (by rw [HW.out, World.drewN_drewN]), HS2⟩
        case measure => simp [intOf]; omega
      · have d1 : (x != y) = true := by simpa using hab
        have HF := Lib.hid (HNE.out hab)
        clear hab HNE HXY HXK HXV HZ
        go_wp2_with fail
        go_quiet (fail)
        go_wp2
        go_ret
        exact ⟨by rw [HF.out]; rfl, by rw [HW.out, World.drewN_drewN]; exact below_drewM HB2.out _⟩
    · obtain rfl : k = an := by omega
      have hke : a.keys = b.keys := eq_of_stepsN (by rw [← HAN.out, ← HBN.out]) (fun j hj => HZ.out j (by rw [HAN.out]; exact hj))
      have HKE := Lib.hid hke
      clear hke HZ
      go_wp2_with fail
      go_loopw [6] (fun s6 wr => ∃ k m : Nat, k ≤ av ∧ s6 = .int .i64 k ∧ Hid (wr = w2.drewN m) ∧ Hid (∀ j, j < k → a.vals[j]? = b.vals[j]?)) (fun s6 _ => av - (intOf s6).toNat)
      case atStart => exact ⟨0, m, by omega, rfl, HW, Lib.hid (fun j hj => absurd hj (by omega))⟩
      case round =>
        obtain ⟨k, m, hk, rfl, HW, HZ⟩ := hrel
        have e3 : wr.cell? ⟨w.heap.size, 3, none⟩ = some (.slice A2 av c2) := by rw [HW.out]; exact p3
        have e3' : wr.cell? ⟨w.heap.size + 1, 3, none⟩ = some (.slice B2 av d2) := by rw [HW.out]; exact r3
        by_cases hlt : k < av
        · obtain ⟨ad, rfl, _, hc⟩ := (HXV.out m).1.at_ (k := k) (by rw [sv_len, ← HAV.out]; exact hlt)
          obtain ⟨ad2, rfl, _, hc2⟩ := (HXV.out m).2.at_ (k := k) (by rw [sv_len, ← HBW.out]; exact hlt)
          have l1 : k < a.vals.length := by rw [← HAV.out]; exact hlt
          have l2 : k < b.vals.length := by rw [← HBW.out]; exact hlt
          have s1 : (sv a.vals)[k]'(by rw [sv_len]; exact l1) = .string ⟨(a.vals[k]'l1).toArray⟩ := by simp [sv]
          have s2 : (sv b.vals)[k]'(by rw [sv_len]; exact l2) = .string ⟨(b.vals[k]'l2).toArray⟩ := by simp [sv]
          rw [s1, ← HW.out] at hc
          rw [s2, ← HW.out] at hc2
          have g1 := List.getElem?_eq_getElem l1
          have g2 := List.getElem?_eq_getElem l2
          have hlt' : (k : Int) < (av : Int) := by omega
          have HG := Lib.hid (And.intro g1 g2)
          clear g1 g2 s1 s2
          have HNE := Lib.hid (fun (hab : a.vals[k]'l1 ≠ b.vals[k]'l2) => (show sameN a b = false from by
            rw [HS.out]
            refine decide_eq_false fun h => hab ?_
            have e : a.vals[k]? = b.vals[k]? := by rw [h.2.2.2]
            rw [HG.out.1, HG.out.2] at e
            injection e))
          have HXY := Lib.hid (fun (hab : a.vals[k]'l1 = b.vals[k]'l2) => (show a.vals[k]? = b.vals[k]? by rw [HG.out.1, HG.out.2, hab]))
          clear HG
          generalize a.vals[k]'l1 = x at *
          generalize b.vals[k]'l2 = y at *
          clear l1 l2
          by_cases hab : x = y
          · have HS2 := Lib.hid (fun j (hj : j < k + 1) => (show a.vals[j]? = b.vals[j]? by
              rcases Nat.lt_or_ge j k with h1 | h1
              · exact HZ.out j h1
              · obtain rfl : j = k := by omega
                exact HXY.out hab))
            rw [← hab] at hc2
            clear hab HNE HXY HXK HXV HZ
            go_wp2_with fail
            go_quiet (fail)
            go_wp2
            go_roundw
            case rel => exact ⟨k + 1, _, by omega, by go_num, Lib.hid (by rw [HW.out, World.drewN_drewN]), HS2⟩
            case measure => simp [intOf]; omega
          · have d1 : (x == y) = false := by rw [beq_eq_false_iff_ne]; exact hab
            have HF := Lib.hid (HNE.out hab)
            clear hab HNE HXY HXK HXV HZ
            go_wp2_with fail
            go_quiet (fail)
            go_wp2
            go_ret
            exact ⟨by rw [HF.out]; rfl, by rw [HW.out, World.drewN_drewN]; exact below_drewM HB2.out _⟩
        · obtain rfl : k = av := by omega
          have hve : a.vals = b.vals := eq_of_stepsN (by rw [← HAV.out, ← HBW.out]) (fun j hj => HZ.out j (by rw [HAV.out]; exact hj))
          have HF := Lib.hid (show sameN a b = true by rw [HS.out]; exact decide_eq_true (by refine ⟨?_, ?_, HKE.out, hve⟩ <;> trivial))
          clear hve HZ
          go_wp2
          go_ret
          exact ⟨by rw [HF.out]; rfl, by rw [HW.out]; exact below_drewM HB2.out m⟩
end Go.Proofs.Ytilkcecjciiboaa
