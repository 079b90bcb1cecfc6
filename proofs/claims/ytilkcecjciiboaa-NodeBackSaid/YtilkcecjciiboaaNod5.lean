/-
  Chapter 7: slices.Equal at ints and at strings.
-/
import Derived.Test.YtilkcecjciiboaaBase6
import Derived.Test.YtilkcecjciiboaaSame
import Derived.Test.YtilkcecjciiboaaNodP
import Derived.BigQuiet
import Derived.Deep.QuietTactic
import Derived.Deep.DeepCutAuto
namespace Go.Proofs.Ytilkcecjciiboaa
open Go.RowKit
theorem eq_of_stepsN {α : Type} {x y : List α} (hl : x.length = y.length) (h : ∀ j, j < x.length → x[j]? = y[j]?) : x = y := by
  apply List.ext_getElem?
  intro j
  rcases Nat.lt_or_ge j x.length with h1 | h1
  · exact h j h1
  · rw [List.getElem?_eq_none h1, List.getElem?_eq_none (by omega)]
set_option maxHeartbeats 1000000 in
theorem equali_any (A : Option Addr) (c : Nat) (A2 : Option Addr) (c2 : Nat) (x y : List Int) (w : World) (B B2 : Nat) (hm : x.length ≤ 1000000) (hm2 : y.length ≤ 1000000) (h : Reads w B A (iv x)) (h2 : Reads w B2 A2 (iv y)) :
    Calls Try.prog 68 #[.slice A x.length c, .slice A2 y.length c2] w fun e w' => e = .returned (.bool (decide (x = y))) ∧ Below w.heap.size w w' := by
  by_cases hl : x.length = y.length
  · have HEQ := Lib.hid (fun h => decide_eq_true (eq_of_stepsN hl h))
    have HNE := Lib.hid (fun (j : Nat) (a b : Int) (ha : x[j]? = some a) (hb : y[j]? = some b) (hab : a ≠ b) => (show decide (x = y) = false from decide_eq_false fun e => by subst e; rw [ha] at hb; injection hb with hb; exact hab hb))
    generalize decide (x = y) = q at *
    rw [← hl]
    have hl2 := hl
    clear hl
    go_enter Try.func68, Try.ntmps68
    go_wp2_with fail
    go_loopw [13] (fun i wr => ∃ k m : Nat, k ≤ x.length ∧ i = .int .i64 k ∧ wr = w.drewN m ∧ ∀ j, j < k → x[j]? = y[j]?) (fun i _ => x.length - (intOf i).toNat)
    case atStart => exact ⟨0, 0, by omega, rfl, rfl, fun j hj => absurd hj (by omega)⟩
    case round =>
      obtain ⟨k, m, hk, rfl, hwr, hz⟩ := hrel
      have HWR := Lib.hid hwr
      have HZ := Lib.hid hz
      clear hz
      by_cases hlt : k < x.length
      · obtain ⟨ad, rfl, _, hc⟩ := (h.drewN m).num hlt
        obtain ⟨ad2, rfl, _, hc2⟩ := (h2.drewN m).num (show k < y.length by omega)
        rw [← hwr] at hc hc2
        have g1 := List.getElem?_eq_getElem hlt
        have g2 := List.getElem?_eq_getElem (show k < y.length by omega)
        have hbk : (0 : Int) ≤ (k : Int) := by omega
        have hlt' : (k : Int) < (x.length : Int) := by omega
        have HG := Lib.hid (And.intro g1 g2)
        clear hwr g1 g2
        have HNE2 := Lib.hid (HNE.out k _ _ HG.out.1 HG.out.2)
        have HXY := Lib.hid (fun (hab : x[k] = y[k]) => (show x[k]? = y[k]? by rw [HG.out.1, HG.out.2, hab]))
        clear HG
        generalize x[k] = a at *
        generalize y[k] = b at *
        by_cases hab : a = b
        · have HS := Lib.hid (fun j (hj : j < k + 1) => (show x[j]? = y[j]? by
            rcases Nat.lt_or_ge j k with h1 | h1
            · exact HZ.out j h1
            · obtain rfl : j = k := by omega
              exact HXY.out hab))
          rw [← hab] at hc2
          have d1 : (a != a) = false := by simp
          clear hab HNE2 HXY
          go_wp2_with fail
          go_quiet (fail)
          go_wp2
          go_roundw
          case rel => exact ⟨k + 1, _, by omega, by go_num, by rw [HWR.out, World.drewN_drewN], HS.out⟩
          case measure => simp [intOf]; omega
        · have d1 : (a != b) = true := by simpa using hab
          have HF := Lib.hid (HNE2.out hab)
          clear hab HNE2 HXY
          go_wp2_with fail
          go_quiet (fail)
          go_wp2
          go_ret
          exact ⟨by rw [HF.out]; rfl, by rw [HWR.out, World.drewN_drewN]; exact below_drewM (Below.refl _ _) _⟩
      · obtain rfl : k = x.length := by omega
        have HT := Lib.hid (HEQ.out HZ.out)
        clear hwr
        go_wp2
        go_ret
        exact ⟨by rw [HT.out]; rfl, by rw [HWR.out]; exact below_drewM (Below.refl _ _) m⟩
  · have hf : decide (x = y) = false := decide_eq_false fun e => hl (by rw [e])
    rw [hf]
    have d1 : ((x.length : Int) != (y.length : Int)) = true := by simp; omega
    clear hf hl
    go_enter Try.func68, Try.ntmps68
    go_wp2
    go_ret
    exact ⟨rfl, Below.refl _ _⟩
theorem str_ne {a b : List UInt8} (h : a ≠ b) : (ByteArray.mk a.toArray) ≠ ByteArray.mk b.toArray := fun e => h (by
  have := congrArg (fun (x : ByteArray) => x.data.toList) e
  simpa using this)
set_option maxHeartbeats 1000000 in
theorem equals_any (A : Option Addr) (c : Nat) (A2 : Option Addr) (c2 : Nat) (x y : List (List UInt8)) (w : World) (B B2 : Nat) (hm : x.length ≤ 1000000) (hm2 : y.length ≤ 1000000) (h : Reads w B A (sv x)) (h2 : Reads w B2 A2 (sv y)) :
    Calls Try.prog 69 #[.slice A x.length c, .slice A2 y.length c2] w fun e w' => e = .returned (.bool (decide (x = y))) ∧ Below w.heap.size w w' := by
  by_cases hl : x.length = y.length
  · have HEQ := Lib.hid (fun h => decide_eq_true (eq_of_stepsN hl h))
    have HNE := Lib.hid (fun (j : Nat) (a b : List UInt8) (ha : x[j]? = some a) (hb : y[j]? = some b) (hab : a ≠ b) => (show decide (x = y) = false from decide_eq_false fun e => by subst e; rw [ha] at hb; injection hb with hb; exact hab hb))
    generalize decide (x = y) = q at *
    rw [← hl]
    have hl2 := hl
    clear hl
    go_enter Try.func69, Try.ntmps69
    go_wp2_with fail
    go_loopw [13] (fun i wr => ∃ k m : Nat, k ≤ x.length ∧ i = .int .i64 k ∧ wr = w.drewN m ∧ ∀ j, j < k → x[j]? = y[j]?) (fun i _ => x.length - (intOf i).toNat)
    case atStart => exact ⟨0, 0, by omega, rfl, rfl, fun j hj => absurd hj (by omega)⟩
    case round =>
      obtain ⟨k, m, hk, rfl, hwr, hz⟩ := hrel
      have HWR := Lib.hid hwr
      have HZ := Lib.hid hz
      clear hz
      by_cases hlt : k < x.length
      · obtain ⟨ad, rfl, _, hc⟩ := (h.drewN m).at_ (k := k) (by rw [sv_len]; exact hlt)
        obtain ⟨ad2, rfl, _, hc2⟩ := (h2.drewN m).at_ (k := k) (by rw [sv_len]; omega)
        have s1 : (sv x)[k]'(by rw [sv_len]; exact hlt) = .string ⟨x[k].toArray⟩ := by simp [sv]
        have s2 : (sv y)[k]'(by rw [sv_len]; omega) = .string ⟨y[k].toArray⟩ := by simp [sv]
        rw [s1] at hc
        rw [s2] at hc2
        rw [← hwr] at hc hc2
        clear s1 s2
        have g1 := List.getElem?_eq_getElem hlt
        have g2 := List.getElem?_eq_getElem (show k < y.length by omega)
        have hbk : (0 : Int) ≤ (k : Int) := by omega
        have hlt' : (k : Int) < (x.length : Int) := by omega
        have HG := Lib.hid (And.intro g1 g2)
        clear hwr g1 g2
        have HNE2 := Lib.hid (HNE.out k _ _ HG.out.1 HG.out.2)
        have HXY := Lib.hid (fun (hab : x[k] = y[k]) => (show x[k]? = y[k]? by rw [HG.out.1, HG.out.2, hab]))
        clear HG
        generalize x[k] = a at *
        generalize y[k] = b at *
        by_cases hab : a = b
        · have HS := Lib.hid (fun j (hj : j < k + 1) => (show x[j]? = y[j]? by
            rcases Nat.lt_or_ge j k with h1 | h1
            · exact HZ.out j h1
            · obtain rfl : j = k := by omega
              exact HXY.out hab))
          rw [← hab] at hc2
          clear hab HNE2 HXY
          go_wp2_with fail
          go_quiet (fail)
          go_wp2
          go_roundw
          case rel => exact ⟨k + 1, _, by omega, by go_num, by rw [HWR.out, World.drewN_drewN], HS.out⟩
          case measure => simp [intOf]; omega
        · have d1 : (a == b) = false := by rw [beq_eq_false_iff_ne]; exact hab
          have HF := Lib.hid (HNE2.out hab)
          clear hab HNE2 HXY
          go_wp2_with fail
          go_quiet (fail)
          go_wp2
          go_ret
          exact ⟨by rw [HF.out]; rfl, by rw [HWR.out, World.drewN_drewN]; exact below_drewM (Below.refl _ _) _⟩
      · obtain rfl : k = x.length := by omega
        have HT := Lib.hid (HEQ.out HZ.out)
        clear hwr
        go_wp2
        go_ret
        exact ⟨by rw [HT.out]; rfl, by rw [HWR.out]; exact below_drewM (Below.refl _ _) m⟩
  · have hf : decide (x = y) = false := decide_eq_false fun e => hl (by rw [e])
    rw [hf]
    have d1 : ((x.length : Int) != (y.length : Int)) = true := by simp; omega
    clear hf hl
    go_enter Try.func69, Try.ntmps69
    go_wp2
    go_ret
    exact ⟨rfl, Below.refl _ _⟩
end Go.Proofs.Ytilkcecjciiboaa
