/-
  slices.Equal at bytes.
-/
import Derived.Test.YtahomneljdjjjaaBase6
import Derived.Test.YtahomneljdjjjaaSame
import Derived.BigQuiet
import Derived.Deep.QuietTactic
import Derived.Deep.DeepCutAuto
namespace Go.Proofs.Ytahomneljdjjjaa
open Go.RowKit
theorem eq_of_steps {α : Type} {x y : List α} (hl : x.length = y.length) (h : ∀ j, j < x.length → x[j]? = y[j]?) : x = y := by
  apply List.ext_getElem?
  intro j
  rcases Nat.lt_or_ge j x.length with h1 | h1
  · exact h j h1
  · rw [List.getElem?_eq_none h1, List.getElem?_eq_none (by omega)]
set_option maxHeartbeats 1000000 in
theorem equalb_any (A : Option Addr) (c : Nat) (A2 : Option Addr) (c2 : Nat) (x y : List UInt8) (w : World) (B B2 : Nat) (hm : x.length ≤ reachBytes) (hm2 : y.length ≤ reachBytes) (h : Reads w B A (bv x)) (h2 : Reads w B2 A2 (bv y)) :
    Calls Try.prog 90 #[.slice A x.length c, .slice A2 y.length c2] w fun e w' => e = .returned (.bool (decide (x = y))) ∧ Below w.heap.size w w' := by
  simp only [reachBytes] at hm hm2
  by_cases hl : x.length = y.length
  · have HEQ := Lib.hid (fun h => decide_eq_true (eq_of_steps hl h))
    have HNE := Lib.hid (fun (j : Nat) (a b : UInt8) (ha : x[j]? = some a) (hb : y[j]? = some b) (hab : (a.toNat : Int) ≠ b.toNat) => (show decide (x = y) = false from decide_eq_false fun e => by subst e; rw [ha] at hb; injection hb with hb; subst hb; exact hab rfl))
    generalize decide (x = y) = q at *
    rw [← hl]
    have hl2 := hl
    clear hl
    go_enter Try.func90, Try.ntmps90
    go_wp2_with fail
    go_loopw [13] (fun i wr => ∃ k m : Nat, k ≤ x.length ∧ i = .int .i64 k ∧ wr = w.drewN m ∧ ∀ j, j < k → x[j]? = y[j]?) (fun i _ => x.length - (intOf i).toNat)
    case atStart => exact ⟨0, 0, by omega, rfl, rfl, fun j hj => absurd hj (by omega)⟩
    case round =>
      obtain ⟨k, m, hk, rfl, hwr, hz⟩ := hrel
      have HWR := Lib.hid hwr
      have HZ := Lib.hid hz
      clear hz
      by_cases hlt : k < x.length
      · obtain ⟨ad, rfl, _, hc⟩ := (h.drewN m).byte hlt
        obtain ⟨ad2, rfl, _, hc2⟩ := (h2.drewN m).byte (show k < y.length by omega)
        rw [← hwr] at hc hc2
        have g1 := List.getElem?_eq_getElem hlt
        have g2 := List.getElem?_eq_getElem (show k < y.length by omega)
        have hbk : (0 : Int) ≤ (k : Int) := by omega
        have hlt' : (k : Int) < (x.length : Int) := by omega
        have HG := Lib.hid (And.intro g1 g2)
        clear hwr g1 g2
        have HNE2 := Lib.hid (HNE.out k _ _ HG.out.1 HG.out.2)
        have HXY := Lib.hid (fun (hab : (x[k].toNat : Int) = y[k].toNat) => (show x[k]? = y[k]? by rw [HG.out.1, HG.out.2, show x[k] = y[k] from UInt8.toNat_inj.1 (by omega)]))
        have z0 := x[k].toNat_lt
        generalize x[k].toNat = a at *
        generalize y[k].toNat = b at *
        by_cases hab : (a : Int) = (b : Int)
        · have HS := Lib.hid (fun j (hj : j < k + 1) => (show x[j]? = y[j]? by
            rcases Nat.lt_or_ge j k with h1 | h1
            · exact HZ.out j h1
            · obtain rfl : j = k := by omega
              exact HXY.out hab))
          rw [← hab] at hc2
          have d1 : ((a : Int) != (a : Int)) = false := by simp
          clear hab HNE2 HXY
          go_wp2_with fail
          go_quiet (fail)
          go_wp2
          go_roundw
          case rel => exact ⟨k + 1, _, by omega, by go_num, by rw [HWR.out, World.drewN_drewN], HS.out⟩
          case measure => simp [intOf]; omega
        · have d1 : ((a : Int) != (b : Int)) = true := by simpa using hab
          have HF := Lib.hid (HNE2.out hab)
          clear hab HNE2 HXY
          go_wp2_with fail
          go_quiet (fail)
          go_wp2
          go_ret
          exact ⟨by rw [HF.out]; rfl, by rw [HWR.out, World.drewN_drewN]; exact below_drewM (Below.refl _ _) _⟩
      · obtain rfl : k = x.length := by omega
        have HT := Lib.hid (HEQ.out HZ.out)
        clear hwr
        go_wp2
        go_ret
        exact ⟨by rw [HT.out]; rfl, by rw [HWR.out]; exact below_drewM (Below.refl _ _) m⟩
  · have hf : decide (x = y) = false := decide_eq_false fun e => hl (by rw [e])
    rw [hf]
    have d1 : ((x.length : Int) != (y.length : Int)) = true := by simp; omega
    clear hf hl
    go_enter Try.func90, Try.ntmps90
    go_wp2
    go_ret
    exact ⟨rfl, Below.refl _ _⟩
end Go.Proofs.Ytahomneljdjjjaa
