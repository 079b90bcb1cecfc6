/-
  The reference's Same, of lists that are the same (for seats without chapter 1).
-/
import Derived.Test.YtcnalndhlonblaaChecked
import Derived.Test.YtcnalndhlonblaaBase6
import Derived.BigQuiet
import Derived.Deep.QuietTactic
import Derived.Deep.DeepCutAuto
namespace Go.Proofs.Ytcnalndhlonblaa
open Go.RowKit
theorem Try.infoI64 : (Try.prog.info? 3).map (fun i => (i.zero, i.size, i.bytes)) = some (some (.int .i64 0), 1, 8) := by kernel_rfl
theorem below_drewM {B : Nat} {w w' : World} (h : Below B w w') (k : Nat) : Below B w (w'.drewN k) := ⟨h.os, h.tape, h.output, h.size, h.block⟩
set_option maxHeartbeats 1000000 in
theorem sameI_any (A : Option Addr) (c : Nat) (A2 : Option Addr) (c2 : Nat) (l : List Int) (w : World) (B B2 : Nat) (hm : l.length * 8 ≤ reachBytes) (h : Reads w B A (iv l)) (h2 : Reads w B2 A2 (iv l)) :
    Calls Try.prog 18 #[.slice A l.length c, .slice A2 l.length c2] w fun e w' => e = .returned (.bool true) ∧ Below w.heap.size w w' := by
  simp only [reachBytes] at hm
  go_enter Try.func18, Try.ntmps18
  go_wp2_with fail
  go_loopw [5] (fun i wr => ∃ k m : Nat, k ≤ l.length ∧ i = .int .i64 k ∧ wr = w.drewN m) (fun i _ => l.length - (intOf i).toNat)
  case atStart => exact ⟨0, 0, by omega, rfl, rfl⟩
  case round =>
    obtain ⟨k, m, hk, rfl, hwr⟩ := hrel
    have HWR := Lib.hid hwr
    by_cases hlt : k < l.length
    · obtain ⟨ad, rfl, _, hc⟩ := (h.drewN m).num hlt
      obtain ⟨ad2, rfl, _, hc2⟩ := (h2.drewN m).num hlt
      rw [← hwr] at hc hc2
      clear hwr
      have hbk : (0 : Int) ≤ (k : Int) := by omega
      have hlt' : (k : Int) < (l.length : Int) := by omega
      go_wp2_with fail
      go_quiet (fail)
      go_wp2
      go_roundw
      case rel => exact ⟨k + 1, _, by omega, by go_num, by rw [HWR.out, World.drewN_drewN]⟩
      case measure => simp [intOf]; omega
    · obtain rfl : k = l.length := by omega
      clear hwr
      go_wp2
      go_ret
      exact ⟨rfl, by rw [HWR.out]; exact below_drewM (Below.refl _ _) m⟩
end Go.Proofs.Ytcnalndhlonblaa
