/-
  Chapter 6: the closure of super.Right (under way).
-/
import Derived.Test.YtahomneljdjjjaaSup
import Derived.BigQuiet
import Derived.Deep.QuietTactic
namespace Go.Proofs.Ytahomneljdjjjaa
open Go.RowKit

set_option maxRecDepth 100000 in
theorem right1_any (p : Addr) (r : Nat) (lo hi n : Int) (ok : Bool) (w : World) (hp : w.cell? p = some (.int .i64 n)) (hok : w.heap[r]? = some (.cells #[.bool ok] 4)) :
    Calls Try.prog 67 #[.pointer (some p), .int .i64 lo, .int .i64 hi, .pointer (some ⟨r, 0, none⟩)] w fun e w' => e = .returned (.tuple #[]) ∧ w' = w.setCell ⟨r, 0, none⟩ (.bool (ok && (decide (lo ≤ n) && decide (n ≤ hi)))) := by
  have hc : w.cell? ⟨r, 0, none⟩ = some (.bool ok) := heap_cell hok 0 rfl
  have hf : w.frozen? ⟨r, 0, none⟩ = false := by simp [World.frozen?, hok]
  clear hok
  cases ok <;> cases d1 : decide (lo ≤ n) <;> cases d2 : decide (n ≤ hi) <;>
  · go_enter Try.func67, Try.ntmps67
    go_wp2
    exact end0 (by rfl) rfl ⟨rfl, rfl⟩
theorem right1_enter (args : Array Value) (W : World) : Sem.run Try.prog (callFunc 67 args) W = .ok (.enter 67 args) W := by
  go_simp
end Go.Proofs.Ytahomneljdjjjaa
