/-
  Chapter 6: super.each over any closure (under way).
-/
import Derived.Test.YtahomneljdjjjaaBits2
import Derived.Deep.DeepCutAuto
namespace Go.Proofs.Ytahomneljdjjjaa
open Go.RowKit

theorem end0 {P : Program} {fn : Func} {R : Ending → World → Prop} {a : Act} {w : World} (hr : fn.results = #[]) (hd : a.defers = []) (hR : R (.returned (.tuple #[])) w) : bodyPost P fn R .normal a w :=
  bodyPost_end (by simp [results, hr]) hd hR
/-- Rows of pointers are kept. -/
def KeepP (w w' : World) : Prop := ∀ (r : Nat) (cur : Array Value) (fz : Nat × Nat), w.heap[r]? = some (.cells cur 93 fz) → w'.heap[r]? = some (.cells cur 93 fz)
/-- What a call of the closure leaves. -/
def Step (I : Nat → World → Prop) (k : Nat) (w : World) (e : Ending) (w' : World) : Prop := e = .returned (.tuple #[]) ∧ I k w' ∧ KeepP w w'

set_option maxRecDepth 100000 in
set_option maxHeartbeats 2000000 in
theorem each_any (g : Nat) (fid : FuncId) (caps : Array Value) (I : Nat → World → Prop) (bl : Int) (w : World)
    (hcall : ∀ (args : Array Value) (W : World), Sem.run Try.prog (callFunc fid args) W = .ok (.enter fid args) W)
    (hdraw : ∀ k W n, I k W → I k (W.drewN n)) (halloc : ∀ k W o, I k W → I k (W.alloc o))
    (hbl : ∀ k W, 5 ≤ k → I k W → W.cell? ⟨g, 4, none⟩ = some (.int .i64 bl))
    (h0 : ∀ W, I 0 W → Calls Try.prog fid (#[.pointer (some ⟨g, 0, none⟩), .int .i64 0, .int .i64 2147483647] ++ caps) W (Step I 1 W))
    (h1 : ∀ W, I 1 W → Calls Try.prog fid (#[.pointer (some ⟨g, 1, none⟩), .int .i64 0, .int .i64 16777215] ++ caps) W (Step I 2 W))
    (h2 : ∀ W, I 2 W → Calls Try.prog fid (#[.pointer (some ⟨g, 2, none⟩), .int .i64 1, .int .i64 65536] ++ caps) W (Step I 3 W))
    (h3 : ∀ W, I 3 W → Calls Try.prog fid (#[.pointer (some ⟨g, 3, none⟩), .int .i64 0, .int .i64 65536] ++ caps) W (Step I 4 W))
    (h4 : ∀ W, I 4 W → Calls Try.prog fid (#[.pointer (some ⟨g, 4, none⟩), .int .i64 2, .int .i64 14400] ++ caps) W (Step I 5 W))
    (h5 : ∀ k W, 5 ≤ k → k < 11 → I k W → Calls Try.prog fid (#[.pointer (some ⟨g, k, none⟩), .int .i64 1, .int .i64 (wrap64 (bl - 1))] ++ caps) W (Step I (k + 1) W))
    (hI : I 0 w) :
    Calls Try.prog 64 #[.pointer (some ⟨g, 0, none⟩), .func (.func fid) #[] caps] w fun e w' => e = .returned (.tuple #[]) ∧ I 11 w' := by
  go_enter Try.func64, Try.ntmps64
  go_wp2_with fail
  refine (h0 _ hI).mono ?_
  rintro e w1 ⟨rfl, hI1, -⟩
  go_wp2_with fail
  refine (h1 _ hI1).mono ?_
  clear hI hI1
  rintro e w2 ⟨rfl, hI, -⟩
  go_wp2_with fail
  refine (h2 _ hI).mono ?_
  clear hI
  rintro e w3 ⟨rfl, hI, -⟩
  go_wp2_with fail
  refine (h3 _ hI).mono ?_
  clear hI
  rintro e w4 ⟨rfl, hI, -⟩
  go_wp2_with fail
  refine (h4 _ hI).mono ?_
  clear hI
  rintro e w5 ⟨rfl, hI, -⟩
  clear h0 h1 h2 h3 h4
  have HB := Lib.hid hbl
  have H5 := Lib.hid h5
  have HD := Lib.hid hdraw
  have HA := Lib.hid halloc
  clear hbl h5 hdraw halloc
  go_wp2_with fail
  go_region
  have hrow := heap_alloc_new w5 (.cells #[.pointer (some ⟨g, 5, none⟩), .pointer (some ⟨g, 6, none⟩), .pointer (some ⟨g, 7, none⟩), .pointer (some ⟨g, 8, none⟩), .pointer (some ⟨g, 9, none⟩), .pointer (some ⟨g, 10, none⟩)] 93)
  have hI6 := HD.out _ _ 1 (HA.out _ _ (.cells #[.pointer (some ⟨g, 5, none⟩), .pointer (some ⟨g, 6, none⟩), .pointer (some ⟨g, 7, none⟩), .pointer (some ⟨g, 8, none⟩), .pointer (some ⟨g, 9, none⟩), .pointer (some ⟨g, 10, none⟩)] 93) hI)
  clear hI
  have HI6 := Lib.hid hI6
  have HROW := Lib.hid hrow
  clear hI6 hrow
  go_wp2_with fail
  go_loopw [5, 51] (fun _ i wr => ∃ k : Nat, k ≤ 6 ∧ i = .int .i64 k ∧ I (5 + k) wr ∧ wr.heap[w5.heap.size]? = some (.cells #[.pointer (some ⟨g, 5, none⟩), .pointer (some ⟨g, 6, none⟩), .pointer (some ⟨g, 7, none⟩), .pointer (some ⟨g, 8, none⟩), .pointer (some ⟨g, 9, none⟩), .pointer (some ⟨g, 10, none⟩)] 93)) (fun _ i _ => 6 - (intOf i).toNat)
  case atStart => exact ⟨0, by omega, rfl, HI6.out, HROW.out⟩
  case round =>
    obtain ⟨k, hk, rfl, hIk, hrk⟩ := hrel
    by_cases hlt : k < 6
    · have hpk : wr.cell? ⟨w5.heap.size, k, none⟩ = some (.pointer (some ⟨g, 5 + k, none⟩)) := by
        have : k = 0 ∨ k = 1 ∨ k = 2 ∨ k = 3 ∨ k = 4 ∨ k = 5 := by omega
        rcases this with rfl | rfl | rfl | rfl | rfl | rfl <;> exact heap_cell hrk _ rfl
      have hb4 := HB.out (5 + k) wr (by omega) hIk
      have hc := H5.out (5 + k) wr (by omega) (by omega) hIk
      have k0 : (0 : Int) ≤ (k : Int) := by omega
      have k6 : (k : Int) < 6 := by omega
      have HRK := Lib.hid hrk
      have HC := Lib.hid hc
      have HIK := Lib.hid hIk
      clear hrk hc hIk hk hlt
      go_wp2_with fail
      refine HC.out.mono ?_
      rintro e w6 ⟨rfl, hI7, hkp⟩
      clear HC HIK
      go_wp2
      go_roundw
      case rel => exact ⟨k + 1, by omega, by go_num, hI7, hkp _ _ _ HRK.out⟩
      case measure => simp [intOf]; omega
    · obtain rfl : k = 6 := by omega
      have HIK := Lib.hid hIk
      clear hIk hrk
      go_wp2
      exact end0 (by rfl) rfl ⟨rfl, HIK.out⟩
end Go.Proofs.Ytahomneljdjjjaa
