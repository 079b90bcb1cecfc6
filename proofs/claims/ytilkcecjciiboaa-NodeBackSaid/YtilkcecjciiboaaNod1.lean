/-
  Chapter 7: a node in memory; key, flag and Right, walked.
-/
import Derived.Test.YtilkcecjciiboaaNodP
import Derived.Test.YtilkcecjciiboaaWidth
import Derived.Test.YtilkcecjciiboaaBase6
import Derived.Test.YtilkcecjciiboaaRef1C
import Derived.BigQuiet
import Derived.Deep.QuietTactic
import Derived.Deep.DeepCutAuto
namespace Go.Proofs.Ytilkcecjciiboaa
open Go.RowKit

/-- why a key may not stand behind these -/
def keyL (l : List Int) (x : Int) : Int := if x < 0 ∨ 281474976710655 < x then 2 else if 0 < l.length ∧ x ≤ l.getD (l.length - 1) 0 then 8 else 0
theorem key_any (A : Option Addr) (c : Nat) (l : List Int) (x : Int) (w : World) (B : Nat) (hl : l.length ≤ 1000000) (h : Reads w B A (iv l)) :
    Calls Try.prog 60 #[.slice A l.length c, .int .i64 x] w fun e w' => e = .returned (.int .i64 (keyL l x)) ∧ w = w' := by
  by_cases h0 : x < 0
  · have hv : keyL l x = 2 := by unfold keyL; rw [if_pos (.inl h0)]
    have HV := Lib.hid hv
    clear hv h
    go_enter Try.func60, Try.ntmps60
    go_wp2
    go_ret
    exact ⟨by rw [HV.out]; rfl, rfl⟩
  by_cases h1 : 281474976710655 < x
  · have hv : keyL l x = 2 := by unfold keyL; rw [if_pos (.inr h1)]
    have HV := Lib.hid hv
    have d0 : decide (x < 0) = false := decide_eq_false h0
    clear hv h h0
    go_enter Try.func60, Try.ntmps60
    go_wp2
    go_ret
    exact ⟨by rw [HV.out]; rfl, rfl⟩
  have hv : keyL l x = if 0 < l.length ∧ x ≤ l.getD (l.length - 1) 0 then 8 else 0 := by unfold keyL; rw [if_neg (by omega)]
  have HV := Lib.hid hv
  have d0 : decide (x < 0) = false := decide_eq_false h0
  have d1 : decide (281474976710655 < x) = false := decide_eq_false h1
  by_cases hn : l.length = 0
  · have hz : keyL l x = 0 := by rw [hv, if_neg (by omega)]
    have HZ := Lib.hid hz
    rw [hn]
    clear hv hz h h0 h1 hn
    go_enter Try.func60, Try.ntmps60
    go_wp2
    go_ret
    exact ⟨by rw [HZ.out]; rfl, rfl⟩
  obtain ⟨k, hk⟩ : ∃ k, l.length = k + 1 := ⟨l.length - 1, by omega⟩
  obtain ⟨ad, rfl, -, hc⟩ := h.at_ (k := k) (by rw [iv_len]; omega)
  have hy : (iv l)[k]'(by rw [iv_len]; omega) = .int .i64 (l.getD k 0) := by
    simp [iv, List.getD_eq_getElem?_getD, List.getElem?_eq_getElem (show k < l.length by omega)]
  rw [hy] at hc
  rw [hk, Nat.add_sub_cancel] at hv
  rw [hk] at hl ⊢
  generalize l.getD k 0 = y at *
  have i1 : (0 : Int) < (k : Int) + 1 := by omega
  have HV := Lib.hid hv
  by_cases hxy : x ≤ y
  · have hz : keyL l x = 8 := by rw [hv, if_pos ⟨by omega, hxy⟩]
    have HZ := Lib.hid hz
    clear hv hz h h0 h1 hn hy hk
    go_enter Try.func60, Try.ntmps60
    go_wp2
    go_ret
    exact ⟨by rw [HZ.out]; rfl, rfl⟩
  · have hz : keyL l x = 0 := by rw [hv, if_neg (fun h => hxy h.2)]
    have HZ := Lib.hid hz
    have d2 : decide (x ≤ y) = false := decide_eq_false hxy
    clear hv hz h h0 h1 hn hy hk hxy
    go_enter Try.func60, Try.ntmps60
    go_wp2
    go_ret
    exact ⟨by rw [HZ.out]; rfl, rfl⟩
theorem flag_any (b : Bool) (w : World) : Calls Try.prog 59 #[.bool b] w fun e w' => e = .returned (.int .i64 (if b = true then 1 else 0)) ∧ w = w' := by
  cases b
  all_goals
    go_enter Try.func59, Try.ntmps59
    go_wp2
    go_ret
    exact ⟨rfl, rfl⟩
/-- a node's fields in memory -/
structure NodR (w : World) (B : Nat) (n : NodeL) (A : Option Addr) (c : Nat) (A2 : Option Addr) (c2 : Nat) : Prop where
  ky : Reads w B A (iv n.keys)
  vl : Reads w B A2 (sv n.vals)
  kc : n.keys.length ≤ c
  vc : n.vals.length ≤ c2
def nodV (n : NodeL) (A : Option Addr) (c : Nat) (A2 : Option Addr) (c2 : Nat) : Array Value := #[.int .i64 n.t, .bool n.leaf, .slice A n.keys.length c, .slice A2 n.vals.length c2]
section
variable {w w' : World} {B : Nat} {n : NodeL} {A A2 : Option Addr} {c c2 : Nat}
theorem NodR.below (h : NodR w B n A c A2 c2) (hb : Below B w w') : NodR w' B n A c A2 c2 := ⟨h.ky.below hb, h.vl.below hb, h.kc, h.vc⟩
theorem NodR.ext (h : NodR w w.heap.size n A c A2 c2) (hb : Below w.heap.size w w') : NodR w' w'.heap.size n A c A2 c2 := ⟨h.ky.ext hb, h.vl.ext hb, h.kc, h.vc⟩
theorem NodR.drewN (h : NodR w B n A c A2 c2) (k : Nat) : NodR (w.drewN k) B n A c A2 c2 := ⟨h.ky.drewN k, h.vl.drewN k, h.kc, h.vc⟩
end
theorem sv_getD (l : List (List UInt8)) {k : Nat} (h : k < l.length) : (sv l)[k]'(by rw [sv_len]; exact h) = .string ⟨(l.getD k []).toArray⟩ := by
  simp [sv, List.getD_eq_getElem?_getD, List.getElem?_eq_getElem h]
theorem iv_getD (l : List Int) {k : Nat} (h : k < l.length) : (iv l)[k]'(by rw [iv_len]; exact h) = .int .i64 (l.getD k 0) := by
  simp [iv, List.getD_eq_getElem?_getD, List.getElem?_eq_getElem h]
theorem getD_take {α : Type} (l : List α) (d : α) {k i : Nat} (h : i < k) : (l.take k).getD i d = l.getD i d := by
  rw [List.getD_eq_getElem?_getD, List.getD_eq_getElem?_getD, List.getElem?_take, if_pos h]
theorem keyL_at (l : List Int) {k : Nat} (h : k < l.length) : keyL (l.take k) (l.getD k 0) = keyE l k := by
  unfold keyL keyE
  have hl : (l.take k).length = k := by rw [List.length_take]; omega
  rw [hl]
  by_cases h0 : 0 < k
  · rw [getD_take l 0 (show k - 1 < k by omega)]
  · simp [h0]
/-- the box of a node -/
structure NodBox (w : World) (B b : Nat) (n : NodeL) (A : Option Addr) (c : Nat) (A2 : Option Addr) (c2 : Nat) : Prop where
  q0 : w.cell? ⟨b, 0, none⟩ = some (.int .i64 n.t)
  q1 : w.cell? ⟨b, 1, none⟩ = some (.bool n.leaf)
  q2 : w.cell? ⟨b, 2, none⟩ = some (.slice A n.keys.length c)
  q3 : w.cell? ⟨b, 3, none⟩ = some (.slice A2 n.vals.length c2)
  nr : NodR w B n A c A2 c2
theorem NodBox.new {w : World} {n : NodeL} {A : Option Addr} {c : Nat} {A2 : Option Addr} {c2 : Nat} (h : NodR w w.heap.size n A c A2 c2) :
    NodBox (w.alloc (.cells (nodV n A c A2 c2) 31)) w.heap.size w.heap.size n A c A2 c2 := by
  have hb : (w.alloc (.cells (nodV n A c A2 c2) 31)).heap[w.heap.size]? = some (.cells (nodV n A c A2 c2) 31) := heap_alloc_new w _
  exact ⟨heap_cell hb 0 rfl, heap_cell hb 1 rfl, heap_cell hb 2 rfl, heap_cell hb 3 rfl, h.below (below_alloc1 w _)⟩
theorem NodBox.ext {w w' : World} {B b : Nat} {n : NodeL} {A : Option Addr} {c : Nat} {A2 : Option Addr} {c2 : Nat} (h : NodBox w B b n A c A2 c2) (hb : b < w.heap.size) (hB : B ≤ w.heap.size) (hw : Below w.heap.size w w') : NodBox w' B b n A c A2 c2 :=
  ⟨(hw.cell (p := ⟨b, 0, none⟩) hb).trans h.q0, (hw.cell (p := ⟨b, 1, none⟩) hb).trans h.q1, (hw.cell (p := ⟨b, 2, none⟩) hb).trans h.q2, (hw.cell (p := ⟨b, 3, none⟩) hb).trans h.q3, h.nr.below (hw.mono hB)⟩
theorem NodBox.drewN {w : World} {B b : Nat} {n : NodeL} {A : Option Addr} {c : Nat} {A2 : Option Addr} {c2 : Nat} (h : NodBox w B b n A c A2 c2) (k : Nat) : NodBox (w.drewN k) B b n A c A2 c2 :=
  ⟨h.q0, h.q1, h.q2, h.q3, h.nr.drewN k⟩
/-- how a node is told in whole: the first of the looks that fails -/
theorem whole_cases (n : NodeL) : (widthV n.t n.leaf = 0 ∧ wholeN n = false) ∨ (widthV n.t n.leaf ≠ 0 ∧ maxV n.t n.leaf < n.keys.length ∧ wholeN n = false) ∨
    (widthV n.t n.leaf ≠ 0 ∧ n.keys.length ≤ maxV n.t n.leaf ∧ n.vals.length ≠ n.keys.length ∧ wholeN n = false) ∨
    (widthV n.t n.leaf ≠ 0 ∧ n.keys.length ≤ maxV n.t n.leaf ∧ n.vals.length = n.keys.length ∧ n.leaf = true ∧ wholeN n = true) ∨
    (widthV n.t n.leaf ≠ 0 ∧ n.keys.length ≤ maxV n.t n.leaf ∧ n.vals.length = n.keys.length ∧ n.leaf = false ∧ n.keys.length = 0 ∧ wholeN n = false) ∨
    (widthV n.t n.leaf ≠ 0 ∧ n.keys.length ≤ maxV n.t n.leaf ∧ n.vals.length = n.keys.length ∧ n.leaf = false ∧ 0 < n.keys.length ∧ wholeN n = true) := by
  have hf : ∀ {b : Bool}, b ≠ true → b = false := by intro b; cases b <;> simp
  by_cases h1 : widthV n.t n.leaf = 0
  · exact .inl ⟨h1, hf (fun h => ((wholeN_iff n).1 h).1 h1)⟩
  by_cases h2 : n.keys.length ≤ maxV n.t n.leaf
  case neg => exact .inr (.inl ⟨h1, by omega, hf (fun h => h2 ((wholeN_iff n).1 h).2.1)⟩)
  by_cases h3 : n.vals.length = n.keys.length
  case neg => exact .inr (.inr (.inl ⟨h1, h2, h3, hf (fun h => h3 ((wholeN_iff n).1 h).2.2.1)⟩))
  cases h4 : n.leaf with
  | true => exact .inr (.inr (.inr (.inl ⟨by rw [h4] at h1; exact h1, by rw [h4] at h2; exact h2, h3, rfl, (wholeN_iff n).2 ⟨h1, h2, h3, .inl h4⟩⟩)))
  | false =>
    rw [h4] at h1 h2
    by_cases h5 : n.keys.length = 0
    · exact .inr (.inr (.inr (.inr (.inl ⟨h1, h2, h3, rfl, h5, hf (fun h => by
        rcases ((wholeN_iff n).1 h).2.2.2 with h | h
        · rw [h4] at h; cases h
        · omega)⟩))))
    · exact .inr (.inr (.inr (.inr (.inr ⟨h1, h2, h3, rfl, by omega, (wholeN_iff n).2 ⟨by rw [h4]; exact h1, by rw [h4]; exact h2, h3, .inr (by omega)⟩⟩))))
end Go.Proofs.Ytilkcecjciiboaa
