/-
  What package refs' functions without iterators do, walked.
-/
import Derived.Test.YtcnalndhlonblaaSame
namespace Go.Proofs.Ytcnalndhlonblaa
open Go.RowKit

/-- a copy of ints of the call's own -/
theorem cloneI_any (A : Option Addr) (c : Nat) (l : List Int) (w : World) (B : Nat) (hB : B ≤ w.heap.size) (hm : l.length * 8 ≤ reachBytes) (h : Reads w B A (iv l)) :
    Calls Try.prog 34 #[.slice A l.length c] w (Gives 3 (iv l) w) := by
  simp only [reachBytes] at hm
  obtain ⟨i0, hi, hz0, hz1, hz2⟩ := info_parts Try.infoI64
  have hown0 := World.ownsRow_lit (e := 3) (size := 1) (base := w.heap.size) w #[] 0 (Nat.le_refl _) (by simp) (by rfl)
  cases A with
  | none =>
    have h0 : l = [] := by
      rcases l with _ | ⟨b, l⟩
      · rfl
      · obtain ⟨_, h, _⟩ := h (by simp [iv]); cases h
    subst h0
    have he := fun w => Lib.run_eql_slice_nil (P := Try.prog) w 22
    go_enter Try.func34, Try.ntmps34
    go_wp2_with fail
    go_ret
    exact ⟨none, 0, rfl, World.ownsRow_nil _ _ _ _, Below.refl _ _⟩
  | some ad =>
    have he := fun w => Lib.run_eql_slice_nil (P := Try.prog) w 22
    go_enter Try.func34, Try.ntmps34
    go_wp2_with (at_builtin; refine wpList_append_to _ rfl (.tmp 5) (.tmp 6) _ rfl w.heap.size 3 i0 _ 8 Try.underlying22 hi hz0 hz1 hz2 rfl _ 0 [] rfl hown0 _ (some ad) l.length c (iv l) rfl (iv_len l).symm (h.alloc hB _) (iv_one _) (by simp only [maxLen]; omega) (by omega) (by simp) ?_; intro A' c' w2 hown2 hg2 hb2 _)
    simp only [Nat.zero_add, List.nil_append] at hown2
    go_ret
    exact ⟨A', c', by rw [iv_len]; simp, by rw [iv_len]; exact hown2, (below_alloc1 w _).trans hb2⟩
section
variable {w w' : World} {B g : Nat} {A : Option Addr} {c : Nat} {l : List Int}
end
theorem made_nums (n : Nat) : (madeCells (Value.int .i64 0).cells (n * 1)).toList = iv (List.replicate n 0) := by
  rw [Nat.mul_one]
  apply List.ext_getElem
  · simp [madeCells, iv]
  · intro i h1 h2
    simp [madeCells, iv, Value.cells, Nat.mod_one]
theorem cloneI_nil (w : World) : Calls Try.prog 34 #[.slice none 0 0] w fun e w' => e = .returned (.slice none 0 0) ∧ w = w' := by
  have he := fun w => Lib.run_eql_slice_nil (P := Try.prog) w 22
  go_enter Try.func34, Try.ntmps34
  go_wp2_with fail
  go_ret
  exact ⟨rfl, rfl⟩
/-- a count; none of what there is not -/
def cntN (l : List Int) (k : Int) : Int := if k < 0 ∨ (l.length : Int) ≤ k then 0 else l.getD k.toNat 0
/-- what Add answers, and what is behind it -/
def addE (n : Nat) (k : Int) : Int := if k < 0 ∨ (n : Int) ≤ k then 3 else 0
def addL (l : List Int) (k : Int) : List Int := if addE l.length k = 0 then l.set k.toNat (l.getD k.toNat 0 + 1) else l
def addN (l : List Int) (k : Int) : Int := if addE l.length k = 0 then l.getD k.toNat 0 + 1 else 0
theorem addL_len (l : List Int) (k : Int) : (addL l k).length = l.length := by unfold addL; split <;> simp
end Go.Proofs.Ytcnalndhlonblaa
