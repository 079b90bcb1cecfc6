/-
  slices.Clone of bytes, walked (for seats without package code).
-/
import Derived.Test.YtcnalndhlonblaaChecked
import Derived.Test.YtcnalndhlonblaaBase6
namespace Go.Proofs.Ytcnalndhlonblaa
open Go.RowKit
theorem Try.infoByte : (Try.prog.info? 5).map (fun i => (i.zero, i.size, i.bytes)) = some (some (.int .u8 0), 1, 1) := by kernel_rfl

/-- a copy of bytes of the call's own -/
theorem cloneB_any (A : Option Addr) (c : Nat) (l : List UInt8) (w : World) (B : Nat) (hB : B ≤ w.heap.size) (hm : l.length ≤ reachBytes) (h : Reads w B A (bv l)) :
    Calls Try.prog 41 #[.slice A l.length c] w (Gives 5 (bv l) w) := by
  simp only [reachBytes] at hm
  obtain ⟨i0, hi, hz0, hz1, hz2⟩ := info_parts Try.infoByte
  have hown0 := World.ownsRow_lit (e := 5) (size := 1) (base := w.heap.size) w #[] 0 (Nat.le_refl _) (by simp) (by rfl)
  cases A with
  | none =>
    have h0 : l = [] := by
      rcases l with _ | ⟨b, l⟩
      · rfl
      · obtain ⟨_, h, _⟩ := h (by simp [bv]); cases h
    subst h0
    have he := fun w => Lib.run_eql_slice_nil (P := Try.prog) w 43
    go_enter Try.func41, Try.ntmps41
    go_wp2_with fail
    go_ret
    exact ⟨none, 0, rfl, World.ownsRow_nil _ _ _ _, Below.refl _ _⟩
  | some ad =>
    have he := fun w => Lib.run_eql_slice_nil (P := Try.prog) w 43
    go_enter Try.func41, Try.ntmps41
    go_wp2_with (at_builtin; refine wpList_append_to _ rfl (.tmp 5) (.tmp 6) _ rfl w.heap.size 5 i0 _ 1 Try.underlying43 hi hz0 hz1 hz2 rfl _ 0 [] rfl hown0 _ (some ad) l.length c (bv l) rfl (bv_len l).symm (h.alloc hB _) (bv_one _) (by simp only [maxLen]; omega) (by omega) (by simp) ?_; intro A' c' w2 hown2 hg2 hb2 _)
    simp only [Nat.zero_add, List.nil_append] at hown2
    go_ret
    exact ⟨A', c', by rw [bv_len]; simp, by rw [bv_len]; exact hown2, (below_alloc1 w _).trans hb2⟩
end Go.Proofs.Ytcnalndhlonblaa
