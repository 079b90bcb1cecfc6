/-
  Chapter 45's example, walked.
-/
import Derived.Test.YtcnalndhlonblaaPk2
import Derived.Test.YtcnalndhlonblaaPk4
import Derived.Test.YtcnalndhlonblaaRef1C
import Derived.Deep.DeepCutAuto
namespace Go.Proofs.Ytcnalndhlonblaa
open Go.RowKit

theorem blks_eachE (bs : List UInt8) : Each (blksL bs) := fun x hx => by
  obtain ⟨i, hi, rfl⟩ := List.mem_iff_getElem.1 hx
  have := blksL_each bs i (by rw [← blksL_len]; exact hi)
  rw [List.getD_eq_getElem?_getD, List.getElem?_eq_getElem hi] at this
  exact this
theorem pk_none : (pkB (blksL (imgOf []))).length = 20 ∧ (pkB (blksL (imgOf []))).take 16 = [83, 67, 65, 78, 80, 65, 67, 75, 0, 0, 0, 0, 0, 0, 0, 0] := by
  have h : blksL (imgOf []) = [] := rfl
  rw [h]
  have h2 : headB [] ++ bodyB [] (usedL []).length = [83, 67, 65, 78, 80, 65, 67, 75, 0, 0, 0, 0, 0, 0, 0, 0] := by decide
  unfold pkB
  rw [h2, sumB_len]
  refine ⟨rfl, ?_⟩
  unfold sumB
  exact List.take_left' rfl
theorem usedL_none : usedL (blksL (imgOf [])) = [] := rfl
set_option maxRecDepth 100000 in
theorem lives45 (w : World) : Calls Try.prog 19 #[] w fun e w' => e = .returned (.bool true) ∧ Below w.heap.size w w' := by
  have hp := iof_any none 0 [] w (Nat.le_refl _) (by simp [reachBytes]) (Reads.nil_ _ _ _)
  obtain ⟨P, hP⟩ : ∃ P, P = pkB (blksL (imgOf [])) := ⟨_, rfl⟩
  have HP := Lib.hid hP
  obtain ⟨x1, x2⟩ := pk_none
  rw [← hP] at x1 x2
  have HL := Lib.hid x1
  have HT := Lib.hid x2
  clear hP x1 x2
  go_enter Try.func19, Try.ntmps19
  go_wp2_with fail
  refine hp.mono ?_
  rintro e w1 ⟨g, A, c, rfl, hI, hb⟩
  have kp := ipack_any hI
  rw [← HP.out] at kp
  clear hp hI
  go_wp2_with fail
  refine kp.mono ?_
  rintro e w2 ⟨A2, c2, rfl, hown, hb2⟩
  have hB := below_then hb hb2
  rw [bv_len, HL.out] at hown
  rw [bv_len, HL.out]
  have hc := own_capP hown (by omega)
  have hr := (Reads.of_own hown).take 16
  rw [bv_take, HT.out] at hr
  have hcv := run_conv_bytes (P := Try.prog) w2 43 9 5 Try.underlying43 Try.underlying5 Try.underlying9 16 c2 rfl hr
  have i1 : (16 : Int) ≤ (c2 : Int) := by omega
  clear kp hown hb hb2 hr HP HL HT
  go_wp2
  go_ret
  exact ⟨rfl, hB⟩
def toI (l : List Nat) : List Int := l.map fun n : Nat => (n : Int)
theorem ivn_iv (l : List Nat) : ivn l = iv (toI l) := by unfold ivn iv toI; rw [List.map_map]; rfl
theorem toI_len (l : List Nat) : (toI l).length = l.length := by simp [toI]
end Go.Proofs.Ytcnalndhlonblaa
