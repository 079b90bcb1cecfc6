/-
  Chapter 45: Unpack, walked.
-/
import Derived.Test.YtcnalndhlonblaaPk7
import Derived.BigQuiet
import Derived.Deep.QuietTactic
namespace Go.Proofs.Ytcnalndhlonblaa
open Go.RowKit
attribute [local go_sem ↓] Go.wp_at_zero Go.wp_at_succ
def GivesUp (u : List (List UInt8) × Int) (w : World) (en : Ending) (w' : World) : Prop :=
  ∃ v : Option Addr, en = .returned (.tuple #[.pointer v, .int .i64 u.2]) ∧ Below w.heap.size w w' ∧ (u.2 = 0 → ∃ g Ai ci, v = some ⟨g, 0, none⟩ ∧ Img w' w.heap.size g Ai ci u.1.flatten) ∧ (u.2 ≠ 0 → v = none)
theorem getV_end (b : List UInt8) (h : 20 ≤ b.length) : getV b ((b.length : Int) - 4) 4 = (((le (b.drop (b.length - 4)) : Nat) : Int), 0) := by
  unfold getV
  have e1 : ((b.length : Int) - 4).toNat = b.length - 4 := by omega
  have e : getN b ((b.length : Int) - 4) 4 = le (b.drop (b.length - 4)) := by
    unfold getN
    rw [e1, List.take_of_length_le (by rw [List.length_drop]; show _ ≤ 4; omega)]
  have h1 := le_lt (b.drop (b.length - 4))
  have h2 : (b.drop (b.length - 4)).length = 4 := by rw [List.length_drop]; omega
  rw [h2] at h1
  rw [if_pos (thereV_ok (by decide) (by omega) (by omega)), e, if_pos (by omega)]
theorem sum_iff (b : List UInt8) (h : 20 ≤ b.length) : sumB (b.take (b.length - 4)) = b ↔ le (b.drop (b.length - 4)) = crcM 0 (b.take (b.length - 4)) := by
  have h2 : (b.drop (b.length - 4)).length = 4 := by rw [List.length_drop]; omega
  have hb : b.take (b.length - 4) ++ b.drop (b.length - 4) = b := List.take_append_drop _ _
  have hc := crcM_lt 0 (by omega) (b.take (b.length - 4))
  unfold sumB
  constructor
  · intro e
    have e2 : leb 4 (crcM 0 (b.take (b.length - 4))) = b.drop (b.length - 4) := List.append_cancel_left (e.trans hb.symm)
    rw [← e2, le_leb 4 _ (by omega)]
  · intro e
    have e2 : leb 4 (crcM 0 (b.take (b.length - 4))) = b.drop (b.length - 4) := by
      rw [← e]
      have := leb_le (b.drop (b.length - 4))
      rw [h2] at this
      exact this
    rw [e2, hb]
set_option maxRecDepth 100000 in
set_option maxHeartbeats 4000000 in
theorem unpackI_any (A : Option Addr) (c : Nat) (b : List UInt8) (hb : b.length ≤ 20000) (hc : b.length ≤ c) (w : World) (hr : Reads w w.heap.size A (bv b)) :
    Calls Try.prog 28 #[.slice A b.length c] w (GivesUp (upE b) w) := by
  by_cases h20 : b.length < 20
  · have HU := Lib.hid (show upE b = ([], 3) by unfold upE; rw [if_pos h20])
    go_enter Try.func28, Try.ntmps28
    go_wp2
    go_ret2
    exact ⟨none, by rw [HU.out]; rfl, Below.refl _ _, fun h => by rw [HU.out] at h; exact absurd h (by decide), fun _ => rfl⟩
  have HU := Lib.hid (show upE b = if sumB (b.take (b.length - 4)) ≠ b then ([], 4) else upI (b.take (b.length - 4)) by unfold upE; rw [if_neg h20])
  have HSI := Lib.hid (sum_iff b (by omega))
  have hg := get_any A c b ((b.length : Int) - 4) 4 w _ (by simp only [reachBytes]; omega) hr
  rw [getV_end b (by omega)] at hg
  have hti : (b.take (b.length - 4)).length = b.length - 4 := by rw [List.length_take]; omega
  have hrt : Reads w w.heap.size A (bv (b.take (b.length - 4))) := by rw [← bv_take]; exact hr.take _
  have HT := Lib.hid (show ∃ k, b.length = k + 4 ∧ 16 ≤ k from ⟨b.length - 4, by omega, by omega⟩)
  generalize hinn : b.take (b.length - 4) = inn at *
  generalize hx : le (b.drop (b.length - 4)) = x at *
  clear hinn hx hr
  obtain ⟨k, hk, hk16⟩ := HT.out
  rw [hk] at hg hb hc hti ⊢
  rw [Nat.add_sub_cancel] at hti
  have HTI := Lib.hid hti
  have HRT := Lib.hid hrt
  have hgk : ((k + 4 : Nat) : Int) - 4 = (k : Int) := by omega
  rw [hgk] at hg
  have HG := Lib.hid hg
  have HGK := Lib.hid hgk
  have KS := Lib.hid (sum_any (some ⟨w.heap.size, 0, none⟩) 1 1 [inn] _ rfl (by simp [maxLen]) ((Pieces.one 43 k c hti.symm hrt (by simp only [maxLen]; omega)).more (by simp)))
  rw [show [inn].flatten = inn by simp] at KS
  have i1 : (k : Int) ≤ (c : Int) := by omega
  have i3 : k ≤ c := by omega
  clear hk h20 hti hrt hg hgk HT
  go_enter Try.func28, Try.ntmps28
  go_wp2_with fail
  refine HG.out.mono ?_
  rintro en w1 ⟨rfl, rfl⟩
  go_wp2_with fail
  refine KS.out.mono ?_
  rintro en w2 ⟨rfl, hb2⟩
  have hb2 := below_then (below_alloc1 w _) hb2
  have HB2 := Lib.hid hb2
  have HR2 := Lib.hid (HRT.out.below hb2)
  have hs2 := hb2.size
  clear hb2 HG KS HGK
  generalize crcM 0 inn = y at *
  by_cases hxy : x = y
  case neg =>
    have HUU := Lib.hid (show upE b = ([], 4) by rw [HU.out, if_pos (fun h => hxy (HSI.out.1 h))])
    have d1 : ((x : Int) == (y : Int)) = false := by rw [beq_eq_false_iff_ne]; omega
    clear hxy
    go_wp2
    go_ret2
    exact ⟨none, by rw [HUU.out]; rfl, HB2.out, fun h => by rw [HUU.out] at h; exact absurd h (by decide), fun _ => rfl⟩
  subst hxy
  have HUU := Lib.hid (show upE b = upI inn by rw [HU.out, if_neg (fun h => h (HSI.out.2 rfl))])
  have KB := Lib.hid (fun (W : World) (r : Nat) (h : RdI W w.heap.size r A k c inn 0) => body_any h (by omega) hk16)
  have HH := Lib.hid (show RdI (w2.alloc (.cells #[.slice A k c, .int .i64 0] 95)) w.heap.size w2.heap.size A k c inn 0 from
    ⟨heap_new_at rfl _, HR2.out.alloc hs2 _, HTI.out.symm, i3, hs2⟩)
  have KB2 := Lib.hid (KB.out _ _ HH.out)
  clear KB HU HSI
  go_wp2_with fail
  refine KB2.out.mono ?_
  rintro en w3 ⟨v, A2, n2, c2, rest2, rfl, h3, hb3, hv3⟩
  have HB3 := Lib.hid ((HB2.out.alloc hs2 (.cells #[.slice A k c, .int .i64 0] 95)).trans hb3)
  have HV3 := Lib.hid hv3
  have q1 : w3.cell? ⟨w2.heap.size, 1, none⟩ = some (.int .i64 (upI inn).2) := heap_cell h3.box 1 rfl
  clear hb3 hv3 h3 KB2 HH
  by_cases h0 : (upI inn).2 = 0
  · have HV4 := Lib.hid (HV3.out h0)
    have HU2 := Lib.hid (show (upE b).2 = 0 by rw [HUU.out]; exact h0)
    rw [h0] at q1
    clear h0 HV3
    go_wp2
    go_ret2
    exact ⟨v, by rw [HU2.out]; rfl, HB3.out, fun _ => by rw [HUU.out]; exact HV4.out, fun h => absurd HU2.out h⟩
  · have HU2 := Lib.hid (show (upE b).2 = (upI inn).2 by rw [HUU.out])
    have HE0 := Lib.hid h0
    generalize (upI inn).2 = E at *
    have d2 : (E == 0) = false := by rw [beq_eq_false_iff_ne]; exact h0
    clear h0 HV3
    go_wp2_with fail
    go_region
    go_wp2
    go_ret2
    exact ⟨none, by rw [HU2.out]; rfl, HB3.out.drew, fun h => absurd (HU2.out.symm.trans h) HE0.out, fun _ => rfl⟩
end Go.Proofs.Ytcnalndhlonblaa
