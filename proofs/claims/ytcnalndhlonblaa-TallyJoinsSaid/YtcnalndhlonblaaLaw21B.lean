/-
  Chapter 21: TallyJoins, walked.
-/
import Derived.Test.YtcnalndhlonblaaLaw21
import Derived.Test.YtcnalndhlonblaaTly8
import Derived.Test.YtcnalndhlonblaaTly10
import Derived.Test.YtcnalndhlonblaaTly11
import Derived.Test.YtcnalndhlonblaaSame
import Derived.Test.YtcnalndhlonblaaOpen5
namespace Go.Proofs.Ytcnalndhlonblaa
open Go.RowKit
theorem joinV_small (bits : List (List Int)) (over : List EntL) (h : bits.flatten.length ≤ 100000) : (joinV bits over).length ≤ 100000 := by
  unfold joinV
  split
  · rw [outJ_len]; exact h
  · simp
theorem keys_wf {l : List EntL} (h : ∀ x ∈ l, (Lit.int .i64 x.key).wf = true ∧ x.val.length ≤ reachBytes ∧ (Lit.int .i64 x.at_).wf = true) (k : Nat) (hk : k < l.length) : (Lit.int .i64 (keyA l k)).wf = true ∧ (valA l k).length ≤ reachBytes := by
  have h1 := h l[k] (List.getElem_mem hk)
  unfold keyA valA
  rw [List.getD_eq_getElem?_getD, List.getElem?_eq_getElem hk]
  exact ⟨h1.1, h1.2.1⟩
set_option maxRecDepth 100000 in
set_option maxHeartbeats 4000000 in
theorem law_TallyJoins (A0 : Option Addr) (c0 : Nat) (l0 : List (List Int)) (A1 : Option Addr) (c1 : Nat) (l1 : List EntL) (w : World)
    (_q0 : l0.length ≤ c0) (m0 : l0.length * 24 ≤ reachBytes) (f0 : ∀ l ∈ l0, l.length * 8 ≤ reachBytes ∧ ∀ x ∈ l, (Lit.int .i64 x).wf = true) (r0 : Lists w w.heap.size A0 l0)
    (_q1 : l1.length ≤ c1) (m1 : l1.length * 32 ≤ reachBytes) (f1 : ∀ x ∈ l1, (Lit.int .i64 x.key).wf = true ∧ x.val.length ≤ reachBytes ∧ (Lit.int .i64 x.at_).wf = true) (r1 : Ents w w.heap.size A1 l1) :
    Calls Try.prog 4 #[.slice A0 l0.length c0, .slice A1 l1.length c1] w fun e w' => e = .returned (.bool true) ∧ Below w.heap.size w w' := by
  have hk := keys_wf f1
  have hl : ∀ l ∈ l0, l.length ≤ 20000000000000 := fun l hx => by have := (f0 l hx).1; simp only [reachBytes] at this; omega
  simp only [reachBytes] at m0 m1
  have KS := short21_any A0 c0 l0 A1 c1 l1 w _ _ (by omega) hl (by omega) (fun k h => (hk k h).2) r0 r1
  have KJ := Lib.hid (fun (hs : Small21 l0 l1) => join_any A0 c0 l0 A1 c1 l1 (by have := hs.1; omega) (by have := hs.2.1; omega) (by have := hs.2.2; omega) hk w r0 r1)
  have KR := Lib.hid (fun (hs : Small21 l0 l1) (V : World) (hb : Below w.heap.size w V) => rjoin_any A0 c0 l0 A1 c1 l1 (by have := hs.1; omega) hl (by have := hs.2.1; omega) (by have := hs.2.2; omega) (fun k h => (hk k h).2) V (r0.ext hb) (r1.ext hb))
  have HZ := Lib.hid (fun (hs : Small21 l0 l1) => joinV_small l0 l1 (by have := hs.2.1; omega))
  clear hk hl m0 m1 f0 f1 r0 r1
  go_enter Try.func4, Try.ntmps4
  go_wp2_with fail
  refine KS.mono ?_
  rintro e w1 ⟨q, rfl, HS, rfl⟩
  clear KS
  cases q with
  | false =>
    go_wp2_with fail
    refine (lives21 _).mono ?_
    rintro e w2 ⟨rfl, hb⟩
    have hB := hb
    clear hb
    go_wp2
    go_ret
    exact ⟨rfl, hB⟩
  | true =>
    have hs := HS.out (by first | rfl | trivial)
    have K1 := KJ.out hs
    have K2 := Lib.hid (KR.out hs)
    have hz := HZ.out hs
    have HV := Lib.hid hz
    clear HS hs KJ KR HZ hz
    generalize joinV l0 l1 = X at *
    generalize joinE l0 l1 = E at *
    have d2 : (E == E) = true := by simp
    go_wp2_with fail
    refine K1.mono ?_
    rintro e w2 ⟨A2, c2, rfl, hown2, hb2⟩
    have HB2 := Lib.hid hb2
    have HO2 := Lib.hid hown2
    have k2 := K2.out _ hb2
    clear K1 K2 hown2 hb2
    go_wp2_with fail
    refine k2.mono ?_
    rintro e w3 ⟨A3, c3, rfl, hown3, hb3⟩
    have HB3 := Lib.hid (below_then HB2.out hb3)
    have k3 := sameI_any A2 c2 A3 c3 X w3 _ _ (by have := HV.out; simp only [reachBytes]; omega) (Reads.of_own (own_keep HO2.out hb3)) (Reads.of_own hown3)
    rw [iv_len]
    clear k2 hown3 hb3 HO2
    go_wp2_with fail
    refine k3.mono ?_
    rintro e w4 ⟨rfl, hb4⟩
    have HB4 := Lib.hid (below_then HB3.out hb4)
    clear k3 hb4
    go_wp2_with fail
    refine (lives21 _).mono ?_
    rintro e w5 ⟨rfl, hb5⟩
    have hB := below_then HB4.out hb5
    clear hb5
    go_wp2
    go_ret
    exact ⟨rfl, hB⟩
end Go.Proofs.Ytcnalndhlonblaa
