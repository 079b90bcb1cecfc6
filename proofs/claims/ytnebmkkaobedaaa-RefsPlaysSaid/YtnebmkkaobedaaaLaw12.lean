/-
  Chapter 12's RefsDiffers, walked.
-/
import Derived.Test.YtnebmkkaobedaaaRefs
import Derived.Test.YtnebmkkaobedaaaDiff
namespace Go.Proofs.Ytnebmkkaobedaaa
open Go.RowKit

theorem lives12 (w : World) : Calls Try.prog 32 #[] w fun e w' => e = .returned (.bool true) ∧ Below w.heap.size w w' := by
  have hn := cnew_ok 3 (by omega) w
  rw [show List.replicate 3 (0 : Int) = [0, 0, 0] from rfl] at hn
  go_enter Try.func32, Try.ntmps32
  go_wp2_with fail
  refine hn.mono ?_
  rintro e w1 ⟨g, A, c, rfl, hI, hB⟩
  clear hn
  have ha := add_any hI 1 (by intro x hx; simp at hx; subst hx; omega)
  rw [show addL [0, 0, 0] 1 = [0, 1, 0] from rfl] at ha
  go_wp2_with fail
  refine ha.mono ?_
  rintro e w2 ⟨rfl, hI2, hg⟩
  have hB2 : Below w.heap.size w w2 := hB.grown hg hB.size (fun k hk => (hI.2.1.lt k hk).1)
  clear ha hg hI hB
  have ha := add_any hI2 1 (by intro x hx; simp at hx; omega)
  rw [show addL [0, 1, 0] 1 = [0, 2, 0] from rfl] at ha
  go_wp2_with fail
  refine ha.mono ?_
  rintro e w3 ⟨rfl, hI3, hg⟩
  have hB3 : Below w.heap.size w w3 := hB2.grown hg hB2.size (fun k hk => (hI2.2.1.lt k hk).1)
  clear ha hg hI2 hB2
  go_wp2_with fail
  refine (list_any hI3).mono ?_
  rintro e w4 ⟨A4, c4, rfl, hown, hb⟩
  rw [iv_len]
  have hB4 := below_then hB3 hb
  have hr2 := Reads.new w4 (iv [0, 2, 0]) 3 (0, 0)
  have hr1 := (Reads.of_own hown).alloc (Nat.le_refl _) (.cells (iv [0, 2, 0]).toArray 3)
  have hs := sameI_any A4 c4 (some ⟨w4.heap.size, 0, none⟩) 3 [0, 2, 0] _ _ _ (by simp [reachBytes]) hr1 hr2
  have hB5 := hB4.alloc hB4.size (.cells (iv [0, 2, 0]).toArray 3)
  clear hown hb hI3 hB3 hB4 hr1 hr2
  go_wp2_with fail
  refine hs.mono ?_
  rintro e w5 ⟨rfl, hb⟩
  have hB6 := below_then hB5 hb
  go_wp2
  go_ret
  exact ⟨rfl, hB6⟩
set_option maxHeartbeats 1000000 in
theorem law_RefsDiffers (A0 : Option Addr) (c0 : Nat) (l0 : List Int) (A1 : Option Addr) (c1 : Nat) (l1 : List Int) (w : World)
    (_q0 : l0.length ≤ c0) (m0 : l0.length * 8 ≤ reachBytes) (_f0 : ∀ x ∈ l0, (Lit.int .i64 x).wf = true) (r0 : Reads w w.heap.size A0 (iv l0))
    (_q1 : l1.length ≤ c1) (m1 : l1.length * 8 ≤ reachBytes) (_f1 : ∀ x ∈ l1, (Lit.int .i64 x).wf = true) (r1 : Reads w w.heap.size A1 (iv l1)) :
    Calls Try.prog 8 #[.slice A0 l0.length c0, .slice A1 l1.length c1] w fun e w' => e = .returned (.bool true) ∧ Below w.heap.size w w' := by
  simp only [reachBytes] at m0 m1
  by_cases h1 : 2000 < l0.length
  · have d1 : decide (2000 < (l0.length : Int)) = true := decide_eq_true (by omega)
    go_enter Try.func8, Try.ntmps8
    go_wp2_with fail
    refine (lives12 _).mono ?_
    rintro e w1 ⟨rfl, hb⟩
    go_wp2
    go_ret
    exact ⟨rfl, hb⟩
  have d1 : decide (2000 < (l0.length : Int)) = false := decide_eq_false (by omega)
  by_cases h2 : 2000 < l1.length
  · have d2 : decide (2000 < (l1.length : Int)) = true := decide_eq_true (by omega)
    go_enter Try.func8, Try.ntmps8
    go_wp2_with fail
    refine (lives12 _).mono ?_
    rintro e w1 ⟨rfl, hb⟩
    go_wp2
    go_ret
    exact ⟨rfl, hb⟩
  have d2 : decide (2000 < (l1.length : Int)) = false := decide_eq_false (by omega)
  have k1 := differ_any A0 c0 l0 A1 c1 l1 w (by omega) (by omega) r0 r1
  have k2 := fun W hb => rdiffer_any A0 c0 l0 A1 c1 l1 W (by omega) (by omega) (r0.ext (w' := W) hb) (r1.ext (w' := W) hb)
  have k3 := fun W hb => differ_any A0 c0 l0 A0 c0 l0 W (by omega) (by omega) (r0.ext (w' := W) hb) (r0.ext (w' := W) hb)
  rw [differs_self] at k3
  have hdl : (differs l0 l1).length ≤ 4000 := by unfold differs; have := dfk_len l0 l1 (max l0.length l1.length); omega
  generalize differs l0 l1 = d at *
  go_enter Try.func8, Try.ntmps8
  go_wp2_with fail
  refine k1.mono ?_
  rintro e w1 ⟨A2, c2, rfl, hown, hb1⟩
  rw [iv_len] at hown
  rw [iv_len]
  clear k1
  go_wp2_with fail
  refine (k2 _ hb1).mono ?_
  rintro e w2 ⟨A3, c3, rfl, hown2, hb⟩
  rw [iv_len] at hown2
  rw [iv_len]
  have hb2 := below_then hb1 hb
  have hs := sameI_any A2 c2 A3 c3 d w2 _ _ (by simp only [reachBytes]; omega) (Reads.of_own (own_keep hown hb)) (Reads.of_own hown2)
  clear k2 hown hown2 hb hb1
  go_wp2_with fail
  refine hs.mono ?_
  rintro e w3 ⟨rfl, hb⟩
  have hb3 := below_then hb2 hb
  clear hs hb hb2
  go_wp2_with fail
  refine (k3 _ hb3).mono ?_
  rintro e w4 ⟨A4, c4, rfl, hown4, hb⟩
  rw [show (iv ([] : List Int)).length = 0 from rfl]
  have hb4 := below_then hb3 hb
  clear k3 hown4 hb hb3
  go_wp2_with fail
  refine (lives12 _).mono ?_
  rintro e w5 ⟨rfl, hb⟩
  have hb5 := below_then hb4 hb
  go_wp2
  go_ret
  exact ⟨rfl, hb5⟩
end Go.Proofs.Ytnebmkkaobedaaa
