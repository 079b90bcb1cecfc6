/-
  Chapter 3's ImageNobody, walked.
-/
import Derived.Test.YtnebmkkaobedaaaLaw03
namespace Go.Proofs.Ytnebmkkaobedaaa
open Go.RowKit

set_option maxRecDepth 100000 in
set_option maxHeartbeats 2000000 in
theorem law_ImageNobody (a0 : Int) (A1 : Option Addr) (c1 : Nat) (l1 : List UInt8) (w : World)
    (_w0 : (Lit.int .i64 a0).wf = true) (_q1 : l1.length ≤ c1) (_m1 : l1.length ≤ reachBytes) (_r1 : Reads w w.heap.size A1 (bv l1)) :
    Calls Try.prog 16 #[.int .i64 a0, .slice A1 l1.length c1] w fun e w' => e = .returned (.bool true) ∧ Below w.heap.size w w' := by
  have hI : Img (w.alloc (.cells #[.slice none 0 0] 76)) w.heap.size w.heap.size none 0 [] := ⟨Boxed.new _ _ _, World.ownsRow_nil _ _ _ _, by simp, Nat.le_refl _⟩
  have hz : ∀ k : Int, k < 0 ∨ (((([] : List UInt8).length / 256 : Nat)) : Int) ≤ k := fun k => by simp; omega
  have hB := below_alloc1 w (.cells #[.slice none 0 0] 76)
  go_enter Try.func16, Try.ntmps16
  go_wp2_with fail
  generalize w.alloc (.cells #[.slice none 0 0] 76) = w1 at *
  refine (iread_nil a0 w1).mono ?_
  rintro e w2 ⟨rfl, rfl⟩
  go_wp2_with fail
  refine (iread_bad hI a0 (hz a0)).mono ?_
  rintro e w2 ⟨rfl, rfl⟩
  go_wp2_with fail
  refine (iwrite_nil a0 _ w1).mono ?_
  rintro e w2 ⟨rfl, rfl⟩
  go_wp2_with fail
  refine (iwrite_bad hI a0 (hz a0) A1 _ c1).mono ?_
  rintro e w2 ⟨rfl, rfl⟩
  go_wp2_with fail
  refine (blocks_nil w1).mono ?_
  rintro e w2 ⟨rfl, rfl⟩
  go_wp2_with fail
  refine (blocks_any hI).mono ?_
  rintro e w2 ⟨rfl, rfl⟩
  go_wp2_with fail
  refine (ibytes_nil w1).mono ?_
  rintro e w2 ⟨rfl, rfl⟩
  go_wp2_with fail
  refine (ibytes_any hI).mono ?_
  rintro e w2 ⟨A2, c2, rfl, hown, hb⟩
  rw [show (bv ([] : List UInt8)).length = 0 from rfl]
  have hB2 := below_then hB hb
  have hI2 := hI.below hb
  clear hown hb hI hB
  go_wp2_with fail
  refine (icopy_nil w2).mono ?_
  rintro e w3 ⟨rfl, rfl⟩
  go_wp2_with fail
  refine (icopy_any hI2).mono ?_
  rintro e w3 ⟨g3, A3, c3, rfl, hI3, hb⟩
  have hB3 := below_then hB2 hb
  clear hb hI2 hB2
  go_wp2_with fail
  refine (blocks_any hI3).mono ?_
  rintro e w4 ⟨rfl, rfl⟩
  go_wp2_with fail
  refine (lives03 _).mono ?_
  rintro e w5 ⟨rfl, hb⟩
  have hB4 := below_then hB3 hb
  go_wp2
  go_ret
  exact ⟨rfl, hB4⟩
end Go.Proofs.Ytnebmkkaobedaaa
