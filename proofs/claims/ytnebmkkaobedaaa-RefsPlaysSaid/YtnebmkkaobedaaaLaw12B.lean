/-
  Chapter 12's RefsNobody, walked.
-/
import Derived.Test.YtnebmkkaobedaaaRefs2
import Derived.Test.YtnebmkkaobedaaaLaw12
namespace Go.Proofs.Ytnebmkkaobedaaa
open Go.RowKit

theorem Cnt.nums {w : World} {B g : Nat} {A : Option Addr} {c : Nat} {l : List Int} (h : Cnt w B g A c l) : Nums (some ⟨g, 0, none⟩) A c l w.heap.size w :=
  ⟨h.2.2.1, h.reads, fun _ hW => own_any (h.below hW)⟩
theorem nums_none (w : World) : Nums none none 0 [] w.heap.size w := ⟨by simp, Reads.nil_ _ _ _, fun W _ => own_none W⟩
theorem total_any {p0 A : Option Addr} {c : Nat} {zs : List Int} {w : World} (hN : Nums p0 A c zs w.heap.size w) :
    Calls Try.prog 39 #[.pointer p0] w fun e W' => e = .returned (.int .i64 (sumW (pickL 0 zs zs.length))) ∧ Below w.heap.size w W' :=
  callsIn_wide.1 (total_in 3 (by omega) p0 A c zs w hN)
theorem from_any {p0 A : Option Addr} {c : Nat} (least : Int) {zs : List Int} {w : World} (hN : Nums p0 A c zs w.heap.size w) :
    Calls Try.prog 62 #[.pointer p0, .int .i64 least] w (Gives 3 (iv (kvL (pickL least zs zs.length))) w) :=
  callsIn_wide.1 (from_in 3 (by omega) p0 A c least zs w hN)
theorem gives_none {w w' : World} {e : Ending} (h : Gives 3 (iv []) w e w') : ∃ A c, e = .returned (.slice A 0 c) ∧ Below w.heap.size w w' := by
  obtain ⟨A, c, he, _, hb⟩ := h
  exact ⟨A, c, he, hb⟩
set_option maxRecDepth 100000 in
set_option maxHeartbeats 2000000 in
theorem law_RefsNobody (a0 : Int) (w : World) (_w0 : (Lit.int .i64 a0).wf = true) :
    Calls Try.prog 18 #[.int .i64 a0] w fun e w' => e = .returned (.bool true) ∧ Below w.heap.size w w' := by
  have hC0 : Cnt (w.alloc (.cells #[.slice none 0 0] 88)) w.heap.size w.heap.size none 0 [] := ⟨Boxed.new _ _ _, World.ownsRow_nil _ _ _ _, by simp, Nat.le_refl _⟩
  have hB0 := below_alloc1 w (.cells #[.slice none 0 0] 88)
  have n1 := fun W => add_none a0 W
  have n2 := fun W => len_none W
  have n3 := fun W => count_none a0 W
  have n4 := fun W => (show Calls Try.prog 39 #[.pointer none] W fun e W' => e = .returned (.int .i64 0) ∧ Below W.heap.size W W' from total_any (nums_none W))
  have n5 := fun W => list_none W
  have n6 := fun W => (show Calls Try.prog 62 #[.pointer none, .int .i64 0] W (Gives 3 (iv []) W) from from_any 0 (nums_none W))
  have z1 := add_any hC0 a0 (by simp)
  have hE : addE ([] : List Int).length a0 = 3 := by
    unfold addE
    rw [if_pos]
    simp
    omega
  rw [hE, show addL [] a0 = [] by unfold addL; rw [hE, if_neg (by decide)], show addN [] a0 = 0 by unfold addN; rw [hE, if_neg (by decide)]] at z1
  have hcn : cntN [] a0 = 0 := by
    unfold cntN
    rw [if_pos]
    simp
    omega
  have HCN := Lib.hid hcn
  clear hE hcn
  go_enter Try.func18, Try.ntmps18
  go_wp2_with fail
  refine (n1 _).mono ?_
  rintro e w1 ⟨rfl, rfl⟩
  clear n1
  go_wp2_with fail
  refine z1.mono ?_
  rintro e w2 ⟨rfl, hC2, hg2⟩
  have hB2 : Below w.heap.size w w2 := hB0.grown hg2 hB0.size (fun k hk => (hC0.2.1.lt k hk).1)
  clear z1 hC0 hB0 hg2
  go_wp2_with fail
  refine (n2 _).mono ?_
  rintro e w1 ⟨rfl, rfl⟩
  clear n2
  have q := len_any hC2
  go_wp2_with fail
  refine q.mono ?_
  rintro e w1 ⟨rfl, rfl⟩
  clear q
  go_wp2_with fail
  refine (n3 _).mono ?_
  rintro e w1 ⟨rfl, rfl⟩
  clear n3
  have q := count_any hC2 a0
  rw [HCN.out] at q
  go_wp2_with fail
  refine q.mono ?_
  rintro e w1 ⟨rfl, rfl⟩
  clear q
  go_wp2_with fail
  refine (n4 _).mono ?_
  rintro e w3 ⟨rfl, hb3⟩
  have hC3 := hC2.below hb3
  have hB3 := below_then hB2 hb3
  have q : Calls Try.prog 39 #[.pointer (some ⟨w.heap.size, 0, none⟩)] w3 fun e W' => e = .returned (.int .i64 0) ∧ Below w3.heap.size w3 W' := total_any hC3.nums
  clear n4 hb3 hC2 hB2
  go_wp2_with fail
  refine q.mono ?_
  rintro e w4 ⟨rfl, hb4⟩
  have hC4 := hC3.below hb4
  have hB4 := below_then hB3 hb4
  clear q hb4 hC3 hB3
  go_wp2_with fail
  refine (n5 _).mono ?_
  rintro e w1 ⟨rfl, rfl⟩
  clear n5
  have q := list_any hC4
  go_wp2_with fail
  refine q.mono ?_
  intro e w5 hq
  obtain ⟨A5, c5, rfl, hb5⟩ := gives_none hq
  clear hq
  have hC5 := hC4.below hb5
  have hB5 := below_then hB4 hb5
  clear q hb5 hC4 hB4
  go_wp2_with fail
  refine (n6 _).mono ?_
  intro e w6 hq
  obtain ⟨A6, c6, rfl, hb6⟩ := gives_none hq
  clear hq
  have hC6 := hC5.below hb6
  have hB6 := below_then hB5 hb6
  have q : Calls Try.prog 62 #[.pointer (some ⟨w.heap.size, 0, none⟩), .int .i64 0] w6 (Gives 3 (iv []) w6) := from_any 0 hC6.nums
  clear n6 hb6 hC5 hB5
  go_wp2_with fail
  refine q.mono ?_
  intro e w7 hq
  obtain ⟨A7, c7, rfl, hb7⟩ := gives_none hq
  clear hq
  have hB7 := below_then hB6 hb7
  clear q hb7 hC6 hB6
  go_wp2_with fail
  refine (lives12 _).mono ?_
  rintro e w8 ⟨rfl, hb8⟩
  have hB8 := below_then hB7 hb8
  go_wp2
  go_ret
  exact ⟨rfl, hB8⟩
end Go.Proofs.Ytnebmkkaobedaaa
