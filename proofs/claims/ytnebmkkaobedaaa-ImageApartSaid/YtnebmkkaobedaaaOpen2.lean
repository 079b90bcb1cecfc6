/-
  How a slice of steps (a number and bytes) that came in is opened; nothing of the program stands here.
-/
import Derived.Test.YtnebmkkaobedaaaOpen
namespace Go.Proofs.Ytnebmkkaobedaaa
open Go.ChangeShapes Go.WideShapes Go.ChangeAt Go.RowKit Go.Deep
/-- numbers beside bytes in the cells of a slice, two cells an element -/
def StepsAt (w : World) (B : Nat) (A : Option Addr) (ls : List (Int × List UInt8)) : Prop :=
  0 < ls.length → ∃ b o, A = some ⟨b, o, none⟩ ∧ b < B ∧ ∀ j p, ls[j]? = some p → w.cell? ⟨b, o + j * 2, none⟩ = some (.int .i64 p.1) ∧ ∃ a c, w.cell? ⟨b, o + j * 2 + 1, none⟩ = some (.slice a p.2.length c) ∧ Reads w B a (bv p.2)
theorem StepsAt.below {w w' : World} {B : Nat} {A : Option Addr} {ls : List (Int × List UInt8)} (h : StepsAt w B A ls) (hb : Below B w w') : StepsAt w' B A ls := fun hn => by
  obtain ⟨b, o, e, hbb, hc⟩ := h hn
  refine ⟨b, o, e, hbb, fun j p hj => ?_⟩
  obtain ⟨h1, a, c, h2, h3⟩ := hc j p hj
  exact ⟨(hb.cell (p := ⟨b, _, none⟩) hbb).trans h1, a, c, (hb.cell (p := ⟨b, _, none⟩) hbb).trans h2, h3.below hb⟩
theorem StepsAt.more {w : World} {B B' : Nat} {A : Option Addr} {ls : List (Int × List UInt8)} (h : StepsAt w B A ls) (hB : B ≤ B') : StepsAt w B' A ls := fun hn => by
  obtain ⟨b, o, e, hbb, hc⟩ := h hn
  exact ⟨b, o, e, by omega, fun j p hj => let ⟨h1, a, c, h2, h3⟩ := hc j p hj; ⟨h1, a, c, h2, h3.more hB⟩⟩
section
variable {H : Type} {enc : TypeId × Value → H} {P : Program} {w : World}
theorem arg_steps {t e : TypeId} {f0 f1 : Field} {u8 : TypeId} {r : Reach} {b0 : Nat} {v : Value} {d : DataW H} {p : List MemPlace} (ht : P.underlying t = some (.slice e)) (he : P.underlying e = some (.struct #[f0, f1]))
    (h0 : P.underlying f0.type = some (.int .i64)) (h1 : P.underlying f1.type = some (.slice u8)) (hu : P.underlying u8 = some (.int .u8)) (hcu : P.cellsOf u8 = 1) (hbu : P.bytesOf u8 = 1)
    (ce : P.cellsOf e = 2) (o0 : f0.offset = 0) (o1 : f1.offset = 1) (c0 : P.cellsOf f0.type = 1) (c1 : P.cellsOf f1.type = 1) (hb : P.bytesOf e = 32)
    (hv : Value.okWide P w r b0 t v) (h : DataW.Trod enc P w 0 (fun _ => true) true t v d p) (hf : Fit P t d) :
    ∃ a cap, ∃ l : List (Int × List UInt8), v = .slice a l.length cap ∧ l.length ≤ cap ∧ l.length * 32 ≤ reachBytes ∧ (∀ p ∈ l, (Lit.int .i64 p.1).wf = true ∧ p.2.length ≤ reachBytes) ∧ StepsAt w w.heap.size a l := by
  obtain ⟨_, h'⟩ := slice_arg ht hv h
  rcases open_slice_pairs ht he ce o0 o1 c0 c1 h' with ⟨hcs, _⟩ | ⟨x, l, c, m, n, V0, V1, D0, D1, P0, P1, hcs, _, hl, hm, hmm, hx, hi⟩
  · simp at hcs
    subst hcs
    exact ⟨none, 0, [], rfl, Nat.le_refl _, by simp, by simp, fun hn => absurd hn (by simp)⟩
  · simp at hcs
    subst hcs
    simp only [if_true] at hmm
    subst hmm
    simp only [Prod.mk.injEq] at hx
    obtain ⟨rfl, _⟩ := hx
    have hfl := fit_len ht hf
    simp only [List.length_map, List.length_range] at hfl
    rw [show l + (m - l) = m by omega, hb] at hfl
    obtain ⟨xs, hxl, hxs⟩ := choose_list (α := { q : Int × List UInt8 // (Lit.int .i64 q.1).wf = true ∧ q.2.length ≤ reachBytes })
        (Q := fun i y => w.cell? (x.add (i * 2)) = some (.int .i64 y.1.1) ∧ ∃ a c, w.cell? (x.add (i * 2 + 1)) = some (.slice a y.1.2.length c) ∧ Reads w w.heap.size a (bv y.1.2)) l (fun i hil => by
      obtain ⟨g1, g2, g3, g4⟩ := hi i (by omega)
      obtain ⟨y0, e0, w0⟩ := open_num1 h0 g3
      have hfe := fit_elem ht hf (d := .agg [D0 i, D1 i]) (by simp only [List.mem_map, List.mem_range]; exact ⟨i, hil, rfl⟩)
      have hf1 : Fit P f1.type (D1 i) := fun n hn => hfe n (by
        simp only [DataW.weights, he, List.map_cons, List.map_nil, DataW.weightsEach, List.mem_append]
        exact .inr (.inl hn))
      obtain ⟨a, c, y1, e1, _, hl1, hr1⟩ := open_bytes1 h1 hu hcu hbu g4 hf1
      exact ⟨⟨(y0, y1), w0, hl1⟩, by rw [g1, e0], a, c, by rw [g2, e1], hr1⟩)
    subst hxl
    refine ⟨_, _, xs.map (·.1), by rw [List.length_map], by rw [List.length_map]; exact hl, by rw [List.length_map]; omega, fun p hp => ?_, fun hpos => ?_⟩
    · obtain ⟨y, _, rfl⟩ := List.mem_map.1 hp
      exact y.2
    · rw [List.length_map] at hpos
      have hp := spot_of_cell (hi 0 (by omega)).1
      have hx0 : x = ⟨x.block, x.off, none⟩ := by
        rw [Nat.zero_mul] at hp
        exact hp
      refine ⟨x.block, x.off, by rw [← hx0], ?_, fun j q hj => ?_⟩
      · have := block_lt_of_cell (hi 0 (by omega)).1
        rwa [block_add] at this
      · have hjl := (List.getElem?_eq_some_iff.1 hj).1
        rw [List.length_map] at hjl
        obtain ⟨g1, a, c, g2, g3⟩ := hxs j _ (List.getElem?_eq_getElem hjl)
        rw [flat_pair hx0] at g1 g2
        simp [hjl] at hj
        subst hj
        exact ⟨g1, a, c, g2, g3⟩
end
end Go.Proofs.Ytnebmkkaobedaaa
