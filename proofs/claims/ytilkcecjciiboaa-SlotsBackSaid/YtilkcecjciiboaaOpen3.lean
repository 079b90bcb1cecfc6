/-
  How a slice of structs of three ints that came in is opened; nothing of the program stands here.
-/
import Derived.Test.YtilkcecjciiboaaOpen
import Derived.Test.YtilkcecjciiboaaValP
namespace Go.Proofs.Ytilkcecjciiboaa
open Go.ChangeShapes Go.WideShapes Go.ChangeAt Go.RowKit Go.Deep
section
variable {H : Type} {enc : TypeId × Value → H} {P : Program} {w : World}
theorem arg_triples {t e : TypeId} {f0 f1 f2 : Field} {r : Reach} {b0 : Nat} {v : Value} {d : DataW H} {p : List MemPlace} (ht : P.underlying t = some (.slice e)) (he : P.underlying e = some (.struct #[f0, f1, f2]))
    (k0 : P.underlying f0.type = some (.int .i64)) (k1 : P.underlying f1.type = some (.int .i64)) (k2 : P.underlying f2.type = some (.int .i64))
    (ce : P.cellsOf e = 3) (o0 : f0.offset = 0) (o1 : f1.offset = 1) (o2 : f2.offset = 2) (c0 : P.cellsOf f0.type = 1) (c1 : P.cellsOf f1.type = 1) (c2 : P.cellsOf f2.type = 1) (hb : P.bytesOf e = 24)
    (hv : Value.okWide P w r b0 t v) (h : DataW.Trod enc P w 0 (fun _ => true) true t v d p) (hf : Fit P t d) :
    ∃ a cap, ∃ l : List (Int × Int × Int), v = .slice a l.length cap ∧ l.length ≤ cap ∧ l.length * 24 ≤ reachBytes ∧ (∀ p ∈ l, (Lit.int .i64 p.1).wf = true ∧ (Lit.int .i64 p.2.1).wf = true ∧ (Lit.int .i64 p.2.2).wf = true) ∧ Reads3 w w.heap.size a l := by
  obtain ⟨_, h'⟩ := slice_arg ht hv h
  rcases open_slice ht h' with ⟨hcs, _⟩ | ⟨x, l, c, m, n, D, Pl, hcs, _, hl, hm, hmm, hx, hi⟩
  · simp at hcs
    subst hcs
    exact ⟨none, 0, [], rfl, Nat.le_refl _, by simp, by simp, fun hn => absurd hn (by simp)⟩
  · simp at hcs
    subst hcs
    simp only [if_true] at hmm
    subst hmm
    simp only [Prod.mk.injEq] at hx
    obtain ⟨rfl, _⟩ := hx
    have hfl := fit_len ht hf
    simp only [List.length_map, List.length_range] at hfl
    rw [show l + (m - l) = m by omega, hb] at hfl
    obtain ⟨xs, hxl, hxs⟩ := choose_list (α := { q : Int × Int × Int // (Lit.int .i64 q.1).wf = true ∧ (Lit.int .i64 q.2.1).wf = true ∧ (Lit.int .i64 q.2.2).wf = true })
        (Q := fun i y => w.cell? (x.add (i * 3)) = some (.int .i64 y.1.1) ∧ w.cell? (x.add (i * 3 + 1)) = some (.int .i64 y.1.2.1) ∧ w.cell? (x.add (i * 3 + 2)) = some (.int .i64 y.1.2.2)) l (fun i hil => by
      obtain ⟨cs', h1, h2⟩ := hi i (by omega)
      rw [ce] at h1
      obtain ⟨_, hlen, hcell⟩ := World.cells?_some h1
      match cs', hlen with
      | [v0, v1, v2], _ =>
        have e0 := hcell 0 (by omega)
        have e1 := hcell 1 (by omega)
        have e2 := hcell 2 (by omega)
        rw [add_add'] at e0 e1 e2
        obtain ⟨y0, rfl, w0⟩ := agg_field he h2 0 f0 rfl k0 c0 v0 (by rw [o0]; rfl)
        obtain ⟨y1, rfl, w1⟩ := agg_field he h2 1 f1 rfl k1 c1 v1 (by rw [o1]; rfl)
        obtain ⟨y2, rfl, w2⟩ := agg_field he h2 2 f2 rfl k2 c2 v2 (by rw [o2]; rfl)
        exact ⟨⟨(y0, y1, y2), w0, w1, w2⟩, by simpa using e0, by simpa using e1, by simpa using e2⟩)
    subst hxl
    refine ⟨_, _, xs.map (·.1), by rw [List.length_map], by rw [List.length_map]; exact hl, by rw [List.length_map]; omega, fun p hp => ?_, fun hpos => ?_⟩
    · obtain ⟨y, _, rfl⟩ := List.mem_map.1 hp
      exact y.2
    · rw [List.length_map] at hpos
      have hp := spot_of_cell (hxs 0 _ (List.getElem?_eq_getElem hpos)).1
      have hx0 : x = ⟨x.block, x.off, none⟩ := by
        rw [Nat.zero_mul] at hp
        exact hp
      refine ⟨x.block, x.off, by rw [← hx0], ?_, fun j q hj => ?_⟩
      · have := block_lt_of_cell (hxs 0 _ (List.getElem?_eq_getElem hpos)).1
        rwa [block_add] at this
      · have hjl := (List.getElem?_eq_some_iff.1 hj).1
        rw [List.length_map] at hjl
        obtain ⟨g1, g2, g3⟩ := hxs j _ (List.getElem?_eq_getElem hjl)
        rw [flat_pair hx0] at g1 g2 g3
        simp [hjl] at hj
        subst hj
        exact ⟨g1, g2, g3⟩
end
end Go.Proofs.Ytilkcecjciiboaa
