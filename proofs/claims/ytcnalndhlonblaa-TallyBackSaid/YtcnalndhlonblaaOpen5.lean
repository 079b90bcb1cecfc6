/-
  How lists of lists of ints, and lists of entries, that came in are opened; nothing of the program's functions stands here.
-/
import Derived.Test.YtcnalndhlonblaaOpen
import Derived.Test.YtcnalndhlonblaaTly1
namespace Go.Proofs.Ytcnalndhlonblaa
open Go.ChangeShapes Go.WideShapes Go.ChangeAt Go.RowKit Go.Deep
section
variable {H : Type} {enc : TypeId × Value → H} {P : Program} {w : World}
theorem agg_partT {t : TypeId} {fs : Array Field} {fuel : Nat} {cs : List Value} {d : DataW H} {p : List MemPlace} (ht : P.underlying t = some (.struct fs)) (hr : DataW.trod enc P w 0 (fun _ => true) true fuel t cs = some (d, p))
    (i : Nat) (f : Field) (hi : fs[i]? = some f) (hc : P.cellsOf f.type = 1) (v : Value) (hv : cs[f.offset]? = some v) :
    ∃ fuel' d' p', DataW.trod enc P w 0 (fun _ => true) true fuel' f.type [v] = some (d', p') ∧ (Fit P t d → Fit P f.type d') := by
  obtain ⟨xs, n, _, hxy, hl, hlen, hf⟩ := DataW.trod_struct ht hr
  have h1 := hf i f hi
  have h2 : (cs.drop f.offset).take (P.cellsOf f.type) = [v] := by
    rw [hc]
    have hlt := (List.getElem?_eq_some_iff.1 hv).1
    rw [List.drop_eq_getElem_cons hlt]
    simp only [List.take_succ_cons, List.take_zero]
    rw [List.getElem?_eq_getElem hlt] at hv
    injection hv with hv
    rw [hv]
  rw [h2] at h1
  have hil : i < xs.length := by
    have := (Array.getElem?_eq_some_iff.1 hi).1
    omega
  rw [List.getElem?_eq_getElem hil] at h1
  refine ⟨n, xs[i].1, xs[i].2, h1, fun hF m hm => hF m ?_⟩
  injection hxy with hd hp
  rw [hd]
  simp only [DataW.weights, ht]
  exact DataW.weights_mem_each (j := i) (t := f.type) (by simp [hi]) (by simp [hil]) m hm
theorem arg_lists {t e e1 : TypeId} {r : Reach} {b0 : Nat} {v : Value} {d : DataW H} {p : List MemPlace} (ht : P.underlying t = some (.slice e)) (he : P.underlying e = some (.slice e1)) (he1 : P.underlying e1 = some (.int .i64)) (hc : P.cellsOf e = 1) (hc1 : P.cellsOf e1 = 1) (hb : P.bytesOf e = 24) (hb1 : P.bytesOf e1 = 8)
    (hv : Value.okWide P w r b0 t v) (h : DataW.Trod enc P w 0 (fun _ => true) true t v d p) (hf : Fit P t d) :
    ∃ a cap, ∃ ls : List (List Int), v = .slice a ls.length cap ∧ ls.length ≤ cap ∧ ls.length * 24 ≤ reachBytes ∧ (∀ l ∈ ls, l.length * 8 ≤ reachBytes ∧ ∀ x ∈ l, (Lit.int .i64 x).wf = true) ∧ Lists w w.heap.size a ls := by
  obtain ⟨_, h'⟩ := slice_arg ht hv h
  obtain ⟨a, cap, xs, rfl, hl, _, hby, h⟩ := open_list (α := { l : List Int // l.length * 8 ≤ reachBytes ∧ ∀ x ∈ l, (Lit.int .i64 x).wf = true }) (fun l v => ∃ a c, v = .slice a l.1.length c ∧ Reads w w.heap.size a (iv l.1)) ht hc h' hf (fun v n d p h hf => by
    obtain ⟨a, c, l, h1, _, h2, h3, h4⟩ := open_nums1 he he1 hc1 hb1 h hf
    exact ⟨⟨l, h2, h3⟩, a, c, h1, h4⟩)
  rw [hb] at hby
  refine ⟨a, cap, xs.map (·.1), by rw [List.length_map], by rw [List.length_map]; exact hl, by rw [List.length_map]; omega, fun x hx => ?_, fun hn => ?_⟩
  · obtain ⟨y, _, rfl⟩ := List.mem_map.1 hx
    exact y.2
  · rw [List.length_map] at hn
    obtain ⟨ad, rfl, hbk, hc⟩ := h hn
    refine ⟨ad, rfl, hbk, fun j u hu => ?_⟩
    have hj := (List.getElem?_eq_some_iff.1 hu).1
    rw [List.length_map] at hj
    obtain ⟨v, hv, a', c', rfl, hr⟩ := hc j _ (List.getElem?_eq_getElem hj)
    simp [hj] at hu
    subst hu
    exact ⟨a', c', hv, hr⟩
theorem arg_ents {t e : TypeId} {f0 f1 f2 : Field} {r : Reach} {b0 : Nat} {v : Value} {d : DataW H} {p : List MemPlace} (ht : P.underlying t = some (.slice e)) (he : P.underlying e = some (.struct #[f0, f1, f2]))
    (k0 : P.underlying f0.type = some (.int .i64)) (k1 : P.underlying f1.type = some .string) (k2 : P.underlying f2.type = some (.int .i64))
    (ce : P.cellsOf e = 3) (o0 : f0.offset = 0) (o1 : f1.offset = 1) (o2 : f2.offset = 2) (c0 : P.cellsOf f0.type = 1) (c1 : P.cellsOf f1.type = 1) (c2 : P.cellsOf f2.type = 1) (hb : P.bytesOf e = 32)
    (hv : Value.okWide P w r b0 t v) (h : DataW.Trod enc P w 0 (fun _ => true) true t v d p) (hf : Fit P t d) :
    ∃ a cap, ∃ l : List EntL, v = .slice a l.length cap ∧ l.length ≤ cap ∧ l.length * 32 ≤ reachBytes ∧ (∀ x ∈ l, (Lit.int .i64 x.key).wf = true ∧ x.val.length ≤ reachBytes ∧ (Lit.int .i64 x.at_).wf = true) ∧ Ents w w.heap.size a l := by
  obtain ⟨_, h'⟩ := slice_arg ht hv h
  rcases open_slice ht h' with ⟨hcs, _⟩ | ⟨x, l, c, m, n, D, Pl, hcs, _, hl, hm, hmm, hx, hi⟩
  · simp at hcs
    subst hcs
    exact ⟨none, 0, [], rfl, Nat.le_refl _, by simp, by simp, fun hn => absurd hn (by simp)⟩
  · simp at hcs
    subst hcs
    simp only [if_true] at hmm
    subst hmm
    simp only [Prod.mk.injEq] at hx
    obtain ⟨rfl, _⟩ := hx
    have hfl := fit_len ht hf
    simp only [List.length_map, List.length_range] at hfl
    rw [show l + (m - l) = m by omega, hb] at hfl
    obtain ⟨xs, hxl, hxs⟩ := choose_list (α := { q : EntL // (Lit.int .i64 q.key).wf = true ∧ q.val.length ≤ reachBytes ∧ (Lit.int .i64 q.at_).wf = true })
        (Q := fun i y => w.cell? (x.add (i * 3)) = some (.int .i64 y.1.key) ∧ w.cell? (x.add (i * 3 + 1)) = some (.string ⟨y.1.val.toArray⟩) ∧ w.cell? (x.add (i * 3 + 2)) = some (.int .i64 y.1.at_)) l (fun i hil => by
      obtain ⟨cs', h1, h2⟩ := hi i (by omega)
      rw [ce] at h1
      obtain ⟨_, hlen, hcell⟩ := World.cells?_some h1
      have hfe := fit_elem ht hf (d := D i) (by simp only [List.mem_map, List.mem_range]; exact ⟨i, hil, rfl⟩)
      match cs', hlen with
      | [v0, v1, v2], _ =>
        have e0 := hcell 0 (by omega)
        have e1 := hcell 1 (by omega)
        have e2 := hcell 2 (by omega)
        rw [add_add'] at e0 e1 e2
        obtain ⟨y0, rfl, w0⟩ := agg_field he h2 0 f0 rfl k0 c0 v0 (by rw [o0]; rfl)
        obtain ⟨fu, d1, p1, t1, ft1⟩ := agg_partT he h2 1 f1 rfl c1 v1 (by rw [o1]; rfl)
        obtain ⟨y2, rfl, w2⟩ := agg_field he h2 2 f2 rfl k2 c2 v2 (by rw [o2]; rfl)
        obtain ⟨s, hs, hd, _⟩ := DataW.trod_string k1 t1
        simp at hs
        subst hs
        simp only [Prod.mk.injEq] at hd
        obtain ⟨rfl, _⟩ := hd
        have hsl : s.data.toList.length ≤ reachBytes := ft1 hfe _ (by simp [DataW.weights])
        exact ⟨⟨⟨y0, s.data.toList, y2⟩, w0, hsl, w2⟩, by simpa using e0, by simpa using e1, by simpa using e2⟩)
    subst hxl
    refine ⟨_, _, xs.map (·.1), by rw [List.length_map], by rw [List.length_map]; exact hl, by rw [List.length_map]; omega, fun p hp => ?_, fun hpos => ?_⟩
    · obtain ⟨y, _, rfl⟩ := List.mem_map.1 hp
      exact y.2
    · rw [List.length_map] at hpos
      have hp := spot_of_cell (hxs 0 _ (List.getElem?_eq_getElem hpos)).1
      have hx0 : x = ⟨x.block, x.off, none⟩ := by
        rw [Nat.zero_mul] at hp
        exact hp
      refine ⟨x.block, x.off, by rw [← hx0], ?_, fun j q hj => ?_⟩
      · have := block_lt_of_cell (hxs 0 _ (List.getElem?_eq_getElem hpos)).1
        rwa [block_add] at this
      · have hjl := (List.getElem?_eq_some_iff.1 hj).1
        rw [List.length_map] at hjl
        obtain ⟨g1, g2, g3⟩ := hxs j _ (List.getElem?_eq_getElem hjl)
        rw [flat_pair hx0] at g1 g2 g3
        simp [hjl] at hj
        subst hj
        exact ⟨g1, g2, g3⟩
end
end Go.Proofs.Ytcnalndhlonblaa
