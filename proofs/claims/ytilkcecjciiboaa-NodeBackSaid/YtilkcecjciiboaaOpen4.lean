/-
  How a node that came in is opened; nothing of the program's functions stands here.
-/
import Derived.Test.YtilkcecjciiboaaOpen
import Derived.Test.YtilkcecjciiboaaNod1
namespace Go.Proofs.Ytilkcecjciiboaa
open Go.ChangeShapes Go.WideShapes Go.ChangeAt Go.RowKit Go.Deep
section
variable {H : Type} {enc : TypeId × Value → H} {P : Program} {w : World}
/-- a slice of strings, out of a one-cell reading -/
theorem open_strs1 {t e : TypeId} {v : Value} {fuel : Nat} {d : DataW H} {p : List MemPlace} (ht : P.underlying t = some (.slice e)) (he : P.underlying e = some .string) (hc : P.cellsOf e = 1) (hb : P.bytesOf e = 16)
    (hr : DataW.trod enc P w 0 (fun _ => true) true fuel t [v] = some (d, p)) (hf : Fit P t d) :
    ∃ a cap, ∃ l : List (List UInt8), v = .slice a l.length cap ∧ l.length ≤ cap ∧ l.length * 16 ≤ reachBytes ∧ (∀ x ∈ l, x.length ≤ maxLen) ∧ Reads w w.heap.size a (sv l) := by
  obtain ⟨a, cap, xs, rfl, hl, _, hby, h⟩ := open_list (α := { x : List UInt8 // x.length ≤ maxLen }) (fun x v => v = .string ⟨x.1.toArray⟩) ht hc hr hf (fun v n d p h _ => by
    obtain ⟨s, h1, _, h3⟩ := DataW.trod_string he h
    refine ⟨⟨s.data.toList, h3⟩, ?_⟩
    simpa using h1)
  rw [hb] at hby
  refine ⟨a, cap, xs.map (·.1), by rw [List.length_map], by rw [List.length_map]; exact hl, by rw [List.length_map]; omega, fun x hx => ?_, fun hn => ?_⟩
  · obtain ⟨y, _, rfl⟩ := List.mem_map.1 hx
    exact y.2
  · rw [sv_len, List.length_map] at hn
    obtain ⟨ad, rfl, hbk, hc⟩ := h hn
    refine ⟨ad, rfl, hbk, fun j u hu => ?_⟩
    have hj := (List.getElem?_eq_some_iff.1 hu).1
    rw [sv_len, List.length_map] at hj
    obtain ⟨v, hv, rfl⟩ := hc j _ (List.getElem?_eq_getElem hj)
    rw [hv]
    simp [sv, hj] at hu
    rw [hu]
/-- a one-cell field of a struct that came in -/
theorem agg_part {t : TypeId} {fs : Array Field} {fuel : Nat} {cs : List Value} {d : DataW H} {p : List MemPlace} (ht : P.underlying t = some (.struct fs)) (hr : DataW.trod enc P w 0 (fun _ => true) true fuel t cs = some (d, p))
    (i : Nat) (f : Field) (hi : fs[i]? = some f) (hc : P.cellsOf f.type = 1) (v : Value) (hv : cs[f.offset]? = some v) :
    ∃ fuel' d' p', DataW.trod enc P w 0 (fun _ => true) true fuel' f.type [v] = some (d', p') ∧ (Fit P t d → Fit P f.type d') := by
  obtain ⟨xs, n, _, hxy, hl, hlen, hf⟩ := DataW.trod_struct ht hr
  have h1 := hf i f hi
  have h2 : (cs.drop f.offset).take (P.cellsOf f.type) = [v] := by
    rw [hc]
    have hlt := (List.getElem?_eq_some_iff.1 hv).1
    rw [List.drop_eq_getElem_cons hlt]
    simp only [List.take_succ_cons, List.take_zero]
    rw [List.getElem?_eq_getElem hlt] at hv
    injection hv with hv
    rw [hv]
  rw [h2] at h1
  have hil : i < xs.length := by
    have := (Array.getElem?_eq_some_iff.1 hi).1
    omega
  rw [List.getElem?_eq_getElem hil] at h1
  refine ⟨n, xs[i].1, xs[i].2, h1, fun hF m hm => hF m ?_⟩
  injection hxy with hd hp
  rw [hd]
  simp only [DataW.weights, ht]
  exact DataW.weights_mem_each (j := i) (t := f.type) (by simp [hi]) (by simp [hil]) m hm
theorem arg_node {t : TypeId} {f0 f1 f2 f3 : Field} {e2 e3 : TypeId} {r : Reach} {b0 : Nat} {v : Value} {d : DataW H} {p : List MemPlace} (ht : P.underlying t = some (.struct #[f0, f1, f2, f3]))
    (k0 : P.underlying f0.type = some (.int .i64)) (k1 : P.underlying f1.type = some .bool) (k2 : P.underlying f2.type = some (.slice e2)) (k2e : P.underlying e2 = some (.int .i64)) (k3 : P.underlying f3.type = some (.slice e3)) (k3e : P.underlying e3 = some .string)
    (hc : P.cellsOf t = 4) (c0 : P.cellsOf f0.type = 1) (c1 : P.cellsOf f1.type = 1) (c2 : P.cellsOf f2.type = 1) (c3 : P.cellsOf f3.type = 1) (ce2 : P.cellsOf e2 = 1) (ce3 : P.cellsOf e3 = 1) (be2 : P.bytesOf e2 = 8) (be3 : P.bytesOf e3 = 16)
    (o0 : f0.offset = 0) (o1 : f1.offset = 1) (o2 : f2.offset = 2) (o3 : f3.offset = 3)
    (hv : Value.okWide P w r b0 t v) (h : DataW.Trod enc P w 0 (fun _ => true) true t v d p) (hf : Fit P t d) :
    ∃ (n : NodeL) (A : Option Addr) (c : Nat) (A2 : Option Addr) (c2 : Nat), v = .agg #[.int .i64 n.t, .bool n.leaf, .slice A n.keys.length c, .slice A2 n.vals.length c2] ∧ (Lit.int .i64 n.t).wf = true ∧ (∀ x ∈ n.keys, (Lit.int .i64 x).wf = true) ∧
      (∀ x ∈ n.vals, x.length ≤ maxLen) ∧ n.keys.length * 8 ≤ reachBytes ∧ n.vals.length * 16 ≤ reachBytes ∧ NodR w w.heap.size n A c A2 c2 := by
  obtain ⟨cs, rfl, hsz⟩ := okWide_struct ht hv
  obtain ⟨fuel, hr⟩ := h
  rw [hc] at hsz
  obtain ⟨cs⟩ := cs
  match cs, hsz with
  | [v0, v1, v2, v3], _ =>
    obtain ⟨a, rfl, wa⟩ := agg_field ht hr 0 f0 rfl k0 c0 v0 (by rw [o0]; rfl)
    obtain ⟨_, _, _, h1, -⟩ := agg_part ht hr 1 f1 rfl c1 v1 (by rw [o1]; rfl)
    obtain ⟨b, e1, -⟩ := DataW.trod_bool k1 h1
    obtain rfl : v1 = .bool b := by simpa using e1
    obtain ⟨_, _, _, h2, g2⟩ := agg_part ht hr 2 f2 rfl c2 v2 (by rw [o2]; rfl)
    obtain ⟨A, c, l, rfl, q, m, fx, rd⟩ := open_nums1 k2 k2e ce2 be2 h2 (g2 hf)
    obtain ⟨_, _, _, h3, g3⟩ := agg_part ht hr 3 f3 rfl c3 v3 (by rw [o3]; rfl)
    obtain ⟨A2, c2, l2, rfl, q2, m2, fx2, rd2⟩ := open_strs1 k3 k3e ce3 be3 h3 (g3 hf)
    exact ⟨⟨a, b, l, l2⟩, A, c, A2, c2, rfl, wa, fx, fx2, m, m2, ⟨rd, rd2, q, q2⟩⟩
end
end Go.Proofs.Ytilkcecjciiboaa
