/-
  How an argument that came in is opened into the words of this seat's proofs; nothing of the program stands here.
-/
import Derived.Test.YtcnalndhlonblaaBase3
import Derived.OpenShut
import Derived.ShutString
import Derived.ChangeOld
import Derived.SizedLaws
import Derived.Deep.Slices
import Derived.Deep.SlicePairs
namespace Go.Proofs.Ytcnalndhlonblaa
open Go.ChangeShapes Go.WideShapes Go.ChangeAt Go.RowKit Go.Deep
open Go.ChangeMaps (open_string shut_string)

theorem choose_list {α : Type} {Q : Nat → α → Prop} : ∀ n : Nat, (∀ i, i < n → ∃ x, Q i x) → ∃ xs : List α, xs.length = n ∧ ∀ i x, xs[i]? = some x → Q i x
  | 0, _ => ⟨[], rfl, by simp⟩
  | n + 1, h => by
    obtain ⟨xs, hl, hx⟩ := choose_list n (fun i hi => h i (by omega))
    obtain ⟨x, hq⟩ := h n (by omega)
    refine ⟨xs ++ [x], by simp [hl], fun i y hy => ?_⟩
    rw [List.getElem?_append] at hy
    split at hy
    · exact hx i y hy
    · rename_i hge
      have : i - xs.length = 0 := by
        rcases Nat.eq_zero_or_pos (i - xs.length) with h0 | h0
        · exact h0
        · rw [List.getElem?_eq_none (by simp; omega)] at hy; cases hy
      rw [this] at hy
      simp at hy
      subst hy
      have : i = n := by omega
      subst this
      exact hq

section
variable {H : Type} {enc : TypeId × Value → H} {P : Program} {w : World}
/-- the weights that the form's own reach bounds -/
def Fit (P : Program) (t : TypeId) (d : DataW H) : Prop := ∀ n ∈ d.weights P t, n ≤ reachBytes
theorem fit_of {ts : List TypeId} {ds : List (DataW H)} (h : (DataW.weightsEach P ts ds).all (· ≤ reachBytes) = true) (j : Nat) (t : TypeId) (d : DataW H) (ht : ts[j]? = some t) (hd : ds[j]? = some d) : Fit P t d := fun n hn => by
  have := List.all_eq_true.1 h n (DataW.weights_mem_each ht hd n hn)
  simpa using this
theorem weightsAll_mem {e : TypeId} : ∀ {ds : List (DataW H)} {d : DataW H}, d ∈ ds → ∀ n ∈ d.weights P e, n ∈ DataW.weightsAll P e ds
  | d0 :: ds, d, hd, n, hn => by
    simp only [DataW.weightsAll, List.mem_append]
    rcases List.mem_cons.1 hd with rfl | h
    · exact .inl hn
    · exact .inr (weightsAll_mem h n hn)
theorem fit_elem {t e : TypeId} (ht : P.underlying t = some (.slice e)) {elems spare : List (DataW H)} (h : Fit P t (.slice elems spare)) {d : DataW H} (hd : d ∈ elems) : Fit P e d := fun n hn =>
  h n (by simp only [DataW.weights, ht, List.mem_cons, List.mem_append]; exact .inr (.inl (weightsAll_mem hd n hn)))
theorem fit_len {t e : TypeId} (ht : P.underlying t = some (.slice e)) {elems spare : List (DataW H)} (h : Fit P t (.slice elems spare)) : (elems.length + spare.length) * P.bytesOf e ≤ reachBytes :=
  h _ (by simp [DataW.weights, ht])

/-- a slice of one-cell elements, each read by R -/
theorem open_list {α : Type} (R : α → Value → Prop) {t e : TypeId} {v : Value} {fuel : Nat} {d : DataW H} {p : List MemPlace} (ht : P.underlying t = some (.slice e)) (hc : P.cellsOf e = 1)
    (hr : DataW.trod enc P w 0 (fun _ => true) true fuel t [v] = some (d, p)) (hf : Fit P t d)
    (hel : ∀ v n d p, DataW.trod enc P w 0 (fun _ => true) true n e [v] = some (d, p) → Fit P e d → ∃ x : α, R x v) :
    ∃ a cap, ∃ xs : List α, v = .slice a xs.length cap ∧ xs.length ≤ cap ∧ cap ≤ maxLen ∧ cap * P.bytesOf e ≤ reachBytes ∧
      (0 < xs.length → ∃ ad, a = some ad ∧ ad.block < w.heap.size ∧ ∀ i x, xs[i]? = some x → ∃ v, w.cell? (ad.add i) = some v ∧ R x v) := by
  rcases open_slice1 ht hc hr with ⟨hcs, _⟩ | ⟨x, l, c, m, n, V, D, Pl, hcs, _, hl, hm, hmm, hx, hi⟩
  · simp at hcs
    subst hcs
    exact ⟨none, 0, [], rfl, Nat.le_refl _, by simp [maxLen], by simp, by simp⟩
  · simp at hcs
    subst hcs
    simp only [if_true] at hmm
    subst hmm
    simp only [Prod.mk.injEq] at hx
    obtain ⟨rfl, _⟩ := hx
    have hfl := fit_len ht hf
    simp only [List.length_map, List.length_range] at hfl
    rw [show l + (m - l) = m by omega] at hfl
    obtain ⟨xs, hxl, hxs⟩ := choose_list (Q := fun i y => ∃ v, w.cell? (x.add i) = some v ∧ R y v) l (fun i hil => by
      obtain ⟨h1, h2⟩ := hi i (by omega)
      obtain ⟨y, hy⟩ := hel (V i) n (D i) (Pl i) h2 (fit_elem ht hf (by simp only [List.mem_map, List.mem_range]; exact ⟨i, hil, rfl⟩))
      exact ⟨y, _, h1, hy⟩)
    subst hxl
    refine ⟨_, _, xs, rfl, hl, hm, hfl, fun hpos => ⟨_, rfl, ?_, hxs⟩⟩
    have := block_lt_of_cell (hi 0 (by omega)).1
    rwa [block_add] at this

/-- the number that fits, out of a one-cell reading -/
theorem open_num1 {e : TypeId} {k : IntKind} {v : Value} {n : Nat} {d : DataW H} {p : List MemPlace} (he : P.underlying e = some (.int k)) (h : DataW.trod enc P w 0 (fun _ => true) true n e [v] = some (d, p)) :
    ∃ x : Int, v = .int k x ∧ (Lit.int k x).wf = true := by
  obtain ⟨x, h1, _, h3⟩ := DataW.trod_int he h
  exact ⟨x, by simpa using h1, h3⟩
theorem open_nums1 {t e : TypeId} {v : Value} {fuel : Nat} {d : DataW H} {p : List MemPlace} (ht : P.underlying t = some (.slice e)) (he : P.underlying e = some (.int .i64)) (hc : P.cellsOf e = 1) (hb : P.bytesOf e = 8)
    (hr : DataW.trod enc P w 0 (fun _ => true) true fuel t [v] = some (d, p)) (hf : Fit P t d) :
    ∃ a cap, ∃ l : List Int, v = .slice a l.length cap ∧ l.length ≤ cap ∧ l.length * 8 ≤ reachBytes ∧ (∀ x ∈ l, (Lit.int .i64 x).wf = true) ∧ Reads w w.heap.size a (iv l) := by
  obtain ⟨a, cap, xs, rfl, hl, _, hby, h⟩ := open_list (α := { x : Int // (Lit.int .i64 x).wf = true }) (fun x v => v = .int .i64 x.1) ht hc hr hf (fun v n d p h _ => by
    obtain ⟨x, h1, h2⟩ := open_num1 he h
    exact ⟨⟨x, h2⟩, h1⟩)
  rw [hb] at hby
  refine ⟨a, cap, xs.map (·.1), by rw [List.length_map], by rw [List.length_map]; exact hl, by rw [List.length_map]; omega, fun x hx => ?_, fun hn => ?_⟩
  · obtain ⟨y, _, rfl⟩ := List.mem_map.1 hx
    exact y.2
  · rw [iv_len, List.length_map] at hn
    obtain ⟨ad, rfl, hbk, hc⟩ := h hn
    refine ⟨ad, rfl, hbk, fun j u hu => ?_⟩
    have hj := (List.getElem?_eq_some_iff.1 hu).1
    rw [iv_len, List.length_map] at hj
    obtain ⟨v, hv, rfl⟩ := hc j _ (List.getElem?_eq_getElem hj)
    rw [hv]
    simp [iv, hj] at hu
    rw [hu]
theorem open_bytes1 {t e : TypeId} {v : Value} {fuel : Nat} {d : DataW H} {p : List MemPlace} (ht : P.underlying t = some (.slice e)) (he : P.underlying e = some (.int .u8)) (hc : P.cellsOf e = 1) (hb : P.bytesOf e = 1)
    (hr : DataW.trod enc P w 0 (fun _ => true) true fuel t [v] = some (d, p)) (hf : Fit P t d) :
    ∃ a cap, ∃ l : List UInt8, v = .slice a l.length cap ∧ l.length ≤ cap ∧ l.length ≤ reachBytes ∧ Reads w w.heap.size a (bv l) := by
  obtain ⟨a, cap, xs, rfl, hl, _, hby, h⟩ := open_list (α := UInt8) (fun x v => v = .int .u8 x.toNat) ht hc hr hf (fun v n d p h _ => by
    obtain ⟨x, h1, h2⟩ := open_num1 he h
    have := wf_u8 h2
    refine ⟨UInt8.ofNat x.toNat, ?_⟩
    rw [h1, UInt8.toNat_ofNat', Nat.mod_eq_of_lt (by omega), Int.toNat_of_nonneg (by omega)])
  rw [hb] at hby
  refine ⟨a, cap, xs, rfl, hl, by omega, fun hn => ?_⟩
  rw [bv_len] at hn
  obtain ⟨ad, rfl, hbk, hc⟩ := h hn
  refine ⟨ad, rfl, hbk, fun j u hu => ?_⟩
  have hj := (List.getElem?_eq_some_iff.1 hu).1
  rw [bv_len] at hj
  obtain ⟨v, hv, rfl⟩ := hc j _ (List.getElem?_eq_getElem hj)
  rw [hv]
  simp [bv, hj] at hu
  rw [hu]
theorem trod_at {t : TypeId} {v : Value} {d : DataW H} {p : List MemPlace} (hv : v.cells = #[v]) (h : DataW.Trod enc P w 0 (fun _ => true) true t v d p) : ∃ fuel, DataW.trod enc P w 0 (fun _ => true) true fuel t [v] = some (d, p) := by
  obtain ⟨f, hf⟩ := h
  rw [hv] at hf
  exact ⟨f, hf⟩
theorem slice_arg {t e : TypeId} {r : Reach} {b0 : Nat} {v : Value} {d : DataW H} {p : List MemPlace} (ht : P.underlying t = some (.slice e)) (hv : Value.okWide P w r b0 t v) (h : DataW.Trod enc P w 0 (fun _ => true) true t v d p) :
    ∃ fuel, DataW.trod enc P w 0 (fun _ => true) true fuel t [v] = some (d, p) := by
  obtain ⟨a, l, c, rfl⟩ := okWide_slice ht hv
  exact trod_at rfl h
/-- an argument that is a slice of bytes, of ints, of slices of bytes -/
theorem arg_bytes {t e : TypeId} {r : Reach} {b0 : Nat} {v : Value} {d : DataW H} {p : List MemPlace} (ht : P.underlying t = some (.slice e)) (he : P.underlying e = some (.int .u8)) (hc : P.cellsOf e = 1) (hb : P.bytesOf e = 1)
    (hv : Value.okWide P w r b0 t v) (h : DataW.Trod enc P w 0 (fun _ => true) true t v d p) (hf : Fit P t d) :
    ∃ a cap, ∃ l : List UInt8, v = .slice a l.length cap ∧ l.length ≤ cap ∧ l.length ≤ reachBytes ∧ Reads w w.heap.size a (bv l) := by
  obtain ⟨_, h'⟩ := slice_arg ht hv h
  exact open_bytes1 ht he hc hb h' hf
theorem arg_nums {t e : TypeId} {r : Reach} {b0 : Nat} {v : Value} {d : DataW H} {p : List MemPlace} (ht : P.underlying t = some (.slice e)) (he : P.underlying e = some (.int .i64)) (hc : P.cellsOf e = 1) (hb : P.bytesOf e = 8)
    (hv : Value.okWide P w r b0 t v) (h : DataW.Trod enc P w 0 (fun _ => true) true t v d p) (hf : Fit P t d) :
    ∃ a cap, ∃ l : List Int, v = .slice a l.length cap ∧ l.length ≤ cap ∧ l.length * 8 ≤ reachBytes ∧ (∀ x ∈ l, (Lit.int .i64 x).wf = true) ∧ Reads w w.heap.size a (iv l) := by
  obtain ⟨_, h'⟩ := slice_arg ht hv h
  exact open_nums1 ht he hc hb h' hf
theorem arg_pieces {t e e1 : TypeId} {r : Reach} {b0 : Nat} {v : Value} {d : DataW H} {p : List MemPlace} (ht : P.underlying t = some (.slice e)) (he : P.underlying e = some (.slice e1)) (he1 : P.underlying e1 = some (.int .u8)) (hc : P.cellsOf e = 1) (hc1 : P.cellsOf e1 = 1) (hb : P.bytesOf e = 24) (hb1 : P.bytesOf e1 = 1)
    (hv : Value.okWide P w r b0 t v) (h : DataW.Trod enc P w 0 (fun _ => true) true t v d p) (hf : Fit P t d) :
    ∃ a cap, ∃ ps : List (List UInt8), v = .slice a ps.length cap ∧ ps.length ≤ cap ∧ ps.length * 24 ≤ reachBytes ∧ (∀ l ∈ ps, l.length ≤ reachBytes) ∧ Pieces w w.heap.size a ps := by
  obtain ⟨_, h'⟩ := slice_arg ht hv h
  obtain ⟨a, cap, xs, rfl, hl, _, hby, h⟩ := open_list (α := { l : List UInt8 // l.length ≤ reachBytes }) (fun l v => ∃ a c, v = .slice a l.1.length c ∧ Reads w w.heap.size a (bv l.1)) ht hc h' hf (fun v n d p h hf => by
    obtain ⟨a, c, l, h1, _, h2, h3⟩ := open_bytes1 he he1 hc1 hb1 h hf
    exact ⟨⟨l, h2⟩, a, c, h1, h3⟩)
  rw [hb] at hby
  refine ⟨a, cap, xs.map (·.1), by rw [List.length_map], by rw [List.length_map]; exact hl, by rw [List.length_map]; omega, fun x hx => ?_, fun hn => ?_⟩
  · obtain ⟨y, _, rfl⟩ := List.mem_map.1 hx
    exact y.2
  · rw [List.length_map] at hn
    obtain ⟨ad, rfl, hbk, hc⟩ := h hn
    refine ⟨ad, rfl, hbk, fun j u hu => ?_⟩
    have hj := (List.getElem?_eq_some_iff.1 hu).1
    rw [List.length_map] at hj
    obtain ⟨v, hv, a', c', rfl, hr⟩ := hc j _ (List.getElem?_eq_getElem hj)
    simp [hj] at hu
    subst hu
    exact ⟨a', c', hv, hr, by have := xs[j].2; simp only [reachBytes, maxLen] at *; omega⟩
/-- a field that is an int, of a struct that came in -/
theorem agg_field {t : TypeId} {fs : Array Field} {fuel : Nat} {cs : List Value} {d : DataW H} {p : List MemPlace} (ht : P.underlying t = some (.struct fs)) (hr : DataW.trod enc P w 0 (fun _ => true) true fuel t cs = some (d, p))
    (i : Nat) (f : Field) (hi : fs[i]? = some f) (hk : P.underlying f.type = some (.int .i64)) (hc : P.cellsOf f.type = 1) (v : Value) (hv : cs[f.offset]? = some v) : ∃ x : Int, v = .int .i64 x ∧ (Lit.int .i64 x).wf = true := by
  obtain ⟨xs, n, _, hxy, hl, hlen, hf⟩ := DataW.trod_struct ht hr
  have h1 := hf i f hi
  have h2 : (cs.drop f.offset).take (P.cellsOf f.type) = [v] := by
    rw [hc]
    have hlt := (List.getElem?_eq_some_iff.1 hv).1
    rw [List.drop_eq_getElem_cons hlt]
    simp only [List.take_succ_cons, List.take_zero]
    rw [List.getElem?_eq_getElem hlt] at hv
    injection hv with hv
    rw [hv]
  rw [h2] at h1
  have hil : i < xs.length := by
    have := (Array.getElem?_eq_some_iff.1 hi).1
    omega
  rw [List.getElem?_eq_getElem hil] at h1
  exact open_num1 (d := xs[i].1) (p := xs[i].2) hk h1
theorem arg_agg3 {t : TypeId} {f0 f1 f2 : Field} {r : Reach} {b0 : Nat} {v : Value} {d : DataW H} {p : List MemPlace} (ht : P.underlying t = some (.struct #[f0, f1, f2])) (hc : P.cellsOf t = 3)
    (k0 : P.underlying f0.type = some (.int .i64)) (k1 : P.underlying f1.type = some (.int .i64)) (k2 : P.underlying f2.type = some (.int .i64))
    (c0 : P.cellsOf f0.type = 1) (c1 : P.cellsOf f1.type = 1) (c2 : P.cellsOf f2.type = 1) (o0 : f0.offset = 0) (o1 : f1.offset = 1) (o2 : f2.offset = 2)
    (hv : Value.okWide P w r b0 t v) (h : DataW.Trod enc P w 0 (fun _ => true) true t v d p) :
    ∃ a b c : Int, v = .agg #[.int .i64 a, .int .i64 b, .int .i64 c] ∧ (Lit.int .i64 a).wf = true ∧ (Lit.int .i64 b).wf = true ∧ (Lit.int .i64 c).wf = true := by
  obtain ⟨cs, rfl, hsz⟩ := okWide_struct ht hv
  obtain ⟨fuel, hr⟩ := h
  rw [hc] at hsz
  obtain ⟨cs⟩ := cs
  match cs, hsz with
  | [v0, v1, v2], _ =>
    obtain ⟨a, rfl, wa⟩ := agg_field ht hr 0 f0 rfl k0 c0 v0 (by rw [o0]; rfl)
    obtain ⟨b, rfl, wb⟩ := agg_field ht hr 1 f1 rfl k1 c1 v1 (by rw [o1]; rfl)
    obtain ⟨c, rfl, wc⟩ := agg_field ht hr 2 f2 rfl k2 c2 v2 (by rw [o2]; rfl)
    exact ⟨a, b, c, rfl, wa, wb, wc⟩
theorem arg_agg4 {t : TypeId} {f0 f1 f2 f3 : Field} {r : Reach} {b0 : Nat} {v : Value} {d : DataW H} {p : List MemPlace} (ht : P.underlying t = some (.struct #[f0, f1, f2, f3])) (hc : P.cellsOf t = 4)
    (k0 : P.underlying f0.type = some (.int .i64)) (k1 : P.underlying f1.type = some (.int .i64)) (k2 : P.underlying f2.type = some (.int .i64)) (k3 : P.underlying f3.type = some (.int .i64))
    (c0 : P.cellsOf f0.type = 1) (c1 : P.cellsOf f1.type = 1) (c2 : P.cellsOf f2.type = 1) (c3 : P.cellsOf f3.type = 1) (o0 : f0.offset = 0) (o1 : f1.offset = 1) (o2 : f2.offset = 2) (o3 : f3.offset = 3)
    (hv : Value.okWide P w r b0 t v) (h : DataW.Trod enc P w 0 (fun _ => true) true t v d p) :
    ∃ a b c d : Int, v = .agg #[.int .i64 a, .int .i64 b, .int .i64 c, .int .i64 d] ∧ (Lit.int .i64 a).wf = true ∧ (Lit.int .i64 b).wf = true ∧ (Lit.int .i64 c).wf = true ∧ (Lit.int .i64 d).wf = true := by
  obtain ⟨cs, rfl, hsz⟩ := okWide_struct ht hv
  obtain ⟨fuel, hr⟩ := h
  rw [hc] at hsz
  obtain ⟨cs⟩ := cs
  match cs, hsz with
  | [v0, v1, v2, v3], _ =>
    obtain ⟨a, rfl, wa⟩ := agg_field ht hr 0 f0 rfl k0 c0 v0 (by rw [o0]; rfl)
    obtain ⟨b, rfl, wb⟩ := agg_field ht hr 1 f1 rfl k1 c1 v1 (by rw [o1]; rfl)
    obtain ⟨c, rfl, wc⟩ := agg_field ht hr 2 f2 rfl k2 c2 v2 (by rw [o2]; rfl)
    obtain ⟨d, rfl, wd⟩ := agg_field ht hr 3 f3 rfl k3 c3 v3 (by rw [o3]; rfl)
    exact ⟨a, b, c, d, rfl, wa, wb, wc, wd⟩
theorem arg_agg11 {t : TypeId} {f0 f1 f2 f3 f4 f5 f6 f7 f8 f9 f10 : Field} {r : Reach} {b0 : Nat} {v : Value} {d : DataW H} {p : List MemPlace} (ht : P.underlying t = some (.struct #[f0, f1, f2, f3, f4, f5, f6, f7, f8, f9, f10])) (hc : P.cellsOf t = 11)
    (k0 : P.underlying f0.type = some (.int .i64)) (k1 : P.underlying f1.type = some (.int .i64)) (k2 : P.underlying f2.type = some (.int .i64)) (k3 : P.underlying f3.type = some (.int .i64)) (k4 : P.underlying f4.type = some (.int .i64)) (k5 : P.underlying f5.type = some (.int .i64)) (k6 : P.underlying f6.type = some (.int .i64)) (k7 : P.underlying f7.type = some (.int .i64)) (k8 : P.underlying f8.type = some (.int .i64)) (k9 : P.underlying f9.type = some (.int .i64)) (k10 : P.underlying f10.type = some (.int .i64))
    (c0 : P.cellsOf f0.type = 1) (c1 : P.cellsOf f1.type = 1) (c2 : P.cellsOf f2.type = 1) (c3 : P.cellsOf f3.type = 1) (c4 : P.cellsOf f4.type = 1) (c5 : P.cellsOf f5.type = 1) (c6 : P.cellsOf f6.type = 1) (c7 : P.cellsOf f7.type = 1) (c8 : P.cellsOf f8.type = 1) (c9 : P.cellsOf f9.type = 1) (c10 : P.cellsOf f10.type = 1) (o0 : f0.offset = 0) (o1 : f1.offset = 1) (o2 : f2.offset = 2) (o3 : f3.offset = 3) (o4 : f4.offset = 4) (o5 : f5.offset = 5) (o6 : f6.offset = 6) (o7 : f7.offset = 7) (o8 : f8.offset = 8) (o9 : f9.offset = 9) (o10 : f10.offset = 10)
    (hv : Value.okWide P w r b0 t v) (h : DataW.Trod enc P w 0 (fun _ => true) true t v d p) :
    ∃ xa xb xc xd xe xf xg xh xi xj xk : Int, v = .agg #[.int .i64 xa, .int .i64 xb, .int .i64 xc, .int .i64 xd, .int .i64 xe, .int .i64 xf, .int .i64 xg, .int .i64 xh, .int .i64 xi, .int .i64 xj, .int .i64 xk] ∧ (Lit.int .i64 xa).wf = true ∧ (Lit.int .i64 xb).wf = true ∧ (Lit.int .i64 xc).wf = true ∧ (Lit.int .i64 xd).wf = true ∧ (Lit.int .i64 xe).wf = true ∧ (Lit.int .i64 xf).wf = true ∧ (Lit.int .i64 xg).wf = true ∧ (Lit.int .i64 xh).wf = true ∧ (Lit.int .i64 xi).wf = true ∧ (Lit.int .i64 xj).wf = true ∧ (Lit.int .i64 xk).wf = true := by
  obtain ⟨cs, rfl, hsz⟩ := okWide_struct ht hv
  obtain ⟨fuel, hr⟩ := h
  rw [hc] at hsz
  obtain ⟨cs⟩ := cs
  match cs, hsz with
  | [v0, v1, v2, v3, v4, v5, v6, v7, v8, v9, v10], _ =>
    obtain ⟨xa, rfl, wa⟩ := agg_field ht hr 0 f0 rfl k0 c0 v0 (by rw [o0]; rfl)
    obtain ⟨xb, rfl, wb⟩ := agg_field ht hr 1 f1 rfl k1 c1 v1 (by rw [o1]; rfl)
    obtain ⟨xc, rfl, wc⟩ := agg_field ht hr 2 f2 rfl k2 c2 v2 (by rw [o2]; rfl)
    obtain ⟨xd, rfl, wd⟩ := agg_field ht hr 3 f3 rfl k3 c3 v3 (by rw [o3]; rfl)
    obtain ⟨xe, rfl, we⟩ := agg_field ht hr 4 f4 rfl k4 c4 v4 (by rw [o4]; rfl)
    obtain ⟨xf, rfl, wf⟩ := agg_field ht hr 5 f5 rfl k5 c5 v5 (by rw [o5]; rfl)
    obtain ⟨xg, rfl, wg⟩ := agg_field ht hr 6 f6 rfl k6 c6 v6 (by rw [o6]; rfl)
    obtain ⟨xh, rfl, wh⟩ := agg_field ht hr 7 f7 rfl k7 c7 v7 (by rw [o7]; rfl)
    obtain ⟨xi, rfl, wi⟩ := agg_field ht hr 8 f8 rfl k8 c8 v8 (by rw [o8]; rfl)
    obtain ⟨xj, rfl, wj⟩ := agg_field ht hr 9 f9 rfl k9 c9 v9 (by rw [o9]; rfl)
    obtain ⟨xk, rfl, wk⟩ := agg_field ht hr 10 f10 rfl k10 c10 v10 (by rw [o10]; rfl)
    exact ⟨xa, xb, xc, xd, xe, xf, xg, xh, xi, xj, xk, rfl, wa, wb, wc, wd, we, wf, wg, wh, wi, wj, wk⟩
theorem flat_pair {b o i : Nat} {a : Addr} (ha : a = ⟨b, o, none⟩) : a.add i = ⟨b, o + i, none⟩ := by subst ha; exact add_plain b o i
theorem spot_of_cell {a : Addr} {v : Value} (h : w.cell? a = some v) : a = ⟨a.block, a.off, none⟩ := by
  obtain ⟨b, o, s⟩ := a
  cases s with
  | none => rfl
  | some s =>
    unfold World.cell? at h
    split at h
    · simp at h
    · cases h
/-- an argument that is a slice of structs of two ints -/
theorem arg_pairs {t e : TypeId} {f0 f1 : Field} {r : Reach} {b0 : Nat} {v : Value} {d : DataW H} {p : List MemPlace} (ht : P.underlying t = some (.slice e)) (he : P.underlying e = some (.struct #[f0, f1]))
    (h0 : P.underlying f0.type = some (.int .i64)) (h1 : P.underlying f1.type = some (.int .i64))
    (ce : P.cellsOf e = 2) (o0 : f0.offset = 0) (o1 : f1.offset = 1) (c0 : P.cellsOf f0.type = 1) (c1 : P.cellsOf f1.type = 1) (hb : P.bytesOf e = 16)
    (hv : Value.okWide P w r b0 t v) (h : DataW.Trod enc P w 0 (fun _ => true) true t v d p) (hf : Fit P t d) :
    ∃ a cap, ∃ l : List (Int × Int), v = .slice a l.length cap ∧ l.length ≤ cap ∧ l.length * 16 ≤ reachBytes ∧ (∀ p ∈ l, (Lit.int .i64 p.1).wf = true ∧ (Lit.int .i64 p.2).wf = true) ∧ Reads2 w w.heap.size a l := by
  obtain ⟨_, h'⟩ := slice_arg ht hv h
  rcases open_slice_pairs ht he ce o0 o1 c0 c1 h' with ⟨hcs, _⟩ | ⟨x, l, c, m, n, V0, V1, D0, D1, P0, P1, hcs, _, hl, hm, hmm, hx, hi⟩
  · simp at hcs
    subst hcs
    exact ⟨none, 0, [], rfl, Nat.le_refl _, by simp, by simp, fun hn => absurd hn (by simp)⟩
  · simp at hcs
    subst hcs
    simp only [if_true] at hmm
    subst hmm
    simp only [Prod.mk.injEq] at hx
    obtain ⟨rfl, _⟩ := hx
    have hfl := fit_len ht hf
    simp only [List.length_map, List.length_range] at hfl
    rw [show l + (m - l) = m by omega, hb] at hfl
    obtain ⟨xs, hxl, hxs⟩ := choose_list (α := { q : Int × Int // (Lit.int .i64 q.1).wf = true ∧ (Lit.int .i64 q.2).wf = true }) (Q := fun i y => w.cell? (x.add (i * 2)) = some (.int .i64 y.1.1) ∧ w.cell? (x.add (i * 2 + 1)) = some (.int .i64 y.1.2)) l (fun i hil => by
      obtain ⟨g1, g2, g3, g4⟩ := hi i (by omega)
      obtain ⟨y0, e0, w0⟩ := open_num1 h0 g3
      obtain ⟨y1, e1, w1⟩ := open_num1 h1 g4
      exact ⟨⟨(y0, y1), w0, w1⟩, by rw [g1, e0], by rw [g2, e1]⟩)
    subst hxl
    refine ⟨_, _, xs.map (·.1), by rw [List.length_map], by rw [List.length_map]; exact hl, by rw [List.length_map]; omega, fun p hp => ?_, fun hpos => ?_⟩
    · obtain ⟨y, _, rfl⟩ := List.mem_map.1 hp
      exact y.2
    · rw [List.length_map] at hpos
      have hp := spot_of_cell (hi 0 (by omega)).1
      have hx0 : x = ⟨x.block, x.off, none⟩ := by
        rw [Nat.zero_mul] at hp
        exact hp
      refine ⟨x.block, x.off, by rw [← hx0], ?_, fun j q hj => ?_⟩
      · have := block_lt_of_cell (hi 0 (by omega)).1
        rwa [block_add] at this
      · have hjl := (List.getElem?_eq_some_iff.1 hj).1
        rw [List.length_map] at hjl
        obtain ⟨g1, g2⟩ := hxs j _ (List.getElem?_eq_getElem hjl)
        rw [flat_pair hx0] at g1 g2
        simp [hjl] at hj
        subst hj
        exact ⟨g1, g2⟩
end
end Go.Proofs.Ytcnalndhlonblaa
