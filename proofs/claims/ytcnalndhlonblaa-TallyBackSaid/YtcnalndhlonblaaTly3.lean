/-
  Chapter 21: lists of lists of the call's own; appends inside a fence.
-/
import Derived.Test.YtcnalndhlonblaaTly1
import Derived.Test.YtcnalndhlonblaaTly2
import Derived.Test.YtcnalndhlonblaaRefs
import Derived.Test.YtcnalndhlonblaaBase3
import Derived.Test.YtcnalndhlonblaaBase7
import Derived.OrdersIn
import Derived.OwnWalkIn
namespace Go.Proofs.Ytcnalndhlonblaa
open Go.RowKit
theorem own_neS {w : World} {B1 B2 e1 e2 s1 s2 n1 n2 : Nat} {v1 v2 : Value} {xs ys : List Value} (h1 : w.ownsRow B1 e1 s1 v1 n1 xs) (h2 : w.ownsRow B2 e2 s2 v2 n2 ys) (he : e1 ≠ e2) : v1.ownBlock = none ∨ v1.ownBlock ≠ v2.ownBlock := by
  rcases h1.2 with ⟨rfl, _⟩ | ⟨g, cap, cur, rfl, _, hg, _⟩
  · exact .inl rfl
  · right
    exact not_own hg he h2
/-- a slice of slices of ints, all of the call's own -/
def OwnLL (w : World) (base : Nat) (v : Value) (ls : List (List Int)) : Prop :=
  ∃ vs : List Value, w.ownsRow base 22 1 v ls.length vs ∧ vs.length = ls.length ∧ ∀ (j : Nat) l, ls[j]? = some l → ∃ u, vs[j]? = some u ∧ w.ownsRow base 3 1 u l.length (iv l)
theorem OwnLL.nil (w : World) (base : Nat) : OwnLL w base (.slice none 0 0) [] := ⟨[], World.ownsRow_nil _ _ _ _, rfl, fun j l h => by simp at h⟩
theorem OwnLL.keep {w w' : World} {base : Nat} {v : Value} {ls : List (List Int)} (h : OwnLL w base v ls) (hb : Below w.heap.size w w') : OwnLL w' base v ls := by
  obtain ⟨vs, h1, h2, h3⟩ := h
  refine ⟨vs, own_keep h1 hb, h2, fun j l hj => ?_⟩
  obtain ⟨u, hu, ho⟩ := h3 j l hj
  exact ⟨u, hu, own_keep ho hb⟩
/-- a store into a block of another type -/
theorem OwnLL.kept {w w' : World} {base : Nat} {v : Value} {ls : List (List Int)} (h : OwnLL w base v ls) {row : Option Nat} (hg : w.grownBy w' row) (hr : ∀ e, e = 22 ∨ e = 3 → ∀ (u : Value) n xs, w.ownsRow base e 1 u n xs → u.ownBlock = none ∨ u.ownBlock ≠ row) : OwnLL w' base v ls := by
  obtain ⟨vs, h1, h2, h3⟩ := h
  refine ⟨vs, h1.kept hg (hr _ (.inl rfl) _ _ _ h1), h2, fun j l hj => ?_⟩
  obtain ⟨u, hu, ho⟩ := h3 j l hj
  exact ⟨u, hu, ho.kept hg (hr _ (.inr rfl) _ _ _ ho)⟩
theorem OwnLL.mono {w : World} {base base' : Nat} {v : Value} {ls : List (List Int)} (h : OwnLL w base v ls) (hb : base' ≤ base) : OwnLL w base' v ls := by
  obtain ⟨vs, h1, h2, h3⟩ := h
  refine ⟨vs, own_mono h1 hb, h2, fun j l hj => ?_⟩
  obtain ⟨u, hu, ho⟩ := h3 j l hj
  exact ⟨u, hu, own_mono ho hb⟩
/-- a list appended -/
theorem OwnLL.snoc {w w2 : World} {base : Nat} {v v' u : Value} {ls : List (List Int)} {l : List Int} {vs : List Value} (h1 : w.ownsRow base 22 1 v ls.length vs) (h2 : vs.length = ls.length)
    (h3 : ∀ (j : Nat) l, ls[j]? = some l → ∃ u, vs[j]? = some u ∧ w.ownsRow base 3 1 u l.length (iv l)) (hu : w.ownsRow base 3 1 u l.length (iv l))
    (ho : w2.ownsRow base 22 1 v' (ls.length + 1) (vs ++ [u])) (hg : w.grownBy w2 v.ownBlock) : OwnLL w2 base v' (ls ++ [l]) := by
  refine ⟨vs ++ [u], by rw [List.length_append]; exact ho, by simp [h2], fun j x hj => ?_⟩
  rcases Nat.lt_or_ge j ls.length with hlt | hge
  · rw [List.getElem?_append_left hlt] at hj
    obtain ⟨u', hu', ho'⟩ := h3 j x hj
    exact ⟨u', by rw [List.getElem?_append_left (by omega)]; exact hu', ho'.kept hg (own_neS ho' h1 (by decide))⟩
  · rw [List.getElem?_append_right hge] at hj
    have hj0 : j - ls.length = 0 := by
      rcases Nat.eq_zero_or_pos (j - ls.length) with h | h
      · exact h
      · rw [List.getElem?_eq_none (by simp; omega)] at hj; cases hj
    rw [hj0] at hj
    simp at hj
    subst hj
    exact ⟨u, by rw [List.getElem?_append_right (by omega), h2, hj0]; rfl, hu.kept hg (own_neS hu h1 (by decide))⟩
theorem OwnLL.lists {w : World} {base : Nat} {v : Value} {ls : List (List Int)} (h : OwnLL w base v ls) : ∃ A c, v = .slice A ls.length c ∧ Lists w w.heap.size A ls := by
  obtain ⟨vs, h1, h2, h3⟩ := h
  obtain ⟨A, c, rfl⟩ := own_form h1
  refine ⟨A, c, rfl, fun hn => ?_⟩
  obtain ⟨ad, e, hlt, hc⟩ := (Reads.of_own h1) (by omega)
  refine ⟨ad, e, hlt, fun j l hj => ?_⟩
  obtain ⟨u, hu, ho⟩ := h3 j l hj
  obtain ⟨Aj, cj, rfl⟩ := own_form ho
  exact ⟨Aj, cj, hc j _ hu, Reads.of_own ho⟩
theorem OwnLL.putObj {W : World} {base : Nat} {v : Value} {ls : List (List Int)} (h : OwnLL W base v ls) {l : Nat} {o : Obj} (o' : Obj) (hl : W.heap[l]? = some o) (ho : o.isCells = false) : OwnLL (W.putObj l o') base v ls := by
  obtain ⟨vs, h1, h2, h3⟩ := h
  refine ⟨vs, ownsRow_putObj h1 o' hl ho, h2, fun j x hj => ?_⟩
  obtain ⟨u, hu, hw⟩ := h3 j x hj
  exact ⟨u, hu, ownsRow_putObj hw o' hl ho⟩
theorem own_awayC {w : World} {B e s n : Nat} {v : Value} {xs : List Value} (h : w.ownsRow B e s v n xs) {row : Option Nat} (hr : ∀ r, row = some r → ∃ o : Obj, w.heap[r]? = some o ∧ o.isCells = false) : v.ownBlock = none ∨ v.ownBlock ≠ row := by
  rcases h.2 with ⟨rfl, _⟩ | ⟨g, cap, cur, rfl, _, hg, _⟩
  · exact .inl rfl
  · refine .inr fun e' => ?_
    obtain ⟨o, ho, hc⟩ := hr g (by simpa [Value.ownBlock] using e'.symm)
    rw [hg] at ho
    cases ho
    cases hc
/-- the box of a list of lists, as a round's own -/
def BoxLL (bx base : Nat) (ls : List (List Int)) (W : World) : Prop := ∃ v, Boxed W bx 24 v ∧ OwnLL W base v ls
theorem BoxLL.own {β : Type} (bx base : Nat) (f : β → List (List Int)) : Own (fun s W => BoxLL bx base (f s) W) := by
  rintro s W W' row ⟨v, hv, hL⟩ hg hr
  refine ⟨v, hv.kept hg (fun e' => ?_), hL.kept hg (fun e _ u n xs ho => own_awayC ho hr)⟩
  obtain ⟨o, ho, hc⟩ := hr bx e'.symm
  rw [show W.heap[bx]? = _ from hv] at ho
  cases ho
  cases hc
theorem operIn_append_own {F : Fence} {n : Nat} {P : Program} (w : World) {o : Oper} {a : Act} {K : Act → World → Prop} {Q : Exit → Act → World → Prop}
    (s x : Operand) (t : TypeId) (hop : o.op = Op.call { callee := Callee.builtin Builtin.append, args := #[s, x], argTypes := #[t, t] })
    (base : Nat) (e : TypeId) (i : TypeInfo) (z : Value) (size bytes : Nat) (h1 : P.underlying t = some (.slice e)) (h2 : P.info? e = some i) (h3 : i.zero = some z) (h4 : i.size = size) (h5 : i.bytes = bytes) (h6 : z.cells.size = size) (h7 : 0 < size)
    (v : Value) (k : Nat) (xs : List Value) (hs : a.eval s = v) (hown : w.ownsRow base e size v k xs) (ad : Addr) (m c : Nat) (news : List Value) (hx : a.eval x = .slice (some ad) m c) (hn : news.length = m * size)
    (hc : ∀ j u, news[j]? = some u → w.cell? (ad.add j) = some u) (h1c : ∀ u ∈ news, u.oneCell' = true) (b1 : k + m ≤ maxLen) (b2 : (k + m) * bytes ≤ 140737488355328) (b3 : base ≤ w.heap.size)
    (hK : ∀ v' w', w'.ownsRow base e size v' (k + m) (xs ++ news) → w.grownBy w' v.ownBlock → K (a.put o.dst v') w') : Oper.wpIn F n P o a w K Q := by
  obtain ⟨v', w', hrun, r1, r2, r3⟩ := run_append_own (P := P) w base t o.type e i z size bytes h1 h2 h3 h4 h5 h6 h7 v k xs hown ad m c news hn hc h1c b1 b2 b3
  unfold Oper.wpIn
  refine ⟨?_, ?_⟩
  · simp [Oper.about, hop, resolve, Target.leads, Sem.run_pure]
  · rw [Oper.semAt_plain F _ _ (by rw [hop]; intro c hc'; cases hc')]
    simp [execOp, hop, resolve, invoke, builtin, hs, hx, hrun, Result.andThen]
    exact hK _ _ r1 r2
end Go.Proofs.Ytcnalndhlonblaa
