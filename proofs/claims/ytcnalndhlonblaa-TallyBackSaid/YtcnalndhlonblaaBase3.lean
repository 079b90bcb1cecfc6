/-
  Words for rows of structs of two ints: append onto a row of the call's own, whatever the size of its elements; nothing of the program stands here.
-/
import Derived.Test.YtcnalndhlonblaaBase2
namespace Go.Proofs.Ytcnalndhlonblaa
open Go.RowKit

theorem own_form_s {w : World} {base n s : Nat} {e : TypeId} {v : Value} {xs : List Value} (h : w.ownsRow base e s v n xs) : ∃ A c, v = .slice A n c := by
  rcases h.2 with ⟨rfl, rfl⟩ | ⟨g, cap, cur, rfl, _⟩
  · exact ⟨none, 0, rfl⟩
  · exact ⟨_, _, rfl⟩
theorem own_keep_s {w w' : World} {base n s : Nat} {e : TypeId} {v : Value} {xs : List Value} (h : w.ownsRow base e s v n xs) (hb : Below w.heap.size w w') : w'.ownsRow base e s v n xs :=
  h.kept (row := none) ⟨hb.os, hb.tape, hb.output, hb.size, fun i hi _ => hb.block i hi⟩ (by cases hv : v.ownBlock <;> simp)
theorem below_of_grown_s {w w' : World} {base n s : Nat} {e : TypeId} {v : Value} {xs : List Value} (hown : w.ownsRow base e s v n xs) (hbase : base ≤ w.heap.size) (hg : w.grownBy w' v.ownBlock) : Below base w w' :=
  (Below.refl _ _).grown hg hbase (fun k hk => (hown.lt k hk).1)
section
variable {P : Program} (w : World)
theorem run_append_nil_src_s (base s : Nat) (t ty e : TypeId) (i : TypeInfo) (ht : P.underlying t = some (.slice e)) (hi : P.info? e = some i)
    (v : Value) (n : Nat) (xs : List Value) (hown : w.ownsRow base e s v n xs) (c : Nat) : (Builtin.append_ #[t, t] ty #[v, .slice none 0 c]).run P w = .ok v w := by
  rcases hown.2 with ⟨rfl, rfl⟩ | ⟨g, cap, cur, rfl, _, _, hnc, _⟩
  · simp [Builtin.append_, run_underlying ht, sizeOf, typeInfo, hi, Builtin.lenOf, Builtin.firstCells]
  · simp [Builtin.append_, run_underlying ht, sizeOf, typeInfo, hi, Builtin.lenOf, Builtin.firstCells, hnc, storeCells]
theorem run_append_to_s (base s : Nat) (t ty e : TypeId) (i : TypeInfo) (z : Value) (bytes : Nat) (ht : P.underlying t = some (.slice e)) (hi : P.info? e = some i) (hz : i.zero = some z)
    (hsize : i.size = s) (hby : i.bytes = bytes) (hzs : z.cells.size = s) (hs0 : 0 < s)
    (v : Value) (n : Nat) (xs : List Value) (hown : w.ownsRow base e s v n xs)
    (B : Nat) (A : Option Addr) (m c : Nat) (news : List Value) (hm : news.length = m * s) (hr : Reads w B A news) (h1 : ∀ u ∈ news, u.oneCell' = true)
    (h63 : n + m ≤ maxLen) (hbytes : (n + m) * bytes ≤ 140737488355328) (hbase : base ≤ w.heap.size) :
    ∃ v' w', (Builtin.append_ #[t, t] ty #[v, .slice A m c]).run P w = .ok v' w' ∧ w'.ownsRow base e s v' (n + m) (xs ++ news) ∧ w.grownBy w' v.ownBlock ∧
      (v'.ownBlock = v.ownBlock ∨ v'.ownBlock = some w.heap.size) := by
  rcases A with _ | ad
  · have hn : news = [] := by
      rcases news with _ | ⟨u, us⟩
      · rfl
      · obtain ⟨ad, h, _⟩ := hr (by simp)
        cases h
    subst hn
    have : m = 0 := by
      rcases Nat.eq_zero_or_pos m with h | h
      · exact h
      · have := Nat.mul_pos h hs0
        simp at hm
        omega
    subst this
    exact ⟨v, w, run_append_nil_src_s w base s t ty e i ht hi v n xs hown c, by simpa using hown, World.grownBy.refl w _, .inl rfl⟩
  · have hcells : ∀ j u, news[j]? = some u → w.cell? (ad.add j) = some u := by
      intro j u hu
      obtain ⟨ad', h, _, hc⟩ := hr (by have := (List.getElem?_eq_some_iff.1 hu).1; omega)
      injection h with h
      subst h
      exact hc j u hu
    obtain ⟨v', w', hrun, h2, h3, _, h5⟩ := run_append_own_at (P := P) w base t ty e i z s bytes ht hi hz hsize hby hzs hs0 v n xs hown ad m c news hm hcells h1 h63 hbytes hbase
    exact ⟨v', w', hrun, h2, h3, h5⟩
theorem wpList_append_to_s {ops : Array Oper} {rest : List Oper} {o : Oper} {a : Act} {Q : Exit → Act → World → Prop} (hgd : o.guard = none) (s x : Operand) (t : TypeId)
    (ho : o.op = .call { callee := .builtin .append, args := #[s, x], argTypes := #[t, t] })
    (base sz : Nat) (e : TypeId) (i : TypeInfo) (z : Value) (bytes : Nat) (ht : P.underlying t = some (.slice e)) (hi : P.info? e = some i) (hz : i.zero = some z)
    (hsize : i.size = sz) (hby : i.bytes = bytes) (hzs : z.cells.size = sz) (hs0 : 0 < sz)
    (v : Value) (n : Nat) (xs : List Value) (hs : a.eval s = v) (hown : w.ownsRow base e sz v n xs)
    (B : Nat) (A : Option Addr) (m c : Nat) (news : List Value) (hx : a.eval x = .slice A m c) (hm : news.length = m * sz) (hr : Reads w B A news) (h1 : ∀ u ∈ news, u.oneCell' = true)
    (h63 : n + m ≤ maxLen) (hbytes : (n + m) * bytes ≤ 140737488355328) (hbase : base ≤ w.heap.size)
    (h : ∀ A' c' w', w'.ownsRow base e sz (.slice A' (n + m) c') (n + m) (xs ++ news) → w.grownBy w' v.ownBlock → Below base w w' →
      ((Value.slice A' (n + m) c').ownBlock = v.ownBlock ∨ (Value.slice A' (n + m) c').ownBlock = some w.heap.size) → wpList P ops Q rest (a.put o.dst (.slice A' (n + m) c')) w') : wpList P ops Q (o :: rest) a w :=
  wpList_plain hgd fun _ hK => by
    obtain ⟨v', w', hrun, h2, h3, h4⟩ := run_append_to_s (P := P) w base sz t o.type e i z bytes ht hi hz hsize hby hzs hs0 v n xs hown B A m c news hm hr h1 h63 hbytes hbase
    obtain ⟨A', c', rfl⟩ := own_form_s h2
    unfold Oper.wp execOp
    simp only [ho, resolve, invoke, builtin, Sem.run_bind, Sem.run_pure, Result.andThen_ok, List.map_toArray, List.map_cons, List.map_nil, hs, hx, hrun]
    exact hK _ _ (h A' c' w' h2 h3 (below_of_grown_s hown hbase h3) h4)
theorem step_append_to_s {ops : Array Oper} {o : Oper} {a : Act} {K : Act → World → Prop} {Q : Exit → Act → World → Prop} {E : Prop} (hgd : o.guard = none) (s x : Operand) (t : TypeId)
    (ho : o.op = .call { callee := .builtin .append, args := #[s, x], argTypes := #[t, t] })
    (base sz : Nat) (e : TypeId) (i : TypeInfo) (z : Value) (bytes : Nat) (ht : P.underlying t = some (.slice e)) (hi : P.info? e = some i) (hz : i.zero = some z)
    (hsize : i.size = sz) (hby : i.bytes = bytes) (hzs : z.cells.size = sz) (hs0 : 0 < sz)
    (v : Value) (n : Nat) (xs : List Value) (hs : a.eval s = v) (hown : w.ownsRow base e sz v n xs)
    (B : Nat) (A : Option Addr) (m c : Nat) (news : List Value) (hx : a.eval x = .slice A m c) (hm : news.length = m * sz) (hr : Reads w B A news) (h1 : ∀ u ∈ news, u.oneCell' = true)
    (h63 : n + m ≤ maxLen) (hbytes : (n + m) * bytes ≤ 140737488355328) (hbase : base ≤ w.heap.size)
    (h : ∀ A' c' w', w'.ownsRow base e sz (.slice A' (n + m) c') (n + m) (xs ++ news) → w.grownBy w' v.ownBlock → Below base w w' →
      K (a.put o.dst (.slice A' (n + m) c')) w') : if Region.wanted o (yielded ops a.tmps) = true then Oper.wp P o a w K Q else E := by
  have hw : Region.wanted o (yielded ops a.tmps) = true := by simp [Region.wanted, hgd]
  rw [if_pos hw]
  obtain ⟨v', w', hrun, h2, h3, h4⟩ := run_append_to_s (P := P) w base sz t o.type e i z bytes ht hi hz hsize hby hzs hs0 v n xs hown B A m c news hm hr h1 h63 hbytes hbase
  obtain ⟨A', c', rfl⟩ := own_form_s h2
  unfold Oper.wp execOp
  simp only [ho, resolve, invoke, builtin, Sem.run_bind, Sem.run_pure, Result.andThen_ok, List.map_toArray, List.map_cons, List.map_nil, hs, hx, hrun]
  exact h A' c' w' h2 h3 (below_of_grown_s hown hbase h3)
end
/-- pairs of ints, the cells one behind the other -/
def fv : List (Int × Int) → List Value
  | [] => []
  | (a, b) :: r => .int .i64 a :: .int .i64 b :: fv r
theorem fv_len (l : List (Int × Int)) : (fv l).length = l.length * 2 := by
  induction l with
  | nil => rfl
  | cons p l ih => obtain ⟨a, b⟩ := p; simp only [fv, List.length_cons, ih]; omega
theorem fv_append (a b : List (Int × Int)) : fv (a ++ b) = fv a ++ fv b := by
  induction a with
  | nil => rfl
  | cons p a ih => obtain ⟨x, y⟩ := p; simp [fv, ih]
theorem fv_one (l : List (Int × Int)) : ∀ u ∈ fv l, u.oneCell' = true := by
  induction l with
  | nil => simp [fv]
  | cons p l ih => obtain ⟨x, y⟩ := p; intro u hu; simp only [fv, List.mem_cons] at hu; rcases hu with rfl | rfl | h; rfl; rfl; exact ih u h
theorem fv_get (l : List (Int × Int)) : ∀ j p, l[j]? = some p → (fv l)[j * 2]? = some (.int .i64 p.1) ∧ (fv l)[j * 2 + 1]? = some (.int .i64 p.2) := by
  induction l with
  | nil => simp
  | cons q l ih =>
    obtain ⟨x, y⟩ := q
    intro j p hj
    cases j with
    | zero => simp at hj; subst hj; simp [fv]
    | succ j =>
      simp at hj
      rw [show (j + 1) * 2 = j * 2 + 1 + 1 by omega]
      simp only [fv, List.getElem?_cons_succ]
      exact ih j p hj
/-- pairs of ints in the cells of a slice, two cells an element -/
def Reads2 (w : World) (B : Nat) (A : Option Addr) (ls : List (Int × Int)) : Prop :=
  0 < ls.length → ∃ b o, A = some ⟨b, o, none⟩ ∧ b < B ∧ ∀ j p, ls[j]? = some p → w.cell? ⟨b, o + j * 2, none⟩ = some (.int .i64 p.1) ∧ w.cell? ⟨b, o + j * 2 + 1, none⟩ = some (.int .i64 p.2)
theorem Reads2.below {w w' : World} {B : Nat} {A : Option Addr} {ls : List (Int × Int)} (h : Reads2 w B A ls) (hb : Below B w w') : Reads2 w' B A ls := fun hn => by
  obtain ⟨b, o, e, hbb, hc⟩ := h hn
  exact ⟨b, o, e, hbb, fun j p hj => ⟨(hb.cell (p := ⟨b, _, none⟩) hbb).trans (hc j p hj).1, (hb.cell (p := ⟨b, _, none⟩) hbb).trans (hc j p hj).2⟩⟩
theorem Reads2.more {w : World} {B B' : Nat} {A : Option Addr} {ls : List (Int × Int)} (h : Reads2 w B A ls) (hB : B ≤ B') : Reads2 w B' A ls := fun hn => by
  obtain ⟨b, o, e, hbb, hc⟩ := h hn
  exact ⟨b, o, e, by omega, hc⟩
theorem Reads2.of_own {w : World} {base : Nat} {e : TypeId} {A : Option Addr} {n c : Nat} {ls : List (Int × Int)} (hn : n = ls.length) (h : w.ownsRow base e 2 (.slice A n c) n (fv ls)) : Reads2 w w.heap.size A ls := fun hp => by
  subst hn
  rcases h.2 with ⟨h', hz⟩ | ⟨g, cap, cur, h', hb, hg, hnc, hcm, hcs, htake⟩
  · injection h' with h1 h2 h3
    omega
  · injection h' with h1 h2 h3
    subst h1 h3
    refine ⟨g, 0, rfl, by have := h.lt g rfl; omega, fun j p hj => ?_⟩
    have hjl := (List.getElem?_eq_some_iff.1 hj).1
    obtain ⟨g1, g2⟩ := fv_get ls j p hj
    have hcell : ∀ i u, (fv ls)[i]? = some u → w.cell? ⟨g, i, none⟩ = some u := fun i u hu => by
      rw [← htake, List.getElem?_take] at hu
      split at hu
      · simp only [World.cell?, hg]
        first | exact hu | (simp at hu ⊢; exact hu) | (simpa using hu)
      · cases hu
    rw [Nat.zero_add]
    exact ⟨hcell _ _ g1, hcell _ _ g2⟩
theorem Reads2.flat {w : World} {B : Nat} {A : Option Addr} {ls : List (Int × Int)} (h : Reads2 w B A ls) : Reads w B A (fv ls) := fun hp => by
  rw [fv_len] at hp
  obtain ⟨b, o, rfl, hb, hc⟩ := h (by omega)
  refine ⟨_, rfl, hb, fun i u hu => ?_⟩
  rw [add_plain]
  have hil := (List.getElem?_eq_some_iff.1 hu).1
  rw [fv_len] at hil
  have hj := List.getElem?_eq_getElem (l := ls) (i := i / 2) (by omega)
  obtain ⟨g1, g2⟩ := fv_get ls _ _ hj
  obtain ⟨c1, c2⟩ := hc _ _ hj
  rcases Nat.mod_two_eq_zero_or_one i with h | h
  · rw [show i / 2 * 2 = i by omega] at g1 c1
    rw [g1] at hu
    injection hu with hu
    rw [c1, hu]
  · rw [show i / 2 * 2 + 1 = i by omega] at g2
    rw [show o + i / 2 * 2 + 1 = o + i by omega] at c2
    rw [g2] at hu
    injection hu with hu
    rw [c2, hu]
end Go.Proofs.Ytcnalndhlonblaa
