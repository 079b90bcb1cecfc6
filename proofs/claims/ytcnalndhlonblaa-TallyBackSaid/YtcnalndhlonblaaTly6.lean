/-
  Chapter 21: a set of ints kept as a map of bools that the call made.
-/
import Derived.Test.YtcnalndhlonblaaTly1
import Derived.Maps.OwnSet
import Derived.Maps.OwnOps
import Derived.Maps.Views
namespace Go.Proofs.Ytcnalndhlonblaa
open Go.RowKit
open Go.WideMaps Go.Maps
open Go.Maps (Keyed int_keyed keyOf_int_mk)
theorem mibK : Keyed Try.prog 3 := int_keyed Try.underlying3
theorem zeroBl (w : World) : (zeroValue 4).run Try.prog w = .ok (.bool false) w := by kernel_rfl
theorem plainElem_bool_inv {H : Type} {P : Program} {e : TypeId} (he : P.underlying e = some .bool) {v : Value} {z : DataW H × List MemPlace} (h : plainElem P e v = some z) : ∃ x, v = .bool x ∧ z = (.lit (.bool x), []) := by
  unfold plainElem at h
  rw [he] at h
  cases v <;> simp at h
  subst h
  exact ⟨_, rfl, rfl⟩
theorem wpList_lookup_own_bool {H : Type} {P : Program} (w : World) {ops : Array Oper} {rest : List Oper} {o : Oper} {a : Act} {Q : Exit → Act → World → Prop}
    (hg : o.guard = none) (m x : Operand) (t : TypeId) (hop : o.op = Op.lookup t m x false)
    (k e : TypeId) (K : Keyed P k) (ht : P.underlying t = some (.map k e)) (he : P.underlying e = some .bool) (hz : (zeroValue e).run P w = .ok (.bool false) w) (b n : Nat) (D : DataW H)
    (hm : a.eval m = .map (some b)) (hown : w.ownsMap P k (plainElem P e) b n D) (key : Value) (kl : Lit) (hx : a.eval x = key) (hkey : keyOf P k key = some kl)
    (hK : ∀ c : Bool, D.atKey kl (.lit (.bool false)) = .lit (.bool c) → wpList P ops Q rest (a.put o.dst (.bool c)) w) :
    wpList P ops Q (o :: rest) a w := by
  refine wpList_plain hg fun K' hK' => ?_
  obtain ⟨v, ps, hrun, hv⟩ := hown.lookup K ht hz (plainElem_bool he false) hkey
  obtain ⟨c, rfl, hc⟩ := plainElem_bool_inv he hv
  simp only [Prod.mk.injEq] at hc
  unfold Oper.wp
  simp [execOp, hop, hm, hx, hrun, Result.andThen]
  exact hK' _ _ (hK c hc.1)
/-- block b is a map whose keys are those of S, each with true; so many stores at most -/
def OpenM (w : World) (b m : Nat) (S : List Int) : Prop :=
  ∃ D : DataW Unit, w.ownsMap Try.prog 3 (plainElem Try.prog 4) b m D ∧ (∀ x : Int, D.atKey (.int .i64 x) (.lit (.bool false)) = .lit (.bool (decide (x ∈ S)))) ∧ (∀ x : Int, Maps.has D (.int .i64 x) = decide (x ∈ S)) ∧ Maps.size D = S.length
theorem OpenM.made (w : World) : OpenM (w.alloc (.map #[] 0)) w.heap.size 0 [] :=
  ⟨.map [], World.ownsMap_made w _ _ _, fun _ => rfl, fun _ => rfl, rfl⟩
section
variable {w w' : World} {b m : Nat} {S : List Int}
theorem OpenM.kept {row : Option Nat} (h : OpenM w b m S) (hg : w.grownBy w' row) (hne : some b ≠ row) : OpenM w' b m S := by
  obtain ⟨D, h1, h2⟩ := h
  exact ⟨D, h1.kept hg hne, h2⟩
theorem OpenM.keep (h : OpenM w b m S) (hb : Below w.heap.size w w') : OpenM w' b m S :=
  h.kept (row := none) ⟨hb.os, hb.tape, hb.output, hb.size, fun i hi _ => hb.block i hi⟩ (by simp)
theorem OpenM.alloc (h : OpenM w b m S) (o : Obj) : OpenM (w.alloc o) b m S := h.keep (below_alloc1 w o)
theorem OpenM.lt (h : OpenM w b m S) : b < w.heap.size := by obtain ⟨D, h1, _⟩ := h; exact h1.lt
/-- the map's block is no row's -/
theorem OpenM.not_row (h : OpenM w b m S) {B e s n : Nat} {v : Value} {xs : List Value} (ho : w.ownsRow B e s v n xs) : some b ≠ v.ownBlock := by
  obtain ⟨D, ⟨es, clock, hb, _⟩, _⟩ := h
  rcases ho.2 with ⟨rfl, _⟩ | ⟨g, cap, cur, rfl, _, hg, _⟩
  · simp [Value.ownBlock]
  · intro e
    have e : b = g := by simpa [Value.ownBlock] using e
    subst e
    rw [hb] at hg
    cases hg
theorem OpenM.store {x : Int} (hx : x ∉ S) {w' : World} {D : DataW Unit} (h1 : w.ownsMap Try.prog 3 (plainElem Try.prog 4) b m D) (h2 : ∀ x : Int, D.atKey (.int .i64 x) (.lit (.bool false)) = .lit (.bool (decide (x ∈ S))))
    (h3 : ∀ x : Int, Maps.has D (.int .i64 x) = decide (x ∈ S)) (h4 : Maps.size D = S.length) (ho : w'.ownsMap Try.prog 3 (plainElem Try.prog 4) b (m + 1) (D.put (.int .i64 x) (.lit (.bool true)))) : OpenM w' b (m + 1) (S ++ [x]) := by
  refine ⟨_, ho, fun y => ?_, fun y => ?_, ?_⟩
  · by_cases hy : y = x
    · subst hy
      rw [Maps.atKey_put_same (k := .int .i64 y) h1.isMap trivial]
      simp
    · rw [Maps.atKey_put_other (fun e => hy (by injection e)), h2 y]
      simp [hy]
  · by_cases hy : y = x
    · subst hy
      rw [Maps.has_put_same (k := .int .i64 y) h1.isMap trivial]
      simp
    · rw [Maps.has_put_other (fun e => hy (by injection e)), h3 y]
      simp [hy]
  · rw [Maps.size_put (h1.tidy mibK), h3 x, List.length_append, h4]
    simp [hx]
theorem filter_ne_len (x : Int) : ∀ (S : List Int), S.Nodup → x ∈ S → (S.filter fun y => decide (y ≠ x)).length + 1 = S.length
  | [], _, h => by cases h
  | y :: r, hn, h => by
    rw [List.nodup_cons] at hn
    rw [List.filter_cons]
    by_cases hy : y = x
    · subst hy
      rw [if_neg (by simp), List.filter_eq_self.2 (fun z hz => by
        rw [decide_eq_true_iff]
        rintro rfl
        exact hn.1 hz)]
      rfl
    · rcases List.mem_cons.1 h with h | h
      · exact absurd h.symm hy
      · rw [if_pos (by simpa using hy), List.length_cons, List.length_cons, filter_ne_len x r hn.2 h]
theorem OpenM.drop {x : Int} (hS : S.Nodup) (hx : x ∈ S) {w' : World} {D : DataW Unit} (h1 : w.ownsMap Try.prog 3 (plainElem Try.prog 4) b m D) (h2 : ∀ x : Int, D.atKey (.int .i64 x) (.lit (.bool false)) = .lit (.bool (decide (x ∈ S))))
    (h3 : ∀ x : Int, Maps.has D (.int .i64 x) = decide (x ∈ S)) (h4 : Maps.size D = S.length) (ho : w'.ownsMap Try.prog 3 (plainElem Try.prog 4) b m (D.del (.int .i64 x))) : OpenM w' b m (S.filter fun y => decide (y ≠ x)) := by
  refine ⟨_, ho, fun y => ?_, fun y => ?_, ?_⟩
  · by_cases hy : y = x
    · subst hy
      rw [Maps.atKey_del_same]
      simp
    · rw [Maps.atKey_del_other (fun e => hy (by injection e)), h2 y]
      simp [hy]
  · by_cases hy : y = x
    · subst hy
      rw [Maps.has_del_same]
      simp
    · rw [Maps.has_del_other (fun e => hy (by injection e)), h3 y]
      simp [hy]
  · have h5 := Maps.size_del (k := .int .i64 x) (h1.tidy mibK)
    rw [h3 x, decide_eq_true hx, if_pos rfl, h4] at h5
    have h6 := filter_ne_len x S hS hx
    omega
end
section
variable {w : World} {b m : Nat} {S : List Int} {ops : Array Oper} {rest : List Oper} {o : Oper} {a : Act} {Q : Exit → Act → World → Prop}
theorem wpList_look_open (hg : o.guard = none) (mo xo : Operand) (hop : o.op = Op.lookup 70 mo xo false) (h : OpenM w b m S) (x : Int) (hw : (Lit.int .i64 x).wf = true) (hm : a.eval mo = .map (some b)) (hx : a.eval xo = .int .i64 x)
    (hK : wpList Try.prog ops Q rest (a.put o.dst (.bool (decide (x ∈ S)))) w) : wpList Try.prog ops Q (o :: rest) a w := by
  obtain ⟨D, h1, h2, h3, h4⟩ := h
  exact wpList_lookup_own_bool w hg mo xo 70 hop 3 4 mibK Try.underlying70 Try.underlying4 (zeroBl w) b m D hm h1 _ (.int .i64 x) hx (keyOf_int_mk Try.underlying3 hw) (fun y hy => by
    rw [h2 x] at hy
    injection hy with hy
    injection hy with hy
    rw [← hy]
    exact hK)
theorem wpList_put_open (hg : o.guard = none) (mo xo vo : Operand) (hop : o.op = Op.mapUpdate 70 mo xo vo) (h : OpenM w b m S) (hmm : m < maxLen) (x : Int) (hS : x ∉ S) (hw : (Lit.int .i64 x).wf = true) (hm : a.eval mo = .map (some b)) (hx : a.eval xo = .int .i64 x) (hv : a.eval vo = .bool true)
    (hK : ∀ w', OpenM w' b (m + 1) (S ++ [x]) → w.grownBy w' (some b) → wpList Try.prog ops Q rest (a.put o.dst undef) w') : wpList Try.prog ops Q (o :: rest) a w := by
  obtain ⟨D, h1, h2, h3, h4⟩ := h
  exact wpList_mapUpdate_own w hg mo xo vo 70 hop 3 4 mibK Try.underlying70 _ b m D hm h1 hmm _ _ (.int .i64 x) hx hv (keyOf_int_mk Try.underlying3 hw) _ [] (plainElem_bool Try.underlying4 true) (fun w' r1 r2 => hK w' (OpenM.store hS h1 h2 h3 h4 r1) r2)
theorem wpList_del_open (hg : o.guard = none) (mo xo : Operand) (hop : o.op = Op.call { callee := Callee.builtin Builtin.delete, args := #[mo, xo], argTypes := #[70, 3] }) (h : OpenM w b m S) (x : Int) (hn : S.Nodup) (hS : x ∈ S) (hw : (Lit.int .i64 x).wf = true) (hm : a.eval mo = .map (some b)) (hx : a.eval xo = .int .i64 x)
    (hK : ∀ w', OpenM w' b m (S.filter fun y => decide (y ≠ x)) → w.grownBy w' (some b) → wpList Try.prog ops Q rest (a.put o.dst (.tuple #[])) w') : wpList Try.prog ops Q (o :: rest) a w := by
  obtain ⟨D, h1, h2, h3, h4⟩ := h
  exact wpList_delete_own w hg mo xo 70 3 hop 4 mibK Try.underlying70 _ b m D hm h1 _ (.int .i64 x) hx (keyOf_int_mk Try.underlying3 hw) (fun w' r1 r2 => hK w' (OpenM.drop hn hS h1 h2 h3 h4 r1) r2.grown)
theorem wpList_len_open (hg : o.guard = none) (mo : Operand) (hop : o.op = Op.call { callee := Callee.builtin Builtin.len, args := #[mo], argTypes := #[70] }) (h : OpenM w b m S) (hm : a.eval mo = .map (some b))
    (hK : wpList Try.prog ops Q rest (a.put o.dst (.int .i64 (S.length : Int))) w) : wpList Try.prog ops Q (o :: rest) a w := by
  obtain ⟨D, h1, h2, h3, h4⟩ := h
  rw [← h4] at hK
  exact wpList_len_own w hg mo 70 hop 3 4 Try.underlying70 _ b m D hm h1 hK
end
end Go.Proofs.Ytcnalndhlonblaa
