/-
  More words for memory: zeros appended to a row of bytes; nothing of the program stands here.
-/
import Derived.Test.YtilkcecjciiboaaBase6
import Derived.Lib.AppendZeros
import Derived.Lib.AppendZerosOnto
namespace Go.Proofs.Ytilkcecjciiboaa
open Go.RowKit
theorem zero_cells (k : Nat) : (Builtin.zeroCells (Value.int .u8 0).cells k) = (bv (List.replicate k 0)).toArray := by
  apply Array.ext
  · simp [Builtin.zeroCells, bv, Value.cells]
  · intro i h1 h2
    simp [Builtin.zeroCells, bv, Value.cells, Nat.mod_one]
section
variable {P : Program} (w : World)
/-- 'append(s, make([]byte, k)...)', s a row of the call's own -/
theorem run_append_zeros (base : Nat) (t tn ty e : TypeId) (i : TypeInfo) (ht : P.underlying t = some (.slice e)) (htn : P.underlying tn = some (.int .i64)) (hi : P.info? e = some i) (hz : i.zero = some (.int .u8 0))
    (hsize : i.size = 1) (hby : i.bytes = 1)
    (v : Value) (n : Nat) (xs : List Value) (hown : w.ownsRow base e 1 v n xs) (k : Nat)
    (h63 : n + k ≤ 140737488355328) (hbase : base ≤ w.heap.size) :
    ∃ v' w', (Builtin.append_ #[t, tn] ty #[v, .int .i64 k]).run P w = .ok v' w' ∧ w'.ownsRow base e 1 v' (n + k) (xs ++ bv (List.replicate k 0)) ∧ w.grownBy w' v.ownBlock := by
  have hw : IntKind.i64.wrap (k : Int) = k := by rw [IntKind.wrap_i64]; omega
  have hneg : ¬ ((k : Int) < 0) := by omega
  have h48i : ¬ (281474976710656 < (k : Int) * (i.bytes : Int)) := by rw [hby]; omega
  rcases Nat.eq_zero_or_pos k with rfl | hk
  · obtain ⟨A, c, rfl⟩ := own_form hown
    have hnc : n ≤ c := by
      rcases hown.2 with ⟨hv, hn⟩ | ⟨g, cap, cur, hv, _, _, hnc, _⟩
      · omega
      · injection hv with _ _ h3; omega
    refine ⟨.slice A n c, w, ?_, by simpa [bv] using hown, World.grownBy.refl w _⟩
    have hw0 : IntKind.i64.wrap 0 = 0 := by decide
    cases A <;> simp [Builtin.append_, run_underlying ht, run_underlying htn, sizeOf, typeInfo, zeroValue, hi, hz, asInt, asIntOf, hw0, hnc, storeCells]
  · rcases hown.2 with ⟨rfl, rfl⟩ | ⟨g, cap, cur, rfl, hbg, hg, hnc, hcm, hcs, htake⟩
    · have hx : xs = [] := List.eq_nil_of_length_eq_zero (by simpa using hown.1)
      subst hx
      have hr := Lib.run_append_nil_zeros (P := P) w t tn ty e i (.int .u8 0) .i64 .i64 ht htn hi hz k hk (by omega) (by omega) (by rw [hby]; omega)
      simp only [Nat.zero_add, List.nil_append]
      have hge := grownCap_ge w k 0 e
      have hcm : grownCap w k 0 e ≤ maxLen := grownCap_le_maxLen w k 0 e (by simp only [maxLen]; omega)
      refine ⟨_, _, hr, ⟨by simp [bv_len], .inr ⟨w.heap.size, _, _, rfl, hbase, heap_alloc_new w.drew _, hge, hcm, ?_, ?_⟩⟩, ⟨rfl, rfl, rfl, by simp, fun j hj _ => heap_alloc_old w.drew _ hj⟩⟩
      · simp only [Array.size_append, zero_cells, List.size_toArray, bv_len, List.length_replicate]
        omega
      · rw [Array.toList_append, zero_cells, Nat.mul_one]
        exact List.take_left' (by simp [bv_len])
    · have hxl : xs.length = n := by simpa using hown.1
      simp only [Nat.mul_one] at hcs htake
      by_cases hroom : n + k ≤ cap
      · have hst := run_storeCells_at P g n e (bv (List.replicate k 0)) 0 cur w hg (by simp [bv_len]; omega) (bv_one _)
        simp only [Nat.add_zero, bv_len, List.length_replicate] at hst
        have hzc := zero_cells k
        have hk0 : k ≠ 0 := by omega
        have hr : (Builtin.append_ #[t, tn] ty #[.slice (some ⟨g, 0, none⟩) n cap, .int .i64 k]).run P w = .ok (.slice (some ⟨g, 0, none⟩) (n + k) cap) (w.setRow g (cur.toList.take n ++ bv (List.replicate k 0) ++ cur.toList.drop (n + k)).toArray) := by
          simp [Builtin.append_, run_underlying ht, run_underlying htn, sizeOf, typeInfo, zeroValue, hi, hz, hsize, asInt, asIntOf, hw, hneg, h48i, hk0, hroom, hzc, Addr.add_lit, hst]
        refine ⟨_, _, hr, ⟨by simp [bv_len, hxl], .inr ⟨g, cap, _, rfl, hbg, setRow_heap w g cur _ e _ hg, hroom, hcm, ?_, ?_⟩⟩, ⟨rfl, rfl, rfl, by simp, fun j hj hne => setRow_other w g j _ (fun e => hne (by simp [Value.ownBlock, e]))⟩⟩
        · simp only [List.size_toArray, List.length_append, List.length_take, List.length_drop, Array.length_toList, bv_len, List.length_replicate]
          omega
        · rw [htake, Nat.mul_one]
          exact List.take_left' (by rw [List.length_append, bv_len, List.length_replicate]; omega)
      · have holds : ∀ j u, xs[j]? = some u → w.cell? ((⟨g, 0, none⟩ : Addr).add j) = some u := hown.cells (g := g) rfl
        have hr := Lib.run_append_grow_zeros (P := P) w t tn ty e i (.int .u8 0) .i64 .i64 ht htn hi hz (some ⟨g, 0, none⟩) n cap xs (by rw [hsize]; exact run_firstCells_some w.drew 1 n ⟨g, 0, none⟩ n cap xs (by omega) (by simpa using holds)) k hk (by omega) (by omega) (by omega) (by rw [hby]; omega) (growslice_fits (by omega) (by rw [hby]; omega))
        have hge := grownCap_ge w (n + k) cap e
        have hcm : grownCap w (n + k) cap e ≤ maxLen := grownCap_le_maxLen w (n + k) cap e (by simp only [maxLen]; omega)
        refine ⟨_, _, hr, ⟨by simp [bv_len, hxl], .inr ⟨w.heap.size, _, _, rfl, hbase, heap_alloc_new w.drew _, hge, hcm, ?_, ?_⟩⟩, ⟨rfl, rfl, rfl, by simp, fun j hj _ => heap_alloc_old w.drew _ hj⟩⟩
        · simp only [Array.size_append, List.size_toArray, zero_cells, bv_len, hxl, List.length_replicate]
          omega
        · rw [Array.toList_append, Array.toList_append, zero_cells, zero_cells, Nat.mul_one]
          exact List.take_left' (by simp [bv_len, hxl])
theorem wpList_append_zeros {ops : Array Oper} {rest : List Oper} {o : Oper} {a : Act} {Q : Exit → Act → World → Prop} (hgd : o.guard = none) (s x : Operand) (t tn : TypeId)
    (ho : o.op = .call { callee := .builtin .append, args := #[s, x], argTypes := #[t, tn] })
    (base : Nat) (e : TypeId) (i : TypeInfo) (ht : P.underlying t = some (.slice e)) (htn : P.underlying tn = some (.int .i64)) (hi : P.info? e = some i) (hz : i.zero = some (.int .u8 0))
    (hsize : i.size = 1) (hby : i.bytes = 1)
    (v : Value) (n : Nat) (xs : List Value) (hs : a.eval s = v) (hown : w.ownsRow base e 1 v n xs) (k : Nat) (hx : a.eval x = .int .i64 k)
    (h63 : n + k ≤ 140737488355328) (hbase : base ≤ w.heap.size)
    (h : ∀ A' c' w', w'.ownsRow base e 1 (.slice A' (n + k) c') (n + k) (xs ++ bv (List.replicate k 0)) → w.grownBy w' v.ownBlock → Below base w w' →
      wpList P ops Q rest (a.put o.dst (.slice A' (n + k) c')) w') : wpList P ops Q (o :: rest) a w :=
  wpList_plain hgd fun _ hK => by
    obtain ⟨v', w', hrun, h2, h3⟩ := run_append_zeros (P := P) w base t tn o.type e i ht htn hi hz hsize hby v n xs hown k h63 hbase
    obtain ⟨A', c', rfl⟩ := own_form h2
    unfold Oper.wp execOp
    simp only [ho, resolve, invoke, builtin, Sem.run_bind, Sem.run_pure, Result.andThen_ok, List.map_toArray, List.map_cons, List.map_nil, hs, hx, hrun]
    exact hK _ _ (h A' c' w' h2 h3 (below_of_grown hown hbase h3))
end
end Go.Proofs.Ytilkcecjciiboaa
