/-
  More words for memory: a string copied into a row of bytes; nothing of the program stands here.
-/
import Derived.Test.YtcnalndhlonblaaBase6
import Derived.Lib.BufferWrite
namespace Go.Proofs.Ytcnalndhlonblaa
open Go.RowKit
/-- A row of another type is no row of the call's own. -/
theorem not_own {W : World} {b : Nat} {cur : Array Value} {t e : TypeId} {fz : Nat × Nat} (h : W.heap[b]? = some (.cells cur t fz)) (ht : t ≠ e) {base size k : Nat} {v : Value} {xs : List Value} (hr : W.ownsRow base e size v k xs) : some b ≠ v.ownBlock := by
  rcases hr.2 with ⟨rfl, _⟩ | ⟨g, cap, cur', rfl, _, hgb, _⟩
  · simp [Value.ownBlock]
  · intro e'
    obtain rfl : b = g := by simpa [Value.ownBlock] using e'
    have := h.symm.trans hgb
    simp at this
    exact ht this.2.1
section
variable {P : Program}
/-- 'copy(out[off:], s)', s a string that has room there -/
theorem run_copy_str (w : World) (dT sT ty e : TypeId) (hu : P.underlying dT = some (.slice e)) (hsz : (P.info? e).map (·.size) = some 1)
    (base g n cap : Nat) (xs : List Value) (hown : w.ownsRow base e 1 (.slice (some ⟨g, 0, none⟩) n cap) n xs) (off dLen dCap : Nat)
    (l : List UInt8) (hm : l.length ≤ dLen) (hoff : off + l.length ≤ n) :
    ∃ w', (Builtin.copy_ #[dT, sT] ty #[.slice (some ⟨g, off, none⟩) dLen dCap, .string ⟨l.toArray⟩]).run P w = .ok (.int .i64 l.length) w' ∧
      w'.ownsRow base e 1 (.slice (some ⟨g, 0, none⟩) n cap) n (xs.take off ++ (bv l ++ xs.drop (off + l.length))) ∧ w.grownBy w' (some g) ∧ w'.heap.size = w.heap.size := by
  have hlen := hown.1
  simp only [Nat.mul_one] at hlen
  rcases hown.2 with ⟨h', _⟩ | ⟨g', cap', cur, h', hb, hg, hnc, hcm, hcs, htake⟩
  · cases h'
  · simp only [Value.slice.injEq, Option.some.injEq, Addr.mk.injEq, and_true, true_and] at h'
    obtain ⟨rfl, rfl⟩ := h'
    simp only [Nat.mul_one] at hcs htake
    have hz : (ByteArray.mk l.toArray).size = l.length := by simp [ByteArray.size]
    have hrun := Lib.run_copy_row_string (P := P) w dT sT ty e g off dLen dCap ⟨l.toArray⟩ cur e hu hsz hg (by rw [hz]; exact hm) (by rw [hz]; omega)
    have hbc : Lib.byteCells l = bv l := rfl
    rw [hz] at hrun
    simp only [hbc] at hrun
    have hcur : cur.toList = xs ++ cur.toList.drop n := by rw [← htake, List.take_append_drop]
    have hL : (cur.toList.take off ++ bv l ++ cur.toList.drop (off + l.length)) = (xs.take off ++ (bv l ++ xs.drop (off + l.length))) ++ cur.toList.drop n := by
      conv => lhs; rw [hcur]
      rw [List.take_append_of_le_length (by omega), List.drop_append_of_le_length (by omega)]
      simp
    have hll : (xs.take off ++ (bv l ++ xs.drop (off + l.length))).length = n := by
      simp only [List.length_append, List.length_take, List.length_drop, bv_len]
      omega
    refine ⟨_, hrun, ⟨by rw [hll, Nat.mul_one], .inr ⟨g, cap, _, rfl, hb, setRow_heap w g cur _ e _ hg, hnc, hcm, ?_, ?_⟩⟩, ⟨rfl, rfl, rfl, by simp, fun k _ hk => setRow_other w g k _ (fun e => hk (by rw [e]))⟩, by simp⟩
    · rw [hL, List.size_toArray, List.length_append, hll, List.length_drop, Array.length_toList, Nat.mul_one]
      omega
    · rw [hL, Nat.mul_one, List.take_append_of_le_length (by omega), List.take_of_length_le (by omega)]
end
/-- a row of the call's own, or a full slice that reads so (a constant's bytes, say): an append onto either gives a row of the call's own -/
def Hold (w : World) (base : Nat) (e : TypeId) (v : Value) (n : Nat) (xs : List Value) : Prop :=
  w.ownsRow base e 1 v n xs ∨ ∃ A, v = .slice A n n ∧ xs.length = n ∧ 0 < n ∧ n ≤ maxLen ∧ Reads w w.heap.size A xs
theorem Hold.reads {w : World} {base n c : Nat} {e : TypeId} {A : Option Addr} {xs : List Value} (h : Hold w base e (.slice A n c) n xs) : Reads w w.heap.size A xs := by
  rcases h with h | ⟨A', hA, _, _, _, hr⟩
  · exact Reads.of_own h
  · injection hA with h1
    subst h1
    exact hr
theorem Hold.form {w : World} {base n : Nat} {e : TypeId} {v : Value} {xs : List Value} (h : Hold w base e v n xs) : ∃ A c, v = .slice A n c := by
  rcases h with h | ⟨A', hA, _⟩
  · exact own_form h
  · exact ⟨A', n, hA⟩
theorem Hold.len {w : World} {base n : Nat} {e : TypeId} {v : Value} {xs : List Value} (h : Hold w base e v n xs) : xs.length = n := by
  rcases h with h | ⟨A', _, hl, _⟩
  · have := h.1; omega
  · exact hl
theorem Hold.keep {w w' : World} {base n : Nat} {e : TypeId} {v : Value} {xs : List Value} (h : Hold w base e v n xs) (hb : Below w.heap.size w w') : Hold w' base e v n xs := by
  rcases h with h | ⟨A', hA, hl, h0, hm, hr⟩
  · exact .inl (own_keep h hb)
  · exact .inr ⟨A', hA, hl, h0, hm, hr.ext hb⟩
theorem Hold.alloc {w : World} {base n : Nat} {e : TypeId} {v : Value} {xs : List Value} (h : Hold w base e v n xs) (o : Obj) : Hold (w.alloc o) base e v n xs := h.keep (below_alloc1 w o)
/-- a constant's bytes -/
theorem Hold.const (w : World) (base : Nat) (e : TypeId) (cs : List Value) (fr : Nat × Nat) (h0 : 0 < cs.length) (hm : cs.length ≤ maxLen) : Hold (w.alloc (.cells cs.toArray e fr)) base e (.slice (some ⟨w.heap.size, 0, none⟩) cs.length cs.length) cs.length cs :=
  .inr ⟨_, rfl, rfl, h0, hm, by have := Reads.new w cs e fr; simpa using this⟩
section
variable {P : Program} {w : World}
theorem run_append_hold (base : Nat) (t ty e : TypeId) (i : TypeInfo) (z : Value) (bytes : Nat) (ht : P.underlying t = some (.slice e)) (hi : P.info? e = some i) (hz : i.zero = some z)
    (hsize : i.size = 1) (hby : i.bytes = bytes) (hzs : z.cells.size = 1)
    (v : Value) (n : Nat) (xs : List Value) (hown : Hold w base e v n xs)
    (B : Nat) (A : Option Addr) (m c : Nat) (news : List Value) (hm : m = news.length) (hm0 : 0 < m) (hr : Reads w B A news) (h1 : ∀ u ∈ news, u.oneCell' = true)
    (h63 : n + m ≤ maxLen) (hbytes : (n + m) * bytes ≤ 140737488355328) (hbase : base ≤ w.heap.size) :
    ∃ v' w', (Builtin.append_ #[t, t] ty #[v, .slice A m c]).run P w = .ok v' w' ∧ w'.ownsRow base e 1 v' (n + m) (xs ++ news) ∧ Below base w w' := by
  rcases hown with hown | ⟨A0, rfl, hl, h0, hnm, hr0⟩
  · obtain ⟨v', w', h2, h3, h4, _⟩ := run_append_to (P := P) w base t ty e i z bytes ht hi hz hsize hby hzs v n xs hown B A m c news hm hr h1 h63 hbytes hbase
    exact ⟨v', w', h2, h3, below_of_grown hown hbase h4⟩
  · obtain ⟨a0, rfl, _, hc0⟩ := hr0 (by omega)
    obtain ⟨a1, rfl, _, hc1⟩ := hr (by omega)
    have hrun := run_append_grow (P := P) (w := w) t ty e i z ht hi hz a0 n n xs (by rw [hsize]; omega) (fun j u hj => hc0 j u hj) a1 m c news (by rw [hsize]; omega) (fun j u hj => hc1 j u hj) (by omega) (by simp only [maxLen] at h63; omega) (growslice_fits (by omega) (by rw [hby]; omega))
    have hge := grownCap_ge w (n + m) n e
    have hcm : grownCap w (n + m) n e ≤ maxLen := grownCap_le_maxLen w (n + m) n e h63
    refine ⟨_, _, hrun, ⟨by rw [List.length_append]; omega, .inr ⟨w.heap.size, _, _, rfl, hbase, heap_alloc_new w.drew _, hge, hcm, ?_, ?_⟩⟩, ((Below.refl base w).drew).alloc (by simpa using hbase) _⟩
    · simp only [Array.size_append, List.size_toArray, size_zeroCells, hzs]
      omega
    · simp only [Array.toList_append, Nat.mul_one]
      rw [show n + m = (xs ++ news).length by rw [List.length_append]; omega]
      exact List.take_left
theorem wpList_append_hold {ops : Array Oper} {rest : List Oper} {o : Oper} {a : Act} {Q : Exit → Act → World → Prop} (hgd : o.guard = none) (s x : Operand) (t : TypeId)
    (ho : o.op = .call { callee := .builtin .append, args := #[s, x], argTypes := #[t, t] })
    (base : Nat) (e : TypeId) (i : TypeInfo) (z : Value) (bytes : Nat) (ht : P.underlying t = some (.slice e)) (hi : P.info? e = some i) (hz : i.zero = some z)
    (hsize : i.size = 1) (hby : i.bytes = bytes) (hzs : z.cells.size = 1)
    (v : Value) (n : Nat) (xs : List Value) (hs : a.eval s = v) (hown : Hold w base e v n xs)
    (B : Nat) (A : Option Addr) (m c : Nat) (news : List Value) (hx : a.eval x = .slice A m c) (hm : m = news.length) (hm0 : 0 < m) (hr : Reads w B A news) (h1 : ∀ u ∈ news, u.oneCell' = true)
    (h63 : n + m ≤ maxLen) (hbytes : (n + m) * bytes ≤ 140737488355328) (hbase : base ≤ w.heap.size)
    (h : ∀ A' c' w', w'.ownsRow base e 1 (.slice A' (n + m) c') (n + m) (xs ++ news) → Below base w w' →
      wpList P ops Q rest (a.put o.dst (.slice A' (n + m) c')) w') : wpList P ops Q (o :: rest) a w :=
  wpList_plain hgd fun _ hK => by
    obtain ⟨v', w', hrun, h2, h3⟩ := run_append_hold (P := P) base t o.type e i z bytes ht hi hz hsize hby hzs v n xs hown B A m c news hm hm0 hr h1 h63 hbytes hbase
    obtain ⟨A', c', rfl⟩ := own_form h2
    unfold Oper.wp execOp
    simp only [ho, resolve, invoke, builtin, Sem.run_bind, Sem.run_pure, Result.andThen_ok, List.map_toArray, List.map_cons, List.map_nil, hs, hx, hrun]
    exact hK _ _ (h A' c' w' h2 h3)
end
end Go.Proofs.Ytcnalndhlonblaa
