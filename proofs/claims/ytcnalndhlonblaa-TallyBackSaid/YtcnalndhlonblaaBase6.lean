/-
  More words for memory: a variable's box beside rows of the call's own; a string appended to a row of bytes; nothing of the program stands here.
-/
import Derived.Test.YtcnalndhlonblaaBase5
import Derived.Test.YtcnalndhlonblaaBase2
import Derived.Deep.AppendSrc
import Derived.OneCell
import Derived.RangeFuncBox
namespace Go.Proofs.Ytcnalndhlonblaa
open Go.RowKit
theorem bytes_cells (l : List UInt8) : byteCells ⟨l.toArray⟩ = bv l := by simp [byteCells, bv]
/-- strings in the cells of a slice -/
def sv (l : List (List UInt8)) : List Value := l.map fun s => .string ⟨s.toArray⟩
theorem sv_len (l : List (List UInt8)) : (sv l).length = l.length := by simp [sv]
theorem sv_one (l : List (List UInt8)) : ∀ u ∈ sv l, u.oneCell' = true := by
  intro u hu; simp only [sv, List.mem_map] at hu; obtain ⟨b, _, rfl⟩ := hu; rfl
theorem sv_append (a b : List (List UInt8)) : sv (a ++ b) = sv a ++ sv b := by simp [sv]
theorem sv_get (l : List (List UInt8)) (k : Nat) (h : k < l.length) : (sv l)[k]? = some (.string ⟨l[k].toArray⟩) := by simp [sv, h]
section
variable {P : Program} (w : World)
theorem run_append_str (base : Nat) (t tx ty e : TypeId) (i : TypeInfo) (z : Value) (ht : P.underlying t = some (.slice e)) (htx : P.underlying tx = some .string) (hi : P.info? e = some i) (hz : i.zero = some z)
    (hsize : i.size = 1) (hby : i.bytes = 1) (hzs : z.cells.size = 1)
    (v : Value) (n : Nat) (xs : List Value) (hown : w.ownsRow base e 1 v n xs) (l : List UInt8)
    (h63 : n + l.length ≤ 140737488355328) (hbase : base ≤ w.heap.size) :
    ∃ v' w', (Builtin.append_ #[t, tx] ty #[v, .string ⟨l.toArray⟩]).run P w = .ok v' w' ∧ w'.ownsRow base e 1 v' (n + l.length) (xs ++ bv l) ∧ w.grownBy w' v.ownBlock ∧
      (v'.ownBlock = v.ownBlock ∨ v'.ownBlock = some w.heap.size) := by
  have hsrc := Src.ofString (P := P) w htx ⟨l.toArray⟩
  rw [bytes_cells, show (ByteArray.mk l.toArray).size = l.length by simp [ByteArray.size]] at hsrc
  rcases hown.2 with ⟨rfl, rfl⟩ | ⟨g, cap, cur, rfl, hbg, hg, hnc, hcm, hcs, htake⟩
  · have hx : xs = [] := List.eq_nil_of_length_eq_zero (by simpa using hown.1)
    subst hx
    by_cases hm : l.length = 0
    · have : l = [] := List.eq_nil_of_length_eq_zero hm
      subst this
      refine ⟨.slice none 0 0, w, ?_, World.ownsRow_nil w base e 1, World.grownBy.refl w _, .inl rfl⟩
      simp [Builtin.append_, run_underlying ht, run_underlying htx, sizeOf, typeInfo, hi, Builtin.lenOf, Builtin.firstCells, ByteArray.size]
    · have hr := run_append_grow_src (P := P) w t tx ty e i z ht hi hz none 0 0 [] (by simp [Builtin.firstCells]) (.string ⟨l.toArray⟩) l.length (bv l) (by rw [hsize]; exact hsrc) (by omega) (by simp; omega) (growslice_fits (by omega) (by rw [hby]; omega))
      simp only [Nat.zero_add, List.nil_append] at hr h63 ⊢
      have hge := grownCap_ge w l.length 0 e
      have hcm : grownCap w l.length 0 e ≤ maxLen := grownCap_le_maxLen w l.length 0 e (by simp only [maxLen]; omega)
      refine ⟨_, _, hr, ⟨by simp [bv_len], .inr ⟨w.heap.size, _, _, rfl, hbase, heap_alloc_new w.drew _, hge, hcm, ?_, ?_⟩⟩, ⟨rfl, rfl, rfl, by simp, fun k hk _ => heap_alloc_old w.drew _ hk⟩, .inr rfl⟩
      · simp only [Array.size_append, List.size_toArray, size_zeroCells, hzs, bv_len]
        omega
      · simp only [Array.toList_append, Nat.mul_one]
        rw [← bv_len l]
        exact List.take_left
  · have hxl : xs.length = n := by simpa using hown.1
    simp only [Nat.mul_one] at hcs htake
    by_cases hroom : n + l.length ≤ cap
    · have hfit : n * i.size + (bv l).length ≤ cur.size := by rw [hsize, bv_len, hcs]; omega
      have hst := run_storeCells_at P g (n * i.size) e (bv l) 0 cur w hg (by simpa using hfit) (bv_one l)
      simp only [Nat.add_zero] at hst
      have hr : (Builtin.append_ #[t, tx] ty #[.slice (some ⟨g, 0, none⟩) n cap, .string ⟨l.toArray⟩]).run P w = .ok (.slice (some ⟨g, 0, none⟩) (n + l.length) cap) (w.setRow g (cur.toList.take (n * i.size) ++ bv l ++ cur.toList.drop (n * i.size + (bv l).length)).toArray) := by
        have hc := hsrc.cells
        rw [← hsize] at hc
        simp [Builtin.append_, run_underlying ht, run_underlying htx, sizeOf, typeInfo, hi, hsrc.len, hroom, hc, Addr.add_lit, hst]
      rw [hsize, Nat.mul_one] at hr
      refine ⟨_, _, hr, ⟨by simp [bv_len, hxl], .inr ⟨g, cap, _, rfl, hbg, setRow_heap w g cur _ e _ hg, hroom, hcm, ?_, ?_⟩⟩, ⟨rfl, rfl, rfl, by simp, fun k hk hne => setRow_other w g k _ (fun e => hne (by simp [Value.ownBlock, e]))⟩, .inl rfl⟩
      · simp only [List.size_toArray, List.length_append, List.length_take, List.length_drop, Array.length_toList, bv_len]
        omega
      · rw [htake, Nat.mul_one, show n + l.length = (xs ++ bv l).length by rw [List.length_append, bv_len, hxl]]
        exact List.take_left
    · have holds : ∀ j u, xs[j]? = some u → w.cell? ((⟨g, 0, none⟩ : Addr).add j) = some u := hown.cells (g := g) rfl
      have hr := run_append_grow_src (P := P) w t tx ty e i z ht hi hz (some ⟨g, 0, none⟩) n cap xs (by rw [hsize]; exact run_firstCells_some w.drew 1 n ⟨g, 0, none⟩ n cap xs (by omega) (by simpa using holds)) (.string ⟨l.toArray⟩) l.length (bv l) (by rw [hsize]; exact hsrc) (by omega) (by omega) (growslice_fits (by omega) (by rw [hby]; omega))
      have hge := grownCap_ge w (n + l.length) cap e
      have hcm : grownCap w (n + l.length) cap e ≤ maxLen := grownCap_le_maxLen w (n + l.length) cap e (by simp only [maxLen]; omega)
      refine ⟨_, _, hr, ⟨by simp [bv_len, hxl], .inr ⟨w.heap.size, _, _, rfl, hbase, heap_alloc_new w.drew _, hge, hcm, ?_, ?_⟩⟩, ⟨rfl, rfl, rfl, by simp, fun k hk _ => heap_alloc_old w.drew _ hk⟩, .inr rfl⟩
      · simp only [Array.size_append, List.size_toArray, List.length_append, size_zeroCells, hzs, bv_len, hxl]
        omega
      · simp only [Array.toList_append, Nat.mul_one]
        rw [show n + l.length = (xs ++ bv l).length by rw [List.length_append, bv_len, hxl]]
        exact List.take_left
theorem wpList_append_str {ops : Array Oper} {rest : List Oper} {o : Oper} {a : Act} {Q : Exit → Act → World → Prop} (hgd : o.guard = none) (s x : Operand) (t tx : TypeId)
    (ho : o.op = .call { callee := .builtin .append, args := #[s, x], argTypes := #[t, tx] })
    (base : Nat) (e : TypeId) (i : TypeInfo) (z : Value) (ht : P.underlying t = some (.slice e)) (htx : P.underlying tx = some .string) (hi : P.info? e = some i) (hz : i.zero = some z)
    (hsize : i.size = 1) (hby : i.bytes = 1) (hzs : z.cells.size = 1)
    (v : Value) (n : Nat) (xs : List Value) (hs : a.eval s = v) (hown : w.ownsRow base e 1 v n xs)
    (l : List UInt8) (hx : a.eval x = .string ⟨l.toArray⟩) (h63 : n + l.length ≤ 140737488355328) (hbase : base ≤ w.heap.size)
    (h : ∀ A' c' w', w'.ownsRow base e 1 (.slice A' (n + l.length) c') (n + l.length) (xs ++ bv l) → w.grownBy w' v.ownBlock → Below base w w' →
      wpList P ops Q rest (a.put o.dst (.slice A' (n + l.length) c')) w') : wpList P ops Q (o :: rest) a w :=
  wpList_plain hgd fun _ hK => by
    obtain ⟨v', w', hrun, h2, h3, h4⟩ := run_append_str (P := P) w base t tx o.type e i z ht htx hi hz hsize hby hzs v n xs hown l h63 hbase
    obtain ⟨A', c', rfl⟩ := own_form h2
    unfold Oper.wp execOp
    simp only [ho, resolve, invoke, builtin, Sem.run_bind, Sem.run_pure, Result.andThen_ok, List.map_toArray, List.map_cons, List.map_nil, hs, hx, hrun]
    exact hK _ _ (h A' c' w' h2 h3 (below_of_grown hown hbase h3))
end
section
variable {P : Program}
/-- 'copy(out[off:off+d], src)', src as long as that, out a row of the call's own -/
theorem run_copy_mid (w : World) (dT sT ty e : TypeId) (hu : P.underlying dT = some (.slice e)) (hsz : (P.info? e).map (·.size) = some 1)
    (base g n cap : Nat) (xs : List Value) (hown : w.ownsRow base e 1 (.slice (some ⟨g, 0, none⟩) n cap) n xs) (off d : Nat) (hoff : off + d ≤ n) (hd0 : 0 < d) (dCap : Nat)
    (B : Nat) (A : Option Addr) (c : Nat) (news : List Value) (hm : news.length = d) (hr : Reads w B A news) (h1 : ∀ u ∈ news, u.oneCell' = true) :
    ∃ w', (Builtin.copy_ #[dT, sT] ty #[.slice (some ⟨g, off, none⟩) d dCap, .slice A d c]).run P w = .ok (goInt d) w' ∧
      w'.ownsRow base e 1 (.slice (some ⟨g, 0, none⟩) n cap) n (xs.take off ++ (news ++ xs.drop (off + d))) ∧ w.grownBy w' (some g) ∧ w'.heap.size = w.heap.size := by
  have hlen := hown.1
  simp only [Nat.mul_one] at hlen
  obtain ⟨ad, rfl, _, hc⟩ := hr (by omega)
  rcases hown.2 with ⟨h', _⟩ | ⟨g', cap', cur, h', hb, hg, hnc, hcm, hcs, htake⟩
  · cases h'
  · simp only [Value.slice.injEq, Option.some.injEq, Addr.mk.injEq, and_true, true_and] at h'
    obtain ⟨rfl, rfl⟩ := h'
    simp only [Nat.mul_one] at hcs htake
    have hrun := run_copy_row (P := P) w dT sT ty e g off d dCap ad d c cur e news hu hsz hg (by rw [hm]; exact (Nat.min_self d).symm) (fun j v hj => hc j v hj) (by omega) (fun v hv => h1 v hv)
    have hcur : cur.toList = xs ++ cur.toList.drop n := by rw [← htake, List.take_append_drop]
    have hL : (cur.toList.take off ++ news ++ cur.toList.drop (off + d)) = (xs.take off ++ (news ++ xs.drop (off + d))) ++ cur.toList.drop n := by
      conv => lhs; rw [hcur]
      rw [List.take_append_of_le_length (by omega), List.drop_append_of_le_length (by omega)]
      simp
    have hll : (xs.take off ++ (news ++ xs.drop (off + d))).length = n := by
      simp only [List.length_append, List.length_take, List.length_drop]
      omega
    refine ⟨_, by rw [hrun, hm], ⟨by rw [hll, Nat.mul_one], .inr ⟨g, cap, _, rfl, hb, setRow_heap w g cur _ e _ hg, hnc, hcm, ?_, ?_⟩⟩, ⟨rfl, rfl, rfl, by simp, fun k _ hk => setRow_other w g k _ (fun e => hk (by rw [e]))⟩, by simp⟩
    · rw [hL, List.size_toArray, List.length_append, hll, List.length_drop, Array.length_toList, Nat.mul_one]
      omega
    · rw [hL, Nat.mul_one, List.take_append_of_le_length (by omega), List.take_of_length_le (by omega)]
theorem wpList_copy_mid {ops : Array Oper} {rest : List Oper} {o : Oper} {a : Act} {w : World} {Q : Exit → Act → World → Prop} (hgd : o.guard = none) (d s : Operand) (dT sT : TypeId)
    (ho : o.op = .call { callee := .builtin .copy, args := #[d, s], argTypes := #[dT, sT] }) (e : TypeId) (hu : P.underlying dT = some (.slice e)) (hsz : (P.info? e).map (·.size) = some 1)
    (base g n cap : Nat) (xs : List Value) (hown : w.ownsRow base e 1 (.slice (some ⟨g, 0, none⟩) n cap) n xs) (off k : Nat) (hoff : off + k ≤ n) (hd0 : 0 < k) (dCap : Nat)
    (hd : a.eval d = .slice (some ⟨g, off, none⟩) k dCap)
    (B : Nat) (A : Option Addr) (c : Nat) (news : List Value) (hs : a.eval s = .slice A k c) (hm : news.length = k) (hr : Reads w B A news) (h1 : ∀ u ∈ news, u.oneCell' = true)
    (h : ∀ w', w'.ownsRow base e 1 (.slice (some ⟨g, 0, none⟩) n cap) n (xs.take off ++ (news ++ xs.drop (off + k))) → w.grownBy w' (some g) → w'.heap.size = w.heap.size →
      wpList P ops Q rest (a.put o.dst (goInt k)) w') : wpList P ops Q (o :: rest) a w := by
  refine wpList_plain hgd fun K hK => ?_
  obtain ⟨w', hrun, h2, h3, h4⟩ := run_copy_mid (P := P) w dT sT o.type e hu hsz base g n cap xs hown off k hoff hd0 dCap B A c news hm hr h1
  unfold Oper.wp
  simp [execOp, ho, resolve, invoke, builtin, hd, hs, hrun, Result.andThen]
  exact hK _ _ (h w' h2 h3 h4)
end
/-- a slice of the call's own making, or none, beside an error's number -/
def GivesX (e : TypeId) (xs : List Value) (err : Int) (w : World) (en : Ending) (w' : World) : Prop :=
  ∃ A c, en = .returned (.tuple #[.slice A xs.length c, .int .i64 err]) ∧ w'.ownsRow w.heap.size e 1 (.slice A xs.length c) xs.length xs ∧ Below w.heap.size w w'
end Go.Proofs.Ytcnalndhlonblaa
