/-
  More words for memory: copy into a row of the call's own; a marked row that is appended to; nothing of the program stands here.
-/
import Derived.Test.YtcnalndhlonblaaBase
import Derived.Deep.RegionHeld3
import Derived.Deep.DrawnRows
import Derived.Deep.RegionLaw
namespace Go.Proofs.Ytcnalndhlonblaa
open Go.RowKit

theorem own_base {w : World} {base g n cap : Nat} {e : TypeId} {xs : List Value} (h : w.ownsRow base e 1 (.slice (some ⟨g, 0, none⟩) n cap) n xs) : base ≤ w.heap.size := by
  have := h.lt g rfl; omega
section
variable {P : Program}
/-- 'copy(out[off:], src)', out a row of the call's own -/
theorem run_copy_to (w : World) (dT sT ty e : TypeId) (hu : P.underlying dT = some (.slice e)) (hsz : (P.info? e).map (·.size) = some 1)
    (base g n cap : Nat) (xs : List Value) (hown : w.ownsRow base e 1 (.slice (some ⟨g, 0, none⟩) n cap) n xs) (off : Nat) (hoff : off ≤ n)
    (dp : Option Addr) (dLen dCap : Nat) (hdl : dLen = n - off) (hdp : off < n → dp = some ⟨g, off, none⟩)
    (B : Nat) (A : Option Addr) (m c : Nat) (news : List Value) (hm : m = news.length) (hr : Reads w B A news) (h1 : ∀ u ∈ news, u.oneCell' = true) :
    ∃ w', (Builtin.copy_ #[dT, sT] ty #[.slice dp dLen dCap, .slice A m c]).run P w = .ok (goInt (min m (n - off) : Nat)) w' ∧
      w'.ownsRow base e 1 (.slice (some ⟨g, 0, none⟩) n cap) n (xs.take off ++ (news.take (n - off) ++ xs.drop (off + news.length))) ∧ w.grownBy w' (some g) ∧ w'.heap.size = w.heap.size := by
  subst hm hdl
  have hlen := hown.1
  simp only [Nat.mul_one] at hlen
  rcases Nat.eq_zero_or_pos (min news.length (n - off)) with h0 | h0
  · have hrun := run_copy_none (P := P) w dT sT ty e dp A (n - off) dCap news.length c hu hsz (by simpa [Nat.min_def] using h0)
    refine ⟨w, by rw [hrun, h0]; rfl, ?_, World.grownBy.refl w _, rfl⟩
    have he : xs.take off ++ (news.take (n - off) ++ xs.drop (off + news.length)) = xs := by
      rcases Nat.eq_zero_or_pos news.length with hz | hz
      · have : news = [] := List.eq_nil_of_length_eq_zero hz
        subst this
        simp
      · have : n - off = 0 := by omega
        rw [this, List.take_of_length_le (by omega), List.drop_of_length_le (by omega)]
        simp
    rw [he]
    exact hown
  · obtain ⟨ad, rfl, _, hc⟩ := hr (by omega)
    obtain rfl := hdp (by omega)
    rcases hown.2 with ⟨h', _⟩ | ⟨g', cap', cur, h', hb, hg, hnc, hcm, hcs, htake⟩
    · cases h'
    · simp only [Value.slice.injEq, Option.some.injEq, Addr.mk.injEq, and_true, true_and] at h'
      obtain ⟨rfl, rfl⟩ := h'
      simp only [Nat.mul_one] at hcs htake
      obtain ⟨cs, hcs'⟩ : ∃ cs, cs = news.take (n - off) := ⟨_, rfl⟩
      have hcl : cs.length = min news.length (n - off) := by rw [hcs', List.length_take, Nat.min_comm]
      have hdr : xs.drop (off + news.length) = xs.drop (off + cs.length) := by
        rcases Nat.le_total news.length (n - off) with hle | hle
        · rw [hcl, Nat.min_eq_left hle]
        · rw [hcl, Nat.min_eq_right hle, List.drop_of_length_le (by omega), List.drop_of_length_le (by omega)]
      have hrun := run_copy_row (P := P) w dT sT ty e g off (n - off) dCap ad news.length c cur e cs hu hsz hg hcl (fun j v hj => hc j v (by
        rw [hcs', List.getElem?_take] at hj
        split at hj
        · exact hj
        · cases hj)) (by omega) (fun v hv => h1 v (by rw [hcs'] at hv; exact List.mem_of_mem_take hv))
      rw [← hcs', hdr]
      have hcur : cur.toList = xs ++ cur.toList.drop n := by rw [← htake, List.take_append_drop]
      have hL : (cur.toList.take off ++ cs ++ cur.toList.drop (off + cs.length)) = (xs.take off ++ (cs ++ xs.drop (off + cs.length))) ++ cur.toList.drop n := by
        conv => lhs; rw [hcur]
        rw [List.take_append_of_le_length (by omega), List.drop_append_of_le_length (by omega)]
        simp
      have hll : (xs.take off ++ (cs ++ xs.drop (off + cs.length))).length = n := by
        simp only [List.length_append, List.length_take, List.length_drop]
        omega
      refine ⟨_, by rw [← hcl]; exact hrun, ⟨by rw [hll, Nat.mul_one], .inr ⟨g, cap, _, rfl, hb, setRow_heap w g cur _ e _ hg, hnc, hcm, ?_, ?_⟩⟩, ⟨rfl, rfl, rfl, by simp, fun k _ hk => setRow_other w g k _ (fun e => hk (by rw [e]))⟩, by simp⟩
      · rw [hL, List.size_toArray, List.length_append, hll, List.length_drop, Array.length_toList, Nat.mul_one]
        omega
      · rw [hL, Nat.mul_one, List.take_append_of_le_length (by omega), List.take_of_length_le (by omega)]
theorem wpList_copy_to {ops : Array Oper} {rest : List Oper} {o : Oper} {a : Act} {w : World} {Q : Exit → Act → World → Prop} (hgd : o.guard = none) (d s : Operand) (dT sT : TypeId)
    (ho : o.op = .call { callee := .builtin .copy, args := #[d, s], argTypes := #[dT, sT] }) (e : TypeId) (hu : P.underlying dT = some (.slice e)) (hsz : (P.info? e).map (·.size) = some 1)
    (base g n cap : Nat) (xs : List Value) (hown : w.ownsRow base e 1 (.slice (some ⟨g, 0, none⟩) n cap) n xs) (off : Nat) (hoff : off ≤ n)
    (dp : Option Addr) (dLen dCap : Nat) (hd : a.eval d = .slice dp dLen dCap) (hdl : dLen = n - off) (hdp : off < n → dp = some ⟨g, off, none⟩)
    (B : Nat) (A : Option Addr) (m c : Nat) (news : List Value) (hs : a.eval s = .slice A m c) (hm : m = news.length) (hr : Reads w B A news) (h1 : ∀ u ∈ news, u.oneCell' = true) (hbase : base ≤ w.heap.size)
    (h : ∀ w', w'.ownsRow base e 1 (.slice (some ⟨g, 0, none⟩) n cap) n (xs.take off ++ (news.take (n - off) ++ xs.drop (off + news.length))) → w.grownBy w' (some g) → Below base w w' → w'.heap.size = w.heap.size →
      wpList P ops Q rest (a.put o.dst (goInt (min m (n - off) : Nat))) w') : wpList P ops Q (o :: rest) a w := by
  refine wpList_plain hgd fun K hK => ?_
  obtain ⟨w', hrun, h2, h3, h4⟩ := run_copy_to (P := P) w dT sT o.type e hu hsz base g n cap xs hown off hoff dp dLen dCap hdl hdp B A m c news hm hr h1
  unfold Oper.wp
  simp [execOp, ho, resolve, invoke, builtin, hd, hs, hrun, Result.andThen]
  exact hK _ _ (h w' h2 h3 (below_of_grown hown hbase h3) h4)
theorem step_copy_to {ops : Array Oper} {o : Oper} {a : Act} {w : World} {K : Act → World → Prop} {Q : Exit → Act → World → Prop} {E : Prop} (hgd : o.guard = none) (d s : Operand) (dT sT : TypeId)
    (ho : o.op = .call { callee := .builtin .copy, args := #[d, s], argTypes := #[dT, sT] }) (e : TypeId) (hu : P.underlying dT = some (.slice e)) (hsz : (P.info? e).map (·.size) = some 1)
    (base g n cap : Nat) (xs : List Value) (hown : w.ownsRow base e 1 (.slice (some ⟨g, 0, none⟩) n cap) n xs) (off : Nat) (hoff : off ≤ n)
    (dp : Option Addr) (dLen dCap : Nat) (hd : a.eval d = .slice dp dLen dCap) (hdl : dLen = n - off) (hdp : off < n → dp = some ⟨g, off, none⟩)
    (B : Nat) (A : Option Addr) (m c : Nat) (news : List Value) (hs : a.eval s = .slice A m c) (hm : m = news.length) (hr : Reads w B A news) (h1 : ∀ u ∈ news, u.oneCell' = true) (hbase : base ≤ w.heap.size)
    (h : ∀ w', w'.ownsRow base e 1 (.slice (some ⟨g, 0, none⟩) n cap) n (xs.take off ++ (news.take (n - off) ++ xs.drop (off + news.length))) → w.grownBy w' (some g) → Below base w w' → w'.heap.size = w.heap.size →
      K (a.put o.dst (goInt (min m (n - off) : Nat))) w') : if Region.wanted o (yielded ops a.tmps) = true then Oper.wp P o a w K Q else E := by
  have hw : Region.wanted o (yielded ops a.tmps) = true := by simp [Region.wanted, hgd]
  rw [if_pos hw]
  obtain ⟨w', hrun, h2, h3, h4⟩ := run_copy_to (P := P) w dT sT o.type e hu hsz base g n cap xs hown off hoff dp dLen dCap hdl hdp B A m c news hm hr h1
  unfold Oper.wp
  simp [execOp, ho, resolve, invoke, builtin, hd, hs, hrun, Result.andThen]
  exact h w' h2 h3 (below_of_grown hown hbase h3) h4
end
end Go.Proofs.Ytcnalndhlonblaa
