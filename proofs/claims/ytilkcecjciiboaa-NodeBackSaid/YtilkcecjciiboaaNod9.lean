/-
  Chapter 7: a node that is made step by step: its box, and its rows.
-/
import Derived.Test.YtilkcecjciiboaaNod6
namespace Go.Proofs.Ytilkcecjciiboaa
open Go.RowKit
theorem Try.infoStrN : (Try.prog.info? 9).map (fun i => (i.zero, i.size, i.bytes)) = some (some (.string ByteArray.empty), 1, 16) := by kernel_rfl
theorem grown_atN (W : World) (b i : Nat) (v : Value) : W.grownBy (W.setCell ⟨b, i, none⟩ v) (some b) :=
  ⟨rfl, rfl, rfl, (KeepsWalks.setCell W _ v).size, fun k _ hk => Below.heap_setCell _ _ _ k (fun e => hk (by rw [e]))⟩
theorem own_neN {w : World} {B1 B2 e1 e2 n1 n2 : Nat} {v1 v2 : Value} {xs ys : List Value} (h1 : w.ownsRow B1 e1 1 v1 n1 xs) (h2 : w.ownsRow B2 e2 1 v2 n2 ys) (he : e1 ≠ e2) : v1.ownBlock = none ∨ v1.ownBlock ≠ v2.ownBlock := by
  rcases h1.2 with ⟨rfl, _⟩ | ⟨g, cap, cur, rfl, _, hg, _⟩
  · exact .inl rfl
  · right
    exact not_own hg he h2
structure NodW (w : World) (base b : Nat) (n : NodeL) (A : Option Addr) (c : Nat) (A2 : Option Addr) (c2 : Nat) : Prop where
  bx : w.heap[b]? = some (.cells (nodV n A c A2 c2) 31)
  k : w.ownsRow base 3 1 (.slice A n.keys.length c) n.keys.length (iv n.keys)
  v : w.ownsRow base 9 1 (.slice A2 n.vals.length c2) n.vals.length (sv n.vals)
  ge : base ≤ b
section
variable {w w' : World} {base b : Nat} {n : NodeL} {A A2 : Option Addr} {c c2 : Nat}
theorem own_capO {e m : Nat} {xs : List Value} (h : w.ownsRow base e 1 (.slice A m c) m xs) : m ≤ c := by
  rcases h.2 with ⟨hv, hz⟩ | ⟨g', cap, cur, hv, _, _, hnc, _⟩
  · omega
  · injection hv with e1 e2 e3
    omega
theorem NodW.lt (h : NodW w base b n A c A2 c2) : b < w.heap.size := heap_lt h.bx
theorem NodW.cells (h : NodW w base b n A c A2 c2) : w.cell? ⟨b, 0, none⟩ = some (.int .i64 n.t) ∧ w.cell? ⟨b, 1, none⟩ = some (.bool n.leaf) ∧ w.cell? ⟨b, 2, none⟩ = some (.slice A n.keys.length c) ∧ w.cell? ⟨b, 3, none⟩ = some (.slice A2 n.vals.length c2) :=
  ⟨heap_cell h.bx 0 rfl, heap_cell h.bx 1 rfl, heap_cell h.bx 2 rfl, heap_cell h.bx 3 rfl⟩
theorem NodW.read (h : NodW w base b n A c A2 c2) : NodR w w.heap.size n A c A2 c2 := ⟨Reads.of_own h.k, Reads.of_own h.v, own_capO h.k, own_capO h.v⟩
theorem NodW.keep (h : NodW w base b n A c A2 c2) (hb : Below w.heap.size w w') : NodW w' base b n A c A2 c2 := ⟨heap_keep h.bx hb, own_keep h.k hb, own_keep h.v hb, h.ge⟩
theorem NodW.new (w : World) (t : Int) (lf : Bool) (w' : World) (base : Nat) (hB : base ≤ w.heap.size) (h : w'.heap[w.heap.size]? = some (.cells #[.int .i64 t, .bool lf, .slice none 0 0, .slice none 0 0] 31)) :
    NodW w' base w.heap.size ⟨t, lf, [], []⟩ none 0 none 0 := ⟨h, World.ownsRow_nil _ _ _ _, World.ownsRow_nil _ _ _ _, hB⟩
/-- a key appended -/
theorem NodW.key (h : NodW w base b n A c A2 c2) (x : Int) (A' : Option Addr) (c' m : Nat) (hm : m = n.keys.length + 1) (w2 : World) (ho : w2.ownsRow base 3 1 (.slice A' m c') m (iv n.keys ++ [.int .i64 x])) (hg : w.grownBy w2 (Value.slice A n.keys.length c).ownBlock) :
    NodW (w2.setCell ⟨b, 2, none⟩ (.slice A' m c')) base b ⟨n.t, n.leaf, n.keys ++ [x], n.vals⟩ A' c' A2 c2 ∧ w2.cell? ⟨b, 2, none⟩ = some (.slice A n.keys.length c) ∧ w2.frozen? ⟨b, 2, none⟩ = false ∧ Below base w (w2.setCell ⟨b, 2, none⟩ (.slice A' m c')) := by
  subst hm
  have hne := not_own h.bx (by decide) h.k
  have hb2 : w2.heap[b]? = some (.cells (nodV n A c A2 c2) 31) := by
    obtain ⟨_, _, _, _, hk⟩ := hg
    rw [hk b h.lt (fun e => hne (by first | exact e | exact e.symm))]
    exact h.bx
  have h1 := heap_setCell_same w2 b 2 (nodV n A c A2 c2) 31 (.slice A' (n.keys.length + 1) c') hb2
  have hv2 := h.v.kept hg (own_neN h.v h.k (by decide))
  have hgs := grown_atN w2 b 2 (.slice A' (n.keys.length + 1) c')
  refine ⟨⟨?_, ?_, ?_, h.ge⟩, heap_cell hb2 2 rfl, heap_free hb2 2, ?_⟩
  · rw [h1]
    simp [nodV]
  · have := ho.kept hgs (.inr (not_own hb2 (by decide) ho).symm)
    rw [iv_append, List.length_append]
    exact this
  · exact hv2.kept hgs (.inr (not_own hb2 (by decide) hv2).symm)
  · have hB : base ≤ w.heap.size := Nat.le_trans h.ge (Nat.le_of_lt h.lt)
    have b1 : Below base w w2 := below_of_grown h.k hB hg
    exact b1.grown hgs (Nat.le_trans hB hg.size) (fun k hk => by cases hk; exact h.ge)
/-- a value appended -/
theorem NodW.val (h : NodW w base b n A c A2 c2) (x : List UInt8) (A' : Option Addr) (c' m : Nat) (hm : m = n.vals.length + 1) (w2 : World) (ho : w2.ownsRow base 9 1 (.slice A' m c') m (sv n.vals ++ [.string ⟨x.toArray⟩])) (hg : w.grownBy w2 (Value.slice A2 n.vals.length c2).ownBlock) :
    NodW (w2.setCell ⟨b, 3, none⟩ (.slice A' m c')) base b ⟨n.t, n.leaf, n.keys, n.vals ++ [x]⟩ A c A' c' ∧ w2.cell? ⟨b, 3, none⟩ = some (.slice A2 n.vals.length c2) ∧ w2.frozen? ⟨b, 3, none⟩ = false ∧ Below base w (w2.setCell ⟨b, 3, none⟩ (.slice A' m c')) := by
  subst hm
  have hne := not_own h.bx (by decide) h.v
  have hb2 : w2.heap[b]? = some (.cells (nodV n A c A2 c2) 31) := by
    obtain ⟨_, _, _, _, hk⟩ := hg
    rw [hk b h.lt (fun e => hne (by first | exact e | exact e.symm))]
    exact h.bx
  have h1 := heap_setCell_same w2 b 3 (nodV n A c A2 c2) 31 (.slice A' (n.vals.length + 1) c') hb2
  have hv2 := h.k.kept hg (own_neN h.k h.v (by decide))
  have hgs := grown_atN w2 b 3 (.slice A' (n.vals.length + 1) c')
  refine ⟨⟨?_, ?_, ?_, h.ge⟩, heap_cell hb2 3 rfl, heap_free hb2 3, ?_⟩
  · rw [h1]
    simp [nodV]
  · exact hv2.kept hgs (.inr (not_own hb2 (by decide) hv2).symm)
  · have := ho.kept hgs (.inr (not_own hb2 (by decide) ho).symm)
    rw [sv_append, List.length_append]
    exact this
  · have hB : base ≤ w.heap.size := Nat.le_trans h.ge (Nat.le_of_lt h.lt)
    have b1 : Below base w w2 := below_of_grown h.v hB hg
    exact b1.grown hgs (Nat.le_trans hB hg.size) (fun k hk => by cases hk; exact h.ge)
end
end Go.Proofs.Ytilkcecjciiboaa
