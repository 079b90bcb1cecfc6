/-
  Chapter 44: the squeezer's flush and run, walked.
-/
import Derived.Test.YtcnalndhlonblaaSqP
import Derived.Test.YtcnalndhlonblaaTail
import Derived.Test.YtcnalndhlonblaaRep
import Derived.Test.YtcnalndhlonblaaBase3
import Derived.Test.YtcnalndhlonblaaBase5
import Derived.Test.YtcnalndhlonblaaBase7
import Derived.RangeFuncOwn
import Derived.RangeFuncCalls
import Derived.BigRegion
namespace Go.Proofs.Ytcnalndhlonblaa
open Go.RowKit
theorem Try.infoU44 : (Try.prog.info? 5).map (fun i => (i.zero, i.size, i.bytes)) = some (some (.int .u8 0), 1, 1) := by kernel_rfl
attribute [local go_sem ↓] Go.wp_at_zero Go.wp_at_succ

/-- what may change: the block g, and blocks of cells from B on -/
structure Chg (B g : Nat) (w w' : World) : Prop where
  os : w'.os = w.os
  tape : w'.tape = w.tape
  output : w'.output = w.output
  block : ∀ k, k < B → k ≠ g → w'.heap[k]? = w.heap[k]?
  others : KeepsOthers w w'
section
variable {B g : Nat} {w w' w'' : World}
theorem Chg.refl (B g : Nat) (w : World) : Chg B g w w := ⟨rfl, rfl, rfl, fun _ _ _ => rfl, KeepsOthers.refl w⟩
theorem Chg.trans (h : Chg B g w w') (k : Chg B g w' w'') : Chg B g w w'' :=
  ⟨k.os.trans h.os, k.tape.trans h.tape, k.output.trans h.output, fun j h1 h2 => (k.block j h1 h2).trans (h.block j h1 h2), h.others.trans k.others⟩
theorem Chg.drew (h : Chg B g w w') : Chg B g w w'.drew := ⟨h.os, h.tape, h.output, h.block, h.others.trans (KeepsOthers.drew _)⟩
theorem Chg.alloc (h : Chg B g w w') (hB : B ≤ w'.heap.size) (o : Obj) : Chg B g w (w'.alloc o) :=
  ⟨h.os, h.tape, h.output, fun j h1 h2 => (Below.heap_alloc w' o j (by omega)).trans (h.block j h1 h2), h.others.trans (KeepsOthers.alloc _ _)⟩
theorem Chg.set (h : Chg B g w w') (i : Nat) (v : Value) : Chg B g w (w'.setCell ⟨g, i, none⟩ v) :=
  ⟨h.os, h.tape, h.output, fun j h1 h2 => (heap_setCell_other w' ⟨g, i, none⟩ j v h2).trans (h.block j h1 h2), h.others.trans (KeepsOthers.setCell _ _ _)⟩
theorem Chg.grown (h : Chg B g w w') {row : Option Nat} (hB : B ≤ w'.heap.size) (hg : w'.grownBy w'' row) (hr : ∀ k, row = some k → B ≤ k) (hc : ∀ (j : Nat) (o : Obj), row = some j → w'.heap[j]? = some o → o.isCells = true) : Chg B g w w'' :=
  ⟨hg.os.trans h.os, hg.tape.trans h.tape, hg.output.trans h.output, fun j h1 h2 => (hg.block j (by omega) (fun e => by have := hr j e.symm; omega)).trans (h.block j h1 h2), h.others.trans (KeepsOthers.of_grownBy hg hc)⟩
theorem Chg.size (h : Chg B g w w') : w.heap.size ≤ w'.heap.size := h.others.size
end
theorem own_isCells {W : World} {base n : Nat} {e : TypeId} {v : Value} {xs : List Value} (h : W.ownsRow base e 1 v n xs) : ∀ (j : Nat) (o : Obj), v.ownBlock = some j → W.heap[j]? = some o → o.isCells = true := by
  intro j o hj ho
  rcases h.2 with ⟨rfl, _⟩ | ⟨g, cap, cur, rfl, _, hg, _⟩
  · simp [Value.ownBlock] at hj
  · obtain rfl : g = j := by simpa [Value.ownBlock] using hj
    rw [hg] at ho
    cases ho
    rfl
theorem tail_isCells {W : World} {base n : Nat} {e : TypeId} {v : Value} {xs : List Value} (h : Tail W base e v n xs) : ∀ (j : Nat) (o : Obj), v.ownBlock = some j → W.heap[j]? = some o → o.isCells = true := by
  intro j o hj ho
  rcases h.2 with ⟨rfl, _⟩ | ⟨g, off, cap, cur, rfl, _, hg, _⟩
  · simp [Value.ownBlock] at hj
  · obtain rfl : g = j := by simpa [Value.ownBlock] using hj
    rw [hg] at ho
    cases ho
    rfl
theorem not_tail {W : World} {b : Nat} {cur : Array Value} {t e : TypeId} {fz : Nat × Nat} (h : W.heap[b]? = some (.cells cur t fz)) (ht : t ≠ e) {base k : Nat} {v : Value} {xs : List Value} (hr : Tail W base e v k xs) : some b ≠ v.ownBlock := by
  rcases hr.2 with ⟨rfl, _⟩ | ⟨g, off, cap, cur', rfl, _, hgb, _⟩
  · simp [Value.ownBlock]
  · intro e'
    obtain rfl : b = g := by simpa [Value.ownBlock] using e'
    have := h.symm.trans hgb
    simp at this
    exact ht this.2.1
theorem grown_at (W : World) (b i : Nat) (v : Value) : W.grownBy (W.setCell ⟨b, i, none⟩ v) (some b) :=
  ⟨rfl, rfl, rfl, (KeepsWalks.setCell W _ v).size, fun k _ hk => Below.heap_setCell _ _ _ k (fun e => hk (by rw [e]))⟩
theorem row_ge {w : World} {base g : Nat} {e : TypeId} {v : Value} {n : Nat} {xs : List Value} (h : w.ownsRow base e 1 v n xs) (hg : v.ownBlock = some g) : base ≤ g := by
  rcases h.2 with ⟨rfl, _⟩ | ⟨g', cap, cur, rfl, hb, _⟩
  · simp [Value.ownBlock] at hg
  · obtain rfl : g' = g := by simpa [Value.ownBlock] using hg
    exact hb
/-- a squeezer: its pieces, in a row of their own, and what waits, within another one -/
structure SqI (w : World) (B g : Nat) (A1 : Option Addr) (m1 c1 : Nat) (out : List UInt8) (A2 : Option Addr) (m2 c2 : Nat) (wait : List UInt8) : Prop where
  box : w.heap[g]? = some (.cells #[.slice A1 m1 c1, .slice A2 m2 c2] 112)
  own : w.ownsRow B 5 1 (.slice A1 m1 c1) m1 (bv out)
  tl : Tail w B 5 (.slice A2 m2 c2) m2 (bv wait)
  ne : ∀ k, (Value.slice A1 m1 c1).ownBlock = some k → (Value.slice A2 m2 c2).ownBlock ≠ some k
  bs : B ≤ w.heap.size
section
variable {w w' : World} {B g : Nat} {A1 : Option Addr} {m1 c1 : Nat} {out : List UInt8} {A2 : Option Addr} {m2 c2 : Nat} {wait : List UInt8}
theorem SqI.l1 (h : SqI w B g A1 m1 c1 out A2 m2 c2 wait) : m1 = out.length := by have := h.own.1; rw [bv_len] at this; omega
theorem SqI.l2 (h : SqI w B g A1 m1 c1 out A2 m2 c2 wait) : m2 = wait.length := by have := h.tl.1; rw [bv_len] at this; omega
theorem SqI.drew (h : SqI w B g A1 m1 c1 out A2 m2 c2 wait) : SqI w.drew B g A1 m1 c1 out A2 m2 c2 wait := ⟨h.box, h.own.drew, h.tl.moved fun _ _ => rfl, h.ne, h.bs⟩
theorem SqI.alloc (h : SqI w B g A1 m1 c1 out A2 m2 c2 wait) (o : Obj) : SqI (w.alloc o) B g A1 m1 c1 out A2 m2 c2 wait :=
  ⟨heap_alloc' h.box o, h.own.alloc o, h.tl.alloc o, h.ne, by have := h.bs; simp; omega⟩
/-- out grows -/
theorem SqI.out_to (h : SqI w B g A1 m1 c1 out A2 m2 c2 wait) {A3 : Option Addr} {m3 c3 : Nat} {new : List UInt8} {w2 : World} (hown : w2.ownsRow B 5 1 (.slice A3 m3 c3) m3 (bv new)) (hg : w.grownBy w2 (Value.slice A1 m1 c1).ownBlock)
    (hb : (Value.slice A3 m3 c3).ownBlock = (Value.slice A1 m1 c1).ownBlock ∨ (Value.slice A3 m3 c3).ownBlock = some w.heap.size) :
    w2.heap[g]? = some (.cells #[.slice A1 m1 c1, .slice A2 m2 c2] 112) ∧ SqI (w2.setCell ⟨g, 0, none⟩ (.slice A3 m3 c3)) B g A3 m3 c3 new A2 m2 c2 wait ∧ Chg B g w (w2.setCell ⟨g, 0, none⟩ (.slice A3 m3 c3)) := by
  have hne := not_own h.box (by decide) h.own
  have hbox : w2.heap[g]? = some (.cells #[.slice A1 m1 c1, .slice A2 m2 c2] 112) := (hg.block g (heap_lt h.box) hne).trans h.box
  have htl := h.tl.kept hg (fun k hk e => h.ne k e hk)
  refine ⟨hbox, ⟨heap_setCell_same w2 g 0 _ _ _ hbox, hown.kept (grown_at w2 g 0 _) (.inr (not_own hbox (by decide) hown).symm), htl.kept (grown_at w2 g 0 _) (fun k hk e => not_tail hbox (by decide) htl (by rw [hk, e])), ?_, by have := h.bs; have := hg.size; simp; omega⟩, ?_⟩
  · intro k hk e
    rcases hb with h1 | h1
    · exact h.ne k (h1.symm.trans hk) e
    · have h2 := h.tl.lt e
      rw [h1] at hk
      injection hk with hk
      omega
  · exact ((Chg.refl B g w).grown h.bs hg (fun k hk => row_ge h.own hk) (own_isCells h.own)).set 0 _
/-- what waits grows -/
theorem SqI.wait_to (h : SqI w B g A1 m1 c1 out A2 m2 c2 wait) {A3 : Option Addr} {m3 c3 : Nat} {new : List UInt8} {w2 : World} (hown : Tail w2 B 5 (.slice A3 m3 c3) m3 (bv new)) (hg : w.grownBy w2 (Value.slice A2 m2 c2).ownBlock)
    (hb : (Value.slice A3 m3 c3).ownBlock = (Value.slice A2 m2 c2).ownBlock ∨ (Value.slice A3 m3 c3).ownBlock = some w.heap.size) :
    w2.heap[g]? = some (.cells #[.slice A1 m1 c1, .slice A2 m2 c2] 112) ∧ SqI (w2.setCell ⟨g, 1, none⟩ (.slice A3 m3 c3)) B g A1 m1 c1 out A3 m3 c3 new ∧ Chg B g w (w2.setCell ⟨g, 1, none⟩ (.slice A3 m3 c3)) := by
  have hne := not_tail h.box (by decide) h.tl
  have hbox : w2.heap[g]? = some (.cells #[.slice A1 m1 c1, .slice A2 m2 c2] 112) := (hg.block g (heap_lt h.box) hne).trans h.box
  have hrow := h.own.kept hg (by
    cases hv : (Value.slice A1 m1 c1).ownBlock with
    | none => exact .inl rfl
    | some k => exact .inr (fun e => h.ne k hv e.symm))
  refine ⟨hbox, ⟨heap_setCell_same w2 g 1 _ _ _ hbox, hrow.kept (grown_at w2 g 1 _) (.inr (not_own hbox (by decide) hrow).symm), hown.kept (grown_at w2 g 1 _) (fun k hk e => not_tail hbox (by decide) hown (by rw [hk, e])), ?_, by have := h.bs; have := hg.size; simp; omega⟩, ?_⟩
  · intro k hk e
    rcases hb with h1 | h1
    · exact h.ne k hk (h1.symm.trans e)
    · have h2 := (h.own.lt k hk).2
      rw [h1] at e
      injection e with e
      omega
  · exact ((Chg.refl B g w).grown h.bs hg (fun k hk => h.tl.ge hk) (tail_isCells h.tl)).set 1 _
/-- what waits is cut at its head -/
theorem SqI.wait_cut (h : SqI w B g A1 m1 c1 out A2 m2 c2 wait) {A3 : Option Addr} {m3 c3 : Nat} {new : List UInt8} (hown : Tail w B 5 (.slice A3 m3 c3) m3 (bv new)) (hb : (Value.slice A3 m3 c3).ownBlock = (Value.slice A2 m2 c2).ownBlock) :
    SqI (w.setCell ⟨g, 1, none⟩ (.slice A3 m3 c3)) B g A1 m1 c1 out A3 m3 c3 new ∧ Chg B g w (w.setCell ⟨g, 1, none⟩ (.slice A3 m3 c3)) :=
  (h.wait_to hown (World.grownBy.refl w _) (.inl hb)).2
end
end Go.Proofs.Ytcnalndhlonblaa
