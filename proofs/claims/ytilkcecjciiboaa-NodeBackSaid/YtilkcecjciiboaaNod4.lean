/-
  Chapter 7: fields that stand as a literal, packed.
-/
import Derived.Test.YtilkcecjciiboaaNod2
import Derived.Test.YtilkcecjciiboaaCode3
import Derived.Test.YtilkcecjciiboaaBase7
namespace Go.Proofs.Ytilkcecjciiboaa
open Go.RowKit
def fcells (fs : List (Nat × Nat)) : List Value := fs.flatMap fun p => [.int .i64 (p.1 : Int), .int .i64 (p.2 : Int)]
def fldOk (p : Nat × Nat) : Prop := (p.1 = 1 ∧ p.2 < 256) ∨ (p.1 = 2 ∧ p.2 < 65536) ∨ (p.1 = 4 ∧ p.2 < 4294967296) ∨ (p.1 = 8 ∧ p.2 < 9223372036854775808)
def fB (fs : List (Nat × Nat)) : List UInt8 := fs.flatMap fun p => leb p.1 p.2
def fI (fs : List (Nat × Nat)) : List (Int × Int) := fs.map fun p => ((p.1 : Int), (p.2 : Int))
theorem fld_facts {p : Nat × Nat} (h : fldOk p) : knownB (p.1 : Int) = true ∧ fitsB (p.2 : Int) (p.1 : Int) = true ∧ (Lit.int .i64 (p.2 : Int)).wf = true := by
  obtain ⟨a, b⟩ := p
  unfold fldOk at h
  have hw : b < 9223372036854775808 := by omega
  refine ⟨?_, ?_, ?_⟩
  · rw [knownB_iff]; simp only at h ⊢; omega
  · unfold fitsB; rw [decide_eq_true_iff]; simp only at h ⊢; omega
  · simp [Lit.wf, IntKind.min, IntKind.max, IntKind.bits, IntKind.signed]; omega
theorem packE_f : ∀ fs : List (Nat × Nat), (∀ p ∈ fs, fldOk p) → packE (fI fs) = 0
  | [], _ => rfl
  | p :: fs, h => by
    obtain ⟨h1, h2, -⟩ := fld_facts (h p (List.mem_cons_self ..))
    show packE (((p.1 : Int), (p.2 : Int)) :: fI fs) = 0
    unfold packE
    rw [if_pos h1, if_pos h2]
    exact packE_f fs (fun q hq => h q (List.mem_cons_of_mem _ hq))
theorem packB_f : ∀ fs : List (Nat × Nat), packB (fI fs) = fB fs
  | [] => rfl
  | p :: fs => by
    show leb (p.1 : Int).toNat (p.2 : Int).toNat ++ packB (fI fs) = leb p.1 p.2 ++ fB fs
    rw [packB_f fs]; rfl
theorem fcells_at : ∀ (fs : List (Nat × Nat)) (j : Nat) (p : Nat × Nat), fs[j]? = some p → (fcells fs)[j * 2]? = some (.int .i64 (p.1 : Int)) ∧ (fcells fs)[j * 2 + 1]? = some (.int .i64 (p.2 : Int))
  | [], j, p, h => by simp at h
  | q :: fs, 0, p, h => by
    simp at h
    subst h
    exact ⟨rfl, rfl⟩
  | q :: fs, j + 1, p, h => by
    rw [List.getElem?_cons_succ] at h
    have := fcells_at fs j p h
    rw [Nat.succ_mul]
    exact this
theorem cpackL (fs : List (Nat × Nat)) (hf : ∀ p ∈ fs, fldOk p) (hl : fs.length ≤ 100) (g : Nat) (V : World) (hg : V.heap[g]? = some (.cells (fcells fs).toArray 82)) :
    Calls Try.prog 58 #[.slice (some ⟨g, 0, none⟩) fs.length fs.length] V fun e w' =>
      ∃ A c, e = .returned (.tuple #[.slice A (fB fs).length c, .int .i64 0]) ∧ Hid (w'.ownsRow V.heap.size 5 1 (.slice A (fB fs).length c) (fB fs).length (bv (fB fs))) ∧ Hid (Below V.heap.size V w') := by
  have e0 := packE_f fs hf
  have e1 : packV (fI fs) = fB fs := by unfold packV; rw [if_pos e0, packB_f]
  have hlen : (fI fs).length = fs.length := by simp [fI]
  have hR : Reads2 V V.heap.size (some ⟨g, 0, none⟩) (fI fs) := fun _ => by
    refine ⟨_, 0, rfl, heap_lt hg, fun j p hj => ?_⟩
    unfold fI at hj
    rw [List.getElem?_map] at hj
    obtain ⟨q, hq, rfl⟩ := Option.map_eq_some_iff.1 hj
    obtain ⟨f1, f2⟩ := fcells_at fs j q hq
    rw [Nat.zero_add]
    exact ⟨heap_cell hg _ (by rw [List.getElem?_toArray]; exact f1), heap_cell hg _ (by rw [List.getElem?_toArray]; exact f2)⟩
  have K := pack_any (some ⟨g, 0, none⟩) fs.length (fI fs) V (by simp only [reachBytes]; omega) (fun p hp => by
    unfold fI at hp
    obtain ⟨q, hq, rfl⟩ := List.mem_map.1 hp
    exact (fld_facts (hf q hq)).2.2) hR
  rw [hlen] at K
  refine K.mono ?_
  rintro e w' ⟨A, c, rfl, hown, hb⟩
  rw [e0, e1]
  rw [e1, bv_len] at hown
  rw [bv_len]
  exact ⟨A, c, rfl, Lib.hid hown, Lib.hid hb⟩
end Go.Proofs.Ytilkcecjciiboaa
