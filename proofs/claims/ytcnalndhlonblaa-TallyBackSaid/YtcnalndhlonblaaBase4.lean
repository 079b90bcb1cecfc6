/-
  More words for memory: a string turned into bytes; nothing of the program stands here.
-/
import Derived.Test.YtcnalndhlonblaaBase3
namespace Go.Proofs.Ytcnalndhlonblaa
open Go.RowKit
/-- the cells of a row of the call's own, at plain addresses -/
theorem own_cells {w : World} {base n c : Nat} {e : TypeId} {A : Option Addr} {xs : List Value} (h : w.ownsRow base e 1 (.slice A n c) n xs) (hn : 0 < n) : ∃ g, A = some ⟨g, 0, none⟩ ∧ ∀ j v, xs[j]? = some v → w.cell? ⟨g, j, none⟩ = some v := by
  have hR := Reads.of_own h
  have hl := h.1
  obtain ⟨ad, hA, _, hc⟩ := hR (by omega)
  rcases h.2 with ⟨h', hz⟩ | ⟨g, cap, cur, h', _⟩
  · injection h' with h1 h2 h3
    omega
  · injection h' with h1 h2 h3
    rw [h1] at hA
    injection hA with hA
    refine ⟨g, h1, fun j v hj => ?_⟩
    have := hc j v hj
    rw [← hA, add_plain, Nat.zero_add] at this
    exact this
/-- a cell of a block that was there and is not the row that grew -/
theorem cell_grown {w w' : World} {row : Option Nat} (hg : w.grownBy w' row) {p : Addr} (h1 : p.block < w.heap.size) (h2 : row ≠ some p.block) : w'.cell? p = w.cell? p := by
  obtain ⟨_, _, _, _, hb⟩ := hg
  have := hb p.block h1 (fun e => h2 (by first | exact e | exact e.symm))
  unfold World.cell?
  rw [this]
section
variable {P : Program}
/-- '[]byte(s)': a new block whose cells begin with s's bytes -/
theorem run_str_bytes (w : World) (src dst e : TypeId) (l : List UInt8) (hs : P.underlying src = some .string) (hd : P.underlying dst = some (.slice e)) (he : P.underlying e = some (.int .u8)) :
    ∃ c O, (convert src dst (.string ⟨l.toArray⟩)).run P w = .ok (.slice (some ⟨w.heap.size, 0, none⟩) l.length c) (w.drew.alloc O) ∧ Reads (w.drew.alloc O) (w.heap.size + 1) (some ⟨w.heap.size, 0, none⟩) (bv l) ∧ l.length ≤ c := by
  refine ⟨_, _, run_bytes_of_string w src dst e ⟨l.toArray⟩ hs hd he, fun _ => ⟨_, rfl, Nat.lt_succ_self _, fun j u hu => ?_⟩, grownCap_ge _ _ _ _⟩
  have hj := (List.getElem?_eq_some_iff.1 hu).1
  rw [bv_len] at hj
  rw [add_plain, Nat.zero_add]
  have h := bytesRow_at ⟨l.toArray⟩ (grownCap w (ByteArray.mk l.toArray).size 0 e) j (by simpa using hj)
  have h2 := World.cell?_alloc_mark w.drew (bytesRow ⟨l.toArray⟩ (grownCap w (ByteArray.mk l.toArray).size 0 e)) e ((bytesRow ⟨l.toArray⟩ (grownCap w (ByteArray.mk l.toArray).size 0 e)).size, (bytesRow ⟨l.toArray⟩ (grownCap w (ByteArray.mk l.toArray).size 0 e)).size + 1) j
  refine h2.trans (h.trans ?_)
  rw [bv_get l j hj] at hu
  rw [← hu]
  simp
end
end Go.Proofs.Ytcnalndhlonblaa
