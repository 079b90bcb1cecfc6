/-
  How an argument that came in is opened into the words of this seat's proofs; nothing of the program stands here.
-/
import Derived.Test.YtnebmkkaobedaaaBase
import Derived.OpenShut
import Derived.ShutString
import Derived.ChangeOld
namespace Go.Proofs.Ytnebmkkaobedaaa
open Go.ChangeShapes Go.WideShapes Go.ChangeAt Go.RowKit
open Go.ChangeMaps (open_string shut_string)

section
variable {H : Type} {enc : TypeId × Value → H} {P : Program} {w : World}
theorem reads_of_ints {k : IntKind} {x : Addr} {zs : List Int} {len : Nat} (hl : len ≤ zs.length) (hcell : ∀ i, i < zs.length → w.cell? (x.add i) = some (.int k (zs.getD i 0))) :
    Reads w w.heap.size (some x) ((zs.take len).map (Value.int k)) := fun hn => by
  have hn' : 0 < len := by
    rw [List.length_map, List.length_take] at hn; omega
  refine ⟨x, rfl, ?_, fun j u hu => ?_⟩
  · have := block_lt_of_cell (hcell 0 (by omega))
    rwa [block_add] at this
  · have hj := (List.getElem?_eq_some_iff.1 hu).1
    rw [List.length_map, List.length_take] at hj
    rw [hcell j (by omega)]
    simp only [List.getElem?_map, List.getElem?_take] at hu
    rw [if_pos (by omega)] at hu
    rw [List.getElem?_eq_getElem (by omega)] at hu
    simp at hu
    rw [← hu]
    simp [List.getD, List.getElem?_eq_getElem (show j < zs.length by omega)]
theorem open_nums {t e : TypeId} {a : Option Addr} {len cap : Nat} {d : DataW H} {p : List MemPlace} (ht : P.underlying t = some (.slice e)) (he : P.underlying e = some (.int .i64)) (hc : P.cellsOf e = 1)
    (h : DataW.Trod enc P w 0 (fun _ => true) true t (.slice a len cap) d p) :
    ∃ l : List Int, len = l.length ∧ l.length ≤ maxLen ∧ (∀ x ∈ l, (Lit.int .i64 x).wf = true) ∧ Reads w w.heap.size a (iv l) := by
  obtain ⟨fuel, hf⟩ := h
  rcases open_ints ht he hc hf with ⟨hcs, _⟩ | ⟨x, l, c, zs, hcs, _, hl, hm, hz, _, hcell, hwz⟩
  · simp [Value.cells] at hcs
    obtain ⟨rfl, rfl, rfl⟩ := hcs
    exact ⟨[], rfl, by simp [maxLen], by simp, Reads.nil_ _ _ _⟩
  · simp [Value.cells] at hcs
    obtain ⟨rfl, rfl, rfl⟩ := hcs
    have hz' : zs.length = cap := by simpa using hz
    refine ⟨zs.take len, by rw [List.length_take]; omega, by rw [List.length_take]; omega, fun x hx => hwz x (List.mem_of_mem_take hx), reads_of_ints (by omega) hcell⟩
theorem open_bytes {t e : TypeId} {a : Option Addr} {len cap : Nat} {d : DataW H} {p : List MemPlace} (ht : P.underlying t = some (.slice e)) (he : P.underlying e = some (.int .u8)) (hc : P.cellsOf e = 1)
    (h : DataW.Trod enc P w 0 (fun _ => true) true t (.slice a len cap) d p) :
    ∃ l : List UInt8, len = l.length ∧ l.length ≤ maxLen ∧ Reads w w.heap.size a (bv l) := by
  obtain ⟨fuel, hf⟩ := h
  rcases open_ints ht he hc hf with ⟨hcs, _⟩ | ⟨x, l, c, zs, hcs, _, hl, hm, hz, _, hcell, hwz⟩
  · simp [Value.cells] at hcs
    obtain ⟨rfl, rfl, rfl⟩ := hcs
    exact ⟨[], rfl, by simp [maxLen], Reads.nil_ _ _ _⟩
  · simp [Value.cells] at hcs
    obtain ⟨rfl, rfl, rfl⟩ := hcs
    have hz' : zs.length = cap := by simpa using hz
    refine ⟨(zs.take len).map fun n => UInt8.ofNat n.toNat, by rw [List.length_map, List.length_take]; omega, by rw [List.length_map, List.length_take]; omega, ?_⟩
    have := reads_of_ints (w := w) (x := x) (len := len) (by omega) hcell
    have he : bv ((zs.take len).map fun n => UInt8.ofNat n.toNat) = (zs.take len).map (Value.int .u8) := by
      unfold bv
      rw [List.map_map]
      refine List.map_congr_left fun n hn => ?_
      have hb := wf_u8 (hwz n (List.mem_of_mem_take hn))
      have h1 : n.toNat < 256 := by omega
      simp only [Function.comp]
      congr 1
      rw [UInt8.toNat_ofNat', Nat.mod_eq_of_lt (by omega)]
      omega
    rw [he]
    exact this
end
end Go.Proofs.Ytnebmkkaobedaaa
