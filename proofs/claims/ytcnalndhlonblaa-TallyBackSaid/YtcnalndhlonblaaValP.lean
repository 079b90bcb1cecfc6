/-
  Plain: values of numbers in parts, as package value and its reference have them; rows of triples of ints; no program stands here.
-/
import Derived.Test.YtcnalndhlonblaaCodeP
import Derived.Test.YtcnalndhlonblaaBase3
namespace Go.Proofs.Ytcnalndhlonblaa
open Go.RowKit

/-- triples of ints in the cells of a slice, three cells an element -/
def Reads3 (w : World) (B : Nat) (A : Option Addr) (ls : List (Int × Int × Int)) : Prop :=
  0 < ls.length → ∃ b o, A = some ⟨b, o, none⟩ ∧ b < B ∧ ∀ j p, ls[j]? = some p → w.cell? ⟨b, o + j * 3, none⟩ = some (.int .i64 p.1) ∧ w.cell? ⟨b, o + j * 3 + 1, none⟩ = some (.int .i64 p.2.1) ∧ w.cell? ⟨b, o + j * 3 + 2, none⟩ = some (.int .i64 p.2.2)
theorem Reads3.below {w w' : World} {B : Nat} {A : Option Addr} {ls : List (Int × Int × Int)} (h : Reads3 w B A ls) (hb : Below B w w') : Reads3 w' B A ls := fun hn => by
  obtain ⟨b, o, e, hbb, hc⟩ := h hn
  exact ⟨b, o, e, hbb, fun j p hj => ⟨(hb.cell (p := ⟨b, _, none⟩) hbb).trans (hc j p hj).1, (hb.cell (p := ⟨b, _, none⟩) hbb).trans (hc j p hj).2.1, (hb.cell (p := ⟨b, _, none⟩) hbb).trans (hc j p hj).2.2⟩⟩
theorem Reads3.more {w : World} {B B' : Nat} {A : Option Addr} {ls : List (Int × Int × Int)} (h : Reads3 w B A ls) (hB : B ≤ B') : Reads3 w B' A ls := fun hn => by
  obtain ⟨b, o, e, hbb, hc⟩ := h hn
  exact ⟨b, o, e, by omega, hc⟩
/-- triples of ints, the cells one behind the other -/
def tv : List (Int × Int × Int) → List Value
  | [] => []
  | (a, b, c) :: r => .int .i64 a :: .int .i64 b :: .int .i64 c :: tv r
theorem tv_get (l : List (Int × Int × Int)) : ∀ j p, l[j]? = some p → (tv l)[j * 3]? = some (.int .i64 p.1) ∧ (tv l)[j * 3 + 1]? = some (.int .i64 p.2.1) ∧ (tv l)[j * 3 + 2]? = some (.int .i64 p.2.2) := by
  induction l with
  | nil => simp
  | cons q l ih =>
    obtain ⟨x, y, z⟩ := q
    intro j p hj
    cases j with
    | zero => simp at hj; subst hj; simp [tv]
    | succ j =>
      simp at hj
      rw [show (j + 1) * 3 = j * 3 + 1 + 1 + 1 by omega]
      simp only [tv, List.getElem?_cons_succ]
      exact ih j p hj
theorem Reads3.new (w : World) (ls : List (Int × Int × Int)) (t : TypeId) (fr : Nat × Nat) : Reads3 (w.alloc (.cells (tv ls).toArray t fr)) (w.heap.size + 1) (some ⟨w.heap.size, 0, none⟩) ls := fun _ => by
  refine ⟨_, 0, rfl, Nat.lt_succ_self _, fun j p hj => ?_⟩
  obtain ⟨h1, h2, h3⟩ := tv_get ls j p hj
  rw [World.cell?_alloc_mark, World.cell?_alloc_mark, World.cell?_alloc_mark, Nat.zero_add]
  exact ⟨by simpa using h1, by simpa using h2, by simpa using h3⟩

/-- a number's width, and from where to where it may be -/
abbrev Part := Int × Int × Int
def inB (p : Part) (n : Int) : Bool := decide (p.2.1 ≤ n ∧ n ≤ p.2.2)
def goodP (p : Part) : Prop := knownB p.1 = true ∧ ∀ n, inB p n = true → fitsB n p.1 = true
def valE (z : List (Part × Int)) : Bool := z.all fun q => inB q.1 q.2
def valB (z : List (Part × Int)) : List UInt8 := z.flatMap fun q => leb q.1.1.toNat q.2.toNat
/-- the value of numbers: their bytes, or none -/
def valV (z : List (Part × Int)) : List UInt8 := if valE z = true then valB z else []
theorem valE_append (a b : List (Part × Int)) : valE (a ++ b) = (valE a && valE b) := by simp [valE]
theorem valB_append (a b : List (Part × Int)) : valB (a ++ b) = valB a ++ valB b := by simp [valB]
theorem good_len {p : Part} (h : goodP p) : 1 ≤ p.1 ∧ p.1 ≤ 8 := by
  have := (knownB_iff p.1).1 h.1
  omega
theorem valB_len (z : List (Part × Int)) (h : ∀ q ∈ z, goodP q.1) : (valB z).length ≤ 8 * z.length := by
  induction z with
  | nil => simp [valB]
  | cons q z ih =>
    have h1 := good_len (h q (by simp))
    have h2 := ih (fun r hr => h r (by simp [hr]))
    simp only [valB, List.flatMap_cons, List.length_append, leb_len, List.length_cons] at *
    omega
end Go.Proofs.Ytcnalndhlonblaa
