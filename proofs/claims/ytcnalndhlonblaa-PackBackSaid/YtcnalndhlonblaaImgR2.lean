/-
  The reference's Read and Write of layer 3, walked.
-/
import Derived.Test.YtcnalndhlonblaaImgR
import Derived.Test.YtcnalndhlonblaaImg2
import Derived.Deep.RegionHeld3
namespace Go.Proofs.Ytcnalndhlonblaa
open Go.RowKit

/-- a slice that reads as bytes, beside an error's number -/
def TellsX (xs : List Value) (err : Int) (w : World) (en : Ending) (w' : World) : Prop :=
  ∃ A c, en = .returned (.tuple #[.slice A xs.length c, .int .i64 err]) ∧ Reads w' w'.heap.size A xs ∧ Below w.heap.size w w'
def rrE (n : Nat) (k : Int) : Int := if k < 0 ∨ (n : Int) ≤ k then 3 else 0
def rrB (L : List (List UInt8)) (k : Int) : List UInt8 := if rrE L.length k = 0 then L.getD k.toNat [] else []
theorem RImg.form {w : World} {B g : Nat} {A : Option Addr} {c : Nat} {L : List (List UInt8)} (h : RImg w B g A c L) (hL : 0 < L.length) : ∃ h0, A = some ⟨h0, 0, none⟩ ∧ L.length ≤ c := by
  rcases h.2.1.2 with ⟨hv, hz⟩ | ⟨g', cap, cur, hv, _, _, hnc, _⟩
  · omega
  · injection hv with e1 e2 e3
    exact ⟨g', e1, by omega⟩
theorem rwrite_img {w : World} {B g : Nat} {A : Option Addr} {c : Nat} {L : List (List UInt8)} (h : RImg w B g A c L) (k : Int) {B2 : Nat} (A2 : Option Addr) (c2 : Nat) (b : List UInt8) (hr : Reads w B2 A2 (bv b)) :
    Calls Try.prog 57 #[.pointer (some ⟨g, 0, none⟩), .int .i64 k, .slice A2 b.length c2] w fun e w' => e = .returned (.int .i64 (wrE (L.length * 256) k b.length)) ∧
      RImg w' B g A c (if wrE (L.length * 256) k b.length = 0 then L.set k.toNat b else L) ∧ w.grownBy w' (Value.slice A L.length c).ownBlock := by
  have hc := h.cell
  have hl := h.2.2.1
  have hdiv : L.length * 256 / 256 = L.length := by omega
  by_cases h1 : k < 0 ∨ (L.length : Int) ≤ k
  · have hE : wrE (L.length * 256) k b.length = 3 := by unfold wrE; rw [hdiv, if_pos h1]
    rw [hE, if_neg (by decide)]
    have HI := Lib.hid h
    clear hE h hdiv
    by_cases h0 : k < 0
    · have d1 : decide (k < 0) = true := decide_eq_true h0
      clear h1
      go_enter Try.func57, Try.ntmps57
      go_wp2
      go_ret
      exact ⟨rfl, HI.out, World.grownBy.refl w _⟩
    · have d1 : decide (k < 0) = false := decide_eq_false h0
      have d2 : decide ((L.length : Int) ≤ k) = true := decide_eq_true (by omega)
      clear h1
      go_enter Try.func57, Try.ntmps57
      go_wp2
      go_ret
      exact ⟨rfl, HI.out, World.grownBy.refl w _⟩
  · obtain ⟨m, rfl⟩ := Int.eq_ofNat_of_zero_le (show 0 ≤ k by omega)
    have hm : m < L.length := by omega
    have d1 : decide ((m : Int) < 0) = false := decide_eq_false (by omega)
    have d2 : decide (L.length ≤ m) = false := decide_eq_false (by omega)
    by_cases h2 : b.length = 256
    · have hE : wrE (L.length * 256) (m : Int) b.length = 0 := wrE_zero.2 ⟨by omega, by rw [hdiv]; omega, h2⟩
      rw [hE, if_pos rfl, Int.toNat_natCast]
      obtain ⟨h0, rfl, hcap⟩ := h.form (by omega)
      have hcell : w.cell? ⟨h0, m, none⟩ = some (.string ⟨L[m].toArray⟩) := by
        rw [h.2.1.cellAt m (by omega)]
        exact sv_get L m hm
      have hfz := h.2.1.frozenAt m
      have hne := h.1.not_row (by decide) h.2.1
      obtain ⟨ho, hg⟩ := h.2.1.stored m (.string ⟨b.toArray⟩)
      have hI2 : RImg (w.setCell ⟨h0, m, none⟩ (.string ⟨b.toArray⟩)) B g (some ⟨h0, 0, none⟩) c (L.set m b) := by
        refine ⟨by rw [List.length_set]; exact h.1.kept hg hne, ?_, by rw [List.length_set]; exact h.2.2.1, h.2.2.2⟩
        rw [List.length_set]
        have : (sv L).set m (.string ⟨b.toArray⟩) = sv (L.set m b) := by simp [sv, List.map_set]
        rw [← this]
        exact ho
      have hcv := fun W hb => run_conv_bytes (P := Try.prog) W 43 9 5 Try.underlying43 Try.underlying5 Try.underlying9 b.length c2 rfl (hr.keep (w' := W) hb)
      have hcv1 := hcv w (fun _ _ => rfl)
      have hcv2 := hcv w.drew (fun _ _ => rfl)
      have d3 : ((b.length : Int) != 256) = false := by simp [h2]
      clear h hE h1 h2 hdiv hcv
      have i0 : (0 : Int) ≤ (m : Int) := by omega
      have i1 : (m : Int) < (L.length : Int) := by omega
      go_enter Try.func57, Try.ntmps57
      go_wp2
      go_region
      go_wp2
      go_ret
      exact ⟨rfl, hI2, ⟨hg.os, hg.tape, hg.output, hg.size, hg.block⟩⟩
    · have hE : wrE (L.length * 256) (m : Int) b.length = 1 := by unfold wrE; rw [hdiv, if_neg h1, if_neg h2]
      rw [hE, if_neg (by decide)]
      have d3 : ((b.length : Int) != 256) = true := by simp; omega
      have HI := Lib.hid h
      clear hE h hdiv h1 h2
      go_enter Try.func57, Try.ntmps57
      go_wp2
      go_ret
      exact ⟨rfl, HI.out, World.grownBy.refl w _⟩
end Go.Proofs.Ytcnalndhlonblaa
