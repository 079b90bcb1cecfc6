/-
  The reference's Of of layer 3, walked.
-/
import Derived.Test.YtcnalndhlonblaaImgR2
namespace Go.Proofs.Ytcnalndhlonblaa
open Go.RowKit

/-- the first k blocks of bytes -/
def chunks (l : List UInt8) (k : Nat) : List (List UInt8) := (List.range k).map fun i => (l.drop (i * 256)).take 256
theorem chunks_len (l : List UInt8) (k : Nat) : (chunks l k).length = k := by simp [chunks]
theorem chunks_snoc (l : List UInt8) (k : Nat) : chunks l (k + 1) = chunks l k ++ [(l.drop (k * 256)).take 256] := by simp [chunks, List.range_succ]
set_option maxRecDepth 20000 in
theorem chunks_flat (l : List UInt8) (k : Nat) (h : k * 256 ≤ l.length) : (chunks l k).flatten = l.take (k * 256) := by
  induction k with
  | zero => simp [chunks]
  | succ k ih =>
    rw [chunks_snoc, List.flatten_append, ih (by omega), List.flatten_cons, List.flatten_nil, List.append_nil, show (k + 1) * 256 = k * 256 + 256 by omega, List.take_add]
set_option maxRecDepth 20000 in
theorem chunks_each (l : List UInt8) (k : Nat) (h : k * 256 ≤ l.length) : ∀ x ∈ chunks l k, x.length = 256 := by
  intro x hx
  simp only [chunks, List.mem_map, List.mem_range] at hx
  obtain ⟨i, hi, rfl⟩ := hx
  have : i * 256 + 256 ≤ l.length := by
    have : (i + 1) * 256 ≤ k * 256 := Nat.mul_le_mul_right _ hi
    omega
  rw [List.length_take, List.length_drop]
  omega
def GivesRImg (L : List (List UInt8)) (w : World) (e : Ending) (w' : World) : Prop := ∃ g A c, e = .returned (.pointer (some ⟨g, 0, none⟩)) ∧ RImg w' w.heap.size g A c L ∧ Below w.heap.size w w'
def rimgOf (l : List UInt8) : List (List UInt8) := chunks l (min (l.length / 256) 14400)
set_option maxRecDepth 100000 in
set_option maxHeartbeats 1000000 in
theorem rof_any (A0 : Option Addr) (c0 : Nat) (l : List UInt8) (w : World) (hq : l.length ≤ c0) (hm : l.length ≤ reachBytes) (h : Reads w w.heap.size A0 (bv l)) :
    Calls Try.prog 21 #[.slice A0 l.length c0] w (GivesRImg (rimgOf l) w) := by
  obtain ⟨i1, ki, kz0, kz1, kz2⟩ := info_parts Try.infoStr
  simp only [reachBytes] at hm
  go_enter Try.func21, Try.ntmps21
  go_wp2_with fail
  go_loopw [0] (fun v wr => ∃ (k : Nat) (A' : Option Addr) (c' : Nat) (A : Option Addr) (c : Nat), k * 256 ≤ l.length ∧ k ≤ 14400 ∧ v = .slice A' (l.length - k * 256) c' ∧ l.length - k * 256 ≤ c' ∧ Reads w w.heap.size A' (bv (l.drop (k * 256))) ∧ RImg wr w.heap.size w.heap.size A c (chunks l k) ∧ Below w.heap.size w wr) (fun v _ => match v with | .slice _ n _ => n | _ => 0)
  case atStart => exact ⟨0, A0, c0, none, 0, by omega, by omega, by simp, by omega, by simpa using h, RImg.new w, below_alloc1 w _⟩
  case round =>
    obtain ⟨k, A', c', A, c, hk, hk2, rfl, hcc, hR, hI, hbr⟩ := hrel
    have hc0 := hI.cell
    rw [chunks_len] at hc0
    have HS := Lib.hid (chunks_snoc l k)
    have HL := Lib.hid (chunks_len l k)
    by_cases h1 : 256 ≤ l.length - k * 256
    · have d1 : decide (256 ≤ l.length - k * 256) = true := decide_eq_true h1
      by_cases h2 : k < 14400
      · have d2 : decide ((k : Int) < 14400) = true := decide_eq_true (by omega)
        have hXl : ((l.drop (k * 256)).take 256).length = 256 := by rw [List.length_take, List.length_drop]; omega
        have hRX : Reads w w.heap.size A' (bv ((l.drop (k * 256)).take 256)) := by rw [← bv_take]; exact hR.take 256
        have hRn : Reads w w.heap.size (if c' = 256 then A' else A'.map (·.add 256)) (bv (l.drop ((k + 1) * 256))) := by
          have := hR.drop (k := 256) (cap := c') (by rw [bv_len, List.length_drop]; exact hcc)
          rw [bv_drop, List.drop_drop, show k * 256 + 256 = (k + 1) * 256 by omega] at this
          exact this
        obtain ⟨ad, rfl, hadb, _⟩ := hR.at_ (k := 0) (by rw [bv_len, List.length_drop]; omega)
        generalize (l.drop (k * 256)).take 256 = X at *
        have HXL := Lib.hid hXl
        have hcv := run_conv_bytes (P := Try.prog) wr.drew 43 9 5 Try.underlying43 Try.underlying5 Try.underlying9 256 c' hXl.symm ((hRX.below hbr).drew)
        have hI1 := hI.alloc (.cells #[.string ⟨X.toArray⟩] 9)
        have ho := hI1.2.1
        rw [HL.out] at ho
        have hc1 := hI1.cell
        rw [HL.out] at hc1
        have hr2 := string_row wr 9 X
        have hsz := hbr.size
        clear hXl hRX hR
        have e1 : 256 ≤ c' := by omega
        have e2 : (256 : Int) ≤ (c' : Int) := by omega
        go_wp2_with fail
        go_region_law (refine step_append_to_s _ rfl (.tmp 21) (.tmp 25) _ rfl w.heap.size 1 9 i1 _ 16 Try.underlying81 ki kz0 kz1 kz2 rfl (by decide) (.slice A k c) k (sv (chunks l k)) rfl ho _ _ 1 1 (sv [X]) rfl (by simp [sv_len]) hr2 (sv_one _) (by simp only [maxLen]; omega) (by omega) (by simp; omega) ?_; intro A'' c'' w2 hown2 hg2 hb2; replace hg2 : (wr.alloc (.cells #[.string ⟨X.toArray⟩] 9)).grownBy w2 (Value.slice A k c).ownBlock := ⟨hg2.os, hg2.tape, hg2.output, hg2.size, hg2.block⟩; have hp := hI1.put hg2 (by rw [HL.out]) (L' := chunks l (k + 1)) (by rw [HS.out, sv_append]; exact hown2) (by rw [chunks_len]) (by rw [chunks_len]; omega); have k0 := hp.1.cell; have z0 := hp.1.frozen)
        all_goals
          have hB1 : Below w.heap.size w (wr.alloc (.cells #[.string ⟨X.toArray⟩] 9)) := hbr.alloc hsz _
          have hB2 : Below w.heap.size w w2 := hB1.trans (undrew hb2)
          have hp2 := hp.2
          clear hp k0 z0 hown2 hg2 hb2 hr2 ho hc1 hI1 hcv hc0 hI
          by_cases hc3 : c' = 256
          · rw [if_pos hc3] at hRn
            subst hc3
            go_wp2
            go_roundw
            case rel => exact ⟨k + 1, some ad, 0, A'', c'', by omega, by omega, by first | rfl | (congr 1; omega), by omega, hRn, hp2, hB2.setCell (Nat.le_refl _) _⟩
            case measure => simp; omega
          · rw [if_neg hc3] at hRn
            go_wp2
            go_roundw
            case rel => exact ⟨k + 1, some ⟨ad.block, ad.off + 256, none⟩, c' - 256, A'', c'', by omega, by omega, by congr 1; omega, by omega, hRn, hp2, hB2.setCell (Nat.le_refl _) _⟩
            case measure => simp; omega
      · have d2 : decide ((k : Int) < 14400) = false := decide_eq_false (by omega)
        have hd : min (l.length / 256) 14400 = k := by omega
        have hI' : RImg wr w.heap.size w.heap.size A c (rimgOf l) := by unfold rimgOf; rw [hd]; exact hI
        clear hd
        go_wp2
        go_ret
        exact ⟨w.heap.size, A, c, rfl, hI', hbr⟩
    · have d1 : decide (256 ≤ l.length - k * 256) = false := decide_eq_false h1
      have hd : min (l.length / 256) 14400 = k := by omega
      have hI' : RImg wr w.heap.size w.heap.size A c (rimgOf l) := by unfold rimgOf; rw [hd]; exact hI
      clear hd
      go_wp2
      go_ret
      exact ⟨w.heap.size, A, c, rfl, hI', hbr⟩
end Go.Proofs.Ytcnalndhlonblaa
