/-
  Chapter 10: the reference's Put (under way).
-/
import Derived.Test.YtilkcecjciiboaaSlot
import Derived.Test.YtilkcecjciiboaaBase4
import Derived.Test.YtilkcecjciiboaaRef1
namespace Go.Proofs.Ytilkcecjciiboaa
open Go.RowKit

theorem made_zeros' (n : Nat) : (madeCells (Value.int .u8 0).cells (n * 1)).toList = bv (List.replicate n 0) := by
  rw [Nat.mul_one]
  apply List.ext_getElem
  · simp [madeCells, bv]
  · intro i h1 h2
    simp [madeCells, bv, Value.cells, Nat.mod_one]
/-- bytes in a slice, beside an error's number: they read so -/
def GivesR (xs : List Value) (err : Int) (w : World) (en : Ending) (w' : World) : Prop :=
  ∃ A c, en = .returned (.tuple #[.slice A xs.length c, .int .i64 err]) ∧ xs.length ≤ c ∧ Reads w' w'.heap.size A xs ∧ Below w.heap.size w w'
set_option maxRecDepth 100000 in
set_option maxHeartbeats 2000000 in
theorem rsput_any (A : Option Addr) (c : Nat) (l : List S3) (w : World) (hm : l.length * 24 ≤ reachBytes) (h : Reads3 w w.heap.size A l) :
    Calls Try.prog 48 #[.slice A l.length c] w (GivesR (bv (slotsV l)) (slotsE l) w) := by
  simp only [reachBytes] at hm
  by_cases h15 : 15 < l.length
  · have hv : slotsV l = [] ∧ slotsE l = 1 := by
      have : slotsOK l = false := by unfold slotsOK; rw [decide_eq_false (by omega)]; rfl
      unfold slotsV slotsE
      rw [this]
      exact ⟨rfl, rfl⟩
    rw [hv.1, hv.2]
    have d1 : decide ((15 : Int) < (l.length : Int)) = true := decide_eq_true (by omega)
    clear hv
    go_enter Try.func48, Try.ntmps48
    go_wp2
    go_ret2
    exact ⟨none, 0, rfl, Nat.le_refl _, Reads.nil_ _ _ _, Below.refl _ _⟩
  have d1 : decide ((15 : Int) < (l.length : Int)) = false := decide_eq_false (by omega)
  obtain ⟨iU, hi, hz0, hz1, hz2⟩ := info_parts Try.infoU8
  have HNO := Lib.hid (fun k hk h => (show slotsV l = [] ∧ slotsE l = 1 from by unfold slotsV slotsE; rw [slotsOK_no (l := l) (k := k) hk h]; exact ⟨rfl, rfl⟩))
  have HYES := Lib.hid (fun h => (show slotsV l = slotsB l ∧ slotsE l = 0 from by unfold slotsV slotsE; rw [slotsOK_yes (l := l) (by omega) h]; exact ⟨rfl, rfl⟩))
  have HLB : Hid (slotsB l = leb 4 l.length ++ (l.flatMap slotB ++ List.replicate (240 - 16 * l.length) 0)) := rfl
  have HLL := Lib.hid (slotsB_len l (by omega))
  have HSN := Lib.hid (flatS_snoc l)
  have hrb := fun W => rbytes_any l.length (by omega) 4 (by omega) W
  rw [show ((4 : Nat) : Int) = 4 from rfl] at hrb
  go_enter Try.func48, Try.ntmps48
  go_wp2_with fail
  refine (hrb _).mono ?_
  rintro e w2 ⟨A2, c2, rfl, hown2, hb2⟩
  rw [bv_len, leb_len] at hown2
  rw [bv_len, leb_len]
  have hcv := run_conv_bytes (P := Try.prog) w2 22 9 5 Try.underlying22 Try.underlying5 Try.underlying9 4 c2 (leb_len 4 _).symm (Reads.of_own hown2)
  clear hrb hown2
  go_wp2_with fail
  go_loopw [4, 5] (fun v i wr => ∃ k : Nat, k ≤ l.length ∧ i = .int .i64 k ∧ v = .string ⟨(leb 4 l.length ++ (l.take k).flatMap slotB).toArray⟩ ∧ (l.take k).all slotOK = true ∧ Below w.heap.size w wr) (fun _ i _ => l.length - (intOf i).toNat)
  case atStart => exact ⟨0, by omega, rfl, by simp, rfl, hb2⟩
  case round =>
    obtain ⟨k, hk, rfl, rfl, hall, hbr⟩ := hrel
    have HALL := Lib.hid hall
    have hpl : (leb 4 l.length ++ (l.take k).flatMap slotB).length = 4 + 16 * k := by rw [List.length_append, leb_len, flatS_len, List.length_take, Nat.min_eq_left hk]
    clear hall hcv
    by_cases hlt : k < l.length
    · obtain ⟨b, o, rfl, hbb, hc⟩ := h.below hbr (by omega)
      obtain ⟨e0, e1, e2⟩ := hc k _ (List.getElem?_eq_getElem hlt)
      have HOK := Lib.hid (fun hh => HNO.out k hlt hh)
      have HSK := Lib.hid (HSN.out k hlt)
      have HAL := Lib.hid (fun hh => all_snoc (l := l) hlt HALL.out hh)
      have hs := rslot_any l[k].1 l[k].2.1 l[k].2.2
      have hval := slot_val l[k]
      unfold slotZ3 at hval
      have hne := slotB_ne l[k]
      have hl16 := slotB_len l[k]
      rw [hval] at hs
      have i0 : (0 : Int) ≤ (k : Int) := by omega
      have i1 : (k : Int) < (l.length : Int) := by omega
      generalize l[k].1 = x0 at *
      generalize l[k].2.1 = x1 at *
      generalize l[k].2.2 = x2 at *
      generalize slotB l[k] = sk at *
      generalize slotOK l[k] = ok at *
      clear hval
      cases ok with
      | false =>
        have HF := Lib.hid (HOK.out rfl)
        have hs2 : ∀ W : World, Calls Try.prog 80 #[.agg #[.int .i64 x0, .int .i64 x1, .int .i64 x2]] W fun e w' => e = .returned (.string ⟨#[]⟩) ∧ Below W.heap.size W w' := hs
        clear hs HOK HAL hc
        go_wp2_with fail
        refine (hs2 _).mono ?_
        rintro e w3 ⟨rfl, hb3⟩
        have hB3 := hbr.trans (hb3.mono hbr.size)
        clear hs2 hb3
        go_wp2
        go_ret2
        exact ⟨none, 0, by rw [HF.out.1, HF.out.2]; rfl, by rw [HF.out.1]; exact Nat.le_refl _, by rw [HF.out.1]; exact Reads.nil_ _ _ _, hB3⟩
      | true =>
        have HT := Lib.hid (HAL.out rfl)
        have hs2 : ∀ W : World, Calls Try.prog 80 #[.agg #[.int .i64 x0, .int .i64 x1, .int .i64 x2]] W fun e w' => e = .returned (.string ⟨sk.toArray⟩) ∧ Below W.heap.size W w' := hs
        clear hs HOK HAL hc
        have hlen : ¬ 9223372036854775807 < (leb 4 l.length ++ (l.take k).flatMap slotB).length + sk.length := by omega
        have HPL := Lib.hid hpl
        clear hpl
        generalize hpre : leb 4 l.length ++ (l.take k).flatMap slotB = pre at *
        have HPRE := Lib.hid hpre
        clear hpre
        have hh := h.below hbr
        go_wp2_with fail
        refine (hs2 _).mono ?_
        rintro e w3 ⟨rfl, hb3⟩
        have hB3 := hbr.trans (hb3.mono hbr.size)
        have f0 := keep_cell hb3 e0
        have f1 := keep_cell hb3 e1
        have f2 := keep_cell hb3 e2
        clear hb3 hbr e0 e1 e2
        go_wp2_with fail
        refine (hs2 _).mono ?_
        rintro e w4 ⟨rfl, hb4⟩
        have hB4 := hB3.trans (hb4.mono hB3.size)
        clear hs2 hb4
        go_wp2
        go_roundw
        case rel => exact ⟨k + 1, by omega, by go_num, by rw [HSK.out, ← List.append_assoc, HPRE.out, ← bcat], HT.out, hB4⟩
        case measure => simp [intOf]; omega
    · obtain rfl : k = l.length := by omega
      have HY := Lib.hid (HYES.out HALL.out)
      rw [List.take_length] at hpl
      have HTL : Hid (l.take l.length = l) := List.take_length
      generalize hpre : leb 4 l.length ++ (l.take l.length).flatMap slotB = pre at *
      rw [HTL.out] at hpre
      have hpl2 : pre.length = 4 + 16 * l.length := by rw [← hpre]; exact hpl
      have HPRE := Lib.hid hpre
      obtain ⟨zk, hzk⟩ : ∃ zk, zk = 240 - 16 * l.length := ⟨_, rfl⟩
      have hz : (244 : Int) - (pre.length : Int) = (zk : Int) := by omega
      have hzk2 : zk ≤ 240 := by omega
      have hcat : ¬ 9223372036854775807 < pre.length + zk := by omega
      have HZ := Lib.hid hzk
      have HMZ := Lib.hid (made_zeros' zk)
      clear hzk hpl hpl2 hpre hlt hk
      obtain ⟨Zs, hZs⟩ : ∃ Zs, Zs = List.replicate zk (0 : UInt8) := ⟨_, rfl⟩
      have hZl : Zs.length = zk := by rw [hZs, List.length_replicate]
      have HZs := Lib.hid hZs
      rw [← hZs] at HMZ
      clear hZs
      go_wp2_with (at_make; refine wpList_make_full _ rfl (.tmp 35) (.tmp 35) _ rfl w.heap.size 5 iU _ 1 Try.underlying22 hi hz0 hz1 .i64 .i64 zk zk zk rfl rfl rfl rfl (by rw [hz2]; omega) (by simp only [maxLen]; omega) hbr.size ?_; intro w5 hown5 hg5; rw [HMZ.out] at hown5; have hB5 : Below w.heap.size w w5 := hbr.grown hg5 hbr.size (fun k hk => by cases hk); have hcv5 := run_conv_bytes (P := Try.prog) w5 22 9 5 Try.underlying22 Try.underlying5 Try.underlying9 zk zk hZl.symm (Reads.of_own hown5); obtain ⟨cc, O, hsb, hrd, hcc⟩ := run_str_bytes (P := Try.prog) w5 9 22 5 (pre ++ Zs) Try.underlying9 Try.underlying22 Try.underlying5; rw [← bcat] at hsb; rw [List.length_append, hZl] at hsb)
      have hSB : slotsB l = pre ++ Zs := by rw [HLB.out, ← List.append_assoc, HPRE.out, HZs.out, HZ.out]
      have hlen : pre.length + zk = (bv (pre ++ Zs)).length := by rw [bv_len, List.length_append, hZl]
      go_ret2
      have hrd' : Reads (w5.alloc O).drew (w5.heap.size + 1) (some ⟨w5.heap.size, 0, none⟩) (bv (pre ++ Zs)) := hrd
      refine ⟨some ⟨w5.heap.size, 0, none⟩, cc, by rw [HY.out.1, HY.out.2, hSB, ← hlen]; rfl, by rw [HY.out.1, hSB, bv_len]; exact hcc, ?_, (hB5.alloc hB5.size O).drew⟩
      rw [HY.out.1, hSB]
      exact hrd'.more (by simp)
end Go.Proofs.Ytilkcecjciiboaa
