/-
  Chapter 10: slots.Put and the reference's Put (under way).
-/
import Derived.Test.YtilkcecjciiboaaSlotP
import Derived.Test.YtilkcecjciiboaaBase8
import Derived.Test.YtilkcecjciiboaaVal5
import Derived.BigQuiet
namespace Go.Proofs.Ytilkcecjciiboaa
open Go.RowKit

theorem slotsOK_no {l : List S3} {k : Nat} (hk : k < l.length) (h : slotOK l[k] = false) : slotsOK l = false := by
  unfold slotsOK
  rw [show l.all slotOK = false from List.all_eq_false.2 ⟨l[k], List.getElem_mem hk, by simp [h]⟩, Bool.and_false]
theorem slotsOK_yes {l : List S3} (hl : l.length ≤ 15) (h : (l.take l.length).all slotOK = true) : slotsOK l = true := by
  unfold slotsOK
  rw [List.take_length] at h
  rw [h, decide_eq_true hl]
  rfl
theorem slotB_ne (p : S3) : (slotB p == []) = false := by
  have := slotB_len p
  cases h : slotB p with
  | nil => rw [h] at this; simp at this
  | cons x xs => rfl
theorem all_snoc {l : List S3} {k : Nat} (hk : k < l.length) (h : (l.take k).all slotOK = true) (h2 : slotOK l[k] = true) : (l.take (k + 1)).all slotOK = true := by
  rw [take_snoc l k hk, List.all_append, h]
  simp [h2]
set_option maxRecDepth 100000 in
set_option maxHeartbeats 2000000 in
theorem sput_any (A : Option Addr) (c : Nat) (l : List S3) (w : World) (hw : ∀ p ∈ l, (Lit.int .i64 p.1).wf = true ∧ (Lit.int .i64 p.2.1).wf = true ∧ (Lit.int .i64 p.2.2).wf = true) (hm : l.length * 24 ≤ reachBytes) (h : Reads3 w w.heap.size A l) :
    Calls Try.prog 47 #[.slice A l.length c] w (GivesE 5 (bv (slotsV l)) (slotsE l) w) := by
  simp only [reachBytes] at hm
  by_cases h15 : 15 < l.length
  · have hv : slotsV l = [] ∧ slotsE l = 1 := by
      have : slotsOK l = false := by unfold slotsOK; rw [decide_eq_false (by omega)]; rfl
      unfold slotsV slotsE
      rw [this]
      exact ⟨rfl, rfl⟩
    rw [hv.1, hv.2]
    have d1 : decide ((15 : Int) < (l.length : Int)) = true := decide_eq_true (by omega)
    clear hv
    go_enter Try.func47, Try.ntmps47
    go_wp2
    go_ret2
    exact ⟨none, 0, rfl, World.ownsRow_nil _ _ _ _, Below.refl _ _⟩
  have d1 : decide ((15 : Int) < (l.length : Int)) = false := decide_eq_false (by omega)
  obtain ⟨iU, hi, hz0, hz1, hz2⟩ := info_parts Try.infoU8
  have HW := Lib.hid hw
  have HNO := Lib.hid (fun k hk h => (show slotsV l = [] ∧ slotsE l = 1 from by unfold slotsV slotsE; rw [slotsOK_no (l := l) (k := k) hk h]; exact ⟨rfl, rfl⟩))
  have HYES := Lib.hid (fun h => (show slotsV l = slotsB l ∧ slotsE l = 0 from by unfold slotsV slotsE; rw [slotsOK_yes (l := l) (by omega) h]; exact ⟨rfl, rfl⟩))
  have hpk : packE [(4, (l.length : Int))] = 0 ∧ packV [(4, (l.length : Int))] = leb 4 l.length := by
    have : packE [(4, (l.length : Int))] = 0 := by simp [packE, knownB, fitsB]; omega
    exact ⟨this, by unfold packV; rw [if_pos this]; simp [packB]⟩
  have hpa := fun A W h => pack_any A 1 [(4, (l.length : Int))] W (by simp [reachBytes]) (by intro p hp; simp at hp; subst hp; simp [Lit.wf, IntKind.min, IntKind.max, IntKind.bits, IntKind.signed]; omega) h
  rw [hpk.1, hpk.2] at hpa
  have hR : Reads2 (w.alloc (.cells #[.int .i64 4, .int .i64 l.length] 82)) (w.heap.size + 1) (some ⟨w.heap.size, 0, none⟩) [(4, (l.length : Int))] := fun _ => by
    refine ⟨_, 0, rfl, Nat.lt_succ_self _, fun j p hj => ?_⟩
    have hjl := (List.getElem?_eq_some_iff.1 hj).1
    simp at hjl
    subst hjl
    rw [World.cell?_alloc_mark, World.cell?_alloc_mark]
    simp at hj
    subst hj
    exact ⟨rfl, rfl⟩
  have HLB : Hid (slotsB l = leb 4 l.length ++ (l.flatMap slotB ++ List.replicate (240 - 16 * l.length) 0)) := rfl
  have HLL := Lib.hid (slotsB_len l (by omega))
  have HSN := Lib.hid (flatS_snoc l)
  clear hpk hw
  go_enter Try.func47, Try.ntmps47
  go_wp2_with fail
  refine (hpa _ _ (hR.more (by simp))).mono ?_
  rintro e w2 ⟨A2, c2, rfl, hown2, hb2⟩
  rw [bv_len, leb_len] at hown2
  rw [bv_len, leb_len]
  have hB2 := below_then (below_alloc1 w _) hb2
  have hown2 := own_mono hown2 (show w.heap.size ≤ (w.alloc (.cells #[.int .i64 4, .int .i64 l.length] 82)).heap.size by simp)
  clear hpa hb2 hR
  go_wp2_with fail
  go_loopw [4, 22] (fun v i wr => ∃ k m : Nat, k ≤ l.length ∧ i = .int .i64 k ∧ m = 4 + 16 * k ∧ wr.ownsRow w.heap.size 5 1 v m (bv (leb 4 l.length ++ (l.take k).flatMap slotB)) ∧ (l.take k).all slotOK = true ∧ Below w.heap.size w wr) (fun _ i _ => l.length - (intOf i).toNat)
  case atStart => exact ⟨0, 4, by omega, rfl, rfl, by simpa using hown2, rfl, hB2⟩
  case round =>
    obtain ⟨k, m, hk, rfl, hmk, hown, hall, hbr⟩ := hrel
    obtain ⟨Ab, cb, rfl⟩ := own_form hown
    have HALL := Lib.hid hall
    have HMK := Lib.hid hmk
    have hm300 : m ≤ 300 := by omega
    clear hall
    by_cases hlt : k < l.length
    · clear hmk
      obtain ⟨b, o, rfl, hbb, hc⟩ := h.below hbr (by omega)
      obtain ⟨e0, e1, e2⟩ := hc k _ (List.getElem?_eq_getElem hlt)
      obtain ⟨w0, w1, w2'⟩ := HW.out l[k] (List.getElem_mem hlt)
      have HOK := Lib.hid (fun hh => HNO.out k hlt hh)
      have HSK := Lib.hid (HSN.out k hlt)
      have HAL := Lib.hid (fun hh => all_snoc (l := l) hlt HALL.out hh)
      have hsv := vslot_any l[k].1 l[k].2.1 l[k].2.2
      have hval := slot_val l[k]
      unfold slotZ3 at hval
      have hne := slotB_ne l[k]
      have hl16 := slotB_len l[k]
      have hs := fun W => hsv W w0 w1 w2'
      rw [hval] at hs
      have i0 : (0 : Int) ≤ (k : Int) := by omega
      have i1 : (k : Int) < (l.length : Int) := by omega
      generalize l[k].1 = x0 at *
      generalize l[k].2.1 = x1 at *
      generalize l[k].2.2 = x2 at *
      generalize slotB l[k] = sk at *
      generalize slotOK l[k] = ok at *
      clear hc hsv hval w0 w1 w2'
      have hown' := hown.alloc (.cells #[.int .i64 x0, .int .i64 x1, .int .i64 x2] 66)
      have hbr' := hbr.alloc hbr.size (.cells #[.int .i64 x0, .int .i64 x1, .int .i64 x2] 66)
      cases ok with
      | false =>
        have HF := Lib.hid (HOK.out rfl)
        have hs2 : ∀ W : World, Calls Try.prog 79 #[.agg #[.int .i64 x0, .int .i64 x1, .int .i64 x2]] W fun e w' => e = .returned (.string ⟨#[]⟩) ∧ Below W.heap.size W w' := hs
        clear hs HOK HAL
        go_wp2_with fail
        refine (hs2 _).mono ?_
        rintro e w3 ⟨rfl, hb3⟩
        have hB3 := hbr'.trans (hb3.mono hbr'.size)
        clear hs2 hb3
        go_wp2
        go_ret2
        exact ⟨none, 0, by rw [HF.out.1, HF.out.2]; rfl, by rw [HF.out.1]; exact World.ownsRow_nil _ _ _ _, hB3⟩
      | true =>
        have HT := Lib.hid (HAL.out rfl)
        have hs2 : ∀ W : World, Calls Try.prog 79 #[.agg #[.int .i64 x0, .int .i64 x1, .int .i64 x2]] W fun e w' => e = .returned (.string ⟨sk.toArray⟩) ∧ Below W.heap.size W w' := hs
        clear hs HOK HAL
        go_wp2_with fail
        refine (hs2 _).mono ?_
        rintro e w3 ⟨rfl, hb3⟩
        have hB3 := hbr'.trans (hb3.mono hbr'.size)
        have hown3 := own_keep hown' hb3
        clear hs2 hb3 hown hown' hbr'
        go_wp2_with (at_builtin; (refine wpList_append_str _ rfl (.tmp 30) (.tmp 31) _ 9 rfl w.heap.size 5 iU _ Try.underlying22 Try.underlying9 hi hz0 hz1 hz2 rfl _ m _ rfl hown3 sk rfl (by omega) hB3.size ?_); intro A5 c5 w5 hown5 hg5 hb5; rw [hl16] at hown5)
        go_roundw
        case rel => exact ⟨k + 1, m + 16, by omega, by go_num, by have := HMK.out; omega, by rw [HSK.out, ← List.append_assoc, bv_append]; exact hown5, HT.out, hB3.trans hb5⟩
        case measure => simp [intOf]; omega
    · obtain rfl : k = l.length := by omega
      have HY := Lib.hid (HYES.out HALL.out)
      obtain ⟨zk, hzk⟩ : ∃ zk, zk = 240 - 16 * l.length := ⟨_, rfl⟩
      have hz : (244 : Int) - (m : Int) = (zk : Int) := by omega
      have hz2' : m + zk = 244 := by omega
      have HZK := Lib.hid hzk
      clear hmk hzk
      go_wp2_with (at_builtin; refine wpList_append_zeros _ rfl (.tmp 34) (.tmp 37) _ 3 rfl w.heap.size 5 iU Try.underlying22 Try.underlying3 hi hz0 hz1 hz2 _ m _ rfl hown zk rfl (by omega) hbr.size ?_; intro A5 c5 w5 hown5 hg5 hb5; rw [hz2'] at hown5 ⊢)
      go_ret2
      exact ⟨A5, c5, by rw [HY.out.1, HY.out.2, bv_len, HLL.out]; rfl, by rw [HY.out.1, bv_len, HLL.out, HLB.out, ← HZK.out, ← List.append_assoc, bv_append]; rw [List.take_length] at hown5; exact hown5, hbr.trans hb5⟩
end Go.Proofs.Ytilkcecjciiboaa
