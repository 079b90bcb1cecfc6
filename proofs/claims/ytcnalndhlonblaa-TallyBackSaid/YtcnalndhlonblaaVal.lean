/-
  What value.put computes, walked once.
-/
import Derived.Test.YtcnalndhlonblaaCode3
import Derived.Test.YtcnalndhlonblaaRef1C
import Derived.Test.YtcnalndhlonblaaValP
import Derived.Deep.QuietTactic
import Derived.BigQuiet
namespace Go.Proofs.Ytcnalndhlonblaa
open Go.RowKit
attribute [local go_sem ↓] Go.wp_at_zero Go.wp_at_succ

set_option maxRecDepth 100000 in
set_option maxHeartbeats 1000000 in
theorem vput_any (A : Option Addr) (c : Nat) (A2 : Option Addr) (c2 : Nat) (z : List (Part × Int)) (w : World) (hm : z.length ≤ 100) (hg : ∀ q ∈ z, goodP q.1) (hw : ∀ q ∈ z, (Lit.int .i64 q.2).wf = true)
    (h : Reads3 w w.heap.size A (z.map (·.1))) (h2 : Reads w w.heap.size A2 (iv (z.map (·.2)))) :
    Calls Try.prog 58 #[.slice A z.length c, .slice A2 z.length c2] w fun e w' => e = .returned (.string ⟨(valV z).toArray⟩) ∧ Below w.heap.size w w' := by
  have HG := Lib.hid hg
  have HW := Lib.hid hw
  clear hg hw
  obtain ⟨i0, hi, hz0, hz1, hz2⟩ := info_parts Try.infoU8
  go_enter Try.func58, Try.ntmps58
  go_wp2_with fail
  go_loopw [5, 12] (fun v i wr => ∃ (k m : Nat), k ≤ z.length ∧ i = .int .i64 k ∧ valE (z.take k) = true ∧ m = (valB (z.take k)).length ∧ wr.ownsRow w.heap.size 5 1 v m (bv (valB (z.take k))) ∧ Below w.heap.size w wr) (fun _ i _ => z.length - (intOf i).toNat)
  case atStart => exact ⟨0, 0, by omega, rfl, rfl, rfl, World.ownsRow_nil _ _ _ _, Below.refl _ _⟩
  case round =>
    obtain ⟨k, m, hk, rfl, he, hml, hown, hbr⟩ := hrel
    by_cases hlt : k < z.length
    · obtain ⟨b, o, rfl, hbb, hc⟩ := h.below hbr (by rw [List.length_map]; omega)
      obtain ⟨ad, rfl, had, hcn⟩ := (h2.below hbr).num (k := k) (by rw [List.length_map]; exact hlt)
      obtain ⟨hc1, hc2, hc3⟩ := hc k _ (List.getElem?_eq_getElem (by rw [List.length_map]; exact hlt))
      rw [List.getElem_map] at hc1 hc2 hc3 hcn
      have hgk := HG.out z[k] (List.getElem_mem hlt)
      have hwf := HW.out z[k] (List.getElem_mem hlt)
      have hsn := take_snoc z k hlt
      have hE : valE (z.take (k + 1)) = inB z[k].1 z[k].2 := by rw [hsn, valE_append, he]; simp [valE]
      have hF : inB z[k].1 z[k].2 = false → valE z = false := fun hf => by
        unfold valE
        rw [List.all_eq_false]
        exact ⟨z[k], List.getElem_mem hlt, by simp [hf]⟩
      have hB' : valB (z.take (k + 1)) = valB (z.take k) ++ leb z[k].1.1.toNat z[k].2.toNat := by rw [hsn, valB_append]; simp [valB]
      have hml2 := valB_len (z.take k) (fun q hq => HG.out q (List.mem_of_mem_take hq))
      rw [List.length_take, ← hml] at hml2
      have HML := Lib.hid hml
      have HE := Lib.hid hE
      have HF := Lib.hid hF
      have HB := Lib.hid hB'
      clear hc hsn hE hF hB' hml he
      generalize z[k] = q at *
      obtain ⟨⟨pw, lo, hi'⟩, n⟩ := q
      simp only at hc1 hc2 hc3 hcn hgk hwf HE HF HB
      have hbl : b < wr.heap.size := by have := hbr.size; omega
      have gn : ∀ O, (wr.alloc O).cell? (ad.add k) = some (.int .i64 n) := fun O => by rw [World.cell?_alloc_lt _ _ _ (by rw [block_add]; have := hbr.size; omega)]; exact hcn
      have hO := fun O => hown.alloc O
      have hBO := fun O => hbr.alloc hbr.size O
      have hfs : ∀ O, wr.heap.size < (wr.alloc O).heap.size := fun O => by simp
      have hfb := hbr.size
      by_cases hin : inB (pw, lo, hi') n = true
      · have hfit := hgk.2 n hin
        have hkn := hgk.1
        have hx := (knownB_iff pw).1 hkn
        have hio : lo ≤ n ∧ n ≤ hi' := by simpa [inB] using hin
        obtain ⟨hlo, hhi⟩ := hio
        have d1 : decide (n < lo) = false := decide_eq_false (by omega)
        have d2 : decide (hi' < n) = false := decide_eq_false (by omega)
        have p1 : packE [(pw, n)] = 0 := by simp only [packE]; rw [if_pos hkn, if_pos hfit]
        have p2 : packV [(pw, n)] = leb pw.toNat n.toNat := by unfold packV; rw [if_pos p1]; simp [packB]
        obtain ⟨x, rfl⟩ := Int.eq_ofNat_of_zero_le (show 0 ≤ pw by omega)
        have hx8 : x ≤ 8 := by omega
        have hpk : ∀ W : World, Calls Try.prog 42 #[.slice (some ⟨W.heap.size, 0, none⟩) 1 1] (W.alloc (.cells #[.int .i64 x, .int .i64 n] 87)) (GivesE 5 (bv (leb x n.toNat)) 0 (W.alloc (.cells #[.int .i64 x, .int .i64 n] 87))) := fun W => by
          have := pack_any (some ⟨W.heap.size, 0, none⟩) 1 [((x : Int), n)] (W.alloc (.cells #[.int .i64 x, .int .i64 n] 87)) (by simp [reachBytes]) (fun p hp => by simp at hp; subst hp; exact hwf) (fun _ => ⟨_, 0, rfl, by simp, fun j p hj => by
            have hj0 := (List.getElem?_eq_some_iff.1 hj).1
            simp at hj0
            subst hj0
            simp at hj
            subst hj
            rw [World.cell?_alloc_mark, World.cell?_alloc_mark]
            exact ⟨rfl, rfl⟩⟩)
          rw [p1, p2, Int.toNat_natCast] at this
          exact this
        rw [hin] at HE
        rw [Int.toNat_natCast] at HB
        generalize n.toNat = n' at *
        have HIN := Lib.hid hin
        clear hin hfit hkn hx p1 p2 HF hgk hwf
        go_wp2_with fail
        have g0 : (wr.alloc (.cells #[.int .i64 (x : Int), .int .i64 lo, .int .i64 hi'] 131)).cell? ⟨wr.heap.size, 0, none⟩ = some (.int .i64 x) := by rw [World.cell?_alloc_mark]; rfl
        have g1 : (wr.alloc (.cells #[.int .i64 (x : Int), .int .i64 lo, .int .i64 hi'] 131)).cell? ⟨wr.heap.size, 1, none⟩ = some (.int .i64 lo) := by rw [World.cell?_alloc_mark]; rfl
        have g2 : (wr.alloc (.cells #[.int .i64 (x : Int), .int .i64 lo, .int .i64 hi'] 131)).cell? ⟨wr.heap.size, 2, none⟩ = some (.int .i64 hi') := by rw [World.cell?_alloc_mark]; rfl
        have gn' := gn (.cells #[.int .i64 (x : Int), .int .i64 lo, .int .i64 hi'] 131)
        have hO' := hO (.cells #[.int .i64 (x : Int), .int .i64 lo, .int .i64 hi'] 131)
        have hBO' := hBO (.cells #[.int .i64 (x : Int), .int .i64 lo, .int .i64 hi'] 131)
        have hfs' := hfs (.cells #[.int .i64 (x : Int), .int .i64 lo, .int .i64 hi'] 131)
        clear gn hO hBO hfs hc1 hc2 hc3 hcn hown hbr hbl
        generalize wr.alloc (.cells #[.int .i64 (x : Int), .int .i64 lo, .int .i64 hi'] 131) = W1 at *
        generalize wr.heap.size = f at *
        go_quiet (fail)
        go_wp2_with fail
        go_region_held3 (fun w' => w'.cell? ⟨f, 0, none⟩ = some (.int .i64 x) ∧ w'.cell? (ad.add k) = some (.int .i64 n)) (first | go_keep | exact And.imp (keep_cell hb3) (keep_cell hb3) (by assumption)) ((go_at_call 42; refine (hpk _).mono ?_; rintro e w2 ⟨A3, c3, rfl, hown3, hb3⟩; rw [bv_len, leb_len] at hown3 ⊢))
        have hW1 : Below W1.heap.size W1 (W1.drewN (nq + 1)) := ⟨rfl, rfl, rfl, Nat.le_refl _, fun _ _ => rfl⟩
        have hB3 : Below W1.heap.size W1 w2 := hW1.trans ((below_then (below_alloc1 _ _) hb3).mono (Nat.le_refl _))
        have hK := own_keep hO' hB3
        have hBB := hBO'.trans (hB3.mono hBO'.size)
        have R3 := Reads.of_own hown3
        clear hb3 hown3 hW1 hB3 hO' hBO' gn' g0 g1 g2 hpk
        go_wp2_with (at_builtin; refine wpList_append_to _ rfl (.tmp 45) (.tmp 46) _ rfl w.heap.size 5 i0 _ 1 Try.underlying43 hi hz0 hz1 hz2 rfl _ m (bv (valB (z.take k))) rfl hK _ A3 x c3 (bv (leb x n')) rfl (by rw [bv_len, leb_len]) R3 (bv_one _) (by simp only [maxLen]; omega) (by omega) hBB.size ?_; intro A4 c4 w4 hown4 hg4 hb4 _)
        go_roundw
        case rel => exact ⟨k + 1, m + x, by omega, by go_num, HE.out, by rw [HB.out, List.length_append, leb_len, ← HML.out], by rw [HB.out, bv_append]; exact hown4, hBB.trans hb4⟩
        case measure => simp [intOf]; omega
      · have hinF : inB (pw, lo, hi') n = false := by simpa using hin
        have hV : valV z = [] := by unfold valV; rw [HF.out hinF]; rfl
        have HV := Lib.hid hV
        have hio : n < lo ∨ hi' < n := by
          simp only [inB, decide_eq_false_iff_not] at hinF
          omega
        clear hV HE HF HB hin hinF hgk hwf
        by_cases hlo : n < lo
        · have d1 : decide (n < lo) = true := decide_eq_true hlo
          clear hio
          go_wp2_with fail
          have g1 : (wr.alloc (.cells #[.int .i64 pw, .int .i64 lo, .int .i64 hi'] 131)).cell? ⟨wr.heap.size, 1, none⟩ = some (.int .i64 lo) := by rw [World.cell?_alloc_mark]; rfl
          have gn' := gn (.cells #[.int .i64 pw, .int .i64 lo, .int .i64 hi'] 131)
          have hBO' := hBO (.cells #[.int .i64 pw, .int .i64 lo, .int .i64 hi'] 131)
          clear gn hO hBO hfs hc1 hc2 hc3 hcn hown hbr hbl
          generalize wr.alloc (.cells #[.int .i64 pw, .int .i64 lo, .int .i64 hi'] 131) = W1 at *
          generalize wr.heap.size = f at *
          go_quiet (fail)
          go_wp2
          go_ret
          exact ⟨by rw [HV.out]; rfl, below_drewN hBO' _⟩
        · have d1 : decide (n < lo) = false := decide_eq_false hlo
          have d2 : decide (hi' < n) = true := decide_eq_true (by omega)
          have l1 : lo ≤ n := by omega
          have l2 : hi' < n := by omega
          clear hio
          go_wp2_with fail
          have g1 : (wr.alloc (.cells #[.int .i64 pw, .int .i64 lo, .int .i64 hi'] 131)).cell? ⟨wr.heap.size, 1, none⟩ = some (.int .i64 lo) := by rw [World.cell?_alloc_mark]; rfl
          have g2 : (wr.alloc (.cells #[.int .i64 pw, .int .i64 lo, .int .i64 hi'] 131)).cell? ⟨wr.heap.size, 2, none⟩ = some (.int .i64 hi') := by rw [World.cell?_alloc_mark]; rfl
          have gn' := gn (.cells #[.int .i64 pw, .int .i64 lo, .int .i64 hi'] 131)
          have hBO' := hBO (.cells #[.int .i64 pw, .int .i64 lo, .int .i64 hi'] 131)
          clear gn hO hBO hfs hc1 hc2 hc3 hcn hown hbr hbl
          generalize wr.alloc (.cells #[.int .i64 pw, .int .i64 lo, .int .i64 hi'] 131) = W1 at *
          generalize wr.heap.size = f at *
          go_quiet (fail)
          go_wp2
          go_ret
          exact ⟨by rw [HV.out]; rfl, below_drewN hBO' _⟩
    · obtain rfl : k = z.length := by omega
      rw [List.take_length] at he hml hown
      have hV : valV z = valB z := by unfold valV; rw [he, if_pos rfl]
      have HV := Lib.hid hV
      obtain ⟨A1, c1, rfl⟩ := own_form hown
      have hcv := run_conv_bytes (P := Try.prog) wr 43 9 5 Try.underlying43 Try.underlying5 Try.underlying9 m c1 hml (Reads.of_own hown)
      clear he hml hV hown
      go_wp2
      go_ret
      exact ⟨by rw [HV.out]; rfl, hbr⟩
end Go.Proofs.Ytcnalndhlonblaa
