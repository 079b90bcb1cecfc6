/-
  What value.read computes, walked once.
-/
import Derived.Test.YtcnalndhlonblaaVal5
import Derived.Test.YtcnalndhlonblaaBase4
namespace Go.Proofs.Ytcnalndhlonblaa
open Go.RowKit
attribute [local go_sem ↓] Go.wp_at_zero Go.wp_at_succ

/-- the widths of parts -/
def wds (ps : List Part) : List Int := ps.map (·.1)
/-- why a text is no value of these parts -/
def rdE (ps : List Part) (s : List UInt8) : Int :=
  if (s.length : Int) = (wds ps).sum then (if unpE s 0 (wds ps) = 0 ∧ valE (ps.zip (unpB s 0 (wds ps))) = true then 0 else 2) else 7
def rdN (ps : List Part) (s : List UInt8) : List Int := if rdE ps s = 0 then unpB s 0 (wds ps) else List.replicate ps.length 0
theorem rdN_len (ps : List Part) (s : List UInt8) : (rdN ps s).length = ps.length := by
  unfold rdN
  split
  · rw [unpB_len]; simp [wds]
  · simp
theorem wds_sum (ps : List Part) (h : ∀ p ∈ ps, goodP p) : 0 ≤ (wds ps).sum ∧ (wds ps).sum ≤ 8 * ps.length := by
  induction ps with
  | nil => simp [wds]
  | cons p ps ih =>
    have h1 := good_len (h p (by simp))
    have h2 := ih (fun q hq => h q (by simp [hq]))
    simp only [wds, List.map_cons, List.sum_cons, List.length_cons] at *
    omega
theorem made_ints (n : Nat) : (madeCells (Value.int .i64 0).cells (n * 1)).toList = iv (List.replicate n 0) := by
  rw [Nat.mul_one]
  apply List.ext_getElem
  · simp [madeCells, iv]
  · intro i h1 h2
    simp [madeCells, iv, Value.cells, Nat.mod_one]

theorem unpB_wf (s : List UInt8) (ws : List Int) : ∀ a, ∀ n ∈ unpB s a ws, (Lit.int .i64 n).wf = true := by
  induction ws with
  | nil => intro a n hn; simp [unpB] at hn
  | cons x ws ih =>
    intro a n hn
    simp only [unpB, List.mem_cons] at hn
    rcases hn with rfl | hn
    · unfold getV
      split
      · split
        · rename_i h; simp [Lit.wf, IntKind.min, IntKind.max, IntKind.bits, IntKind.signed]; omega
        · rfl
      · rfl
    · exact ih _ n hn
theorem valB_cons (z : List (Part × Int)) (h : ∀ q ∈ z, goodP q.1) (hz : 0 < z.length) : ∃ x xs, valB z = x :: xs := by
  cases z with
  | nil => simp at hz
  | cons q z =>
    have h1 := good_len (h q (by simp))
    obtain ⟨k, hk⟩ : ∃ k, q.1.1.toNat = k + 1 := ⟨q.1.1.toNat - 1, by omega⟩
    refine ⟨UInt8.ofNat (q.2.toNat % 256), leb k (q.2.toNat / 256) ++ valB z, ?_⟩
    simp [valB, hk, leb]

set_option maxRecDepth 100000 in
set_option maxHeartbeats 1000000 in
theorem vread_any (A : Option Addr) (c : Nat) (ps : List Part) (s : List UInt8) (w : World) (hp0 : 0 < ps.length) (hm : ps.length ≤ 100) (hs : s.length ≤ reachBytes) (hg : ∀ p ∈ ps, goodP p) (h : Reads3 w w.heap.size A ps) :
    Calls Try.prog 63 #[.slice A ps.length c, .string ⟨s.toArray⟩] w (GivesE 3 (iv (rdN ps s)) (rdE ps s) w) := by
  have mm := hs
  simp only [reachBytes] at mm
  have HG := Lib.hid hg
  have HS := Lib.hid (fun k => wds_sum (ps.take k) (fun p hp => hg p (List.mem_of_mem_take hp)))
  clear hg
  obtain ⟨i0, hi, hz0, hz1, hz2⟩ := info_parts Try.infoInt
  go_enter Try.func63, Try.ntmps63
  go_wp2_with fail
  go_loopw [6, 7, 14] (fun v a i wr => ∃ (k : Nat) (at_ : Int), k ≤ ps.length ∧ i = .int .i64 k ∧ a = .int .i64 at_ ∧ at_ = (wds (ps.take k)).sum ∧ wr.ownsRow w.heap.size 3 1 v k (iv (wds (ps.take k))) ∧ Below w.heap.size w wr) (fun _ _ i _ => ps.length - (intOf i).toNat)
  case atStart => exact ⟨0, 0, by omega, rfl, rfl, by simp [wds], World.ownsRow_nil _ _ _ _, Below.refl _ _⟩
  case round =>
    obtain ⟨k, at_, hk, rfl, rfl, hat, hown, hbr⟩ := hrel
    have hsum := HS.out k
    rw [← hat, List.length_take] at hsum
    by_cases hlt : k < ps.length
    · obtain ⟨b, o, rfl, hbb, hc⟩ := h.below hbr (by omega)
      obtain ⟨hc1, hc2, hc3⟩ := hc k _ (List.getElem?_eq_getElem hlt)
      have hgk := good_len (HG.out ps[k] (List.getElem_mem hlt))
      have hsn : wds (ps.take (k + 1)) = wds (ps.take k) ++ [ps[k].1] := by rw [take_snoc ps k hlt]; unfold wds; rw [List.map_append]; rfl
      have HA := Lib.hid (show (wds (ps.take (k + 1))).sum = at_ + ps[k].1 by rw [hsn, List.sum_append, ← hat]; simp)
      have HN := Lib.hid hsn
      clear hc hsn hat
      generalize ps[k] = q at *
      obtain ⟨pw, lo, hi'⟩ := q
      simp only at hc1 hc2 hc3 hgk HA HN
      obtain ⟨s1, s2⟩ := hsum
      obtain ⟨p1, p2⟩ := hgk
      have hr2 := Reads.new (wr.alloc (.cells #[.int .i64 pw, .int .i64 lo, .int .i64 hi'] 131)) (iv [pw]) 3 (0, 0)
      rw [World.size_alloc] at hr2
      have hB2 := hbr.trans ((below_alloc2 wr (.cells #[.int .i64 pw, .int .i64 lo, .int .i64 hi'] 131) (.cells (iv [pw]).toArray 3)).mono hbr.size)
      have hbl : b < wr.heap.size := by have := hbr.size; omega
      have hpw0 : ((wr.alloc (.cells #[.int .i64 pw, .int .i64 lo, .int .i64 hi'] 131)).alloc (.cells (iv [pw]).toArray 3)).cell? ⟨wr.heap.size, 0, none⟩ = some (.int .i64 pw) := by rw [World.cell?_alloc_lt _ _ _ (by simp), World.cell?_alloc_mark]; rfl
      go_wp2_with (at_builtin; refine wpList_append_to _ rfl (.tmp 18) (.tmp 21) _ rfl w.heap.size 3 i0 _ 8 Try.underlying22 hi hz0 hz1 hz2 rfl _ k (iv (wds (ps.take k))) rfl ((hown.alloc _).alloc _) _ _ 1 1 (iv [pw]) rfl rfl hr2 (iv_one _) (by simp only [maxLen]; omega) (by omega) hB2.size ?_; intro A' c' w2 hown2 hg2 hb2 _; have hpw : w2.cell? ⟨wr.heap.size, 0, none⟩ = some (.int .i64 pw) := (cell_grown hg2 (p := ⟨wr.heap.size, 0, none⟩) (by simp; omega) (fun e => Nat.lt_irrefl _ (hown.lt _ e).2)).trans hpw0)
      go_roundw
      case rel => exact ⟨k + 1, at_ + pw, by omega, by go_num, by go_num, HA.out.symm, by rw [HN.out, iv_append]; exact hown2, hB2.trans hb2⟩
      case measure => simp [intOf]; omega
    · obtain rfl : k = ps.length := by omega
      rw [List.take_length] at hat hown
      obtain ⟨A1, c1, rfl⟩ := own_form hown
      have hwl : (wds ps).length = ps.length := by simp [wds]
      by_cases hlen : (s.length : Int) = at_
      · obtain ⟨cc, O, hcv, hR, hcl⟩ := run_str_bytes (P := Try.prog) wr 9 43 5 s Try.underlying9 Try.underlying43 Try.underlying5
        have hW := (Reads.of_own hown).drew
        have hA2 := hW.alloc (Nat.le_refl _) O
        have hu := unpack_any (some ⟨wr.heap.size, 0, none⟩) cc s A1 c1 (wds ps) (wr.drew.alloc O) hs (by rw [hwl]; simp only [reachBytes]; omega) (hR.more (by simp)) (hA2.more (by simp))
        rw [hwl] at hu
        have hB1 : Below w.heap.size w (wr.drew.alloc O) := hbr.trans ((((Below.refl _ wr).drew).trans (below_alloc1 wr.drew O)).mono hbr.size)
        have hEq : rdE ps s = if unpE s 0 (wds ps) = 0 ∧ valE (ps.zip (unpB s 0 (wds ps))) = true then 0 else 2 := by unfold rdE; rw [if_pos (by rw [← hat]; exact hlen)]
        have HEQ := Lib.hid hEq
        have d1 : ((s.length : Int) != at_) = false := by simpa using hlen
        have HU := Lib.hid hu
        clear hEq hlen hat hown hW hA2 hu hR
        go_wp2_with fail
        refine HU.out.mono ?_
        rintro e w3 ⟨A3, c3, rfl, hown3, hb3⟩
        have hB3 := hB1.trans (hb3.mono hB1.size)
        by_cases he : unpE s 0 (wds ps) = 0
        · have hv : unpV s 0 (wds ps) = unpB s 0 (wds ps) := by unfold unpV; rw [if_pos he]
          have hul : (unpB s 0 (wds ps)).length = ps.length := by rw [unpB_len, hwl]
          have hwf := unpB_wf s (wds ps) 0
          have hN0 : rdE ps s = 0 → rdN ps s = unpB s 0 (wds ps) := fun h0 => by unfold rdN; rw [if_pos h0]
          rw [hv, iv_len, hul] at hown3
          rw [hv, iv_len, hul, he]
          have hE0 : rdE ps s = if valE (ps.zip (unpB s 0 (wds ps))) = true then 0 else 2 := by rw [HEQ.out]; simp [he]
          clear HEQ HU he hv d1 hcv hcl hb3
          generalize unpB s 0 (wds ps) = un at *
          have hzl : (ps.zip un).length = ps.length := by rw [List.length_zip, hul, Nat.min_self]
          have hz1' : (ps.zip un).map (·.1) = ps := List.map_fst_zip (by omega)
          have hz2' : (ps.zip un).map (·.2) = un := List.map_snd_zip (by omega)
          have hgz : ∀ q ∈ ps.zip un, goodP q.1 := fun q hq => HG.out q.1 (List.of_mem_zip hq).1
          have hput := vput_any A c A3 c3 (ps.zip un) w3 (by rw [hzl]; exact hm) hgz (fun q hq => hwf q.2 (List.of_mem_zip hq).2) (by rw [hz1']; exact (h.below hB3).more hB3.size) (by rw [hz2']; exact Reads.of_own hown3)
          rw [hzl] at hput
          have HO3 := Lib.hid (own_mono hown3 hB1.size)
          by_cases hvz : valE (ps.zip un) = true
          · obtain ⟨x, xs, hcons⟩ := valB_cons (ps.zip un) hgz (by rw [hzl]; exact hp0)
            have hV : valV (ps.zip un) = x :: xs := by unfold valV; rw [if_pos hvz, hcons]
            have hE : rdE ps s = 0 := by rw [hE0, if_pos hvz]
            have HE := Lib.hid hE
            have HN := Lib.hid (hN0 hE)
            have HUL := Lib.hid hul
            rw [hV] at hput
            clear hE0 hN0 hE hV hcons hvz hgz hz1' hz2' hzl hwf hown3 hul
            go_wp2_with fail
            refine hput.mono ?_
            rintro e w4 ⟨rfl, hb4⟩
            have hB4 := hB3.trans (hb4.mono hB3.size)
            have HK := Lib.hid (own_keep HO3.out hb4)
            clear hput hb4
            go_wp2
            go_ret2
            exact ⟨A3, c3, by rw [HE.out, HN.out, iv_len, HUL.out]; rfl, by rw [HN.out, iv_len, HUL.out]; exact HK.out, hB4⟩
          · have hV : valV (ps.zip un) = [] := by unfold valV; rw [if_neg hvz]
            have hE : rdE ps s = 2 := by rw [hE0, if_neg hvz]
            have hN : rdN ps s = List.replicate ps.length 0 := by unfold rdN; rw [hE, if_neg (by decide)]
            have HE := Lib.hid hE
            have HN := Lib.hid hN
            rw [hV] at hput
            clear hE0 hN0 hE hN hV hvz hgz hz1' hz2' hzl hwf hown3 hul
            go_wp2_with fail
            refine hput.mono ?_
            rintro e w4 ⟨rfl, hb4⟩
            have hB4 := hB3.trans (hb4.mono hB3.size)
            clear hput hb4
            go_wp2_with (at_make; refine wpList_make_full _ rfl (.tmp 51) (.tmp 51) _ rfl w.heap.size 3 i0 _ 1 Try.underlying22 hi hz0 hz1 .i64 .i64 ps.length ps.length ps.length rfl rfl rfl rfl (by rw [hz2]; omega) (by simp only [maxLen]; omega) hB4.size ?_; intro w5 hown5 hg5)
            rw [made_ints] at hown5
            have hB5 : Below w.heap.size w w5 := hB4.trans ((Below.refl _ _).grown hg5 hB4.size (fun k hk => by cases hk))
            go_ret2
            exact ⟨_, _, by rw [HE.out, HN.out, iv_len, List.length_replicate]; rfl, by rw [HN.out, iv_len, List.length_replicate]; exact hown5, hB5⟩
        · have hV : unpV s 0 (wds ps) = [] := by unfold unpV; rw [if_neg he]
          have hE : rdE ps s = 2 := by rw [HEQ.out, if_neg (fun h => he h.1)]
          have hN : rdN ps s = List.replicate ps.length 0 := by unfold rdN; rw [hE, if_neg (by decide)]
          have HE := Lib.hid hE
          have HN := Lib.hid hN
          have d2 : (unpE s 0 (wds ps) != 0) = true := by simpa using he
          have hB4 := hB3
          rw [hV, iv_len, List.length_nil]
          clear hE hN hV he HEQ HU hown3 hb3 d1 hcv hcl
          generalize unpE s 0 (wds ps) = ue at *
          go_wp2_with (at_make; refine wpList_make_full _ rfl (.tmp 51) (.tmp 51) _ rfl w.heap.size 3 i0 _ 1 Try.underlying22 hi hz0 hz1 .i64 .i64 ps.length ps.length ps.length rfl rfl rfl rfl (by rw [hz2]; omega) (by simp only [maxLen]; omega) hB4.size ?_; intro w5 hown5 hg5)
          rw [made_ints] at hown5
          have hB5 : Below w.heap.size w w5 := hB4.trans ((Below.refl _ _).grown hg5 hB4.size (fun k hk => by cases hk))
          go_ret2
          exact ⟨_, _, by rw [HE.out, HN.out, iv_len, List.length_replicate]; rfl, by rw [HN.out, iv_len, List.length_replicate]; exact hown5, hB5⟩
      · have hE : rdE ps s = 7 := by unfold rdE; rw [if_neg (by rw [← hat]; exact hlen)]
        have hN : rdN ps s = List.replicate ps.length 0 := by unfold rdN; rw [hE, if_neg (by decide)]
        have HE := Lib.hid hE
        have HN := Lib.hid hN
        have d1 : ((s.length : Int) != at_) = true := by simpa using hlen
        clear hE hN hlen hat hown
        go_wp2_with (at_make; refine wpList_make_full _ rfl (.tmp 33) (.tmp 33) _ rfl w.heap.size 3 i0 _ 1 Try.underlying22 hi hz0 hz1 .i64 .i64 ps.length ps.length ps.length rfl rfl rfl rfl (by rw [hz2]; omega) (by simp only [maxLen]; omega) hbr.size ?_; intro w2 hown2 hg2)
        rw [made_ints] at hown2
        have hB2 : Below w.heap.size w w2 := hbr.trans ((Below.refl _ _).grown hg2 hbr.size (fun k hk => by cases hk))
        go_ret2
        exact ⟨_, _, by rw [HE.out, HN.out, iv_len, List.length_replicate]; rfl, by rw [HN.out, iv_len, List.length_replicate]; exact hown2, hB2⟩
end Go.Proofs.Ytcnalndhlonblaa
