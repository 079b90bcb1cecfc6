/-
  Chapter 45: the reader's body and Unpack, walked.
-/
import Derived.Test.YtcnalndhlonblaaPk6
namespace Go.Proofs.Ytcnalndhlonblaa
open Go.RowKit
attribute [local go_sem ↓] Go.wp_at_zero Go.wp_at_succ
theorem head_parts {inn : List UInt8} (h : 16 ≤ inn.length) : numT 8 inn = inn.take 8 ∧ numR 8 inn = inn.drop 8 ∧ numE 8 inn 0 = 0 ∧ numV 4 (inn.drop 8) = le ((inn.drop 8).take 4) ∧ numR 4 (inn.drop 8) = inn.drop 12 ∧ numE 4 (inn.drop 8) 0 = 0 ∧
    numV 4 (inn.drop 12) = le ((inn.drop 12).take 4) ∧ numR 4 (inn.drop 12) = inn.drop 16 ∧ numE 4 (inn.drop 12) 0 = 0 := by
  unfold numT numR numE numV
  rw [List.length_drop, List.length_drop, if_neg (by omega), if_neg (by omega), if_neg (by omega), if_neg (by omega), if_neg (by omega), if_neg (by omega), if_neg (by omega), if_neg (by omega), if_neg (by omega), List.drop_drop, List.drop_drop]
  exact ⟨rfl, rfl, rfl, rfl, rfl, rfl, rfl, rfl, rfl⟩
theorem RdI.step {w w' : World} {B r : Nat} {A : Option Addr} {n c : Nat} {rest : List UInt8} {e : Int} (h : RdI w B r A n c rest e) (hg : w.grownBy w' (some r)) : Below B w w' :=
  (Below.refl _ _).grown hg (by have := h.lt; have := h.ge; omega) (fun k hk => by injection hk with hk; have := h.ge; omega)
set_option maxRecDepth 100000 in
set_option maxHeartbeats 4000000 in
theorem body_any {w : World} {B r : Nat} {A : Option Addr} {n c : Nat} {inn : List UInt8} (h : RdI w B r A n c inn 0) (hm : n ≤ 20000) (hl : 16 ≤ n) :
    Calls Try.prog 53 #[.pointer (some ⟨r, 0, none⟩)] w fun en w' => ∃ (v : Option Addr) (A2 : Option Addr) (n2 c2 : Nat) (rest2 : List UInt8), en = .returned (.pointer v) ∧ RdI w' B r A2 n2 c2 rest2 (upI inn).2 ∧ Below B w w' ∧
      ((upI inn).2 = 0 → ∃ g Ai ci, v = some ⟨g, 0, none⟩ ∧ Img w' B g Ai ci (upI inn).1.flatten) := by
  have HH := Lib.hid h
  obtain ⟨p1, p2, p3, p4, p5, p6, p7, p8, p9⟩ := head_parts (inn := inn) (by rw [← h.ln]; exact hl)
  clear h
  go_enter Try.func53, Try.ntmps53
  go_wp2_with fail
  have K1 := bytesR_any HH.out 8 (by omega)
  rw [p1, p2, p3] at K1
  refine K1.mono ?_
  clear K1 p1 p2 p3
  rintro en w1 ⟨A1, n1, c1, A4, c4, rfl, hc4, hr4, h1, hn1, hg1⟩
  have HB1 := Lib.hid (HH.out.step hg1)
  have H1 := Lib.hid h1
  have cv := run_conv_bytes (P := Try.prog) w1 43 9 5 Try.underlying43 Try.underlying5 Try.underlying9 (inn.take 8).length c4 rfl hr4
  have HP4 := Lib.hid p4
  have HP5 := Lib.hid p5
  have HP6 := Lib.hid p6
  have HP7 := Lib.hid p7
  have HP8 := Lib.hid p8
  have HP9 := Lib.hid p9
  obtain ⟨M, hM⟩ : ∃ M, M = inn.take 8 := ⟨_, rfl⟩
  have HM := Lib.hid hM
  rw [← hM] at cv hc4 ⊢
  clear hM p4 p5 p6 p7 p8 p9 h1 hr4 hg1
  by_cases hmg : M = magicB
  case neg =>
    have hR : upI inn = ([], 7) := by unfold upI; rw [if_pos (by rw [← HM.out]; exact hmg)]
    have HR := Lib.hid hR
    have d1 : (M == [83, 67, 65, 78, 80, 65, 67, 75]) = false := by rw [beq_eq_false_iff_ne]; exact hmg
    clear hR hmg
    go_wp2_with fail
    refine (fail_any H1.out 7).mono ?_
    rintro en w2 ⟨rfl, h2, hg2⟩
    have HB2 := Lib.hid (HB1.out.trans (H1.out.step hg2))
    have H2 := Lib.hid h2
    clear h2 hg2
    go_wp2
    go_ret
    exact ⟨none, A1, n1, c1, _, rfl, by rw [HR.out]; exact H2.out, HB2.out, fun h => by rw [HR.out] at h; exact absurd h (by decide)⟩
  have HI0 := Lib.hid (show upI inn = if 14400 < le ((inn.drop 8).take 4) then ([], 2) else upF (le ((inn.drop 12).take 4)) (inn.drop 16) 0 (List.replicate (le ((inn.drop 8).take 4)) zblk) by
    unfold upI; rw [if_neg (by rw [← HM.out]; exact fun h => h hmg)])
  subst hmg
  have d1 : (magicB == [83, 67, 65, 78, 80, 65, 67, 75]) = true := by decide
  go_wp2_with fail
  have K2 := number_any H1.out 4 (.inr rfl) (by omega)
  rw [HP4.out, HP5.out, HP6.out] at K2
  have HN1 := Lib.hid (show numV 4 (inn.drop 8) < 4294967296 from numV_lt (by omega) _)
  rw [HP4.out] at HN1
  obtain ⟨nb, hnb⟩ : ∃ nb, nb = le ((inn.drop 8).take 4) := ⟨_, rfl⟩
  rw [← hnb] at K2 HN1 HI0
  refine K2.mono ?_
  rintro en w2 ⟨A2, n2, c2, rfl, h2, hn2, hg2⟩
  have HB2 := Lib.hid (HB1.out.trans (H1.out.step hg2))
  have H2 := Lib.hid h2
  clear h2 hg2 K2 hnb HP4 HP5 HP6
  go_wp2_with fail
  have K3 := number_any H2.out 4 (.inr rfl) (by omega)
  rw [HP7.out, HP8.out, HP9.out] at K3
  have HN2 := Lib.hid (show numV 4 (inn.drop 12) < 4294967296 from numV_lt (by omega) _)
  rw [HP7.out] at HN2
  obtain ⟨cnt, hcnt⟩ : ∃ cnt, cnt = le ((inn.drop 12).take 4) := ⟨_, rfl⟩
  rw [← hcnt] at K3 HN2 HI0
  refine K3.mono ?_
  rintro en w3 ⟨A3, n3, c3, rfl, h3, hn3, hg3⟩
  have HB3 := Lib.hid (HB2.out.trans (H2.out.step hg3))
  have H3 := Lib.hid h3
  clear h3 hg3 K3 hcnt HP7 HP8 HP9 H1 H2
  have hw3 : B ≤ w3.heap.size := by have := H3.out.lt; have := H3.out.ge; omega
  have HW3 := Lib.hid hw3
  clear hw3
  by_cases hb : nb ≤ 14400
  case neg =>
    have hR : upI inn = ([], 2) := by rw [HI0.out, if_pos (by omega)]
    have HR := Lib.hid hR
    have KN := Lib.hid (inew_bad (nb : Int) (.inr (by omega)) w3)
    clear hR hb
    go_wp2_with fail
    refine KN.out.mono ?_
    rintro en w4 ⟨rfl, rfl⟩
    go_wp2_with fail
    refine (fail_any H3.out 2).mono ?_
    rintro en w4 ⟨rfl, h4, hg4⟩
    have HB4 := Lib.hid (HB3.out.trans (H3.out.step hg4))
    have H4 := Lib.hid h4
    clear h4 hg4
    go_wp2
    go_ret
    exact ⟨none, A3, n3, c3, _, rfl, by rw [HR.out]; exact H4.out, HB4.out, fun h => by rw [HR.out] at h; exact absurd h (by decide)⟩
  have KN := Lib.hid (inew_ok nb hb w3)
  have HI1 := Lib.hid (show upI inn = upF cnt (inn.drop 16) 0 (List.replicate nb zblk) by rw [HI0.out, if_neg (by omega)])
  have HFL := Lib.hid (show List.replicate (nb * 256) (0 : UInt8) = (List.replicate nb zblk).flatten by
    unfold zblk; rw [List.flatten_replicate_replicate])
  have HNB := Lib.hid hb
  clear hb HI0
  go_wp2_with fail
  refine KN.out.mono ?_
  rintro en w4 ⟨g, Ai, ci, rfl, hI4, hb4⟩
  rw [HFL.out] at hI4
  have HP4 := Lib.hid (show PkI w4 B r A3 n3 c3 (inn.drop 16) 0 g Ai ci (List.replicate nb zblk) from ⟨H3.out.below hb4, hI4.mono HW3.out⟩)
  have HB4 := Lib.hid (HB3.out.trans (hb4.mono HW3.out))
  clear hI4 hb4 KN H3 HW3 HFL
  obtain ⟨R, hR⟩ : ∃ R, R = upI inn := ⟨_, rfl⟩
  have HR := Lib.hid hR
  rw [← hR] at HI1
  clear hR
  go_wp2_with fail
  go_loopw [7, 8] (fun s7 s8 wr => ∃ (i nx : Nat) (last : Int) (A5 : Option Addr) (n5 c5 : Nat) (rest : List UInt8) (e : Int) (L : List (List UInt8)), s7 = .int .i64 last ∧ s8 = .int .i64 (i : Int) ∧ i ≤ cnt ∧ n5 ≤ n ∧ Hid (RdI wr B r A5 n5 c5 rest e) ∧ Hid (Below B w wr) ∧ Hid (∃ L2, Img wr B g Ai ci L2) ∧
      (e = 0 ∧ Hid (R = upF (cnt - i) rest nx L) ∧ Hid (PkI wr B r A5 n5 c5 rest 0 g Ai ci L) ∧ Hid (Each L) ∧ Hid (last = (nx : Int) - 1) ∨ e ≠ 0 ∧ Hid (R = ([], e)))) (fun _ s8 _ => cnt - (intOf s8).toNat)
  case atStart => exact ⟨0, 0, -1, A3, n3, c3, _, 0, _, rfl, rfl, by omega, by omega, Lib.hid HP4.out.rd, HB4, Lib.hid ⟨_, HP4.out.im⟩, .inl ⟨rfl, HI1, HP4, Lib.hid (each_rep nb), Lib.hid (by omega)⟩⟩
  case round =>
    obtain ⟨i, nx, last, A5, n5, c5, rest, e, L, rfl, rfl, hi, hn5, H5, HB5, HX5, hcase⟩ := hrel
    have q1 : wr.cell? ⟨r, 1, none⟩ = some (.int .i64 e) := heap_cell H5.out.box 1 rfl
    have q0 : wr.cell? ⟨r, 0, none⟩ = some (.slice A5 n5 c5) := heap_cell H5.out.box 0 rfl
    have HFA := Lib.hid (show ∀ (w6 : World), Hid (RdI w6 B r A5 n5 c5 rest e) → Calls Try.prog 80 #[.pointer (some ⟨r, 0, none⟩), .int .i64 7] w6 fun en w' => en = .returned (.tuple #[]) ∧ Hid (RdI w' B r A5 n5 c5 rest (erS e 7)) ∧ Hid (Below B w6 w') ∧ Hid (w6.grownBy w' (some r)) from fun w6 H6 => by
      refine (fail_any H6.out 7).mono ?_
      rintro en w7 ⟨rfl, h7, hg7⟩
      exact ⟨rfl, Lib.hid h7, Lib.hid (H6.out.step hg7), Lib.hid hg7⟩)
    have HLEN := Lib.hid H5.out.ln
    rcases hcase with ⟨rfl, HU, HP5, HE5, HLA⟩ | ⟨he, HU⟩
    · by_cases hlt : i < cnt
      · have HU2 := Lib.hid (show R = if stE L.length rest nx = 0 then upF (cnt - (i + 1)) (rest.drop (6 + kU rest)) (noU rest + 1) (L.set (noU rest) (cU rest)) else ([], stE L.length rest nx) by
          rw [HU.out, show cnt - i = (cnt - (i + 1)) + 1 by omega]; rfl)
        have KB := Lib.hid (block_any' HP5.out (by omega) HE5.out nx last HLA.out)
        have hcb : cnt < 4294967296 := HN2.out
        clear HU HFA
        go_wp2_with fail
        refine KB.out.mono ?_
        rintro en w6 ⟨A6, n6, c6, rest2, L2, no, rfl, h6, hn6, hI6, hb6, h60⟩
        have H6 := Lib.hid h6
        have HI6 := Lib.hid hI6
        have HB6 := Lib.hid (HB5.out.trans hb6)
        have H60 := Lib.hid h60
        clear h6 hI6 hb6 h60 q0 q1
        go_wp2
        go_roundw
        case rel =>
          refine ⟨i + 1, noU rest + 1, no, A6, n6, c6, rest2, stE L.length rest nx, L2, rfl, by go_num, by omega, by omega, H6, HB6, Lib.hid ⟨_, HI6.out⟩, ?_⟩
          by_cases h0 : stE L.length rest nx = 0
          · obtain ⟨e1, e2, e3⟩ := H60.out h0
            left
            refine ⟨h0, Lib.hid (by rw [HU2.out, if_pos h0, e1, e2]), Lib.hid ⟨by have := H6.out; rw [h0] at this; exact this, HI6.out⟩, Lib.hid ?_, Lib.hid (by rw [e3]; omega)⟩
            rw [e2]
            exact each_set HE5.out _ _ (stE_zero h0).2.2.2.2.1
          · right
            exact ⟨h0, Lib.hid (by rw [HU2.out, if_neg h0])⟩
        case measure => simp [intOf]; omega
      · obtain rfl : i = cnt := by omega
        rw [Nat.sub_self] at HU
        by_cases hz : n5 = 0
        · subst hz
          have HRR := Lib.hid (show R = (L, 0) by rw [HU.out]; unfold upF; rw [if_pos (List.eq_nil_of_length_eq_zero HLEN.out.symm)])
          go_wp2
          go_ret
          refine ⟨some ⟨g, 0, none⟩, A5, 0, c5, rest, rfl, by rw [← HR.out, HRR.out]; exact H5.out, HB5.out, fun _ => ⟨g, Ai, ci, rfl, ?_⟩⟩
          rw [← HR.out, HRR.out]
          exact HP5.out.im
        · have HRR := Lib.hid (show R = ([], 7) by rw [HU.out]; unfold upF; rw [if_neg (fun h => hz (by have := HLEN.out; rw [h] at this; exact this))])
          have i1 : (0 : Int) < (n5 : Int) := by omega
          clear hz
          go_wp2_with fail
          refine (HFA.out _ H5).mono ?_
          rintro en w6 ⟨rfl, H6, HB6, HG6⟩
          go_wp2
          go_ret
          exact ⟨some ⟨g, 0, none⟩, A5, n5, c5, rest, rfl, by rw [← HR.out, HRR.out]; exact H6.out, HB5.out.trans HB6.out, fun h => by rw [← HR.out, HRR.out] at h; exact absurd h (by decide)⟩
    · have d2 : (e == 0) = false := by rw [beq_eq_false_iff_ne]; exact he
      have HER := Lib.hid (show erS e 7 = e by unfold erS; rw [if_neg he])
      have HE0 := Lib.hid he
      clear he
      by_cases hz : n5 = 0
      · subst hz
        by_cases hlt : i < cnt
        · go_wp2
          go_ret
          exact ⟨some ⟨g, 0, none⟩, A5, 0, c5, rest, rfl, by rw [← HR.out, HU.out]; exact H5.out, HB5.out, fun h => by rw [← HR.out, HU.out] at h; exact absurd h HE0.out⟩
        · obtain rfl : i = cnt := by omega
          go_wp2
          go_ret
          exact ⟨some ⟨g, 0, none⟩, A5, 0, c5, rest, rfl, by rw [← HR.out, HU.out]; exact H5.out, HB5.out, fun h => by rw [← HR.out, HU.out] at h; exact absurd h HE0.out⟩
      · have i1 : (0 : Int) < (n5 : Int) := by omega
        clear hz
        by_cases hlt : i < cnt
        · go_wp2_with fail
          refine (HFA.out _ H5).mono ?_
          rintro en w6 ⟨rfl, H6, HB6, HG6⟩
          rw [HER.out] at H6
          go_wp2
          go_ret
          exact ⟨some ⟨g, 0, none⟩, A5, n5, c5, rest, rfl, by rw [← HR.out, HU.out]; exact H6.out, HB5.out.trans HB6.out, fun h => by rw [← HR.out, HU.out] at h; exact absurd h HE0.out⟩
        · obtain rfl : i = cnt := by omega
          go_wp2_with fail
          refine (HFA.out _ H5).mono ?_
          rintro en w6 ⟨rfl, H6, HB6, HG6⟩
          rw [HER.out] at H6
          go_wp2
          go_ret
          exact ⟨some ⟨g, 0, none⟩, A5, n5, c5, rest, rfl, by rw [← HR.out, HU.out]; exact H6.out, HB5.out.trans HB6.out, fun h => by rw [← HR.out, HU.out] at h; exact absurd h HE0.out⟩
end Go.Proofs.Ytcnalndhlonblaa
