/-
  Chapter 45: the reader's block, walked.
-/
import Derived.Test.YtcnalndhlonblaaPk5
import Derived.Test.YtcnalndhlonblaaSq6
import Derived.Test.YtcnalndhlonblaaSq9
import Derived.Test.YtcnalndhlonblaaImg2
import Derived.Test.YtcnalndhlonblaaLaw03P
namespace Go.Proofs.Ytcnalndhlonblaa
open Go.RowKit
attribute [local go_sem ↓] Go.wp_at_zero Go.wp_at_succ
theorem bequal_any (A : Option Addr) (c : Nat) (A2 : Option Addr) (c2 : Nat) (x y : List UInt8) (w : World) (B B2 : Nat) (h : Reads w B A (bv x)) (h2 : Reads w B2 A2 (bv y)) :
    Calls Try.prog 91 #[.slice A x.length c, .slice A2 y.length c2] w fun e w' => e = .returned (.bool (decide (x = y))) ∧ w = w' := by
  have cv1 := run_conv_bytes (P := Try.prog) w 43 9 5 Try.underlying43 Try.underlying5 Try.underlying9 x.length c rfl h
  have cv2 := run_conv_bytes (P := Try.prog) w 43 9 5 Try.underlying43 Try.underlying5 Try.underlying9 y.length c2 rfl h2
  clear h h2
  go_enter Try.func91, Try.ntmps91
  go_wp2
  go_ret
  exact ⟨ret_bool (by rw [Bool.eq_iff_iff]; simp), rfl⟩
/-- the reader and the image side by side -/
structure PkI (w : World) (B r : Nat) (A : Option Addr) (n c : Nat) (rest : List UInt8) (e : Int) (g : Nat) (Ai : Option Addr) (ci : Nat) (L : List (List UInt8)) : Prop where
  rd : RdI w B r A n c rest e
  im : Img w B g Ai ci L.flatten
section
variable {w w' : World} {B r : Nat} {A A2 : Option Addr} {n c n2 c2 : Nat} {rest rest2 : List UInt8} {e e2 : Int} {g : Nat} {Ai : Option Addr} {ci : Nat} {L : List (List UInt8)}
theorem PkI.below (h : PkI w B r A n c rest e g Ai ci L) (hb : Below w.heap.size w w') : PkI w' B r A n c rest e g Ai ci L := ⟨h.rd.below hb, h.im.below hb⟩
theorem PkI.hB (h : PkI w B r A n c rest e g Ai ci L) : B ≤ w.heap.size := by have := h.rd.lt; have := h.rd.ge; omega
theorem PkI.ne (h : PkI w B r A n c rest e g Ai ci L) : r ≠ g := by
  rintro rfl
  have h1 := h.rd.box
  have h2 := h.im.1
  unfold Boxed at h2
  rw [h1] at h2
  injection h2 with h2
  injection h2 with h2 h3 _
  exact absurd h3 (by decide)
theorem PkI.step (h : PkI w B r A n c rest e g Ai ci L) (hr : RdI w' B r A2 n2 c2 rest2 e2) (hg : w.grownBy w' (some r)) : PkI w' B r A2 n2 c2 rest2 e2 g Ai ci L ∧ Below B w w' :=
  ⟨⟨hr, h.im.kept hg (fun e => h.ne (by injection e)) (.inr (fun e => not_own h.rd.box (by decide) h.im.2.1 e.symm))⟩,
   (Below.refl _ _).grown hg h.hB (fun k hk => by injection hk with hk; have := h.rd.ge; omega)⟩
theorem PkI.wrote (h : PkI w B r A n c rest e g Ai ci L) {L2 : List (List UInt8)} (hI : Img w' B g Ai ci L2.flatten) (hg : w.grownBy w' (Value.slice Ai L.flatten.length ci).ownBlock) : PkI w' B r A n c rest e g Ai ci L2 ∧ Below B w w' :=
  ⟨⟨h.rd.kept hg (fun e => not_own h.rd.box (by decide) h.im.2.1 e.symm) (fun k hk => row_ge h.im.2.1 hk), hI⟩, (Below.refl _ _).grown hg h.hB (fun k hk => row_ge h.im.2.1 hk)⟩
end
theorem rd_bad {rest : List UInt8} (h : rest.length < 6 + kU rest) : numE (numV 2 (numR 4 rest)) (numR 2 (numR 4 rest)) (numE 2 (numR 4 rest) (numE 4 rest 0)) = 3 := by
  by_cases h4 : rest.length < 4
  · have e1 : numE 4 rest 0 = 3 := by unfold numE; rw [if_pos h4]; rfl
    have e2 : numE 2 (numR 4 rest) 3 = 3 := by unfold numE; split <;> rfl
    rw [e1, e2]
    unfold numE; split <;> rfl
  · have e1 : numE 4 rest 0 = 0 := by unfold numE; rw [if_neg h4]
    have r1 : numR 4 rest = rest.drop 4 := by unfold numR; rw [if_neg h4]
    rw [e1, r1]
    by_cases h2 : rest.length < 6
    · have e2 : numE 2 (rest.drop 4) 0 = 3 := by unfold numE; rw [List.length_drop, if_pos (by omega)]; rfl
      rw [e2]
      unfold numE; split <;> rfl
    · have e2 : numE 2 (rest.drop 4) 0 = 0 := by unfold numE; rw [List.length_drop, if_neg (by omega)]
      have r2 : numR 2 (rest.drop 4) = rest.drop 6 := by unfold numR; rw [List.length_drop, if_neg (by omega), List.drop_drop]
      have v2 : numV 2 (rest.drop 4) = kU rest := by unfold numV; rw [List.length_drop, if_neg (by omega)]; rfl
      rw [e2, r2, v2]
      unfold numE
      rw [List.length_drop, if_pos (by omega)]
      rfl
theorem rd_ok {rest : List UInt8} (h : 6 + kU rest ≤ rest.length) : numV 4 rest = noU rest ∧ numE (numV 2 (numR 4 rest)) (numR 2 (numR 4 rest)) (numE 2 (numR 4 rest) (numE 4 rest 0)) = 0 ∧
    numT (numV 2 (numR 4 rest)) (numR 2 (numR 4 rest)) = sU rest ∧ numR (numV 2 (numR 4 rest)) (numR 2 (numR 4 rest)) = rest.drop (6 + kU rest) := by
  have e1 : numE 4 rest 0 = 0 := by unfold numE; rw [if_neg (by omega)]
  have r1 : numR 4 rest = rest.drop 4 := by unfold numR; rw [if_neg (by omega)]
  have e2 : numE 2 (rest.drop 4) 0 = 0 := by unfold numE; rw [List.length_drop, if_neg (by omega)]
  have r2 : numR 2 (rest.drop 4) = rest.drop 6 := by unfold numR; rw [List.length_drop, if_neg (by omega), List.drop_drop]
  have v2 : numV 2 (rest.drop 4) = kU rest := by unfold numV; rw [List.length_drop, if_neg (by omega)]; rfl
  rw [e1, r1, e2, r2, v2]
  refine ⟨by unfold numV; rw [if_neg (by omega)]; rfl, ?_, ?_, ?_⟩
  · unfold numE; rw [List.length_drop, if_neg (by omega)]
  · unfold numT; rw [List.length_drop, if_neg (by omega)]; rfl
  · unfold numR; rw [List.length_drop, if_neg (by omega), List.drop_drop]
theorem numV_lt {k : Nat} (hk : k ≤ 4) (l : List UInt8) : numV k l < 4294967296 := by
  unfold numV
  split
  · omega
  · have h1 := le_lt (l.take k)
    have h2 : (l.take k).length ≤ 4 := by rw [List.length_take]; omega
    have h3 : 256 ^ (l.take k).length ≤ 256 ^ 4 := Nat.pow_le_pow_right (by decide) h2
    omega
set_option maxRecDepth 100000 in
set_option maxHeartbeats 4000000 in
theorem block_any' {w : World} {B r : Nat} {A : Option Addr} {n c : Nat} {rest : List UInt8} {g : Nat} {Ai : Option Addr} {ci : Nat} {L : List (List UInt8)} (h : PkI w B r A n c rest 0 g Ai ci L) (hm : n ≤ 20000) (hE : Each L) (nx : Nat) (last : Int) (hlast : last = (nx : Int) - 1) :
    Calls Try.prog 82 #[.pointer (some ⟨r, 0, none⟩), .pointer (some ⟨g, 0, none⟩), .int .i64 last] w fun en w' => ∃ A2 n2 c2 rest2 L2, ∃ no : Nat, en = .returned (.int .i64 no) ∧ RdI w' B r A2 n2 c2 rest2 (stE L.length rest nx) ∧ n2 ≤ n ∧
      Img w' B g Ai ci L2.flatten ∧ Below B w w' ∧ (stE L.length rest nx = 0 → rest2 = rest.drop (6 + kU rest) ∧ L2 = L.set (noU rest) (cU rest) ∧ no = noU rest) := by
  have HH := Lib.hid h
  have HLA := Lib.hid hlast
  clear h hlast
  go_enter Try.func82, Try.ntmps82
  go_wp2_with fail
  refine (number_any HH.out.rd 4 (.inr rfl) (by omega)).mono ?_
  rintro en w1 ⟨A1, n1, c1, rfl, h1, hn1, hg1⟩
  obtain ⟨hP1, hb1⟩ := HH.out.step h1 hg1
  have HP1 := Lib.hid hP1
  have HB1 := Lib.hid hb1
  have HNO := Lib.hid (show numV 4 rest < 4294967296 from numV_lt (by omega) rest)
  clear hP1 hb1 h1 hg1
  obtain ⟨no, hno⟩ : ∃ no, no = numV 4 rest := ⟨_, rfl⟩
  rw [← hno] at HNO ⊢
  have HN := Lib.hid hno
  clear hno
  go_wp2_with fail
  refine (number_any HP1.out.rd 2 (.inl rfl) (by omega)).mono ?_
  rintro en w2 ⟨A2, n2, c2, rfl, h2, hn2, hg2⟩
  obtain ⟨hP2, hb2⟩ := HP1.out.step h2 hg2
  have HP2 := Lib.hid hP2
  have HB2 := Lib.hid (HB1.out.trans hb2)
  clear hP2 hb2 h2 hg2 HP1
  obtain ⟨k, hk⟩ : ∃ k, k = numV 2 (numR 4 rest) := ⟨_, rfl⟩
  rw [← hk]
  have HK := Lib.hid hk
  clear hk
  go_wp2_with fail
  refine (bytesR_any HP2.out.rd k (by omega)).mono ?_
  rintro en w3 ⟨A3, n3, c3, A4, c4, rfl, hc4, hr4, h3, hn3, hg3⟩
  obtain ⟨hP3, hb3⟩ := HP2.out.step h3 hg3
  have HB3 := Lib.hid (HB2.out.trans hb3)
  rw [HK.out] at hP3 hr4 hc4 ⊢
  clear hb3 h3 hg3 HP2
  by_cases hlen : rest.length < 6 + kU rest
  · rw [rd_bad hlen] at hP3
    have q1 : w3.cell? ⟨r, 1, none⟩ = some (.int .i64 3) := heap_cell hP3.rd.box 1 rfl
    have hst : stE L.length rest nx = 3 := by unfold stE; rw [if_pos hlen]
    have HST := Lib.hid hst
    have HP3 := Lib.hid hP3
    generalize (numT (numV 2 (numR 4 rest)) (numR 2 (numR 4 rest))).length = sl at *
    clear hst hP3 hr4 hlen HK
    go_wp2
    go_ret
    exact ⟨A3, n3, c3, _, L, no, rfl, by rw [HST.out]; exact HP3.out.rd, by omega, HP3.out.im, HB3.out, fun h => absurd (HST.out.symm.trans h) (by decide)⟩
  obtain ⟨p1, p2, p3, p4⟩ := rd_ok (rest := rest) (by omega)
  rw [p2, p4] at hP3
  rw [p3] at hr4 hc4 ⊢
  have hsl : (sU rest).length = kU rest := by unfold sU; rw [List.length_take, List.length_drop]; omega
  have hsn : (sU rest).length ≤ 20000 := by have := HH.out.rd.ln; omega
  have hno : no = noU rest := by rw [HN.out, p1]
  have HNU := Lib.hid hno
  have HLN := Lib.hid (show ¬ rest.length < 6 + kU rest from hlen)
  have HRS := Lib.hid hr4
  have HP3 := Lib.hid hP3
  have q1 : w3.cell? ⟨r, 1, none⟩ = some (.int .i64 0) := heap_cell hP3.rd.box 1 rfl
  obtain ⟨s, hs⟩ : ∃ s, s = sU rest := ⟨_, rfl⟩
  have HS := Lib.hid hs
  rw [← hs] at HRS hc4 hsn ⊢
  have HN0 := HNO
  clear p1 p2 p3 p4 hsl hno hlen hs HK HN hr4 hP3 HNO
  obtain ⟨sl, hsl⟩ : ∃ sl, sl = s.length := ⟨_, rfl⟩
  have HSL := Lib.hid hsl
  rw [← hsl] at hsn hc4 ⊢
  clear hsl
  have HBK := Lib.hid (show L.flatten.length / 256 = L.length by rw [each_len hE]; omega)
  obtain ⟨nb, hnb⟩ : ∃ nb, nb = L.length := ⟨_, rfl⟩
  have HNB := Lib.hid hnb
  rw [← hnb] at HBK
  clear hnb
  go_wp2_with fail
  refine (blocks_any HP3.out.im).mono ?_
  rw [HBK.out]
  rintro en w4 ⟨rfl, rfl⟩
  have i0 : (no : Int) < 4294967296 := by have := HN0.out; omega
  clear HN0
  by_cases h1 : nb ≤ no
  · have HST := Lib.hid (show stE L.length rest nx = 2 by unfold stE; rw [if_neg HLN.out, if_pos (by rw [← HNB.out, ← HNU.out]; exact h1)])
    have i1 : (nb : Int) ≤ (no : Int) := by omega
    go_wp2_with fail
    refine (fail_any HP3.out.rd 2).mono ?_
    rintro en w5 ⟨rfl, h5, hg5⟩
    obtain ⟨hP5, hb5⟩ := HP3.out.step h5 hg5
    have HP5 := Lib.hid hP5
    have HB5 := Lib.hid (HB3.out.trans hb5)
    clear hP5 hb5 h5 hg5
    go_wp2
    go_ret
    exact ⟨A3, n3, c3, _, L, no, rfl, by rw [HST.out]; exact HP5.out.rd, by omega, HP5.out.im, HB5.out, fun h => absurd (HST.out.symm.trans h) (by decide)⟩
  have d1 : decide (nb ≤ no) = false := decide_eq_false h1
  have HT1 := Lib.hid (show stE L.length rest nx = if noU rest < nx then 8 else if (looseR 256 (sU rest) []).2 = 0 then (if (cU rest).length = 256 ∧ zeroB (cU rest) = false ∧ squeezeL (cU rest) = sU rest then 0 else 7) else (looseR 256 (sU rest) []).2 by
    unfold stE
    rw [if_neg HLN.out, if_neg (by rw [← HNB.out, ← HNU.out]; exact h1)])
  clear h1
  by_cases h2 : no < nx
  · have HST := Lib.hid (show stE L.length rest nx = 8 by rw [HT1.out, if_pos (by rw [← HNU.out]; exact h2)])
    have d2 : decide ((no : Int) ≤ last) = true := decide_eq_true (by rw [HLA.out]; omega)
    clear h2 i0
    go_wp2_with fail
    refine (fail_any HP3.out.rd 8).mono ?_
    rintro en w5 ⟨rfl, h5, hg5⟩
    obtain ⟨hP5, hb5⟩ := HP3.out.step h5 hg5
    have HP5 := Lib.hid hP5
    have HB5 := Lib.hid (HB3.out.trans hb5)
    clear hP5 hb5 h5 hg5
    go_wp2
    go_ret
    exact ⟨A3, n3, c3, _, L, no, rfl, by rw [HST.out]; exact HP5.out.rd, by omega, HP5.out.im, HB5.out, fun h => absurd (HST.out.symm.trans h) (by decide)⟩
  have d2 : decide ((no : Int) ≤ last) = false := decide_eq_false (by rw [HLA.out]; omega)
  have HT2 := Lib.hid (show stE L.length rest nx = if (looseR 256 (sU rest) []).2 = 0 then (if (cU rest).length = 256 ∧ zeroB (cU rest) = false ∧ squeezeL (cU rest) = sU rest then 0 else 7) else (looseR 256 (sU rest) []).2 by
    rw [HT1.out, if_neg (by rw [← HNU.out]; exact h2)])
  clear h2 i0 HT1
  have k1 := loose_any A4 c4 s 256 (by omega) (by omega) (by rw [← HSL.out]; exact hsn) (by rw [← HSL.out]; exact hc4) w3 (HRS.out.more HP3.out.hB)
  rw [← HSL.out] at k1
  obtain ⟨C, hC⟩ : ∃ C, C = (looseR 256 s []).1 := ⟨_, rfl⟩
  obtain ⟨E, hE'⟩ : ∃ E, E = (looseR 256 s []).2 := ⟨_, rfl⟩
  rw [← hC, ← hE'] at k1
  have HCU := Lib.hid (show C = cU rest by rw [hC, HS.out]; rfl)
  have HEU := Lib.hid (show E = (looseR 256 (sU rest) []).2 by rw [hE', HS.out])
  have K1 := Lib.hid k1
  clear hC hE' k1
  go_wp2_with fail
  refine K1.out.mono ?_
  rintro en w5 ⟨A5, c5, rfl, hown5, hb5⟩
  have HP5 := Lib.hid (HP3.out.below hb5)
  have HB5 := Lib.hid (HB3.out.trans (hb5.mono HP3.out.hB))
  have HR5 := Lib.hid (Reads.of_own hown5)
  have HS5 := Lib.hid ((HRS.out.more HP3.out.hB).ext hb5)
  rw [bv_len]
  clear hown5 hb5
  by_cases hE0 : E = 0
  case neg =>
    have HST := Lib.hid (show stE L.length rest nx = E by
      rw [HT2.out, ← HEU.out, if_neg hE0])
    have d1 : (E != 0) = true := by rw [bne_iff_ne]; exact hE0
    have HER := Lib.hid (show erS 0 E = E by unfold erS; rw [if_pos rfl])
    have HE0 := Lib.hid hE0
    clear hE0
    go_wp2_with fail
    refine (fail_any HP5.out.rd E).mono ?_
    rintro en w6 ⟨rfl, h6, hg6⟩
    obtain ⟨hP6, hb6⟩ := HP5.out.step h6 hg6
    rw [HER.out] at hP6
    have HP6 := Lib.hid hP6
    have HB6 := Lib.hid (HB5.out.trans hb6)
    clear hP6 hb6 h6 hg6
    go_wp2
    go_ret
    exact ⟨A3, n3, c3, _, L, no, rfl, by rw [HST.out]; exact HP6.out.rd, by omega, HP6.out.im, HB6.out, fun h => absurd (HST.out.symm.trans h) HE0.out⟩
  subst hE0
  have HSTE := Lib.hid (show stE L.length rest nx = if C.length = 256 ∧ zeroB C = false ∧ squeezeL C = s then 0 else 7 by
      rw [HT2.out, ← HEU.out, if_pos rfl, ← HCU.out, HS.out])
  have HBAD := Lib.hid (show ∀ (w6 : World), Hid (PkI w6 B r A3 n3 c3 (rest.drop (6 + kU rest)) 0 g Ai ci L) → Calls Try.prog 80 #[.pointer (some ⟨r, 0, none⟩), .int .i64 7] w6 fun en w' => en = .returned (.tuple #[]) ∧ Hid (PkI w' B r A3 n3 c3 (rest.drop (6 + kU rest)) 7 g Ai ci L) ∧ Hid (Below B w6 w') from fun w6 H6 => by
    refine (fail_any H6.out.rd 7).mono ?_
    rintro en w7 ⟨rfl, h7, hg7⟩
    obtain ⟨hP7, hb7⟩ := H6.out.step h7 hg7
    exact ⟨rfl, Lib.hid hP7, Lib.hid hb7⟩)
  by_cases hC256 : C.length = 256
  case neg =>
    have HST := Lib.hid (show stE L.length rest nx = 7 by rw [HSTE.out, if_neg (fun h => hC256 h.1)])
    have d1 : ((C.length : Int) != 256) = true := by rw [bne_iff_ne]; omega
    clear hC256
    go_wp2_with fail
    refine (HBAD.out _ HP5).mono ?_
    rintro en w6 ⟨rfl, HP6, HB6⟩
    go_wp2
    go_ret
    exact ⟨A3, n3, c3, _, L, no, rfl, by rw [HST.out]; exact HP6.out.rd, by omega, HP6.out.im, HB5.out.trans HB6.out, fun h => absurd (HST.out.symm.trans h) (by decide)⟩
  have KZ := Lib.hid (zero_any A5 c5 C w5 _ (by rw [hC256]; decide) HR5.out)
  have KS := Lib.hid (fun W hb => squeeze_any A5 c5 C (by omega) W ((HR5.out.ext (w' := W) hb)))
  have KW := Lib.hid (fun (W : World) hI hb => iwrite_any (w := W) (B := B) (g := g) (A := Ai) (c := ci) (bs := L.flatten) hI (no : Int) A5 c5 C ((HR5.out.ext (w' := W) hb)))
  rw [hC256] at KZ KS KW ⊢
  have H256 := Lib.hid hC256
  clear hC256
  go_wp2_with fail
  refine KZ.out.mono ?_
  rintro en w6 ⟨rfl, rfl⟩
  cases hz : zeroB C with
  | true =>
    have HST := Lib.hid (show stE L.length rest nx = 7 by rw [HSTE.out, if_neg (fun h => by rw [hz] at h; exact absurd h.2.1 (by decide))])
    clear hz
    go_wp2_with fail
    refine (HBAD.out _ HP5).mono ?_
    rintro en w6 ⟨rfl, HP6, HB6⟩
    go_wp2
    go_ret
    exact ⟨A3, n3, c3, _, L, no, rfl, by rw [HST.out]; exact HP6.out.rd, by omega, HP6.out.im, HB5.out.trans HB6.out, fun h => absurd (HST.out.symm.trans h) (by decide)⟩
  | false =>
    have HSTZ := Lib.hid (show stE L.length rest nx = if squeezeL C = s then 0 else 7 by
      rw [HSTE.out]
      by_cases hq : squeezeL C = s
      · rw [if_pos ⟨H256.out, hz, hq⟩, if_pos hq]
      · rw [if_neg (fun h => hq h.2.2), if_neg hq])
    have HQL := Lib.hid (show (squeezeL C).length ≤ 65536 by have := (sq_small H256.out).1; omega)
    have KS0 := Lib.hid (KS.out w5 (Below.refl _ _))
    clear hz
    go_wp2_with fail
    refine KS0.out.mono ?_
    rintro en w6 ⟨A6, c6, rfl, hown6, hb6⟩
    have HP6 := Lib.hid (HP5.out.below hb6)
    have HB6 := Lib.hid (HB5.out.trans (hb6.mono HP5.out.hB))
    have HR6 := Lib.hid (Reads.of_own hown6)
    have HS6 := Lib.hid (HS5.out.ext hb6)
    have HW6 := Lib.hid hb6
    rw [bv_len]
    have KE := Lib.hid (bequal_any A6 c6 A4 c4 (squeezeL C) s w6 _ _ HR6.out HS6.out)
    rw [← HSL.out] at KE
    clear hown6 hb6
    go_wp2_with fail
    refine KE.out.mono ?_
    rintro en w7 ⟨rfl, e7⟩
    have hb7 : Below w6.heap.size w6 w7 := by rw [e7]; exact Below.refl _ _
    clear e7
    have HP7 := Lib.hid (HP6.out.below hb7)
    have HB7 := Lib.hid (HB6.out.trans (hb7.mono HP6.out.hB))
    have HW7 := Lib.hid (below_then HW6.out hb7)
    clear hb7
    by_cases hq : squeezeL C = s
    case neg =>
      have HST := Lib.hid (show stE L.length rest nx = 7 by rw [HSTZ.out, if_neg hq])
      rw [decide_eq_false hq]
      clear hq
      go_wp2_with fail
      refine (HBAD.out _ HP7).mono ?_
      rintro en w8 ⟨rfl, HP8, HB8⟩
      go_wp2
      go_ret
      exact ⟨A3, n3, c3, _, L, no, rfl, by rw [HST.out]; exact HP8.out.rd, by omega, HP8.out.im, HB7.out.trans HB8.out, fun h => absurd (HST.out.symm.trans h) (by decide)⟩
    have HST := Lib.hid (show stE L.length rest nx = 0 by rw [HSTZ.out, if_pos hq])
    rw [decide_eq_true hq]
    clear hq
    have KW7 := Lib.hid (KW.out w7 HP7.out.im HW7.out)
    go_wp2_with fail
    refine KW7.out.mono ?_
    rintro en w8 ⟨rfl, hI8, hg8⟩
    have hfp := flat_put hE (no : Int) C
    rw [hfp.1] at hI8
    obtain ⟨hP8, hb8⟩ := HP7.out.wrote hI8 hg8
    have hw0 : wrE (L.length * 256) (no : Int) C.length = 0 := wrE_zero.2 ⟨by omega, by
      have := (stE_zero HST.out).2.1
      rw [← HNU.out] at this
      omega, H256.out⟩
    rw [if_pos hw0, Int.toNat_natCast] at hP8
    have HP8 := Lib.hid hP8
    have HB8 := Lib.hid (HB7.out.trans hb8)
    clear hP8 hb8 hI8 hg8 hfp hw0
    go_wp2
    go_ret
    exact ⟨A3, n3, c3, _, L.set no C, no, rfl, by rw [HST.out]; exact HP8.out.rd, by omega, HP8.out.im, HB8.out, fun _ => ⟨rfl, by rw [HNU.out, HCU.out], HNU.out⟩⟩
end Go.Proofs.Ytcnalndhlonblaa
