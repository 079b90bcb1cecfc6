/-
  Chapter 45: the reference's Unpack, walked.
-/
import Derived.Test.YtcnalndhlonblaaPk2
import Derived.Test.YtcnalndhlonblaaPk6
import Derived.Test.YtcnalndhlonblaaRef1B
import Derived.Test.YtcnalndhlonblaaSq10
import Derived.Deep.DeepCutAuto
import Derived.BigQuiet
import Derived.Deep.QuietTactic
namespace Go.Proofs.Ytcnalndhlonblaa
open Go.RowKit
attribute [local go_sem ↓] Go.wp_at_zero Go.wp_at_succ
def GivesRUp (u : List (List UInt8) × Int) (w : World) (en : Ending) (w' : World) : Prop :=
  ∃ v : Option Addr, en = .returned (.tuple #[.pointer v, .int .i64 u.2]) ∧ Below w.heap.size w w' ∧ (u.2 = 0 → ∃ g Ai ci, v = some ⟨g, 0, none⟩ ∧ RImg w' w.heap.size g Ai ci u.1) ∧ (u.2 ≠ 0 → v = none)
theorem getV_at (l : List UInt8) (a k : Nat) (hk : k = 2 ∨ k = 4) (h : a + k ≤ l.length) : getV l (a : Int) (k : Int) = (((le ((l.drop a).take k) : Nat) : Int), 0) := by
  unfold getV
  have h1 := le_lt ((l.drop a).take k)
  have h2 : ((l.drop a).take k).length ≤ 4 := by rw [List.length_take]; omega
  have h3 : 256 ^ ((l.drop a).take k).length ≤ 256 ^ 4 := Nat.pow_le_pow_right (by decide) h2
  have e : getN l a k = le ((l.drop a).take k) := by unfold getN; simp
  rw [if_pos (thereV_ok (by unfold knownB; simp; omega) (by omega) (by omega)), e, if_pos (by omega)]
theorem getV_out (l : List UInt8) (a k : Nat) (hk : k = 2 ∨ k = 4) (h : l.length < a + k) : getV l (a : Int) (k : Int) = (0, 3) := by
  unfold getV
  have : thereV l.length (a : Int) (k : Int) = 3 := by
    unfold thereV
    rw [if_pos (by unfold knownB; simp; omega), if_pos (by omega)]
  rw [this, if_neg (by decide)]
theorem own_capP {w : World} {B n c : Nat} {e : TypeId} {A : Option Addr} {xs : List Value} (h : w.ownsRow B e 1 (.slice A n c) n xs) (hn : 0 < n) : n ≤ c := by
  rcases h.2 with ⟨hv, hz⟩ | ⟨g', cap, cur, hv, _, _, hnc, _⟩
  · omega
  · injection hv with e1 e2 e3
    omega
theorem noU_lt (r : List UInt8) : noU r < 4294967296 := by
  unfold noU
  have h1 := le_lt (r.take 4)
  have h2 : (r.take 4).length ≤ 4 := by rw [List.length_take]; omega
  have h3 : 256 ^ (r.take 4).length ≤ 256 ^ 4 := Nat.pow_le_pow_right (by decide) h2
  omega
theorem kU_lt (r : List UInt8) : kU r < 65536 := by
  unfold kU
  have h1 := le_lt ((r.drop 4).take 2)
  have h2 : ((r.drop 4).take 2).length ≤ 2 := by rw [List.length_take]; omega
  have h3 : 256 ^ ((r.drop 4).take 2).length ≤ 256 ^ 2 := Nat.pow_le_pow_right (by decide) h2
  omega
set_option maxRecDepth 100000 in
set_option maxHeartbeats 8000000 in
theorem runp_any (A : Option Addr) (c : Nat) (b : List UInt8) (hb : b.length ≤ 20000) (hc : b.length ≤ c) (w : World) (hr : Reads w w.heap.size A (bv b)) :
    Calls Try.prog 29 #[.slice A b.length c] w (GivesRUp (upE b) w) := by
  by_cases h20 : b.length < 20
  · have HU := Lib.hid (show upE b = ([], 3) by unfold upE; rw [if_pos h20])
    go_enter Try.func29, Try.ntmps29
    go_wp2
    go_ret2
    exact ⟨none, by rw [HU.out]; rfl, Below.refl _ _, fun h => by rw [HU.out] at h; exact absurd h (by decide), fun _ => rfl⟩
  have HU := Lib.hid (show upE b = if sumB (b.take (b.length - 4)) ≠ b then ([], 4) else upI (b.take (b.length - 4)) by unfold upE; rw [if_neg h20])
  have hti : (b.take (b.length - 4)).length = b.length - 4 := by rw [List.length_take]; omega
  have hrt : Reads w w.heap.size A (bv (b.take (b.length - 4))) := by rw [← bv_take]; exact hr.take _
  have HT := Lib.hid (show ∃ k, b.length = k + 4 ∧ 16 ≤ k from ⟨b.length - 4, by omega, by omega⟩)
  obtain ⟨ad, rfl, -⟩ := hr.at_ (k := 0) (by rw [bv_len]; omega)
  generalize hinn : b.take (b.length - 4) = inn at *
  clear hinn
  obtain ⟨k, hk, hk16⟩ := HT.out
  have HBK := Lib.hid hk
  rw [hk] at hb hc hti ⊢
  rw [Nat.add_sub_cancel] at hti
  have HTI := Lib.hid hti
  have HRT := Lib.hid hrt
  have HRB := Lib.hid hr
  have HUH := Lib.hid (show upI inn = if inn.take 8 ≠ magicB then ([], 7) else if 14400 < le ((inn.drop 8).take 4) then ([], 2) else upF (le ((inn.drop 12).take 4)) (inn.drop 16) 0 (List.replicate (le ((inn.drop 8).take 4)) zblk) from rfl)
  have i1 : (k : Int) ≤ (c : Int) := by omega
  have i3 : k ≤ c := by omega
  have KS := Lib.hid (fun W hr => sealed_any (some ad) c inn W (by omega) hr)
  rw [hti] at KS
  clear hk h20 hti hrt HT hr
  go_enter Try.func29, Try.ntmps29
  have HSL := Lib.hid (show (sumB inn).length = k + 4 by rw [sumB_len, HTI.out])
  obtain ⟨T, hT⟩ : ∃ T, T = sumB inn := ⟨_, rfl⟩
  rw [← hT] at KS HSL HU
  clear hT
  go_upto_region 4 with fail
  go_cut [34] (fun s34 wx => ∃ q : Bool, s34 = .bool q ∧ Hid (q = decide (T ≠ b)) ∧ Hid (Below w.heap.size w wx))
  case first =>
    have cv0 := run_conv_bytes (P := Try.prog) w.drew 43 9 5 Try.underlying43 Try.underlying5 Try.underlying9 (k + 4) c HBK.out.symm HRB.out.drew
    have KS1 := Lib.hid (KS.out w.drew HRT.out.drew)
    clear KS
    go_region_with (go_at_call 27; refine KS1.out.mono ?_; rintro e w2 ⟨A2, c2, rfl, hown2, hb2⟩; rw [bv_len, HSL.out] at hown2; rw [bv_len, HSL.out]; have cv1 := run_conv_bytes (P := Try.prog) w2 43 9 5 Try.underlying43 Try.underlying5 Try.underlying9 (k + 4) c2 HSL.out.symm (Reads.of_own hown2); have cv2 := run_conv_bytes (P := Try.prog) w2 43 9 5 Try.underlying43 Try.underlying5 Try.underlying9 (k + 4) c HBK.out.symm (HRB.out.drew.ext hb2); have HB2 := Lib.hid (undrew hb2); clear hown2 hb2)
    all_goals
      go_wp2_with fail
      go_meet
      exact ⟨_, rfl, Lib.hid (by by_cases h : T = b <;> simp [h]), Lib.hid HB2.out⟩
  case rest =>
    obtain ⟨q, rfl, HQ, HB⟩ := hcut
    clear KS HRB HSL
    by_cases hTb : T = b
    case neg =>
      have HUU := Lib.hid (show upE b = ([], 4) by rw [HU.out, if_pos hTb])
      obtain rfl : q = true := by rw [HQ.out]; simp [hTb]
      clear hTb HQ
      go_wp2
      go_ret2
      exact ⟨none, by rw [HUU.out]; rfl, HB.out, fun h => by rw [HUU.out] at h; exact absurd h (by decide), fun _ => rfl⟩
    have HUU := Lib.hid (show upE b = upI inn by rw [HU.out, if_neg (fun h => h hTb)])
    obtain rfl : q = false := by rw [HQ.out]; simp [hTb]
    clear hTb HQ HU
    have HR1 := Lib.hid (HRT.out.below HB.out)
    have HM8 := Lib.hid (show (inn.take 8).length = 8 by rw [List.length_take, HTI.out]; omega)
    have cv := run_conv_bytes (P := Try.prog) _ 43 9 5 Try.underlying43 Try.underlying5 Try.underlying9 8 c HM8.out.symm (by rw [← bv_take]; exact HR1.out.take 8)
    have j8 : (8 : Int) ≤ (c : Int) := by omega
    have j9 : (8 : Int) ≤ (k : Int) := by omega
    obtain ⟨M, hM⟩ : ∃ M, M = inn.take 8 := ⟨_, rfl⟩
    rw [← hM] at cv HUH
    clear hM HM8
    by_cases hmg : M = magicB
    case neg =>
      have HR := Lib.hid (show upE b = ([], 7) by rw [HUU.out, HUH.out, if_pos hmg])
      have d1 : (M == [83, 67, 65, 78, 80, 65, 67, 75]) = false := by rw [beq_eq_false_iff_ne]; exact hmg
      clear hmg
      go_wp2
      go_ret2
      exact ⟨none, by rw [HR.out]; rfl, HB.out, fun h => by rw [HR.out] at h; exact absurd h (by decide), fun _ => rfl⟩
    have HI0 := Lib.hid (show upE b = if 14400 < le ((inn.drop 8).take 4) then ([], 2) else upF (le ((inn.drop 12).take 4)) (inn.drop 16) 0 (List.replicate (le ((inn.drop 8).take 4)) zblk) by
      rw [HUU.out, HUH.out, if_neg (fun h => h hmg)])
    subst hmg
    have d1 : (magicB == [83, 67, 65, 78, 80, 65, 67, 75]) = true := by decide
    have KG := Lib.hid (fun (a x : Int) (W : World) (hb : Below w.heap.size w W) => (show Calls Try.prog 54 #[.slice (some ad) k c, .int .i64 a, .int .i64 x] W fun e w' => e = .returned (.tuple #[.int .i64 (getV inn a x).1, .int .i64 (getV inn a x).2]) ∧ W = w' from by
      have := rget_any (some ad) c inn a x W _ (by rw [HTI.out]; simp only [reachBytes]; omega) (HRT.out.below hb)
      rw [HTI.out] at this
      exact this))
    have HG1 := Lib.hid (getV_at inn 8 4 (.inr rfl) (by rw [HTI.out]; omega))
    have HG2 := Lib.hid (getV_at inn 12 4 (.inr rfl) (by rw [HTI.out]; omega))
    have HN1 := Lib.hid (show le ((inn.drop 8).take 4) < 4294967296 from by have := numV_lt (k := 4) (by omega) (inn.drop 8); unfold numV at this; rw [if_neg (by rw [List.length_drop, HTI.out]; omega)] at this; exact this)
    have HN2 := Lib.hid (show le ((inn.drop 12).take 4) < 4294967296 from by have := numV_lt (k := 4) (by omega) (inn.drop 12); unfold numV at this; rw [if_neg (by rw [List.length_drop, HTI.out]; omega)] at this; exact this)
    obtain ⟨nb, hnb⟩ : ∃ nb, nb = le ((inn.drop 8).take 4) := ⟨_, rfl⟩
    obtain ⟨cnt, hcnt⟩ : ∃ cnt, cnt = le ((inn.drop 12).take 4) := ⟨_, rfl⟩
    rw [← hnb] at HI0 HG1 HN1
    rw [← hcnt] at HI0 HG2 HN2
    clear hnb hcnt
    go_wp2_with fail
    have K1 := KG.out 8 4 _ HB.out
    rw [show getV inn 8 4 = ((nb : Int), 0) from HG1.out] at K1
    refine K1.mono ?_
    rintro e w1 ⟨rfl, rfl⟩
    clear K1 HG1
    go_wp2_with fail
    have K2 := KG.out 12 4 _ HB.out
    rw [show getV inn 12 4 = ((cnt : Int), 0) from HG2.out] at K2
    refine K2.mono ?_
    rintro e w1 ⟨rfl, rfl⟩
    clear K2 HG2 cv
    by_cases hb' : nb ≤ 14400
    case neg =>
      have HR := Lib.hid (show upE b = ([], 2) by rw [HI0.out, if_pos (by omega)])
      have d2 : decide ((14400 : Int) < (nb : Int)) = true := decide_eq_true (by omega)
      clear hb'
      go_wp2
      go_ret2
      exact ⟨none, by rw [HR.out]; rfl, HB.out, fun h => by rw [HR.out] at h; exact absurd h (by decide), fun _ => rfl⟩
    have HI1 := Lib.hid (show upE b = upF cnt (inn.drop 16) 0 (List.replicate nb zblk) by rw [HI0.out, if_neg (by omega)])
    have d2 : decide ((14400 : Int) < (nb : Int)) = false := decide_eq_false (by omega)
    have KN := Lib.hid (rnew_ok nb hb')
    have HNB := Lib.hid hb'
    clear hb' HI0 HUH HUU
    obtain ⟨R, hR⟩ : ∃ R, R = upE b := ⟨_, rfl⟩
    have HR := Lib.hid hR
    rw [← hR] at HI1
    clear hR
    go_wp2_with fail
    refine (KN.out _).mono ?_
    rintro e w1 ⟨g, Ai, ci, rfl, hI1, hb1⟩
    have HRI := Lib.hid (hI1.mono HB.out.size)
    have HB1 := Lib.hid (below_then HB.out hb1)
    clear hI1 hb1 KN HB HR1
    go_wp2_with fail
    go_loopw [11, 12, 13] (fun s11 s12 s13 wr => ∃ (i at_ nx : Nat) (last : Int) (L : List (List UInt8)), s11 = .int .i64 (at_ : Int) ∧ s12 = .int .i64 last ∧ s13 = .int .i64 (i : Int) ∧ i ≤ cnt ∧ at_ ≤ k ∧ Hid (L.length = nb) ∧ Hid (R = upF (cnt - i) (inn.drop at_) nx L) ∧ Hid (RImg wr w.heap.size g Ai ci L) ∧ Hid (Each L) ∧ Hid (last = (nx : Int) - 1) ∧ Hid (Below w.heap.size w wr)) (fun _ _ s13 _ => cnt - (intOf s13).toNat)
    case atStart => exact ⟨0, 16, 0, -1, _, rfl, rfl, rfl, by omega, by omega, Lib.hid List.length_replicate, HI1, HRI, Lib.hid (each_rep nb), Lib.hid (by omega), HB1⟩
    case round =>
      obtain ⟨i, at_, nx, last, L, rfl, rfl, rfl, hi, hat, HLN, HUF, HRL, HEA, HLA, HB⟩ := hrel
      by_cases hlt : i < cnt
      case neg =>
        obtain rfl : i = cnt := by omega
        rw [Nat.sub_self] at HUF
        by_cases hk : at_ = k
        · subst hk
          have HRR := Lib.hid (show R = (L, 0) by rw [HUF.out]; unfold upF; rw [if_pos (List.drop_eq_nil_of_le (by rw [HTI.out]; exact Nat.le_refl _))])
          go_wp2
          go_ret2
          exact ⟨some ⟨g, 0, none⟩, by rw [← HR.out, HRR.out]; rfl, HB.out, fun _ => ⟨g, Ai, ci, rfl, by rw [← HR.out, HRR.out]; exact HRL.out⟩, fun h => by rw [← HR.out, HRR.out] at h; exact absurd rfl h⟩
        · have HRR := Lib.hid (show R = ([], 7) by
            rw [HUF.out]; unfold upF
            rw [if_neg (fun h => by have := congrArg List.length h; rw [List.length_drop, HTI.out] at this; simp at this; omega)])
          have d3 : ((at_ : Int) == (k : Int)) = false := by rw [beq_eq_false_iff_ne]; omega
          clear hk
          go_wp2
          go_ret2
          exact ⟨none, by rw [← HR.out, HRR.out]; rfl, HB.out, fun h => by rw [← HR.out, HRR.out] at h; exact absurd h (by decide), fun _ => rfl⟩
      have hdl : (inn.drop at_).length = k - at_ := by rw [List.length_drop, HTI.out]
      have HUS := Lib.hid (show R = if stE nb (inn.drop at_) nx = 0 then upF (cnt - (i + 1)) ((inn.drop at_).drop (6 + kU (inn.drop at_))) (noU (inn.drop at_) + 1) (L.set (noU (inn.drop at_)) (cU (inn.drop at_))) else ([], stE nb (inn.drop at_) nx) by
        rw [HUF.out, show cnt - i = (cnt - (i + 1)) + 1 by omega, ← HLN.out]; rfl)
      have HK1 := Lib.hid (KG.out (at_ : Int) 4 wr HB.out)
      have HK2 := Lib.hid (KG.out ((at_ : Int) + 4) 2 wr HB.out)
      have HEND := Lib.hid (fun (x : Int) (h : R = ([], x)) (h0 : x ≠ 0) => (show GivesRUp (upE b) w (.returned (.tuple #[.pointer none, .int .i64 x])) wr from
        ⟨none, by rw [← HR.out, h], HB.out, fun e => by rw [← HR.out, h] at e; exact absurd e h0, fun _ => rfl⟩))
      have hci : (i : Int) < (cnt : Int) := by omega
      have hcb : cnt < 4294967296 := HN2.out
      have HNO := Lib.hid (noU_lt (inn.drop at_))
      have HKU := Lib.hid (kU_lt (inn.drop at_))
      have HG1 := Lib.hid (show at_ + 4 ≤ k → getV inn (at_ : Int) 4 = (((noU (inn.drop at_) : Nat) : Int), 0) from fun h => getV_at inn at_ 4 (.inr rfl) (by rw [HTI.out]; omega))
      have HG2 := Lib.hid (show at_ + 6 ≤ k → getV inn ((at_ : Int) + 4) 2 = (((kU (inn.drop at_) : Nat) : Int), 0) from fun h => by
        have := getV_at inn (at_ + 4) 2 (.inl rfl) (by rw [HTI.out]; omega)
        rw [← List.drop_drop] at this
        exact this)
      have HG3 := Lib.hid (show k < at_ + 4 → getV inn (at_ : Int) 4 = (0, 3) from fun h => getV_out inn at_ 4 (.inr rfl) (by rw [HTI.out]; omega))
      have HG4 := Lib.hid (show k < at_ + 6 → getV inn ((at_ : Int) + 4) 2 = (0, 3) from fun h => getV_out inn (at_ + 4) 2 (.inl rfl) (by rw [HTI.out]; omega))
      have hlt2 := hlt
      clear KG hlt HUF
      by_cases hin : k < at_ + 6 + kU (inn.drop at_)
      · have HR3 := Lib.hid (HEND.out 3 (by rw [HUS.out, show stE nb (inn.drop at_) nx = 3 by unfold stE; rw [if_pos (by rw [hdl]; omega)]]; rfl) (by decide))
        by_cases h4 : k < at_ + 4
        · have K1 := HK1.out
          rw [HG3.out h4] at K1
          have K2 := HK2.out
          rw [HG4.out (by omega)] at K2
          clear HG1 HG2 HG3 HG4 HK1 HK2 hin h4 HUS hdl
          go_wp2_with fail
          refine K1.mono ?_
          rintro e w1 ⟨rfl, rfl⟩
          go_wp2_with fail
          refine K2.mono ?_
          rintro e w1 ⟨rfl, rfl⟩
          go_wp2
          go_ret2
          exact HR3.out
        · by_cases h6 : k < at_ + 6
          · have K1 := HK1.out
            rw [HG1.out (by omega)] at K1
            have K2 := HK2.out
            rw [HG4.out (by omega)] at K2
            clear HG1 HG2 HG3 HG4 HK1 HK2 hin h4 h6 HUS hdl
            go_wp2_with fail
            refine K1.mono ?_
            rintro e w1 ⟨rfl, rfl⟩
            go_wp2_with fail
            refine K2.mono ?_
            rintro e w1 ⟨rfl, rfl⟩
            go_wp2
            go_ret2
            exact HR3.out
          · have K1 := HK1.out
            rw [HG1.out (by omega)] at K1
            have K2 := HK2.out
            rw [HG2.out (by omega)] at K2
            have hku := HKU.out
            obtain ⟨n, hn⟩ : ∃ n, n = kU (inn.drop at_) := ⟨_, rfl⟩
            rw [← hn] at K2 hin hku
            have d3 : decide ((k : Int) < (at_ : Int) + 6 + (n : Int)) = true := decide_eq_true (by omega)
            clear HG1 HG2 HG3 HG4 HK1 HK2 hin h4 h6 HUS hdl hn
            go_wp2_with fail
            refine K1.mono ?_
            rintro e w1 ⟨rfl, rfl⟩
            go_wp2_with fail
            refine K2.mono ?_
            rintro e w1 ⟨rfl, rfl⟩
            go_wp2
            go_ret2
            exact HR3.out
      have K1 := HK1.out
      rw [HG1.out (by omega)] at K1
      have K2 := HK2.out
      rw [HG2.out (by omega)] at K2
      have HS1 := Lib.hid (show stE nb (inn.drop at_) nx = if nb ≤ noU (inn.drop at_) then 2 else if noU (inn.drop at_) < nx then 8 else if (looseR 256 (sU (inn.drop at_)) []).2 = 0 then (if (cU (inn.drop at_)).length = 256 ∧ zeroB (cU (inn.drop at_)) = false ∧ squeezeL (cU (inn.drop at_)) = sU (inn.drop at_) then 0 else 7) else (looseR 256 (sU (inn.drop at_)) []).2 by
        unfold stE; rw [if_neg (by rw [hdl]; omega)])
      have hrs : Reads wr w.heap.size (some (ad.add (at_ + 6))) (bv (sU (inn.drop at_))) := by
        have h1 := ((HRT.out.below HB.out).drop' (k := at_ + 6) (c := c) (by rw [HTI.out]; omega)).take (kU (inn.drop at_))
        rw [bv_take] at h1
        rw [if_neg (by omega)] at h1
        unfold sU
        rw [List.drop_drop]
        exact h1
      have hsl : (sU (inn.drop at_)).length = kU (inn.drop at_) := by unfold sU; rw [List.length_take, List.length_drop, hdl]; omega
      have hku := HKU.out
      have hno := HNO.out
      have hnx := HLA.out
      obtain ⟨n, hn⟩ : ∃ n, n = kU (inn.drop at_) := ⟨_, rfl⟩
      obtain ⟨no, hnno⟩ : ∃ no, no = noU (inn.drop at_) := ⟨_, rfl⟩
      obtain ⟨s, hs⟩ : ∃ s, s = sU (inn.drop at_) := ⟨_, rfl⟩
      rw [← hn] at K2 hin hku HUS hsl
      rw [← hnno] at K1 hno HUS HS1
      rw [← hs] at hrs HS1 hsl
      have HCU := Lib.hid (show cU (inn.drop at_) = (looseR 256 s []).1 by rw [hs]; rfl)
      obtain ⟨C, hC⟩ : ∃ C, C = cU (inn.drop at_) := ⟨_, rfl⟩
      rw [← hC] at HUS HS1 HCU
      obtain ⟨E, hE⟩ : ∃ E, E = (looseR 256 s []).2 := ⟨_, rfl⟩
      rw [← hE] at HS1
      have HE := Lib.hid hE
      have HRS := Lib.hid hrs
      have HSL := Lib.hid hsl
      have HDR := Lib.hid (show (inn.drop at_).drop (6 + n) = inn.drop (at_ + 6 + n) by rw [List.drop_drop]; congr 1; omega)
      rw [HDR.out] at HUS
      clear HG1 HG2 HG3 HG4 HK1 HK2 HKU HNO hdl hn hnno hs hC hE hrs hsl
      have d3 : decide ((k : Int) < (at_ : Int) + 6 + (n : Int)) = false := decide_eq_false (by omega)
      have i5 : (at_ : Int) + 6 + (n : Int) ≤ (k : Int) := by omega
      by_cases h1 : nb ≤ no
      · have HR2 := Lib.hid (HEND.out 2 (by rw [HUS.out, HS1.out, if_pos h1]; rfl) (by decide))
        have i9 : (nb : Int) ≤ (no : Int) := by omega
        clear HUS HS1 hin h1 hnx
        go_wp2_with fail
        refine K1.mono ?_
        rintro e w1 ⟨rfl, rfl⟩
        go_wp2_with fail
        refine K2.mono ?_
        rintro e w1 ⟨rfl, rfl⟩
        go_wp2
        go_ret2
        exact HR2.out
      rw [if_neg h1] at HS1
      have d4 : decide (nb ≤ no) = false := decide_eq_false h1
      by_cases h2 : no < nx
      · have HR2 := Lib.hid (HEND.out 8 (by rw [HUS.out, HS1.out, if_pos h2]; rfl) (by decide))
        have d5 : decide ((no : Int) ≤ last) = true := decide_eq_true (by rw [hnx]; omega)
        clear HUS HS1 hin h1 h2 hnx
        go_wp2_with fail
        refine K1.mono ?_
        rintro e w1 ⟨rfl, rfl⟩
        go_wp2_with fail
        refine K2.mono ?_
        rintro e w1 ⟨rfl, rfl⟩
        go_wp2
        go_ret2
        exact HR2.out
      rw [if_neg h2] at HS1
      have d5 : decide ((no : Int) ≤ last) = false := decide_eq_false (by rw [hnx]; omega)
      have HNN := Lib.hid (show no < nb by omega)
      have j1 : ¬ (c = at_ + 6) := by omega
      have j2 : (at_ : Int) + 6 + (n : Int) ≤ (c : Int) := by omega
      have j3 : n ≤ c - (at_ + 6) := by omega
      have KL := Lib.hid (rloose_any (some (ad.add (at_ + 6))) (c - (at_ + 6)) s 256 (by omega) (by omega) (by rw [HSL.out]; omega) (by rw [HSL.out]; omega) wr (HRS.out.more HB.out.size))
      rw [HSL.out, ← HCU.out, ← HE.out] at KL
      clear hin h1 h2 hnx
      go_wp2_with fail
      refine K1.mono ?_
      rintro e w1 ⟨rfl, rfl⟩
      go_wp2_with fail
      refine K2.mono ?_
      rintro e w1 ⟨rfl, rfl⟩
      clear K1 K2
      go_wp2_with fail
      refine KL.out.mono ?_
      rintro e w5 ⟨A5, c5, rfl, hown5, hb5⟩
      have HB5 := Lib.hid (below_then HB.out hb5)
      have HR5 := Lib.hid (Reads.of_own hown5)
      have HS5 := Lib.hid ((HRS.out.more HB.out.size).ext hb5)
      have HI5 := Lib.hid (HRL.out.below hb5)
      have HEND5 := Lib.hid (fun (x : Int) (h : R = ([], x)) (h0 : x ≠ 0) => (show ∀ W, Below w.heap.size w W → GivesRUp (upE b) w (.returned (.tuple #[.pointer none, .int .i64 x])) W from fun W hbW =>
        ⟨none, by rw [← HR.out, h], hbW, fun e => by rw [← HR.out, h] at e; exact absurd e h0, fun _ => rfl⟩))
      rw [bv_len]
      have hown5' := hown5
      clear hown5 hb5 HEND KL
      by_cases hE0 : E = 0
      case neg =>
        have HR2 := Lib.hid (HEND5.out E (by rw [HUS.out, HS1.out, if_neg hE0, if_neg hE0]) hE0 _ HB5.out)
        have d6 : (E != 0) = true := by rw [bne_iff_ne]; exact hE0
        clear hE0 HUS HS1
        go_wp2
        go_ret2
        exact HR2.out
      rw [if_pos hE0] at HS1
      subst hE0
      by_cases hC256 : C.length = 256
      case neg =>
        have HS7 : stE nb (inn.drop at_) nx = 7 := by rw [HS1.out, if_neg (fun h => hC256 h.1)]
        have HR2 := Lib.hid (HEND5.out 7 (by rw [HUS.out, HS7]; rfl) (by decide))
        have d6 : ((C.length : Int) != 256) = true := by rw [bne_iff_ne]; omega
        clear hC256 HUS HS1 HS7
        go_wp2_with fail
        go_quiet (fail)
        go_wp2
        go_ret2
        exact HR2.out _ (below_drewN HB5.out _)
      have HCAP := Lib.hid (show 256 ≤ c5 from by rw [bv_len, hC256] at hown5'; exact own_capP hown5' (by omega))
      rw [hC256]
      have KZ := Lib.hid (fun m => (show Calls Try.prog 50 #[.slice A5 256 c5] (w5.drewN m) fun e w' => e = .returned (.bool (zeroB C)) ∧ w' = w5.drewN m from by
        have := rzero_any A5 c5 C (w5.drewN m) _ (by rw [hC256]; decide) (HR5.out.drewN m)
        rw [hC256] at this
        exact this.mono fun e w' ⟨h1, h2⟩ => ⟨h1, h2.symm⟩))
      cases hz : zeroB C with
      | true =>
        have HS7 : stE nb (inn.drop at_) nx = 7 := by rw [HS1.out, hz, if_neg (fun h => absurd h.2.1 (by decide))]
        have HR2 := Lib.hid (HEND5.out 7 (by rw [HUS.out, HS7]; rfl) (by decide))
        have kz := KZ.out
        rw [hz] at kz
        clear hz HUS HS1 HS7
        go_wp2_with fail
        go_quiet ((go_at_call 50; exact Calls.quiet_of_same (kz _)))
        go_wp2
        go_ret2
        exact HR2.out _ (below_drewN HB5.out _)
      | false =>
        have kz := KZ.out 1
        rw [hz] at kz
        have KZ1 := Lib.hid (show Calls Try.prog 50 #[.slice A5 256 c5] w5.drew fun e w' => e = .returned (.bool false) ∧ w5.drew = w' from kz.mono fun e w' ⟨h1, h2⟩ => ⟨h1, h2.symm⟩)
        have HS2 := Lib.hid (show stE nb (inn.drop at_) nx = if squeezeL C = s then 0 else 7 by
          rw [HS1.out]
          by_cases hq : squeezeL C = s
          · rw [if_pos ⟨hC256, hz, hq⟩, if_pos hq]
          · rw [if_neg (fun h => hq h.2.2), if_neg hq])
        have H256 := Lib.hid hC256
        have KQ := Lib.hid (show Calls Try.prog 48 #[.slice A5 256 c5] w5.drew (Gives 5 (bv (squeezeL C)) w5.drew) from by
          have := rsq_any A5 c5 C (by omega) (by rw [hC256]; exact HCAP.out) w5.drew (HR5.out.drew.more (by simp))
          rw [hC256] at this
          exact this)
        clear hz hC256 kz KZ HS1
        obtain ⟨Q, hQ⟩ : ∃ Q, Q = squeezeL C := ⟨_, rfl⟩
        rw [← hQ] at HS2 KQ
        clear hQ
        go_upto_region 30 with fail
        go_cut [125] (fun s125 wx => ∃ q : Bool, s125 = .bool q ∧ Hid (q = decide (Q ≠ s)) ∧ Hid (Below w5.heap.size w5 wx))
        case first =>
          have hs6 : Reads w5 w5.heap.size (some ⟨ad.block, ad.off + (at_ + 5 + 1), none⟩) (bv s) := HS5.out
          have HS6 := Lib.hid hs6
          clear hs6
          have cv0 := run_conv_bytes (P := Try.prog) w5.drew 43 9 5 Try.underlying43 Try.underlying5 Try.underlying9 n (c - (at_ + 6)) HSL.out.symm HS6.out.drew
          go_region_with (first
            | (go_at_call 50; refine KZ1.out.mono ?_; rintro e w6 ⟨rfl, rfl⟩)
            | (go_at_call 48; refine KQ.out.mono ?_; rintro e w6 ⟨A6, c6, rfl, hown6, hb6⟩; rw [bv_len] at hown6; rw [bv_len]; have cv1 := run_conv_bytes (P := Try.prog) w6 43 9 5 Try.underlying43 Try.underlying5 Try.underlying9 Q.length c6 rfl (Reads.of_own hown6); have cv2 := run_conv_bytes (P := Try.prog) w6 43 9 5 Try.underlying43 Try.underlying5 Try.underlying9 n (c - (at_ + 6)) HSL.out.symm (HS6.out.drew.ext hb6); have HB6 := Lib.hid (undrew hb6); clear hown6 hb6))
          all_goals
            go_wp2_with fail
            go_meet
            exact ⟨_, rfl, Lib.hid (by by_cases h : Q = s <;> simp [h]), Lib.hid HB6.out⟩
        case rest =>
          obtain ⟨q, rfl, HQ, HB6⟩ := hcut
          have HW6 := Lib.hid (below_then HB5.out HB6.out)
          clear KQ KZ1
          by_cases hq : Q = s
          case neg =>
            have HR2 := Lib.hid (HEND5.out 7 (by rw [HUS.out, HS2.out, if_neg hq]; rfl) (by decide) _ HW6.out)
            obtain rfl : q = true := by rw [HQ.out]; simp [hq]
            clear hq HQ
            go_wp2
            go_ret2
            exact HR2.out
          have HRR := Lib.hid (show R = upF (cnt - (i + 1)) (inn.drop (at_ + 6 + n)) (no + 1) (L.set no C) by rw [HUS.out, HS2.out, if_pos hq]; rfl)
          obtain rfl : q = false := by rw [HQ.out]; simp [hq]
          have hw0 : wrE (L.length * 256) (no : Int) C.length = 0 := wrE_zero.2 ⟨by omega, by
            have h1 := HNN.out
            have h2 := HLN.out
            omega, H256.out⟩
          have KW := rwrite_img (HI5.out.below HB6.out) (no : Int) A5 c5 C (HR5.out.ext HB6.out)
          rw [hw0, if_pos rfl, Int.toNat_natCast, H256.out] at KW
          have KW := Lib.hid KW
          have HROW := Lib.hid ((HI5.out.below HB6.out).2.1)
          have hat2 : at_ + 6 + n ≤ k := by omega
          clear hq HQ hw0 HUS HS2 d3 d4 d5
          go_wp2_with fail
          refine KW.out.mono ?_
          rintro e w7 ⟨rfl, hI7, hg7⟩
          have HI7 := Lib.hid hI7
          have HB7 := Lib.hid (HW6.out.grown hg7 HW6.out.size (fun k hk => row_ge HROW.out hk))
          clear hI7 hg7
          go_wp2
          go_roundw
          case rel => exact ⟨i + 1, at_ + 6 + n, no + 1, no, L.set no C, by go_num, rfl, by go_num, by omega, hat2, Lib.hid (by rw [List.length_set]; exact HLN.out), HRR, HI7, Lib.hid (each_set HEA.out _ _ H256.out), Lib.hid (by omega), HB7⟩
          case measure => simp [intOf]; omega
end Go.Proofs.Ytcnalndhlonblaa
