/-
  Chapter 3's ImageApart, walked.
-/
import Derived.Test.YtnebmkkaobedaaaLaw03D
import Derived.Test.YtnebmkkaobedaaaLaw03B
namespace Go.Proofs.Ytnebmkkaobedaaa
open Go.RowKit

theorem grown_trans {w w2 w3 : World} {r : Option Nat} (h : w.grownBy w2 r) (k : w2.grownBy w3 r) : w.grownBy w3 r :=
  ⟨k.os.trans h.os, k.tape.trans h.tape, k.output.trans h.output, Nat.le_trans h.size k.size, fun i hi hne => (k.block i (Nat.lt_of_lt_of_le hi h.size) hne).trans (h.block i hi hne)⟩
theorem own_apart {w : World} {B e n : Nat} {v : Value} {xs : List Value} (h : w.ownsRow B e 1 v n xs) {r : Option Nat} (hr : ∀ k, r = some k → k < B) : v.ownBlock = none ∨ v.ownBlock ≠ r := by
  cases hv : v.ownBlock with
  | none => exact .inl rfl
  | some k =>
    right
    intro e
    have h1 := (h.lt k hv).1
    have h2 := hr k e.symm
    omega
theorem Img.apart {w w' : World} {B g : Nat} {A : Option Addr} {c : Nat} {bs : List UInt8} (h : Img w B g A c bs) {r : Option Nat} (hg : w.grownBy w' r) (hr : ∀ k, r = some k → k < B) : Img w' B g A c bs :=
  h.kept hg (fun e => by have := hr g e; have := h.2.2.2; omega) (own_apart h.2.1 hr)
theorem below_grown {w w' : World} {B : Nat} {r : Option Nat} (h : w.grownBy w' r) (hB : B ≤ w.heap.size) (hr : ∀ k, r = some k → B ≤ k) : Below B w w' := (Below.refl B w).grown h hB hr
theorem apart_e (l : List UInt8) (h : l.length ≤ 6000) : (irdE (imgOf l).length 0 = 0 ↔ 256 ≤ l.length) := by
  rw [irdE_zero, (imgOf_small l h).1]
  omega
set_option maxRecDepth 100000 in
set_option maxHeartbeats 4000000 in
theorem law_ImageApart (A0 : Option Addr) (c0 : Nat) (l0 : List UInt8) (A1 : Option Addr) (c1 : Nat) (l1 : List (Int × List UInt8)) (w : World)
    (q0 : l0.length ≤ c0) (m0 : l0.length ≤ reachBytes) (r0 : Reads w w.heap.size A0 (bv l0))
    (_q1 : l1.length ≤ c1) (m1 : l1.length * 32 ≤ reachBytes) (_f1 : ∀ p ∈ l1, (Lit.int .i64 p.1).wf = true ∧ p.2.length ≤ reachBytes) (r1 : StepsAt w w.heap.size A1 l1) :
    Calls Try.prog 15 #[.slice A0 l0.length c0, .slice A1 l1.length c1] w fun e w' => e = .returned (.bool true) ∧ Below w.heap.size w w' := by
  have hfew := few_any A1 c1 l1 w m1 r1
  have hof := iof_any A0 c0 l0 w q0 m0 r0
  have mm0 := m0
  have mm1 := m1
  simp only [reachBytes] at mm0 mm1
  by_cases h1 : 6000 < l0.length
  · have d1 : decide (6000 < (l0.length : Int)) = true := decide_eq_true (by omega)
    clear hfew hof
    go_enter Try.func15, Try.ntmps15
    go_wp2_with fail
    refine (lives03 _).mono ?_
    rintro e w1 ⟨rfl, hb⟩
    go_wp2
    go_ret
    exact ⟨rfl, hb⟩
  have d1 : decide (6000 < (l0.length : Int)) = false := decide_eq_false (by omega)
  have HE := Lib.hid (apart_e l0 (by omega))
  have cv0 := Lib.hid (fun W (hb : Below w.heap.size w W) => run_conv_bytes (P := Try.prog) W 30 9 5 Try.underlying30 Try.underlying5 Try.underlying9 l0.length c0 rfl (r0.below hb))
  have v0 := cv0.out w (Below.refl _ _)
  go_enter Try.func15, Try.ntmps15
  go_wp2_with fail
  refine hfew.mono ?_
  rintro e w1 ⟨b, rfl, rfl⟩
  clear hfew d1
  cases b with
  | false =>
    go_wp2_with fail
    refine (lives03 _).mono ?_
    rintro e w1 ⟨rfl, hb⟩
    go_wp2
    go_ret
    exact ⟨rfl, hb⟩
  | true =>
  go_wp2_with fail
  refine hof.mono ?_
  rintro e w1 ⟨g1, Ai, ci, rfl, hI, hB1⟩
  clear hof v0
  have hrow : ∀ k, (Value.slice Ai (imgOf l0).length ci).ownBlock = some k → w.heap.size ≤ k ∧ k < w1.heap.size := fun k hk => hI.2.1.lt k hk
  obtain ⟨row, hrw⟩ : ∃ r, r = (Value.slice Ai (imgOf l0).length ci).ownBlock := ⟨_, rfl⟩
  rw [← hrw] at hrow
  have HROW := Lib.hid hrow
  have HRW := Lib.hid hrw
  have hlen0 : (imgOf l0).length ≤ 3686400 := hI.2.2.1
  generalize imgOf l0 = bs at *
  clear hrow hrw
  go_wp2_with fail
  refine (icopy_any hI).mono ?_
  rintro e w2 ⟨g2, A2, c2, rfl, hC, hb⟩
  have hB2 := below_then hB1 hb
  have hI2 := hI.below hb
  have hs12 := hb.size
  clear hI hb
  go_wp2_with fail
  refine (ibytes_any hI2).mono ?_
  rintro e w3 ⟨A3, c3, rfl, hT, hb⟩
  rw [bv_len] at hT
  rw [bv_len]
  have hB3 := below_then hB2 hb
  have hI3 := hI2.below hb
  have hC3 := hC.below hb
  have hs23 := hb.size
  have v3 := conv_own bs rfl hT
  clear hI2 hC hb
  go_wp2_with fail
  refine (iread_any hI3 0).mono ?_
  rintro e w4 ⟨A4, c4, rfl, hF, hb⟩
  rw [bv_len] at hF
  rw [bv_len]
  have hB4 := below_then hB3 hb
  have hI4 := hI3.below hb
  have hC4 := hC3.below hb
  have hT4 := own_keep hT hb
  have hs34 := hb.size
  have v4 := conv_own (irdB bs 0) rfl hF
  clear hI3 hC3 hT hb v3
  have hrd : ∀ W (h : Img W w1.heap.size g2 A2 c2 bs), _ := fun W h => iread_any h 0
  generalize irdB bs 0 = fst at *
  generalize irdE bs.length 0 = e0 at *
  have HRD := Lib.hid hrd
  clear hrd
  go_wp2_with fail
  clear v4
  go_loopw [13] (fun i wr => ∃ (k : Nat) (ms : List UInt8), k ≤ l1.length ∧ i = .int .i64 k ∧ Img wr w.heap.size g1 Ai ci ms ∧ ms.length = bs.length ∧ w4.grownBy wr row) (fun i _ => l1.length - (intOf i).toNat)
  case atStart => exact ⟨0, bs, by omega, rfl, hI4, rfl, World.grownBy.refl w4 _⟩
  case round =>
    obtain ⟨k, ms, hk, rfl, hM, hml, hg4⟩ := hrel
    have hbr : Below w.heap.size w wr := hB4.trans (below_grown hg4 hB4.size (fun j hj => (HROW.out j hj).1))
    by_cases hlt : k < l1.length
    · obtain ⟨b, o, rfl, hbb, hc⟩ := r1.below hbr (by omega)
      obtain ⟨s1, sa, sc, s2, s3⟩ := hc k _ (List.getElem?_eq_getElem hlt)
      clear hc
      generalize l1[k] = q at *
      obtain ⟨qk, qb⟩ := q
      simp only at s1 s2 s3
      have hi0 : (0 : Int) ≤ (k : Int) := by omega
      have hi1 : (k : Int) < (l1.length : Int) := by omega
      have c1 := iwrite_any (w := wr.drew) hM qk sa sc qb s3
      have hwl := wrB_len ms qk qb
      rw [hml] at hwl
      have HWL := Lib.hid hwl
      have hr : (Value.slice Ai ms.length ci).ownBlock = row := by rw [HRW.out, hml]
      rw [hr] at c1
      generalize wrB ms qk qb = ms2 at *
      generalize wrE ms.length qk qb.length = we at *
      clear hwl hr
      go_wp2_with fail
      go_region_held3 (fun W => W.cell? ⟨b, o + k * 2, none⟩ = some (.int .i64 qk) ∧ W.cell? ⟨b, o + k * 2 + 1, none⟩ = some (.slice sa qb.length sc)) (first | go_keep | exact And.imp (fun h => (hb3.cell (p := ⟨b, _, none⟩) hbb).trans h) (fun h => (hb3.cell (p := ⟨b, _, none⟩) hbb).trans h) (by assumption)) (first | (go_at_call 46; refine c1.mono ?_; rintro e w5 ⟨rfl, hM5, hg5⟩; have hb3 : Below w.heap.size wr w5 := ((Below.refl w.heap.size wr).drew).grown hg5 hbr.size (fun j hj => (HROW.out j hj).1)))
      have hg5' : wr.grownBy w5 row := ⟨hg5.os, hg5.tape, hg5.output, hg5.size, hg5.block⟩
      clear c1
      go_wp2_with fail
      go_roundw
      case rel => exact ⟨k + 1, ms2, by omega, by go_num, hM5, HWL.out, grown_trans hg4 hg5'⟩
      case measure => simp [intOf]; omega
    · obtain rfl : k = l1.length := by omega
      have hC5 := hC4.apart hg4 (fun j hj => (HROW.out j hj).2)
      have hT5 := hT4.kept hg4 (own_apart hT4 (fun j hj => by have := (HROW.out j hj).2; omega))
      have hF5 := hF.kept hg4 (own_apart hF (fun j hj => by have := (HROW.out j hj).2; omega))
      clear hM hml hg4 hI4 hC4 hT4 hF hB4
      go_wp2_with fail
      refine (HRD.out _ hC5).mono ?_
      rintro e w6 ⟨A6, c6, rfl, hG, hb⟩
      rw [bv_len] at hG
      rw [bv_len]
      have hB6 := hbr.trans (hb.mono hbr.size)
      have hC6 := hC5.below hb
      have v0 := cv0.out w6 hB6
      have v1 := conv_own bs rfl (own_keep hT5 hb)
      have v2 := conv_own fst rfl (own_keep hF5 hb)
      clear hC5 hT5 hF5 hb
      go_wp2_with fail
      refine (ibytes_any hC6).mono ?_
      rintro e w7 ⟨A7, c7, rfl, hD, hb⟩
      rw [bv_len] at hD
      rw [bv_len]
      have hB7 := hB6.trans (hb.mono hB6.size)
      have v3 := conv_own bs rfl hD
      have v4 := conv_own fst rfl (own_keep hG hb)
      have hE := HE.out
      by_cases he : 256 ≤ l0.length
      · have e1 : e0 = 0 := hE.2 he
        have d2 : decide (256 ≤ (l0.length : Int)) = true := decide_eq_true (by omega)
        subst e1
        clear hC6 hG hD hb hE v0 v1 v2
        go_wp2_with fail
        refine (lives03 _).mono ?_
        rintro e w8 ⟨rfl, hb⟩
        have hB8 := hB7.trans (hb.mono hB7.size)
        go_wp2
        go_ret
        exact ⟨rfl, hB8⟩
      · have e1 : (e0 == 0) = false := beq_eq_false_iff_ne.2 (fun h => he (hE.1 h))
        have d2 : decide (256 ≤ (l0.length : Int)) = false := decide_eq_false (by omega)
        have d3 : (e0 == e0) = true := by simp
        clear hC6 hG hD hb hE v0 v1 v2
        go_wp2_with fail
        refine (lives03 _).mono ?_
        rintro e w8 ⟨rfl, hb⟩
        have hB8 := hB7.trans (hb.mono hB7.size)
        go_wp2
        go_ret
        exact ⟨rfl, hB8⟩
end Go.Proofs.Ytnebmkkaobedaaa
