/-
  Chapter 3's few, and ImagePlays, walked.
-/
import Derived.Test.YtnebmkkaobedaaaLaw03
import Derived.Test.YtnebmkkaobedaaaLaw03P
import Derived.BigQuiet
import Derived.Deep.QuietTactic
import Derived.Test.YtnebmkkaobedaaaOpen2
namespace Go.Proofs.Ytnebmkkaobedaaa
open Go.RowKit

/-- some bool, and nothing has changed -/
def SomeBool (w : World) (e : Ending) (w' : World) : Prop := ∃ b : Bool, e = .returned (.bool b) ∧ w = w'
def SomeInt (v : Value) : Prop := ∃ x : Int, v = .int .i64 x
set_option maxHeartbeats 1000000 in
theorem few_any (A : Option Addr) (c : Nat) (ls : List (Int × List UInt8)) (w : World) (hm : ls.length * 32 ≤ reachBytes) (h : StepsAt w w.heap.size A ls) :
    Calls Try.prog 43 #[.slice A ls.length c] w (SomeBool w) := by
  simp only [reachBytes] at hm
  go_enter Try.func43, Try.ntmps43
  go_wp2_with fail
  go_loop [3, 4] (fun n i => ∃ (k : Nat) (x : Int), k ≤ ls.length ∧ i = .int .i64 k ∧ n = .int .i64 x) (fun _ i => ls.length - (intOf i).toNat)
  case atStart => exact ⟨0, 0, by omega, rfl, rfl⟩
  case round =>
    obtain ⟨k, x, hk, rfl, rfl⟩ := hrel
    by_cases hlt : k < ls.length
    · by_cases h31 : k < 31
      · have d2 : decide ((k : Int) < 31) = true := decide_eq_true (by omega)
        obtain ⟨b, o, rfl, hbb, hc⟩ := h (by omega)
        obtain ⟨h1, a, c', h2, h3⟩ := hc k _ (List.getElem?_eq_getElem hlt)
        clear hc h3
        generalize ls[k] = q at *
        go_wp2
        go_round
        case rel => exact ⟨k + 1, _, by omega, by go_num, rfl⟩
        case measure => simp [intOf]; omega
      · have d2 : decide ((k : Int) < 31) = false := decide_eq_false (by omega)
        go_wp2
        all_goals
          go_ret
          exact ⟨_, rfl, rfl⟩
    · obtain rfl : k = ls.length := by omega
      go_wp2
      all_goals
        go_ret
        exact ⟨_, rfl, rfl⟩
/-- the two images side by side -/
def Two (w : World) (B1 B2 g1 : Nat) (A1 : Option Addr) (c1 g2 : Nat) (A2 : Option Addr) (c2 : Nat) (L : List (List UInt8)) : Prop :=
  Img w B1 g1 A1 c1 L.flatten ∧ RImg w B2 g2 A2 c2 L ∧ Each L
theorem Two.below {w w' : World} {B1 B2 g1 : Nat} {A1 : Option Addr} {c1 g2 : Nat} {A2 : Option Addr} {c2 : Nat} {L : List (List UInt8)} (h : Two w B1 B2 g1 A1 c1 g2 A2 c2 L) (hb : Below w.heap.size w w') : Two w' B1 B2 g1 A1 c1 g2 A2 c2 L :=
  ⟨h.1.below hb, h.2.1.below hb, h.2.2⟩
/-- behind both writes -/
theorem Two.written {w2 w3 : World} {B1 B2 g1 : Nat} {A1 : Option Addr} {c1 g2 : Nat} {A2 : Option Addr} {c2 : Nat} {L L' : List (List UInt8)}
    (hI : Img w2 B1 g1 A1 c1 L'.flatten) (hR : RImg w3 B2 g2 A2 c2 L') (hg2 : w2.grownBy w3 (Value.slice A2 L.length c2).ownBlock) (hR2 : RImg w2 B2 g2 A2 c2 L) (hE : Each L') : Two w3 B1 B2 g1 A1 c1 g2 A2 c2 L' := by
  refine ⟨hI.kept hg2 ?_ (own_ne hI.2.1 hR2.2.1 (by decide)), hR, hE⟩
  intro e
  exact hI.1.not_row (by decide) hR2.2.1 e.symm
theorem below_drewN' {B : Nat} {w w' : World} (h : Below B w w') (k : Nat) : Below B w (w'.drewN k) := ⟨h.os, h.tape, h.output, h.size, h.block⟩
set_option maxRecDepth 100000 in
set_option maxHeartbeats 4000000 in
theorem law_ImagePlays (A0 : Option Addr) (c0 : Nat) (l0 : List UInt8) (A1 : Option Addr) (c1 : Nat) (l1 : List (Int × List UInt8)) (w : World)
    (q0 : l0.length ≤ c0) (m0 : l0.length ≤ reachBytes) (r0 : Reads w w.heap.size A0 (bv l0))
    (_q1 : l1.length ≤ c1) (m1 : l1.length * 32 ≤ reachBytes) (_f1 : ∀ p ∈ l1, (Lit.int .i64 p.1).wf = true ∧ p.2.length ≤ reachBytes) (r1 : StepsAt w w.heap.size A1 l1) :
    Calls Try.prog 11 #[.slice A0 l0.length c0, .slice A1 l1.length c1] w fun e w' => e = .returned (.bool true) ∧ Below w.heap.size w w' := by
  have hfew := few_any A1 c1 l1 w m1 r1
  have hof := iof_any A0 c0 l0 w q0 m0 r0
  have hro := fun W hb => rof_any A0 c0 l0 W q0 m0 ((r0.ext (w' := W) hb))
  have mm0 := m0
  have mm1 := m1
  simp only [reachBytes] at mm0 mm1
  by_cases h1 : 6000 < l0.length
  · have d1 : decide (6000 < (l0.length : Int)) = true := decide_eq_true (by omega)
    clear hfew hof hro
    go_enter Try.func11, Try.ntmps11
    go_wp2_with fail
    refine (lives03 _).mono ?_
    rintro e w1 ⟨rfl, hb⟩
    go_wp2
    go_ret
    exact ⟨rfl, hb⟩
  have d1 : decide (6000 < (l0.length : Int)) = false := decide_eq_false (by omega)
  go_enter Try.func11, Try.ntmps11
  go_wp2_with fail
  refine hfew.mono ?_
  rintro e w1 ⟨b, rfl, rfl⟩
  clear hfew d1
  cases b with
  | false =>
    go_wp2_with fail
    refine (lives03 _).mono ?_
    rintro e w1 ⟨rfl, hb⟩
    go_wp2
    go_ret
    exact ⟨rfl, hb⟩
  | true =>
  go_wp2_with fail
  refine hof.mono ?_
  rintro e w1 ⟨g1, Ai, ci, rfl, hI, hB1⟩
  clear hof
  go_wp2_with fail
  refine (hro _ hB1).mono ?_
  rintro e w2 ⟨g2, Ar, cr, rfl, hR, hb⟩
  clear hro
  have hB2 := below_then hB1 hb
  have hI2 := hI.below hb
  obtain ⟨hEa, hfl⟩ := of_each l0
  rw [← hfl] at hI2
  have hT : Two w2 w.heap.size w1.heap.size g1 Ai ci g2 Ar cr (rimgOf l0) := ⟨hI2, hR, hEa⟩
  have hsz1 := hB1.size
  obtain ⟨n, hn⟩ : ∃ n, (rimgOf l0).length = n := ⟨_, rfl⟩
  have HN := Lib.hid hn
  generalize rimgOf l0 = L0 at *
  clear hI hI2 hR hEa hfl hb hB1 hn
  go_wp2_with fail
  go_loopw [7] (fun i wr => ∃ (k : Nat) (L : List (List UInt8)), k ≤ l1.length ∧ i = .int .i64 k ∧ Two wr w.heap.size w1.heap.size g1 Ai ci g2 Ar cr L ∧ L.length = n ∧ Below w.heap.size w wr) (fun i _ => l1.length - (intOf i).toNat)
  case atStart => exact ⟨0, L0, by omega, rfl, hT, HN.out, hB2⟩
  case round =>
    obtain ⟨k, L, hk, rfl, hT, hL, hbr⟩ := hrel
    by_cases hlt : k < l1.length
    · obtain ⟨b, o, rfl, hbb, hc⟩ := r1.below hbr (by omega)
      obtain ⟨s1, sa, sc, s2, s3⟩ := hc k _ (List.getElem?_eq_getElem hlt)
      clear hc
      generalize l1[k] = q at *
      obtain ⟨qk, qb⟩ := q
      simp only at s1 s2 s3
      have hi0 : (0 : Int) ≤ (k : Int) := by omega
      have hi1 : (k : Int) < (l1.length : Int) := by omega
      obtain ⟨p1, p2, p3⟩ := flat_put hT.2.2 qk qb
      have hfl := each_len hT.2.2
      have hrow : (Value.slice Ai L.flatten.length ci).ownBlock = (Value.slice Ai (L.length * 256) ci).ownBlock := by rw [hfl]
      have c1 := fun W hb => iwrite_any (hT.1.below (w' := W) hb) qk sa sc qb (s3.below (w' := W) (hb.mono hbr.size))
      have c2 := fun W (hR : RImg W w1.heap.size g2 Ar cr L) (hb : Below w.heap.size wr W) => rwrite_img hR qk sa sc qb (s3.below hb)
      rw [hfl, p1] at c1
      obtain ⟨L', hL'⟩ : ∃ L', L' = (if wrE (L.length * 256) qk qb.length = 0 then L.set qk.toNat qb else L) := ⟨_, rfl⟩
      rw [← hL'] at p2 p3 c1 c2
      have HB := Lib.hid (fun w3 (hg : wr.drew.grownBy w3 (Value.slice Ai (L.length * 256) ci).ownBlock) => (show Below w.heap.size wr w3 from
        ((Below.refl w.heap.size wr).drew).grown hg (by rw [World.size_drew]; exact hbr.size) (fun k hk => (hT.1.2.1.lt k (by rw [hrow]; exact hk)).1)))
      have HR := Lib.hid (fun w3 (hg : wr.drew.grownBy w3 (Value.slice Ai (L.length * 256) ci).ownBlock) => (show RImg w3 w1.heap.size g2 Ar cr L from
        RImg.kept (w := wr.drew) hT.2.1 hg (by rw [← hrow]; exact fun e => hT.2.1.1.not_row (by decide) hT.1.2.1 e.symm) (by rw [← hrow]; exact own_ne hT.2.1.2.1 hT.1.2.1 (by decide))))
      have C1 := Lib.hid c1
      have C2 := Lib.hid c2
      have HP2 := Lib.hid p2
      have HP3 := Lib.hid p3
      have d5 : (wrE (L.length * 256) qk qb.length != wrE (L.length * 256) qk qb.length) = false := by simp
      clear c1 c2 p1 p2 p3 hL' hfl hrow
      generalize wrE (L.length * 256) qk qb.length = we at *
      go_upto_region 9 with fail
      go_cut [57] (fun s57 wx => s57 = .bool false ∧ Two wx w.heap.size w1.heap.size g1 Ai ci g2 Ar cr L' ∧ Below w.heap.size wr wx)
      case first =>
        go_region_held3 (fun W => W.cell? ⟨b, o + k * 2, none⟩ = some (.int .i64 qk) ∧ W.cell? ⟨b, o + k * 2 + 1, none⟩ = some (.slice sa qb.length sc)) (first | go_keep | exact And.imp (fun h => (hb3.cell (p := ⟨b, _, none⟩) hbb).trans h) (fun h => (hb3.cell (p := ⟨b, _, none⟩) hbb).trans h) (by assumption) | exact And.imp (fun h => (hb4.cell (p := ⟨b, _, none⟩) hbb).trans h) (fun h => (hb4.cell (p := ⟨b, _, none⟩) hbb).trans h) (by assumption)) (first | (go_at_call 46; refine (C1.out _ ((Below.refl _ _).drew)).mono ?_; rintro e w3 ⟨rfl, hI3, hg3⟩; have hb3 := HB.out _ hg3) | (go_at_call 47; refine (C2.out _ (HR.out _ hg3) hb3).mono ?_; rintro e w4 ⟨rfl, hR4, hg4⟩; have hb4 : Below w.heap.size w3 w4 := (Below.refl w.heap.size w3).grown hg4 (Nat.le_trans hbr.size hb3.size) (fun j hj => Nat.le_trans hsz1 ((HR.out _ hg3).2.1.lt j hj).1)))
        have hR3 := HR.out _ hg3
        go_wp2_with fail
        go_meet
        exact ⟨rfl, Two.written hI3 hR4 hg4 hR3 HP2.out, hb3.trans hb4⟩
      case rest =>
        obtain ⟨rfl, hT2, hbW⟩ := hcut
        have hL2 : L'.length = n := by rw [HP3.out]; exact hL
        have HL2 := Lib.hid hL2
        clear HP2 HP3 C1 C2 HB HR d5 hT hL hL2
        obtain ⟨f1, f2⟩ := flat_read hT2.2.2 qk
        have c1 := fun W hb => iread_any (hT2.1.below (w' := W) hb) qk
        have c2 := fun W hb => rread_img (hT2.2.1.below (w' := W) hb) qk
        rw [f1, f2] at c1
        have s1' := (hbW.cell (p := ⟨b, _, none⟩) hbb).trans s1
        clear f1 f2 s1 s2 s3
        generalize rrE L'.length qk = re at *
        generalize rrB L' qk = X at *
        go_wp2_with fail
        refine (c1 _ (Below.refl _ _)).mono ?_
        rintro e w3 ⟨A3, c3, rfl, hown3, hb3⟩
        rw [bv_len] at hown3
        rw [bv_len]
        have s1'' := (hb3.cell (p := ⟨b, _, none⟩) (Nat.lt_of_lt_of_le hbb (Nat.le_trans hbr.size hbW.size))).trans s1'
        go_wp2_with fail
        refine (c2 _ hb3).mono ?_
        rintro e w4 ⟨A4, c4, rfl, hR4, hb4⟩
        rw [bv_len]
        have hb34 := below_then hb3 hb4
        have cv1 := fun W (hb : Below w4.heap.size w4 W) => conv_own X rfl (own_keep (own_keep hown3 hb4) hb)
        have cv2 := fun W (hb : Below w4.heap.size w4 W) => run_conv_bytes (P := Try.prog) W 30 9 5 Try.underlying30 Try.underlying5 Try.underlying9 X.length c4 rfl (hR4.below hb)
        have v1 := fun m => cv1 (w4.drewN m) (below_drewN' (Below.refl _ _) m)
        have v2 := fun m => cv2 (w4.drewN m) (below_drewN' (Below.refl _ _) m)
        have hT4 := hT2.below hb34
        have hbl := fun m => (blocks_any (Img.below (w := w4) hT4.1 (below_drewN' (Below.refl _ w4) m))).mono (fun e w' h => (show e = _ ∧ w' = w4.drewN m from ⟨h.1, h.2.symm⟩))
        rw [each_len hT4.2.2, show L'.length * 256 / 256 = L'.length by omega] at hbl
        have hcx : w4.cell? ⟨g2, 0, none⟩ = some (.slice Ar L'.length cr) := hT4.2.1.cell
        have d6 : ((L'.length : Int) != (L'.length : Int)) = false := by simp
        have d7 : (re != re) = false := by simp
        have hbr4 : Below w.heap.size w w4 := hbr.trans (hbW.trans (hb34.mono (Nat.le_trans hbr.size hbW.size)))
        clear cv1 cv2 c1 c2 hown3 hR4 hb3 hb4 hb34 hT2 s1' s1''
        go_upto_region 13 with fail
        go_quiet ((go_at_call 24; exact Calls.quiet_of_same (hbl _)))
        have hT5 := hT4.below (w' := w4.drewN nq) (below_drewN' (Below.refl _ _) nq)
        have hbr5 := below_drewN' hbr4 nq
        clear hbl v1 v2 hT4 hcx hbr4 d6 d7 hT hB2 hbW
        go_wp2_with fail
        go_roundw
        case rel =>
          exact ⟨k + 1, L', by omega, by go_num, hT5, HL2.out, hbr5⟩
        case measure => simp [intOf]; omega
    · obtain rfl : k = l1.length := by omega
      have hfl := each_len hT.2.2
      have b1 := fun W hb => ibytes_any (hT.1.below (w' := W) hb)
      have b2 := fun W hb => rbytes_img (hT.2.1.below (w' := W) hb) hT.2.2
      have hl36 := hT.1.2.2.1
      generalize L.flatten = z at *
      clear hT hB2 hfl
      go_wp2_with fail
      go_region_with (first | (go_at_call 22; refine (b1 _ ((Below.refl _ _).drew)).mono ?_; rintro e w3 ⟨A3, c3, rfl, hown3, hb3⟩; replace hb3 : Below wr.heap.size wr w3 := undrew hb3; rw [bv_len] at hown3; rw [bv_len]; have cv3 := conv_own z rfl hown3) | (go_at_call 23; refine (b2 _ hb3).mono ?_; rintro e w4 ⟨A4, c4, rfl, hown4, hb4⟩; rw [bv_len] at hown4; rw [bv_len]; have cv4 := conv_own z rfl hown4; have cv5 := conv_own z rfl (own_keep hown3 hb4)) | (go_at_call 21; refine (lives03 _).mono ?_; rintro e w6 ⟨rfl, hb6⟩))
      all_goals
        have hBf := hbr.trans ((below_then (below_then hb3 hb4) hb6).mono hbr.size)
        clear b1 b2 cv3 cv4 cv5 hown3 hown4 hb3 hb4 hb6
        go_wp2
        go_ret
        exact ⟨rfl, hBf⟩
end Go.Proofs.Ytnebmkkaobedaaa
