/-
  Chapter 7: the reference's Read, walked.
-/
import Derived.Test.YtilkcecjciiboaaNod13
namespace Go.Proofs.Ytilkcecjciiboaa
open Go.RowKit
attribute [local go_sem ↓] Go.wp_at_zero Go.wp_at_succ
theorem n2_small {l : List UInt8} (h : 3 < l.length) (h1 : n2 l ≤ 18) : n2 l = (l[2]'(by omega)).toNat := by
  have h2 := n2_byte h
  omega
set_option maxRecDepth 100000 in
set_option maxHeartbeats 8000000 in
theorem rread_node (A : Option Addr) (c : Nat) (l : List UInt8) (w : World) (hq : l.length ≤ c) (hm : l.length ≤ reachBytes) (h : Reads w w.heap.size A (bv l)) :
    Calls Try.prog 53 #[.slice A l.length c] w (GivesN (readV l) (readE l) w) := by
  have HM := Lib.hid hm
  obtain ⟨w1, hw1⟩ : ∃ w1, w1 = w.alloc (.cells #[.int .i64 0, .bool false, .slice none 0 0, .slice none 0 0] 31) := ⟨_, rfl⟩
  have hb1 : Below w.heap.size w w1 := by rw [hw1]; exact below_alloc1 w _
  have hk1 : w1.heap[w.heap.size]? = some (.cells #[.int .i64 0, .bool false, .slice none 0 0, .slice none 0 0] 31) := by rw [hw1]; exact heap_alloc_new w _
  have hs1 : w1.heap.size = w.heap.size + 1 := by rw [hw1]; simp
  have KS := rform_any A c l w1 hq hm (h.ext hb1)
  have HB1 := Lib.hid hb1
  have HK1 := Lib.hid hk1
  have HS1 := Lib.hid hs1
  have HR := Lib.hid h
  have HQ := Lib.hid hq
  clear hb1 hk1 hs1 h hm hq
  go_enter Try.func53, Try.ntmps53
  go_upto_region 1 with fail
  rw [show w.alloc (.cells #[.int .i64 0, .bool false, .slice none 0 0, .slice none 0 0] 31) = w1 from hw1.symm]
  clear hw1
  go_wp2_with fail
  refine KS.mono ?_
  rintro e w2 ⟨rfl, hb2⟩
  clear KS
  have HB2 := Lib.hid (below_then HB1.out hb2)
  have hk2 := heap_keep HK1.out hb2
  cases hS : formN l with
  | false =>
    have HE := Lib.hid (read_bad hS)
    have q0 := heap_cell hk2 0 rfl
    have q1 := heap_cell hk2 1 rfl
    have q2 := heap_cell hk2 2 rfl
    have q3 := heap_cell hk2 3 rfl
    have z0 := heap_free hk2 0
    have z1 := heap_free hk2 1
    have z2 := heap_free hk2 2
    have z3 := heap_free hk2 3
    clear hS hk2 hb2
    go_wp2
    try simp only [Exit.inBlock, Exit.then]
    refine bodyPost_ret (v := .tuple #[.agg #[.int .i64 0, .bool false, .slice none 0 0, .slice none 0 0], .int .i64 7]) (by rw [results_cell_tmp rfl]; go_simp) rfl ?_
    exact GivesN.bad HE.out.2 7 HE.out.1 (below_set4 HB2.out _ _ _ _)
  | true =>
    have HFO := Lib.hid hS
    have hsh : shapeOk l = true := by
      cases h1 : shapeOk l with
      | true => rfl
      | false => rw [form_shape h1] at hS; cases hS
    obtain ⟨g1, g2, g3, g4, g5, g6, g7, g8⟩ := shape_fit hsh
    have HWD := Lib.hid (fun V => (show Calls Try.prog 40 #[.int .i64 (n1 l : Int), .bool (lfN l)] V fun e w' => e = .returned (.int .i64 (wB l : Int)) ∧ Below V.heap.size V w' from by
      have := rwidth7_any (n1 l) (lfN l) V
      rw [g3] at this
      exact this))
    have HMX := Lib.hid (fun V => (show Calls Try.prog 41 #[.int .i64 (n1 l : Int), .bool (lfN l)] V fun e w' => e = .returned (.int .i64 (mB l : Int)) ∧ Below V.heap.size V w' from rmax_any (n1 l) (lfN l) V))
    have HLF := Lib.hid (show ∀ y : Int, y = (n0 l : Int) → lfN l = (y == 1) from fun y hy => by
      subst hy
      unfold lfN
      rw [Bool.eq_iff_iff, decide_eq_true_iff, beq_iff_eq]
      omega)
    have hr2 := HR.out.ext HB2.out
    obtain ⟨ad, rfl, hadl, c0⟩ := hr2.byte (k := 0) (by omega)
    obtain ⟨ad2, e, -, c1⟩ := hr2.byte (k := 1) (by omega)
    injection e with e
    subst e
    rw [← n0_byte (by omega)] at c0
    rw [← n1_byte (by omega)] at c1
    have hb1' := (unp6 l (by omega)).2.2.2.1
    have HAC := Lib.hid (fun (V : World) (hb : Below w.heap.size w V) => (show V.cell? ⟨ad.block, ad.off + 2, none⟩ = some (.int .u8 (n2 l : Int)) from by
      obtain ⟨ad2, e, -, c2⟩ := (HR.out.ext hb).byte (k := 2) (by omega)
      injection e with e
      subst e
      rw [← n2_small (by omega) (by omega)] at c2
      exact c2))
    obtain ⟨y0, hy0⟩ : ∃ y, y = (n0 l : Int) := ⟨_, rfl⟩
    rw [← hy0] at c0
    have HLF2 := Lib.hid (HLF.out y0 hy0)
    have hcc := fun (o : Obj) (p : Addr) (hp : p.block < w2.heap.size) => World.cell?_alloc_lt w2 o p hp
    have c0' : w2.cell? ad = some (.int .u8 y0) := c0
    have c1 : w2.cell? ⟨ad.block, ad.off + 1, none⟩ = some (.int .u8 (n1 l : Int)) := c1
    have c1' := (hcc (.cells #[.int .i64 0, .bool false, .slice none 0 0, .slice none 0 0] 31) ⟨ad.block, ad.off + 1, none⟩ hadl).trans c1
    have c0'' := (hcc (.cells #[.int .i64 0, .bool false, .slice none 0 0, .slice none 0 0] 31) ad hadl).trans c0'
    have e9 : IntKind.i64.wrap (n1 l : Int) = (n1 l : Int) := by rw [IntKind.wrap_i64]; omega
    have HG := Lib.hid (And.intro g1 (And.intro g2 (And.intro g4 (And.intro g5 (And.intro g6 (And.intro g7 g8))))))
    have hq : 244 ≤ c := by have := HQ.out; omega
    have i244 : (1 : Int) < 244 := by omega
    rw [g1]
    clear hS hsh g1 g2 g3 g4 g5 g6 g7 g8 hr2 HLF hy0 hcc hb1'
    go_upto_region 3 with fail
    go_region
    rw [← HLF2.out]
    have HN3 := Lib.hid (NodW.new w2 (n1 l) (lfN l) ((w2.alloc (.cells #[.int .i64 (n1 l : Int), .bool (lfN l), .slice none 0 0, .slice none 0 0] 31)).drew) w1.heap.size hb2.size (heap_alloc_new w2 _))
    have HW3 := Lib.hid ((hb2.trans ((below_alloc1 w2 (.cells #[.int .i64 (n1 l : Int), .bool (lfN l), .slice none 0 0, .slice none 0 0] 31)).mono hb2.size)).drew)
    clear hk2 HB2 hb2 c0 c1 c0' c1' c0'' HLF2 e9
    generalize (w2.alloc (.cells #[.int .i64 (n1 l : Int), .bool (lfN l), .slice none 0 0, .slice none 0 0] 31)).drew = w3 at *
    obtain ⟨p0, p1, -, -⟩ := HN3.out.cells
    go_wp2_with fail
    refine (HWD.out _).mono ?_
    rintro e w4 ⟨rfl, hb4⟩
    have HN4 := Lib.hid (HN3.out.keep hb4)
    have HW4 := Lib.hid (HW3.out.trans (hb4.mono HW3.out.size))
    obtain ⟨ji, ji0, ji1, ji2, ji3⟩ := info_parts Try.infoInt
    obtain ⟨js, js0, js1, js2, js3⟩ := info_parts Try.infoStrN
    clear p0 p1 hb4 HN3 HW3 HWD
    go_wp2_with fail
    go_loopw [6] (fun s6 wr => ∃ (k : Nat) (A : Option Addr) (c1 : Nat) (A2 : Option Addr) (c2 : Nat), k ≤ n2 l ∧ s6 = .int .i64 k ∧ Hid (errN l k = 0) ∧ Hid (NodW wr w1.heap.size w2.heap.size (partN l k) A c1 A2 c2) ∧ Hid (Below w1.heap.size w1 wr)) (fun s6 _ => n2 l - (intOf s6).toNat)
    case atStart => exact ⟨0, none, 0, none, 0, by omega, rfl, Lib.hid rfl, HN4, HW4⟩
    case round =>
      clear HN4 HW4
      obtain ⟨k, A, c1, A2, c2, hk, rfl, HE0, HN, HW⟩ := hrel
      have HB := Lib.hid (below_then HB1.out HW.out)
      have hkr := heap_keep HK1.out HW.out
      have q0 := heap_cell hkr 0 rfl
      have q1 := heap_cell hkr 1 rfl
      have q2 := heap_cell hkr 2 rfl
      have q3 := heap_cell hkr 3 rfl
      have z0 := heap_free hkr 0
      have z1 := heap_free hkr 1
      have z2 := heap_free hkr 2
      have z3 := heap_free hkr 3
      have HKR := Lib.hid hkr
      have cc2 := HAC.out wr HB.out
      have e10 : IntKind.i64.wrap (n2 l : Int) = (n2 l : Int) := by
        have := HG.out.2.2.2.2.1
        have := HG.out.2.2.2.2.2.1
        rw [IntKind.wrap_i64]; omega
      clear hkr
      by_cases hlt : k < n2 l
      · have hci : (k : Int) < (n2 l : Int) := by omega
        obtain ⟨g1, g2, g4, g5, g6, g7, g8⟩ := HG.out
        have hpw : wB l * k + wB l ≤ wB l * mB l := by
          rw [← Nat.mul_succ]
          exact Nat.mul_le_mul_left _ (by omega)
        obtain ⟨k8, hk8⟩ : ∃ x, x = 8 * k := ⟨_, rfl⟩
        obtain ⟨a, ha⟩ : ∃ x, x = 12 + k8 := ⟨_, rfl⟩
        have f0 : IntKind.i64.wrap (8 * (k : Int)) = (k8 : Int) := by rw [hk8, IntKind.wrap_i64]; omega
        have f1 : IntKind.i64.wrap (12 + (k8 : Int)) = (a : Int) := by rw [ha, IntKind.wrap_i64]; omega
        have f5 : IntKind.i64.wrap ((k : Int) + 1) = (k : Int) + 1 := by rw [IntKind.wrap_i64]; omega
        have KG : Calls Try.prog 78 #[.slice (some ad) 244 c, .int .i64 (a : Int), .int .i64 8] wr fun e w' => e = .returned (.tuple #[.int .i64 (getV l (12 + 8 * (k : Int)) 8).1, .int .i64 (getV l (12 + 8 * (k : Int)) 8).2]) ∧ wr = w' := by
          have := rget_any (some ad) c l (12 + 8 * (k : Int)) 8 wr _ HM.out (HR.out.ext HB.out)
          rw [g1] at this
          rw [show (a : Int) = 12 + 8 * (k : Int) by omega]
          exact this
        rw [getV_eight l k (by omega)] at KG
        have HKB := Lib.hid (And.intro (show k ≤ 18 by omega) hpw)
        clear hk8 ha g1 g2 g4 g5 g6 g7 g8 hpw
        by_cases hbig : kN l k < 9223372036854775808
        case neg =>
          rw [if_neg hbig] at KG
          have hke : kE l k = 2 := by unfold kE; rw [if_pos (by omega)]
          have HE := Lib.hid (read_stop HFO.out hlt HE0.out (by rw [hke]; decide))
          rw [hke] at HE
          clear hke hbig
          go_wp2_with fail
          refine KG.mono ?_
          rintro e w5 ⟨rfl, rfl⟩
          clear KG
          go_wp2
          try simp only [Exit.inBlock, Exit.then]
          refine bodyPost_ret (v := .tuple #[.agg #[.int .i64 0, .bool false, .slice none 0 0, .slice none 0 0], .int .i64 2]) (by rw [results_cell_tmp rfl]; go_simp) rfl ?_
          exact GivesN.bad HE.out.2 2 HE.out.1 (below_set4 HB.out _ _ _ _)
        rw [if_pos hbig] at KG
        by_cases hmax : 281474976710655 < kN l k
        · have hke : kE l k = 2 := by unfold kE; rw [if_pos hmax]
          have HE := Lib.hid (read_stop HFO.out hlt HE0.out (by rw [hke]; decide))
          rw [hke] at HE
          have hx : (281474976710655 : Int) < (kN l k : Int) := by omega
          clear hke hbig hmax
          generalize (kN l k : Int) = x at *
          go_wp2_with fail
          refine KG.mono ?_
          rintro e w5 ⟨rfl, rfl⟩
          clear KG
          go_wp2
          try simp only [Exit.inBlock, Exit.then]
          refine bodyPost_ret (v := .tuple #[.agg #[.int .i64 0, .bool false, .slice none 0 0, .slice none 0 0], .int .i64 2]) (by rw [results_cell_tmp rfl]; go_simp) rfl ?_
          exact GivesN.bad HE.out.2 2 HE.out.1 (below_set4 HB.out _ _ _ _)
        have HKE : Hid (∀ ke, kE l k = ke → ke ≠ 0 → readE l = ke ∧ readV l = zeroN) := Lib.hid (fun ke h1 h2 => by subst h1; exact read_stop HFO.out hlt HE0.out h2)
        have HKN := Lib.hid (fun (h1 : kE l k = 0) => errN_next HE0.out h1)
        obtain ⟨p0, p1, p2, p3⟩ := HN.out.cells
        rw [show (partN l k).keys.length = k from keysN_len l k] at p2
        rw [show (partN l k).vals.length = k from valsN_len l k] at p3
        have HNX := Lib.hid (partN_next l k)
        have dmax : decide ((281474976710655 : Int) < (kN l k : Int)) = false := decide_eq_false (by omega)
        have hkel : kE l k = if 0 < k ∧ kN l k ≤ kN l (k - 1) then 8 else 0 := by unfold kE; rw [if_neg hmax]
        have hprev : ∀ j, k = j + 1 → ∃ a1, A = some a1 ∧ wr.cell? (a1.add j) = some (.int .i64 (kN l j : Int)) := fun j hj => by
          obtain ⟨a1, e, -, hc⟩ := HN.out.read.ky.at_ (k := j) (by rw [iv_len]; show j < (keysN l k).length; rw [keysN_len]; omega)
          rw [iv_getD _ (by show j < (keysN l k).length; rw [keysN_len]; omega)] at hc
          rw [show (partN l k).keys.getD j 0 = (kN l j : Int) from keysN_at l (by omega)] at hc
          exact ⟨a1, e, hc⟩
        clear hbig HE0
        by_cases hbad : 0 < k ∧ kN l k ≤ kN l (k - 1)
        · rw [if_pos hbad] at hkel
          have HE := Lib.hid (HKE.out 8 hkel (by decide))
          obtain ⟨h0, h1⟩ := hbad
          obtain ⟨j, hj⟩ : ∃ j, k = j + 1 := ⟨k - 1, by omega⟩
          obtain ⟨a1, rfl, hc1⟩ := hprev j hj
          have hle : (kN l k : Int) ≤ (kN l j : Int) := by
            rw [show k - 1 = j by omega] at h1
            omega
          have i5 : IntKind.i64.wrap ((k : Int) - 1) = (j : Int) := by have := HKB.out.1; rw [IntKind.wrap_i64]; omega
          have i6 : (j : Int) < (k : Int) := by omega
          have i7 : j < k := by omega
          have d0 : decide (0 < k) = true := decide_eq_true h0
          clear hkel hprev hmax HKE HKN h1 hj
          generalize (kN l k : Int) = x at *
          generalize (kN l j : Int) = xp at *
          go_wp2_with fail
          refine KG.mono ?_
          rintro e w5 ⟨rfl, rfl⟩
          clear KG
          go_wp2
          try simp only [Exit.inBlock, Exit.then]
          refine bodyPost_ret (v := .tuple #[.agg #[.int .i64 0, .bool false, .slice none 0 0, .slice none 0 0], .int .i64 8]) (by rw [results_cell_tmp rfl]; go_simp) rfl ?_
          exact GivesN.bad HE.out.2 8 HE.out.1 (below_set4 HB.out _ _ _ _)
        rw [if_neg hbad] at hkel
        have HE1 := Lib.hid (HKN.out hkel)
        clear hkel HKE HKN hmax
        have HP := Lib.hid hprev
        have HBD := Lib.hid hbad
        clear hprev hbad
        go_wp2_with fail
        refine KG.mono ?_
        rintro e w5 ⟨rfl, rfl⟩
        clear KG
        go_upto_region 11 with fail
        go_cut [62] (fun s62 wx => s62 = .bool false ∧ wx = wr)
        case first =>
          by_cases h0 : 0 < k
          · obtain ⟨j, hj⟩ : ∃ j, k = j + 1 := ⟨k - 1, by omega⟩
            obtain ⟨a1, rfl, hc1⟩ := HP.out j hj
            have hle : decide ((kN l k : Int) ≤ (kN l j : Int)) = false := decide_eq_false (fun h => HBD.out ⟨h0, by rw [show k - 1 = j by omega]; omega⟩)
            have hle2 : decide (kN l k ≤ kN l j) = false := decide_eq_false (fun h => HBD.out ⟨h0, by rw [show k - 1 = j by omega]; omega⟩)
            have i5 : IntKind.i64.wrap ((k : Int) - 1) = (j : Int) := by have := HKB.out.1; rw [IntKind.wrap_i64]; omega
            have i6 : (j : Int) < (k : Int) := by omega
            have i7 : j < k := by omega
            have d0 : decide (0 < k) = true := decide_eq_true h0
            clear hj h0 dmax
            go_wp2
            go_meet
            exact ⟨rfl, rfl⟩
          · have d0 : decide (0 < k) = false := decide_eq_false h0
            clear h0 dmax
            go_wp2
            go_meet
            exact ⟨rfl, rfl⟩
        case rest =>
          obtain ⟨rfl, rfl⟩ := hcut
          clear HP HBD dmax cc2 q0 q1 q2 q3 z0 z1 z2 z3
          generalize (kN l k : Int) = x at *
          go_wp2_with fail
          refine (HMX.out _).mono ?_
          rintro e w5 ⟨rfl, hb5⟩
          have HN5 := HN.out.keep hb5
          have HW5 := Lib.hid (HW.out.trans (hb5.mono HW.out.size))
          obtain ⟨-, -, p2', -⟩ := HN5.cells
          rw [show (partN l k).keys.length = k from keysN_len l k] at p2'
          have HN1 := HN5.keep (below_alloc1 w5 (.cells #[.int .i64 x] 3))
          have hk1 := HN1.k
          rw [show (partN l k).keys.length = k from keysN_len l k, show (partN l k).keys = keysN l k from rfl] at hk1
          have hsB : w1.heap.size ≤ (w5.alloc (.cells #[.int .i64 x] 3)).heap.size := by have := HW5.out.size; simp; omega
          have h18 : k ≤ 1000 := by have := HKB.out.1; omega
          obtain ⟨g1, g2, g4, g5, g6, g7, g8⟩ := HG.out
          obtain ⟨-, hpw⟩ := HKB.out
          obtain ⟨m8, hm8⟩ : ∃ x, x = 8 * mB l := ⟨_, rfl⟩
          obtain ⟨v, hv⟩ : ∃ x, x = 12 + m8 := ⟨_, rfl⟩
          obtain ⟨p, hp⟩ : ∃ p, p = wB l * k := ⟨_, rfl⟩
          obtain ⟨b, hb⟩ : ∃ b, b = v + p := ⟨_, rfl⟩
          obtain ⟨b2, hb2⟩ : ∃ b2, b2 = b + wB l := ⟨_, rfl⟩
          have hd3 := HR.out.drop (k := 12 + 8 * mB l + wB l * k) (cap := c) (by rw [bv_len]; omega)
          rw [if_neg (by omega), bv_drop] at hd3
          have hd3 := hd3.take (wB l)
          rw [bv_take] at hd3
          have hlv : (vN l k).length = wB l := by unfold vN; rw [List.length_take, List.length_drop]; omega
          have hrd : Reads w w.heap.size (some (ad.add b)) (bv (vN l k)) := by
            rw [show b = 12 + 8 * mB l + wB l * k by omega]
            exact hd3
          have hcv := fun (V : World) (hS : Below w.heap.size w V) => run_conv_bytes (P := Try.prog) V 22 9 5 Try.underlying22 Try.underlying5 Try.underlying9 (b2 - b) (c - b) (l := vN l k) (by rw [hlv]; omega) (hrd.ext hS)
          have e1 : IntKind.i64.wrap (8 * (mB l : Int)) = (m8 : Int) := by rw [hm8, IntKind.wrap_i64]; omega
          have e2 : IntKind.i64.wrap (12 + (m8 : Int)) = (v : Int) := by rw [hv, IntKind.wrap_i64]; omega
          have f2 : IntKind.i64.wrap ((wB l : Int) * (k : Int)) = (p : Int) := by
            rw [show (wB l : Int) * (k : Int) = (p : Int) by rw [hp, Int.natCast_mul], IntKind.wrap_i64]; omega
          have f3 : IntKind.i64.wrap ((v : Int) + (p : Int)) = (b : Int) := by rw [hb, IntKind.wrap_i64]; omega
          have f7 : IntKind.i64.wrap ((b : Int) + (wB l : Int)) = (b2 : Int) := by rw [hb2, IntKind.wrap_i64]; omega
          have j1 : b ≤ b2 := by omega
          have j2 : b2 ≤ c := by omega
          have j3 : ¬ c = b := by omega
          have j4 : (b : Int) ≤ (b2 : Int) := by omega
          have j5 : (b2 : Int) ≤ (c : Int) := by omega
          clear p0 p1 p2 p3 hm8 hv hp hb hb2 hd3 hlv hrd g1 g2 g4 g5 g6 g7 g8 hpw hb5 HN
          go_wp2_with (at_builtin; refine wpList_append_to _ rfl (.tmp 76) (.tmp 78) _ rfl w1.heap.size 3 ji _ 8 Try.underlying24 ji0 ji1 ji2 ji3 rfl _ k (iv (keysN l k)) rfl hk1 _ _ 1 1 [.int .i64 x] rfl rfl (Reads.new w5 [.int .i64 x] 3 (0, 0)) (by simp [Value.oneCell']) (by simp only [maxLen]; omega) (by omega) hsB ?_; intro A4 c4 w4 hown4 hg4 hb4 _; obtain ⟨HN4, e4, e5, hb5⟩ := HN1.key x A4 c4 (k + 1) (by rw [show (partN l k).keys.length = k from keysN_len l k]) w4 hown4 (by rw [show (partN l k).keys.length = k from keysN_len l k]; exact hg4); rw [show (partN l k).keys.length = k from keysN_len l k] at e4; have HW6 := Lib.hid ((HW5.out.trans ((below_alloc1 w5 (.cells #[.int .i64 x] 3)).mono HW5.out.size)).trans hb5); have HN6 := Lib.hid HN4; clear hb5 hb4 hg4 hown4 hk1 HN1 HN4 HN5 p2' hsB h18)
          generalize hw6 : w4.setCell ⟨w2.heap.size, 2, none⟩ (.slice A4 (k + 1) c4) = w6 at *
          clear hw6 e4 e5
          have HB6 := Lib.hid (below_then HB1.out HW6.out)
          have hb7 : Below w6.heap.size w6 w6.drew := (Below.refl w6.heap.size w6).drew
          have HN7 := HN6.out.keep (below_then hb7 (below_alloc1 w6.drew (.cells #[.string ⟨(vN l k).toArray⟩] 9)))
          have hv6 := HN7.v
          rw [show (⟨(partN l k).t, (partN l k).leaf, (partN l k).keys ++ [x], (partN l k).vals⟩ : NodeL).vals = valsN l k from rfl, valsN_len] at hv6
          obtain ⟨-, -, -, q3⟩ := HN6.out.cells
          obtain ⟨-, -, -, q4⟩ := (HN6.out.keep hb7).cells
          obtain ⟨-, -, -, q5⟩ := HN7.cells
          have hz5 : (⟨(partN l k).t, (partN l k).leaf, (partN l k).keys ++ [x], (partN l k).vals⟩ : NodeL).vals.length = k := valsN_len l k
          rw [hz5] at q3 q4 q5
          have q6 : (w6.alloc (.cells #[.string ⟨(vN l k).toArray⟩] 9)).cell? ⟨w2.heap.size, 3, none⟩ = some (.slice A2 k c2) := q5
          have HW7 := Lib.hid (HW6.out.trans ((below_then hb7 (below_alloc1 w6.drew (.cells #[.string ⟨(vN l k).toArray⟩] 9))).mono HW6.out.size))
          have HB7 := Lib.hid (below_then HB1.out HW7.out)
          have HB6d := Lib.hid (below_then HB6.out hb7)
          have HV6 := Lib.hid hv6
          have HN8 := Lib.hid HN7
          have HZ5 := Lib.hid hz5
          have h18' : k ≤ 1000 := by have := HKB.out.1; omega
          clear hv6 HN7 hb7 hz5 HN6
          go_upto_region 15 with fail
          refine wp_region_held_drew (S := (fun V => Below w.heap.size w V)) (by kernel_rfl) ?_ (fun hHeld => ?_)
          (focus ((try dsimp only); (first | exact HB6d.out | exact HB6.out | exact HB7.out | exact HHH.out | exact HH8.out)))
          first | (refine anyH_skip 0 (by kernel_rfl) (by kernel_rfl) (by simp only [List.getElem?_toArray, List.getElem?_cons_zero] <;> rfl) (by kernel_rfl) (by exact fun _ _ _ h => h) (by rfl) (by assumption) ?_; (try simp only [Act.put, List.setIfInBounds_toArray, List.set_cons_zero, List.set_cons_succ])) | (refine anyH_take 0 (v := ?_) (by kernel_rfl) (by kernel_rfl) (by simp only [List.getElem?_toArray, List.getElem?_cons_zero] <;> rfl) (by kernel_rfl) (by exact fun _ _ _ h => h) (by rfl) ?_ (by assumption) ?_; rotate_left; (focus (intro w hSw; (try dsimp only at hSw); (try simp only [List.getElem_toArray, List.getElem_cons_succ, List.getElem_cons_zero]); go_simp; try (with_reducible rfl))); (try simp only [Act.put, List.setIfInBounds_toArray, List.set_cons_zero, List.set_cons_succ]))
          first | (refine anyH_skip 2 (by kernel_rfl) (by kernel_rfl) (by simp only [List.getElem?_toArray, List.getElem?_cons_succ, List.getElem?_cons_zero] <;> rfl) (by kernel_rfl) (by exact fun _ _ _ h => h) (by rfl) (by assumption) ?_; (try simp only [Act.put, List.setIfInBounds_toArray, List.set_cons_zero, List.set_cons_succ])) | (refine anyH_take 2 (v := ?_) (by kernel_rfl) (by kernel_rfl) (by simp only [List.getElem?_toArray, List.getElem?_cons_succ, List.getElem?_cons_zero] <;> rfl) (by kernel_rfl) (by exact fun _ _ _ h => h) (by rfl) ?_ (by assumption) ?_; rotate_left; (focus (intro w hSw; (try dsimp only at hSw); (try simp only [List.getElem_toArray, List.getElem_cons_succ, List.getElem_cons_zero]); go_simp; try (with_reducible rfl))); (try simp only [Act.put, List.setIfInBounds_toArray, List.set_cons_zero, List.set_cons_succ]))
          first | (refine anyH_skip 3 (by kernel_rfl) (by kernel_rfl) (by simp only [List.getElem?_toArray, List.getElem?_cons_succ, List.getElem?_cons_zero] <;> rfl) (by kernel_rfl) (by exact fun _ _ _ h => h) (by rfl) (by assumption) ?_; (try simp only [Act.put, List.setIfInBounds_toArray, List.set_cons_zero, List.set_cons_succ])) | (refine anyH_take 3 (v := ?_) (by kernel_rfl) (by kernel_rfl) (by simp only [List.getElem?_toArray, List.getElem?_cons_succ, List.getElem?_cons_zero] <;> rfl) (by kernel_rfl) (by exact fun _ _ _ h => h) (by rfl) ?_ (by assumption) ?_; rotate_left; (focus (intro w hSw; (try dsimp only at hSw); (try simp only [List.getElem_toArray, List.getElem_cons_succ, List.getElem_cons_zero]); go_simp; try (with_reducible rfl))); (try simp only [Act.put, List.setIfInBounds_toArray, List.set_cons_zero, List.set_cons_succ]))
          first | (refine anyH_skip 4 (by kernel_rfl) (by kernel_rfl) (by simp only [List.getElem?_toArray, List.getElem?_cons_succ, List.getElem?_cons_zero] <;> rfl) (by kernel_rfl) (by exact fun _ _ _ h => h) (by rfl) (by assumption) ?_; (try simp only [Act.put, List.setIfInBounds_toArray, List.set_cons_zero, List.set_cons_succ])) | (refine anyH_take 4 (v := ?_) (by kernel_rfl) (by kernel_rfl) (by simp only [List.getElem?_toArray, List.getElem?_cons_succ, List.getElem?_cons_zero] <;> rfl) (by kernel_rfl) (by exact fun _ _ _ h => h) (by rfl) ?_ (by assumption) ?_; rotate_left; (focus (intro w hSw; (try dsimp only at hSw); (try simp only [List.getElem_toArray, List.getElem_cons_succ, List.getElem_cons_zero]); go_simp; try (with_reducible rfl))); (try simp only [Act.put, List.setIfInBounds_toArray, List.set_cons_zero, List.set_cons_succ]))
          first | (refine anyH_skip 5 (by kernel_rfl) (by kernel_rfl) (by simp only [List.getElem?_toArray, List.getElem?_cons_succ, List.getElem?_cons_zero] <;> rfl) (by kernel_rfl) (by exact fun _ _ _ h => h) (by rfl) (by assumption) ?_; (try simp only [Act.put, List.setIfInBounds_toArray, List.set_cons_zero, List.set_cons_succ])) | (refine anyH_take 5 (v := ?_) (by kernel_rfl) (by kernel_rfl) (by simp only [List.getElem?_toArray, List.getElem?_cons_succ, List.getElem?_cons_zero] <;> rfl) (by kernel_rfl) (by exact fun _ _ _ h => h) (by rfl) ?_ (by assumption) ?_; rotate_left; (focus (intro w hSw; (try dsimp only at hSw); (try simp only [List.getElem_toArray, List.getElem_cons_succ, List.getElem_cons_zero]); go_simp; try (with_reducible rfl))); (try simp only [Act.put, List.setIfInBounds_toArray, List.set_cons_zero, List.set_cons_succ]))
          first | (refine anyH_skip 6 (by kernel_rfl) (by kernel_rfl) (by simp only [List.getElem?_toArray, List.getElem?_cons_succ, List.getElem?_cons_zero] <;> rfl) (by kernel_rfl) (by exact fun _ _ _ h => h) (by rfl) (by assumption) ?_; (try simp only [Act.put, List.setIfInBounds_toArray, List.set_cons_zero, List.set_cons_succ])) | (refine anyH_take 6 (v := ?_) (by kernel_rfl) (by kernel_rfl) (by simp only [List.getElem?_toArray, List.getElem?_cons_succ, List.getElem?_cons_zero] <;> rfl) (by kernel_rfl) (by exact fun _ _ _ h => h) (by rfl) ?_ (by assumption) ?_; rotate_left; (focus (intro w hSw; (try dsimp only at hSw); (try simp only [List.getElem_toArray, List.getElem_cons_succ, List.getElem_cons_zero]); go_simp; try (with_reducible rfl))); (try simp only [Act.put, List.setIfInBounds_toArray, List.set_cons_zero, List.set_cons_succ]))
          first | (refine anyH_skip 7 (by kernel_rfl) (by kernel_rfl) (by simp only [List.getElem?_toArray, List.getElem?_cons_succ, List.getElem?_cons_zero] <;> rfl) (by kernel_rfl) (by exact fun _ _ _ h => h) (by rfl) (by assumption) ?_; (try simp only [Act.put, List.setIfInBounds_toArray, List.set_cons_zero, List.set_cons_succ])) | (refine anyH_take 7 (v := ?_) (by kernel_rfl) (by kernel_rfl) (by simp only [List.getElem?_toArray, List.getElem?_cons_succ, List.getElem?_cons_zero] <;> rfl) (by kernel_rfl) (by exact fun _ _ _ h => h) (by rfl) ?_ (by assumption) ?_; rotate_left; (focus (intro w hSw; (try dsimp only at hSw); (try simp only [List.getElem_toArray, List.getElem_cons_succ, List.getElem_cons_zero]); go_simp; try (with_reducible rfl))); (try simp only [Act.put, List.setIfInBounds_toArray, List.set_cons_zero, List.set_cons_succ]))
          first | (refine anyH_skip 8 (by kernel_rfl) (by kernel_rfl) (by simp only [List.getElem?_toArray, List.getElem?_cons_succ, List.getElem?_cons_zero] <;> rfl) (by kernel_rfl) (by exact fun _ _ _ h => h) (by rfl) (by assumption) ?_; (try simp only [Act.put, List.setIfInBounds_toArray, List.set_cons_zero, List.set_cons_succ])) | (refine anyH_take 8 (v := ?_) (by kernel_rfl) (by kernel_rfl) (by simp only [List.getElem?_toArray, List.getElem?_cons_succ, List.getElem?_cons_zero] <;> rfl) (by kernel_rfl) (by exact fun _ _ _ h => h) (by rfl) ?_ (by assumption) ?_; rotate_left; (focus (intro w hSw; (try dsimp only at hSw); (try simp only [List.getElem_toArray, List.getElem_cons_succ, List.getElem_cons_zero]); go_simp; try (with_reducible rfl))); (try simp only [Act.put, List.setIfInBounds_toArray, List.set_cons_zero, List.set_cons_succ]))
          refine anyH_two 1 9 (by kernel_rfl) (by simp only [List.getElem?_toArray, List.getElem?_cons_succ, List.getElem?_cons_zero] <;> rfl) (by simp only [List.getElem?_toArray, List.getElem?_cons_succ, List.getElem?_cons_zero] <;> rfl) (by rfl) (by rfl) (fun K hK => ?_) (fun K hK => ?_)
          ((try simp only [List.getElem_toArray, List.getElem_cons_succ, List.getElem_cons_zero]); go_simp; (first | (refine oper_append_to (.tmp 82) (.tmp 90) 29 rfl w1.heap.size 9 js _ 16 Try.underlying29 js0 js1 js2 js3 rfl _ k (sv (valsN l k)) rfl HV6.out _ (some ⟨w6.drew.heap.size, 0, none⟩) 1 1 [.string ⟨(vN l k).toArray⟩] rfl rfl (Reads.new w6.drew [.string ⟨(vN l k).toArray⟩] 9 (0, 0)) (by simp [Value.oneCell']) (by simp only [maxLen]; omega) (by omega) HW7.out.size ?_; intro A8 c8 w8 hown8 hg8; obtain ⟨HN9, e8, e9, hb8⟩ := HN8.out.val (vN l k) A8 c8 (k + 1) (by rw [HZ5.out]) w8 hown8 (by rw [HZ5.out]; exact hg8); rw [HZ5.out] at e8; have HH8 := Lib.hid (below_then HB1.out (HW7.out.trans (below_of_grown HV6.out HW7.out.size hg8))); have HWZ := Lib.hid (HW7.out.trans hb8); have HHH := Lib.hid (below_then HB1.out HWZ.out); have HNZ : Hid (NodW (w8.setCell ⟨w2.heap.size, 3, none⟩ (.slice A8 (k + 1) c8)) w1.heap.size w2.heap.size (partN l (k + 1)) A4 c4 A8 c8) := (by rw [HNX.out]; exact Lib.hid HN9); clear hb8 HN9 hg8 hown8) | skip); refine hK.out _ _ ?_ (fun hHeld => ?_); (focus ((try dsimp only); (first | exact HB6d.out | exact HB6.out | exact HB7.out | exact HHH.out | exact HH8.out))); clear hK K; (try simp only [Act.put, List.setIfInBounds_toArray, List.set_cons_zero, List.set_cons_succ]))
          first | (refine anyH_pass 9 (by kernel_rfl) (by simp only [List.getElem?_toArray, List.getElem?_cons_succ, List.getElem?_cons_zero] <;> rfl) (by rfl) (by assumption) ?_; (try simp only [Act.put, List.setIfInBounds_toArray, List.set_cons_zero, List.set_cons_succ])) | (refine anyH_one 9 (by kernel_rfl) (by simp only [List.getElem?_toArray, List.getElem?_cons_succ, List.getElem?_cons_zero] <;> rfl) (by rfl) (fun K hK => ?_); (try simp only [List.getElem_toArray, List.getElem_cons_succ, List.getElem_cons_zero]); go_simp; (first | (refine oper_append_to (.tmp 82) (.tmp 90) 29 rfl w1.heap.size 9 js _ 16 Try.underlying29 js0 js1 js2 js3 rfl _ k (sv (valsN l k)) rfl HV6.out _ (some ⟨w6.drew.heap.size, 0, none⟩) 1 1 [.string ⟨(vN l k).toArray⟩] rfl rfl (Reads.new w6.drew [.string ⟨(vN l k).toArray⟩] 9 (0, 0)) (by simp [Value.oneCell']) (by simp only [maxLen]; omega) (by omega) HW7.out.size ?_; intro A8 c8 w8 hown8 hg8; obtain ⟨HN9, e8, e9, hb8⟩ := HN8.out.val (vN l k) A8 c8 (k + 1) (by rw [HZ5.out]) w8 hown8 (by rw [HZ5.out]; exact hg8); rw [HZ5.out] at e8; have HH8 := Lib.hid (below_then HB1.out (HW7.out.trans (below_of_grown HV6.out HW7.out.size hg8))); have HWZ := Lib.hid (HW7.out.trans hb8); have HHH := Lib.hid (below_then HB1.out HWZ.out); have HNZ : Hid (NodW (w8.setCell ⟨w2.heap.size, 3, none⟩ (.slice A8 (k + 1) c8)) w1.heap.size w2.heap.size (partN l (k + 1)) A4 c4 A8 c8) := (by rw [HNX.out]; exact Lib.hid HN9); clear hb8 HN9 hg8 hown8) | skip); refine hK.out _ _ ?_ (fun hHeld => ?_); (focus ((try dsimp only); (first | exact HB6d.out | exact HB6.out | exact HB7.out | exact HHH.out | exact HH8.out))); clear hK K; (try simp only [Act.put, List.setIfInBounds_toArray, List.set_cons_zero, List.set_cons_succ]))
          (refine anyH_one 10 (by kernel_rfl) (by simp only [List.getElem?_toArray, List.getElem?_cons_succ, List.getElem?_cons_zero] <;> rfl) (by rfl) (fun K hK => ?_); (first | (refine oper_append_to (.tmp 82) (.tmp 90) 29 rfl w1.heap.size 9 js _ 16 Try.underlying29 js0 js1 js2 js3 rfl _ k (sv (valsN l k)) rfl HV6.out _ (some ⟨w6.drew.heap.size, 0, none⟩) 1 1 [.string ⟨(vN l k).toArray⟩] rfl rfl (Reads.new w6.drew [.string ⟨(vN l k).toArray⟩] 9 (0, 0)) (by simp [Value.oneCell']) (by simp only [maxLen]; omega) (by omega) HW7.out.size ?_; intro A8 c8 w8 hown8 hg8; obtain ⟨HN9, e8, e9, hb8⟩ := HN8.out.val (vN l k) A8 c8 (k + 1) (by rw [HZ5.out]) w8 hown8 (by rw [HZ5.out]; exact hg8); rw [HZ5.out] at e8; have HH8 := Lib.hid (below_then HB1.out (HW7.out.trans (below_of_grown HV6.out HW7.out.size hg8))); have HWZ := Lib.hid (HW7.out.trans hb8); have HHH := Lib.hid (below_then HB1.out HWZ.out); have HNZ : Hid (NodW (w8.setCell ⟨w2.heap.size, 3, none⟩ (.slice A8 (k + 1) c8)) w1.heap.size w2.heap.size (partN l (k + 1)) A4 c4 A8 c8) := (by rw [HNX.out]; exact Lib.hid HN9); clear hb8 HN9 hg8 hown8) | skip); refine hK.out _ _ ?_ (fun hHeld => ?_); (focus ((try dsimp only); (first | exact HB6d.out | exact HB6.out | exact HB7.out | exact HHH.out | exact HH8.out))); clear hK K; (try simp only [Act.put, List.setIfInBounds_toArray, List.set_cons_zero, List.set_cons_succ]))
          first | (refine anyH_skip 11 (by kernel_rfl) (by kernel_rfl) (by simp only [List.getElem?_toArray, List.getElem?_cons_succ, List.getElem?_cons_zero] <;> rfl) (by kernel_rfl) (by exact fun _ _ _ h => h) (by rfl) (by assumption) ?_; (try simp only [Act.put, List.setIfInBounds_toArray, List.set_cons_zero, List.set_cons_succ])) | (refine anyH_take 11 (v := ?_) (by kernel_rfl) (by kernel_rfl) (by simp only [List.getElem?_toArray, List.getElem?_cons_succ, List.getElem?_cons_zero] <;> rfl) (by kernel_rfl) (by exact fun _ _ _ h => h) (by rfl) ?_ (by assumption) ?_; rotate_left; (focus (intro w hSw; (try dsimp only at hSw); (try simp only [List.getElem_toArray, List.getElem_cons_succ, List.getElem_cons_zero]); go_simp; try (with_reducible rfl))); (try simp only [Act.put, List.setIfInBounds_toArray, List.set_cons_zero, List.set_cons_succ]))
          first | (refine anyH_pass 12 (by kernel_rfl) (by simp only [List.getElem?_toArray, List.getElem?_cons_succ, List.getElem?_cons_zero] <;> rfl) (by rfl) (by assumption) ?_; (try simp only [Act.put, List.setIfInBounds_toArray, List.set_cons_zero, List.set_cons_succ])) | (refine anyH_one 12 (by kernel_rfl) (by simp only [List.getElem?_toArray, List.getElem?_cons_succ, List.getElem?_cons_zero] <;> rfl) (by rfl) (fun K hK => ?_); (try simp only [List.getElem_toArray, List.getElem_cons_succ, List.getElem_cons_zero]); go_simp; (first | (refine oper_append_to (.tmp 82) (.tmp 90) 29 rfl w1.heap.size 9 js _ 16 Try.underlying29 js0 js1 js2 js3 rfl _ k (sv (valsN l k)) rfl HV6.out _ (some ⟨w6.drew.heap.size, 0, none⟩) 1 1 [.string ⟨(vN l k).toArray⟩] rfl rfl (Reads.new w6.drew [.string ⟨(vN l k).toArray⟩] 9 (0, 0)) (by simp [Value.oneCell']) (by simp only [maxLen]; omega) (by omega) HW7.out.size ?_; intro A8 c8 w8 hown8 hg8; obtain ⟨HN9, e8, e9, hb8⟩ := HN8.out.val (vN l k) A8 c8 (k + 1) (by rw [HZ5.out]) w8 hown8 (by rw [HZ5.out]; exact hg8); rw [HZ5.out] at e8; have HH8 := Lib.hid (below_then HB1.out (HW7.out.trans (below_of_grown HV6.out HW7.out.size hg8))); have HWZ := Lib.hid (HW7.out.trans hb8); have HHH := Lib.hid (below_then HB1.out HWZ.out); have HNZ : Hid (NodW (w8.setCell ⟨w2.heap.size, 3, none⟩ (.slice A8 (k + 1) c8)) w1.heap.size w2.heap.size (partN l (k + 1)) A4 c4 A8 c8) := (by rw [HNX.out]; exact Lib.hid HN9); clear hb8 HN9 hg8 hown8) | skip); refine hK.out _ _ ?_ (fun hHeld => ?_); (focus ((try dsimp only); (first | exact HB6d.out | exact HB6.out | exact HB7.out | exact HHH.out | exact HH8.out))); clear hK K; (try simp only [Act.put, List.setIfInBounds_toArray, List.set_cons_zero, List.set_cons_succ]))
          rotate_left
          ((try simp only [List.getElem_toArray, List.getElem_cons_succ, List.getElem_cons_zero]); go_simp; (first | (refine oper_append_to (.tmp 82) (.tmp 90) 29 rfl w1.heap.size 9 js _ 16 Try.underlying29 js0 js1 js2 js3 rfl _ k (sv (valsN l k)) rfl HV6.out _ (some ⟨w6.drew.heap.size, 0, none⟩) 1 1 [.string ⟨(vN l k).toArray⟩] rfl rfl (Reads.new w6.drew [.string ⟨(vN l k).toArray⟩] 9 (0, 0)) (by simp [Value.oneCell']) (by simp only [maxLen]; omega) (by omega) HW7.out.size ?_; intro A8 c8 w8 hown8 hg8; obtain ⟨HN9, e8, e9, hb8⟩ := HN8.out.val (vN l k) A8 c8 (k + 1) (by rw [HZ5.out]) w8 hown8 (by rw [HZ5.out]; exact hg8); rw [HZ5.out] at e8; have HH8 := Lib.hid (below_then HB1.out (HW7.out.trans (below_of_grown HV6.out HW7.out.size hg8))); have HWZ := Lib.hid (HW7.out.trans hb8); have HHH := Lib.hid (below_then HB1.out HWZ.out); have HNZ : Hid (NodW (w8.setCell ⟨w2.heap.size, 3, none⟩ (.slice A8 (k + 1) c8)) w1.heap.size w2.heap.size (partN l (k + 1)) A4 c4 A8 c8) := (by rw [HNX.out]; exact Lib.hid HN9); clear hb8 HN9 hg8 hown8) | skip); refine hK.out _ _ ?_ (fun hHeld => ?_); (focus ((try dsimp only); (first | exact HB6d.out | exact HB6.out | exact HB7.out | exact HHH.out | exact HH8.out))); clear hK K; (try simp only [Act.put, List.setIfInBounds_toArray, List.set_cons_zero, List.set_cons_succ]))
          first | (refine anyH_pass 1 (by kernel_rfl) (by simp only [List.getElem?_toArray, List.getElem?_cons_succ, List.getElem?_cons_zero] <;> rfl) (by rfl) (by assumption) ?_; (try simp only [Act.put, List.setIfInBounds_toArray, List.set_cons_zero, List.set_cons_succ])) | (refine anyH_one 1 (by kernel_rfl) (by simp only [List.getElem?_toArray, List.getElem?_cons_succ, List.getElem?_cons_zero] <;> rfl) (by rfl) (fun K hK => ?_); (try simp only [List.getElem_toArray, List.getElem_cons_succ, List.getElem_cons_zero]); go_simp; (first | (refine oper_append_to (.tmp 82) (.tmp 90) 29 rfl w1.heap.size 9 js _ 16 Try.underlying29 js0 js1 js2 js3 rfl _ k (sv (valsN l k)) rfl HV6.out _ (some ⟨w6.drew.heap.size, 0, none⟩) 1 1 [.string ⟨(vN l k).toArray⟩] rfl rfl (Reads.new w6.drew [.string ⟨(vN l k).toArray⟩] 9 (0, 0)) (by simp [Value.oneCell']) (by simp only [maxLen]; omega) (by omega) HW7.out.size ?_; intro A8 c8 w8 hown8 hg8; obtain ⟨HN9, e8, e9, hb8⟩ := HN8.out.val (vN l k) A8 c8 (k + 1) (by rw [HZ5.out]) w8 hown8 (by rw [HZ5.out]; exact hg8); rw [HZ5.out] at e8; have HH8 := Lib.hid (below_then HB1.out (HW7.out.trans (below_of_grown HV6.out HW7.out.size hg8))); have HWZ := Lib.hid (HW7.out.trans hb8); have HHH := Lib.hid (below_then HB1.out HWZ.out); have HNZ : Hid (NodW (w8.setCell ⟨w2.heap.size, 3, none⟩ (.slice A8 (k + 1) c8)) w1.heap.size w2.heap.size (partN l (k + 1)) A4 c4 A8 c8) := (by rw [HNX.out]; exact Lib.hid HN9); clear hb8 HN9 hg8 hown8) | skip); refine hK.out _ _ ?_ (fun hHeld => ?_); (focus ((try dsimp only); (first | exact HB6d.out | exact HB6.out | exact HB7.out | exact HHH.out | exact HH8.out))); clear hK K; (try simp only [Act.put, List.setIfInBounds_toArray, List.set_cons_zero, List.set_cons_succ]))
          (refine anyH_one 10 (by kernel_rfl) (by simp only [List.getElem?_toArray, List.getElem?_cons_succ, List.getElem?_cons_zero] <;> rfl) (by rfl) (fun K hK => ?_); (first | (refine oper_append_to (.tmp 82) (.tmp 90) 29 rfl w1.heap.size 9 js _ 16 Try.underlying29 js0 js1 js2 js3 rfl _ k (sv (valsN l k)) rfl HV6.out _ (some ⟨w6.drew.heap.size, 0, none⟩) 1 1 [.string ⟨(vN l k).toArray⟩] rfl rfl (Reads.new w6.drew [.string ⟨(vN l k).toArray⟩] 9 (0, 0)) (by simp [Value.oneCell']) (by simp only [maxLen]; omega) (by omega) HW7.out.size ?_; intro A8 c8 w8 hown8 hg8; obtain ⟨HN9, e8, e9, hb8⟩ := HN8.out.val (vN l k) A8 c8 (k + 1) (by rw [HZ5.out]) w8 hown8 (by rw [HZ5.out]; exact hg8); rw [HZ5.out] at e8; have HH8 := Lib.hid (below_then HB1.out (HW7.out.trans (below_of_grown HV6.out HW7.out.size hg8))); have HWZ := Lib.hid (HW7.out.trans hb8); have HHH := Lib.hid (below_then HB1.out HWZ.out); have HNZ : Hid (NodW (w8.setCell ⟨w2.heap.size, 3, none⟩ (.slice A8 (k + 1) c8)) w1.heap.size w2.heap.size (partN l (k + 1)) A4 c4 A8 c8) := (by rw [HNX.out]; exact Lib.hid HN9); clear hb8 HN9 hg8 hown8) | skip); refine hK.out _ _ ?_ (fun hHeld => ?_); (focus ((try dsimp only); (first | exact HB6d.out | exact HB6.out | exact HB7.out | exact HHH.out | exact HH8.out))); clear hK K; (try simp only [Act.put, List.setIfInBounds_toArray, List.set_cons_zero, List.set_cons_succ]))
          first | (refine anyH_skip 11 (by kernel_rfl) (by kernel_rfl) (by simp only [List.getElem?_toArray, List.getElem?_cons_succ, List.getElem?_cons_zero] <;> rfl) (by kernel_rfl) (by exact fun _ _ _ h => h) (by rfl) (by assumption) ?_; (try simp only [Act.put, List.setIfInBounds_toArray, List.set_cons_zero, List.set_cons_succ])) | (refine anyH_take 11 (v := ?_) (by kernel_rfl) (by kernel_rfl) (by simp only [List.getElem?_toArray, List.getElem?_cons_succ, List.getElem?_cons_zero] <;> rfl) (by kernel_rfl) (by exact fun _ _ _ h => h) (by rfl) ?_ (by assumption) ?_; rotate_left; (focus (intro w hSw; (try dsimp only at hSw); (try simp only [List.getElem_toArray, List.getElem_cons_succ, List.getElem_cons_zero]); go_simp; try (with_reducible rfl))); (try simp only [Act.put, List.setIfInBounds_toArray, List.set_cons_zero, List.set_cons_succ]))
          first | (refine anyH_pass 12 (by kernel_rfl) (by simp only [List.getElem?_toArray, List.getElem?_cons_succ, List.getElem?_cons_zero] <;> rfl) (by rfl) (by assumption) ?_; (try simp only [Act.put, List.setIfInBounds_toArray, List.set_cons_zero, List.set_cons_succ])) | (refine anyH_one 12 (by kernel_rfl) (by simp only [List.getElem?_toArray, List.getElem?_cons_succ, List.getElem?_cons_zero] <;> rfl) (by rfl) (fun K hK => ?_); (try simp only [List.getElem_toArray, List.getElem_cons_succ, List.getElem_cons_zero]); go_simp; (first | (refine oper_append_to (.tmp 82) (.tmp 90) 29 rfl w1.heap.size 9 js _ 16 Try.underlying29 js0 js1 js2 js3 rfl _ k (sv (valsN l k)) rfl HV6.out _ (some ⟨w6.drew.heap.size, 0, none⟩) 1 1 [.string ⟨(vN l k).toArray⟩] rfl rfl (Reads.new w6.drew [.string ⟨(vN l k).toArray⟩] 9 (0, 0)) (by simp [Value.oneCell']) (by simp only [maxLen]; omega) (by omega) HW7.out.size ?_; intro A8 c8 w8 hown8 hg8; obtain ⟨HN9, e8, e9, hb8⟩ := HN8.out.val (vN l k) A8 c8 (k + 1) (by rw [HZ5.out]) w8 hown8 (by rw [HZ5.out]; exact hg8); rw [HZ5.out] at e8; have HH8 := Lib.hid (below_then HB1.out (HW7.out.trans (below_of_grown HV6.out HW7.out.size hg8))); have HWZ := Lib.hid (HW7.out.trans hb8); have HHH := Lib.hid (below_then HB1.out HWZ.out); have HNZ : Hid (NodW (w8.setCell ⟨w2.heap.size, 3, none⟩ (.slice A8 (k + 1) c8)) w1.heap.size w2.heap.size (partN l (k + 1)) A4 c4 A8 c8) := (by rw [HNX.out]; exact Lib.hid HN9); clear hb8 HN9 hg8 hown8) | skip); refine hK.out _ _ ?_ (fun hHeld => ?_); (focus ((try dsimp only); (first | exact HB6d.out | exact HB6.out | exact HB7.out | exact HHH.out | exact HH8.out))); clear hK K; (try simp only [Act.put, List.setIfInBounds_toArray, List.set_cons_zero, List.set_cons_succ]))
          rotate_left
          all_goals (refine wpAnyH_done (by kernel_rfl) ?_ _)
          all_goals
            clear q3 q4 q5 q6 e8 e9
            go_wp2
            go_roundw
            case rel => exact ⟨k + 1, A4, c4, A8, c8, by omega, by go_num, HE1, HNZ, HWZ⟩
            case measure => simp [intOf]; omega
      · obtain rfl : k = n2 l := by omega
        have HE := Lib.hid (read_end HFO.out HE0.out)
        obtain ⟨p0, p1, p2, p3⟩ := HN.out.cells
        rw [show (partN l (n2 l)).keys.length = n2 l from keysN_len l (n2 l)] at p2
        rw [show (partN l (n2 l)).vals.length = n2 l from valsN_len l (n2 l)] at p3
        replace p0 : wr.cell? ⟨w2.heap.size, 0, none⟩ = some (.int .i64 (n1 l : Int)) := p0
        replace p1 : wr.cell? ⟨w2.heap.size, 1, none⟩ = some (.bool (lfN l)) := p1
        have HNR := Lib.hid (fun x0 x1 x2 x3 => HN.out.set4 HKR.out x0 x1 x2 x3)
        clear hlt hk
        go_wp2
        try simp only [Exit.inBlock, Exit.then]
        refine bodyPost_ret (v := .tuple #[.agg #[.int .i64 (n1 l : Int), .bool (lfN l), .slice A (n2 l) c1, .slice A2 (n2 l) c2], .int .i64 0]) (by rw [results_cell_tmp rfl]; go_simp) rfl ?_
        rw [HE.out.1, HE.out.2]
        exact ⟨A, c1, A2, c2, by rw [show (partN l (n2 l)).keys.length = n2 l from keysN_len l (n2 l), show (partN l (n2 l)).vals.length = n2 l from valsN_len l (n2 l)]; rfl, HNR.out _ _ _ _, below_set4 HB.out _ _ _ _⟩
end Go.Proofs.Ytilkcecjciiboaa
