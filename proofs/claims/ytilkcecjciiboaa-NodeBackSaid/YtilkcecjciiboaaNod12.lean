/-
  Chapter 7: node.Read, walked.
-/
import Derived.Test.YtilkcecjciiboaaNod11
import Derived.Test.YtilkcecjciiboaaNod9
namespace Go.Proofs.Ytilkcecjciiboaa
open Go.RowKit
attribute [local go_sem ↓] Go.wp_at_zero Go.wp_at_succ
theorem read_bad {l : List UInt8} (h : formN l = false) : readE l = 7 ∧ readV l = zeroN := by
  have h1 : readE l = 7 := by unfold readE; rw [h]; rfl
  refine ⟨h1, ?_⟩
  unfold readV
  rw [h1]
  rfl
theorem read_stop {l : List UInt8} {k : Nat} (h : formN l = true) (hk : k < n2 l) (h0 : errN l k = 0) (h1 : kE l k ≠ 0) : readE l = kE l k ∧ readV l = zeroN := by
  have h2 : readE l = kE l k := by unfold readE; rw [if_pos h]; exact errN_stop _ hk h0 h1
  refine ⟨h2, ?_⟩
  unfold readV
  rw [h2, if_neg h1]
theorem read_end {l : List UInt8} (h : formN l = true) (h0 : errN l (n2 l) = 0) : readE l = 0 ∧ readV l = partN l (n2 l) := by
  have h2 : readE l = 0 := by unfold readE; rw [if_pos h]; exact h0
  refine ⟨h2, ?_⟩
  unfold readV
  rw [h2]
  rfl
theorem errN_next {l : List UInt8} {k : Nat} (h : errN l k = 0) (h1 : kE l k = 0) : errN l (k + 1) = 0 := by unfold errN; rw [if_pos h, h1]
theorem keyL_part (l : List UInt8) (k : Nat) : keyL (keysN l k) (kN l k : Int) = kE l k := by
  unfold keyL kE
  rw [keysN_len]
  rcases Nat.eq_zero_or_pos k with h | h
  · subst h
    simp
    split <;> split <;> first | rfl | omega
  · rw [keysN_at l (show k - 1 < k by omega)]
    repeat' split
    all_goals first | rfl | omega
theorem form_shape {l : List UInt8} (h : shapeOk l = false) : formN l = false := by
  unfold formN
  rw [h]
  rfl
theorem form_zeros {l : List UInt8} (h : shapeOk l = true) : formN l = (zeroB (z1N l) && zeroB (z2N l)) := by
  unfold formN
  rw [Bool.eq_iff_iff, decide_eq_true_iff, Bool.and_eq_true]
  exact ⟨fun h1 => h1.2, fun h1 => ⟨h, h1⟩⟩
theorem shape_fit {l : List UInt8} (h : shapeOk l = true) : l.length = 244 ∧ n0 l ≤ 1 ∧ widthV (n1 l) (lfN l) = (wB l : Int) ∧ 4 ≤ wB l ∧ wB l ≤ 24 ∧ mB l ≤ 18 ∧ n2 l ≤ mB l ∧ 8 * mB l + wB l * mB l ≤ 216 := by
  unfold shapeOk headOk at h
  rw [decide_eq_true_iff, decide_eq_true_iff] at h
  obtain ⟨⟨h1, h2, h3⟩, h4, h5, h6, h7, h8⟩ := h
  obtain ⟨g1, g2, g3, g4, g5⟩ := head_fit h3
  refine ⟨h1, h2, g1, g2, g5, g4, h4, ?_⟩
  have hc := wm_cases (n1 l) (lfN l)
  have hm : maxV (n1 l) (lfN l) = mB l := rfl
  rw [g1, hm] at hc
  rcases hc with hc | ⟨hc, _⟩
  · omega
  · rcases hc with hc | hc | hc | hc
    all_goals
      obtain ⟨e1, e2⟩ := hc
      rw [show wB l = _ from Int.ofNat.inj e1, e2]
      decide
theorem grown4 (W : World) (b : Nat) (x0 x1 x2 x3 : Value) : W.grownBy ((((W.setCell ⟨b, 0, none⟩ x0).setCell ⟨b, 1, none⟩ x1).setCell ⟨b, 2, none⟩ x2).setCell ⟨b, 3, none⟩ x3) (some b) := by
  have tr : ∀ {a c d : World}, a.grownBy c (some b) → c.grownBy d (some b) → a.grownBy d (some b) := fun h k => ⟨k.os.trans h.os, k.tape.trans h.tape, k.output.trans h.output, Nat.le_trans h.size k.size, fun j hj hr => (k.block j (Nat.lt_of_lt_of_le hj h.size) hr).trans (h.block j hj hr)⟩
  exact tr (tr (tr (grown_atN W b 0 x0) (grown_atN _ b 1 x1)) (grown_atN _ b 2 x2)) (grown_atN _ b 3 x3)
theorem NodW.set4 {w : World} {base b r : Nat} {n : NodeL} {A A2 : Option Addr} {c c2 : Nat} (h : NodW w base b n A c A2 c2) {cs : Array Value} (hr : w.heap[r]? = some (.cells cs 31)) (x0 x1 x2 x3 : Value) :
    NodR ((((w.setCell ⟨r, 0, none⟩ x0).setCell ⟨r, 1, none⟩ x1).setCell ⟨r, 2, none⟩ x2).setCell ⟨r, 3, none⟩ x3) ((((w.setCell ⟨r, 0, none⟩ x0).setCell ⟨r, 1, none⟩ x1).setCell ⟨r, 2, none⟩ x2).setCell ⟨r, 3, none⟩ x3).heap.size n A c A2 c2 := by
  have hg := grown4 w r x0 x1 x2 x3
  have k1 := h.k.kept hg (.inr (not_own hr (by decide) h.k).symm)
  have k2 := h.v.kept hg (.inr (not_own hr (by decide) h.v).symm)
  exact ⟨Reads.of_own k1, Reads.of_own k2, own_capO h.k, own_capO h.v⟩
theorem partN_next (l : List UInt8) (k : Nat) : partN l (k + 1) = ⟨n1 l, lfN l, keysN l k ++ [(kN l k : Int)], valsN l k ++ [vN l k]⟩ := by unfold partN; rw [keysN_next, valsN_next]
def GivesN (n : NodeL) (err : Int) (w : World) (e : Ending) (w' : World) : Prop :=
  ∃ A c A2 c2, e = .returned (.tuple #[.agg #[.int .i64 n.t, .bool n.leaf, .slice A n.keys.length c, .slice A2 n.vals.length c2], .int .i64 err]) ∧ NodR w' w'.heap.size n A c A2 c2 ∧ Below w.heap.size w w'
theorem GivesN.bad {n : NodeL} {err : Int} (hn : n = zeroN) (er : Int) (he : err = er) {w w' : World} (hb : Below w.heap.size w w') : GivesN n err w (.returned (.tuple #[.agg #[.int .i64 0, .bool false, .slice none 0 0, .slice none 0 0], .int .i64 er])) w' := by
  subst hn he
  exact ⟨none, 0, none, 0, rfl, ⟨Reads.nil_ _ _ _, Reads.nil_ _ _ _, Nat.le_refl _, Nat.le_refl _⟩, hb⟩
set_option maxRecDepth 100000 in
set_option maxHeartbeats 8000000 in
theorem read_node (A : Option Addr) (c : Nat) (l : List UInt8) (w : World) (hq : l.length ≤ c) (hm : l.length ≤ reachBytes) (h : Reads w w.heap.size A (bv l)) :
    Calls Try.prog 52 #[.slice A l.length c] w (GivesN (readV l) (readE l) w) := by
  have HM := Lib.hid hm
  obtain ⟨w1, hw1⟩ : ∃ w1, w1 = w.alloc (.cells #[.int .i64 0, .bool false, .slice none 0 0, .slice none 0 0] 31) := ⟨_, rfl⟩
  have hb1 : Below w.heap.size w w1 := by rw [hw1]; exact below_alloc1 w _
  have hk1 : w1.heap[w.heap.size]? = some (.cells #[.int .i64 0, .bool false, .slice none 0 0, .slice none 0 0] 31) := by rw [hw1]; exact heap_alloc_new w _
  have hs1 : w1.heap.size = w.heap.size + 1 := by rw [hw1]; simp
  have KS := shape_any A c l w1 hm (h.ext hb1)
  have HB1 := Lib.hid hb1
  have HK1 := Lib.hid hk1
  have HS1 := Lib.hid hs1
  have HR := Lib.hid h
  have HQ := Lib.hid hq
  clear hb1 hk1 hs1 h hm hq
  go_enter Try.func52, Try.ntmps52
  go_upto_region 1 with fail
  rw [show w.alloc (.cells #[.int .i64 0, .bool false, .slice none 0 0, .slice none 0 0] 31) = w1 from hw1.symm]
  clear hw1
  go_wp2_with fail
  refine KS.mono ?_
  rintro e w2 ⟨t, lf, kc, rfl, hsh, hb2⟩
  clear KS
  have HB2 := Lib.hid (below_then HB1.out hb2)
  have hk2 := heap_keep HK1.out hb2
  cases hS : shapeOk l with
  | false =>
    have HE := Lib.hid (read_bad (form_shape hS))
    have hk3 := heap_keep hk2 (below_alloc1 w2 (.cells #[.int .i64 t, .bool lf, .slice none 0 0, .slice none 0 0] 31))
    have HB3 := Lib.hid (below_then HB2.out (below_alloc1 w2 (.cells #[.int .i64 t, .bool lf, .slice none 0 0, .slice none 0 0] 31)))
    have q0 := heap_cell hk3 0 rfl
    have q1 := heap_cell hk3 1 rfl
    have q2 := heap_cell hk3 2 rfl
    have q3 := heap_cell hk3 3 rfl
    have z0 := heap_free hk3 0
    have z1 := heap_free hk3 1
    have z2 := heap_free hk3 2
    have z3 := heap_free hk3 3
    clear hS hsh hk2 hk3 hb2
    go_wp2
    try simp only [Exit.inBlock, Exit.then]
    refine bodyPost_ret (v := .tuple #[.agg #[.int .i64 0, .bool false, .slice none 0 0, .slice none 0 0], .int .i64 7]) (by rw [results_cell_tmp rfl]; go_simp) rfl ?_
    exact GivesN.bad HE.out.2 7 HE.out.1 (below_set4 HB3.out _ _ _ _)
  | true =>
    obtain ⟨g1, g2, g3, g4, g5, g6, g7, g8⟩ := shape_fit hS
    obtain ⟨rfl, rfl, rfl⟩ := hsh hS
    have HFM := Lib.hid (form_zeros hS)
    have HWD := Lib.hid (fun V => (show Calls Try.prog 24 #[.int .i64 (n1 l : Int), .bool (lfN l)] V fun e w' => e = .returned (.int .i64 (wB l : Int)) ∧ V = w' from by
      have := width_any (n1 l) (lfN l) V
      rw [g3] at this
      exact this))
    have HMX := Lib.hid (fun V => (show Calls Try.prog 23 #[.int .i64 (n1 l : Int), .bool (lfN l)] V fun e w' => e = .returned (.int .i64 (mB l : Int)) ∧ V = w' from max_any (n1 l) (lfN l) V))
    clear hsh hS g3
    go_upto_region 4 with fail
    have hk3 := heap_keep hk2 (below_alloc1 w2 (.cells #[.int .i64 (n1 l : Int), .bool (lfN l), .slice none 0 0, .slice none 0 0] 31))
    have HB3 := Lib.hid (below_then HB2.out (below_alloc1 w2 (.cells #[.int .i64 (n1 l : Int), .bool (lfN l), .slice none 0 0, .slice none 0 0] 31)))
    have HN3 := Lib.hid (NodW.new w2 (n1 l) (lfN l) (w2.alloc (.cells #[.int .i64 (n1 l : Int), .bool (lfN l), .slice none 0 0, .slice none 0 0] 31)) w1.heap.size hb2.size (heap_alloc_new w2 _))
    have HW3 := Lib.hid (hb2.trans ((below_alloc1 w2 (.cells #[.int .i64 (n1 l : Int), .bool (lfN l), .slice none 0 0, .slice none 0 0] 31)).mono hb2.size))
    clear hk2 HB2 hb2
    generalize w2.alloc (.cells #[.int .i64 (n1 l : Int), .bool (lfN l), .slice none 0 0, .slice none 0 0] 31) = w3 at *
    have hwd := fun m => (show Calls Try.prog 24 #[.int .i64 (n1 l : Int), .bool (lfN l)] (w3.drewN m) fun e w' => e = .returned (.int .i64 (wB l : Int)) ∧ w' = w3.drewN m from (HWD.out _).mono fun e w' ⟨h1, h2⟩ => ⟨h1, h2.symm⟩)
    have hmx := fun m => (show Calls Try.prog 23 #[.int .i64 (n1 l : Int), .bool (lfN l)] (w3.drewN m) fun e w' => e = .returned (.int .i64 (mB l : Int)) ∧ w' = w3.drewN m from (HMX.out _).mono fun e w' ⟨h1, h2⟩ => ⟨h1, h2.symm⟩)
    obtain ⟨p0, p1, -, -⟩ := HN3.out.cells
    have HG := Lib.hid (And.intro g1 (And.intro g2 (And.intro g4 (And.intro g5 (And.intro g6 (And.intro g7 g8))))))
    clear HWD HMX g1 g2 g4 g5 g6 g7 g8 hk3
    go_quiet (first | (go_at_call 24; exact Calls.quiet_of_same (hwd _)) | (go_at_call 23; exact Calls.quiet_of_same (hmx _)))
    clear hwd hmx p0 p1
    go_upto_region 5 with fail
    obtain ⟨w4, hw4⟩ : ∃ w4, w4 = w3.drewN nq := ⟨_, rfl⟩
    have hb4 : Below w3.heap.size w3 w4 := by rw [hw4]; exact below_drewN (Below.refl _ _) nq
    have HB4 := Lib.hid (below_then HB3.out hb4)
    have HW4 := Lib.hid (HW3.out.trans (hb4.mono HW3.out.size))
    have HN4 := Lib.hid (HN3.out.keep hb4)
    rw [← hw4]
    clear hw4 hb4 HB3 HW3 HN3
    obtain ⟨g1, g2, g4, g5, g6, g7, g8⟩ := HG.out
    have hle : wB l * n2 l ≤ wB l * mB l := Nat.mul_le_mul_left _ g7
    obtain ⟨ad, rfl, -⟩ := HR.out.at_ (k := 0) (by rw [bv_len]; omega)
    have hq := HQ.out
    rw [g1] at hq
    have hd1 := HR.out.drop (k := 12 + 8 * n2 l) (cap := c) (by rw [bv_len]; omega)
    rw [if_neg (by omega), bv_drop] at hd1
    have hd1 := hd1.take (8 * mB l - 8 * n2 l)
    rw [bv_take] at hd1
    have hd2 := HR.out.drop (k := 12 + 8 * mB l + wB l * n2 l) (cap := c) (by rw [bv_len]; omega)
    rw [if_neg (by omega), bv_drop] at hd2
    have KZ1 := Lib.hid (fun (V : World) (hb : Below w.heap.size w V) => zero_any (some (ad.add (12 + 8 * n2 l))) (c - (12 + 8 * n2 l)) (z1N l) V _ (by unfold z1N; rw [List.length_take, List.length_drop]; simp only [reachBytes]; omega) ((show Reads w w.heap.size (some (ad.add (12 + 8 * n2 l))) (bv (z1N l)) from hd1).ext hb))
    have KZ2 := Lib.hid (fun (V : World) (hb : Below w.heap.size w V) => zero_any (some (ad.add (12 + 8 * mB l + wB l * n2 l))) (c - (12 + 8 * mB l + wB l * n2 l)) (z2N l) V _ (by unfold z2N; rw [List.length_drop]; simp only [reachBytes]; omega) ((show Reads w w.heap.size (some (ad.add (12 + 8 * mB l + wB l * n2 l))) (bv (z2N l)) from hd2).ext hb))
    rw [show (z1N l).length = (12 + 8 * mB l) - (12 + 8 * n2 l) from by unfold z1N; rw [List.length_take, List.length_drop]; omega] at KZ1
    rw [show (z2N l).length = 244 - (12 + 8 * mB l + wB l * n2 l) from by unfold z2N; rw [List.length_drop]; omega] at KZ2
    obtain ⟨m8, hm8⟩ : ∃ x, x = 8 * mB l := ⟨_, rfl⟩
    obtain ⟨k8, hk8⟩ : ∃ x, x = 8 * n2 l := ⟨_, rfl⟩
    obtain ⟨v, hv⟩ : ∃ x, x = 12 + m8 := ⟨_, rfl⟩
    obtain ⟨a2, ha2⟩ : ∃ x, x = 12 + k8 := ⟨_, rfl⟩
    obtain ⟨p0, hp0⟩ : ∃ x, x = wB l * n2 l := ⟨_, rfl⟩
    obtain ⟨b0, hb0⟩ : ∃ x, x = v + p0 := ⟨_, rfl⟩
    rw [← hm8, ← hk8, ← hv, ← ha2] at KZ1
    rw [← hm8, ← hp0, ← hv, ← hb0] at KZ2
    have e1 : IntKind.i64.wrap ((mB l : Int) * 8) = (m8 : Int) := by rw [hm8, IntKind.wrap_i64]; omega
    have e2 : IntKind.i64.wrap (12 + (m8 : Int)) = (v : Int) := by rw [hv, IntKind.wrap_i64]; omega
    have e3 : IntKind.i64.wrap ((n2 l : Int) * 8) = (k8 : Int) := by rw [hk8, IntKind.wrap_i64]; omega
    have e4 : IntKind.i64.wrap (12 + (k8 : Int)) = (a2 : Int) := by rw [ha2, IntKind.wrap_i64]; omega
    have e5 : IntKind.i64.wrap ((n2 l : Int) * (wB l : Int)) = (p0 : Int) := by
      rw [show (n2 l : Int) * (wB l : Int) = (p0 : Int) by rw [hp0, Int.natCast_mul, Int.mul_comm], IntKind.wrap_i64]; omega
    have e6 : IntKind.i64.wrap ((v : Int) + (p0 : Int)) = (b0 : Int) := by rw [hb0, IntKind.wrap_i64]; omega
    have i1 : a2 ≤ v := by omega
    have i2 : v ≤ c := by omega
    have i3 : ¬ c = a2 := by omega
    have i4 : ¬ c = b0 := by omega
    have i5 : (a2 : Int) ≤ (v : Int) := by omega
    have i6 : (v : Int) ≤ (c : Int) := by omega
    have i7 : b0 ≤ 244 := by omega
    have i8 : (b0 : Int) ≤ 244 := by omega
    have i9 : (244 : Int) ≤ (c : Int) := by omega
    have HV := Lib.hid (show v = 12 + 8 * mB l by omega)
    clear hm8 hk8 hv ha2 hp0 hb0 hd1 hd2 g1 g2 g4 g5 g6 g7 g8 hle
    go_wp2_with fail
    refine (KZ1.out _ HB4.out).mono ?_
    rintro e w5 ⟨rfl, rfl⟩
    clear KZ1
    cases hz1 : zeroB (z1N l) with
    | false =>
      have HE := Lib.hid (read_bad (show formN l = false from by rw [HFM.out, hz1]; rfl))
      have hk4 := heap_keep HK1.out HW4.out
      have q0 := heap_cell hk4 0 rfl
      have q1 := heap_cell hk4 1 rfl
      have q2 := heap_cell hk4 2 rfl
      have q3 := heap_cell hk4 3 rfl
      have z0 := heap_free hk4 0
      have z1 := heap_free hk4 1
      have z2 := heap_free hk4 2
      have z3 := heap_free hk4 3
      clear hz1 HFM hk4 KZ2
      go_wp2
      try simp only [Exit.inBlock, Exit.then]
      refine bodyPost_ret (v := .tuple #[.agg #[.int .i64 0, .bool false, .slice none 0 0, .slice none 0 0], .int .i64 7]) (by rw [results_cell_tmp rfl]; go_simp) rfl ?_
      exact GivesN.bad HE.out.2 7 HE.out.1 (below_set4 HB4.out _ _ _ _)
    | true =>
      have HFM := Lib.hid (show formN l = zeroB (z2N l) from by rw [HFM.out, hz1]; rfl)
      clear hz1
      go_wp2_with fail
      refine (KZ2.out _ HB4.out).mono ?_
      rintro e w5 ⟨rfl, rfl⟩
      clear KZ2
      cases hz2 : zeroB (z2N l) with
      | false =>
        have HE := Lib.hid (read_bad (show formN l = false from by rw [HFM.out, hz2]))
        have hk4 := heap_keep HK1.out HW4.out
        have q0 := heap_cell hk4 0 rfl
        have q1 := heap_cell hk4 1 rfl
        have q2 := heap_cell hk4 2 rfl
        have q3 := heap_cell hk4 3 rfl
        have z0 := heap_free hk4 0
        have z1 := heap_free hk4 1
        have z2 := heap_free hk4 2
        have z3 := heap_free hk4 3
        clear hz2 HFM hk4
        go_wp2
        try simp only [Exit.inBlock, Exit.then]
        refine bodyPost_ret (v := .tuple #[.agg #[.int .i64 0, .bool false, .slice none 0 0, .slice none 0 0], .int .i64 7]) (by rw [results_cell_tmp rfl]; go_simp) rfl ?_
        exact GivesN.bad HE.out.2 7 HE.out.1 (below_set4 HB4.out _ _ _ _)
      | true =>
        have HFO := Lib.hid (show formN l = true from by rw [HFM.out, hz2])
        clear hz2 HFM e1 e2 e3 e4 e5 e6 i1 i2 i3 i4 i5 i6 i7 i8 i9
        obtain ⟨ji, ji0, ji1, ji2, ji3⟩ := info_parts Try.infoInt
        obtain ⟨js, js0, js1, js2, js3⟩ := info_parts Try.infoStrN
        go_wp2_with fail
        go_loopw [56] (fun s56 wr => ∃ (k : Nat) (A : Option Addr) (c1 : Nat) (A2 : Option Addr) (c2 : Nat), k ≤ n2 l ∧ s56 = .int .i64 k ∧ Hid (errN l k = 0) ∧ Hid (NodW wr w1.heap.size w2.heap.size (partN l k) A c1 A2 c2) ∧ Hid (Below w1.heap.size w1 wr)) (fun s56 _ => n2 l - (intOf s56).toNat)
        case atStart => exact ⟨0, none, 0, none, 0, by omega, rfl, Lib.hid rfl, HN4, HW4⟩
        case round =>
          clear HN4 HW4 HB4
          obtain ⟨k, A, c1, A2, c2, hk, rfl, HE0, HN, HW⟩ := hrel
          have HB := Lib.hid (below_then HB1.out HW.out)
          have hkr := heap_keep HK1.out HW.out
          have q0 := heap_cell hkr 0 rfl
          have q1 := heap_cell hkr 1 rfl
          have q2 := heap_cell hkr 2 rfl
          have q3 := heap_cell hkr 3 rfl
          have z0 := heap_free hkr 0
          have z1 := heap_free hkr 1
          have z2 := heap_free hkr 2
          have z3 := heap_free hkr 3
          have HKR := Lib.hid hkr
          clear hkr
          by_cases hlt : k < n2 l
          · have hci : (k : Int) < (n2 l : Int) := by omega
            obtain ⟨g1, g2, g4, g5, g6, g7, g8⟩ := HG.out
            have hpw : wB l * k + wB l ≤ wB l * mB l := by
              rw [← Nat.mul_succ]
              exact Nat.mul_le_mul_left _ (by omega)
            obtain ⟨k8, hk8⟩ : ∃ x, x = 8 * k := ⟨_, rfl⟩
            obtain ⟨a, ha⟩ : ∃ x, x = 12 + k8 := ⟨_, rfl⟩
            have f0 : IntKind.i64.wrap ((k : Int) * 8) = (k8 : Int) := by rw [hk8, IntKind.wrap_i64]; omega
            have f1 : IntKind.i64.wrap (12 + (k8 : Int)) = (a : Int) := by rw [ha, IntKind.wrap_i64]; omega
            have KG : Calls Try.prog 81 #[.slice (some ad) 244 c, .int .i64 (a : Int), .int .i64 8] wr fun e w' => e = .returned (.tuple #[.int .i64 (getV l (12 + 8 * (k : Int)) 8).1, .int .i64 (getV l (12 + 8 * (k : Int)) 8).2]) ∧ wr = w' := by
              have := get_any (some ad) c l (12 + 8 * (k : Int)) 8 wr _ HM.out (HR.out.ext HB.out)
              rw [g1] at this
              rw [show (a : Int) = 12 + 8 * (k : Int) by omega]
              exact this
            rw [getV_eight l k (by omega)] at KG
            have HKB := Lib.hid (And.intro (show k ≤ 18 by omega) hpw)
            have HVM := Lib.hid (show v = 12 + 8 * mB l from HV.out)
            have HM8 := Lib.hid g8
            clear hk8 ha g1 g2 g4 g5 g6 g7 g8 hpw
            by_cases hbig : kN l k < 9223372036854775808
            case neg =>
              rw [if_neg hbig] at KG
              have hke : kE l k = 2 := by unfold kE; rw [if_pos (by omega)]
              have HE := Lib.hid (read_stop HFO.out hlt HE0.out (by rw [hke]; decide))
              rw [hke] at HE
              clear hke hbig
              go_wp2_with fail
              refine KG.mono ?_
              rintro e w5 ⟨rfl, rfl⟩
              clear KG
              go_wp2
              try simp only [Exit.inBlock, Exit.then]
              refine bodyPost_ret (v := .tuple #[.agg #[.int .i64 0, .bool false, .slice none 0 0, .slice none 0 0], .int .i64 2]) (by rw [results_cell_tmp rfl]; go_simp) rfl ?_
              exact GivesN.bad HE.out.2 2 HE.out.1 (below_set4 HB.out _ _ _ _)
            rw [if_pos hbig] at KG
            have KK : Calls Try.prog 60 #[.slice A k c1, .int .i64 (kN l k : Int)] wr fun e w' => e = .returned (.int .i64 (kE l k)) ∧ wr = w' := by
              have := key_any A c1 (keysN l k) (kN l k : Int) wr _ (by rw [keysN_len]; have := HKB.out.1; omega) HN.out.read.ky
              rw [keysN_len, keyL_part] at this
              exact this
            have HKE := Lib.hid (fun (h1 : kE l k ≠ 0) => read_stop HFO.out hlt HE0.out h1)
            have HKN := Lib.hid (fun (h1 : kE l k = 0) => errN_next HE0.out h1)
            obtain ⟨p0, p1, p2, p3⟩ := HN.out.cells
            rw [show (partN l k).keys.length = k from keysN_len l k] at p2
            rw [show (partN l k).vals.length = k from valsN_len l k] at p3
            have HNX := Lib.hid (partN_next l k)
            clear hbig HE0
            generalize kE l k = ke at *
            generalize (kN l k : Int) = x at *
            go_wp2_with fail
            refine KG.mono ?_
            rintro e w5 ⟨rfl, rfl⟩
            clear KG
            go_wp2_with fail
            refine KK.mono ?_
            rintro e w5 ⟨rfl, rfl⟩
            clear KK
            by_cases hke : ke = 0
            case neg =>
              have HE := Lib.hid (HKE.out hke)
              have d1 : (ke != 0) = true := by rw [bne_iff_ne]; exact hke
              clear HKE HKN hke p0 p1 p2 p3
              go_wp2
              try simp only [Exit.inBlock, Exit.then]
              refine bodyPost_ret (v := .tuple #[.agg #[.int .i64 0, .bool false, .slice none 0 0, .slice none 0 0], .int .i64 ke]) (by rw [results_cell_tmp rfl]; go_simp) rfl ?_
              exact GivesN.bad HE.out.2 ke HE.out.1 (below_set4 HB.out _ _ _ _)
            have HE1 := Lib.hid (HKN.out hke)
            subst hke
            clear HKE HKN p0 p1 p3 q0 q1 q2 q3 z0 z1 z2 z3
            have HN1 := HN.out.keep (below_alloc1 wr (.cells #[.int .i64 x] 3))
            have hk1 := HN1.k
            rw [show (partN l k).keys.length = k from keysN_len l k, show (partN l k).keys = keysN l k from rfl] at hk1
            have hsB : w1.heap.size ≤ (wr.alloc (.cells #[.int .i64 x] 3)).heap.size := by have := HW.out.size; simp; omega
            have h18 : k ≤ 1000 := by have := HKB.out.1; omega
            go_wp2_with (at_builtin; refine wpList_append_to _ rfl (.tmp 78) (.tmp 80) _ rfl w1.heap.size 3 ji _ 8 Try.underlying24 ji0 ji1 ji2 ji3 rfl _ k (iv (keysN l k)) rfl hk1 _ _ 1 1 [.int .i64 x] rfl rfl (Reads.new wr [.int .i64 x] 3 (0, 0)) (by simp [Value.oneCell']) (by simp only [maxLen]; omega) (by omega) hsB ?_; intro A4 c4 w4 hown4 hg4 hb4 _; obtain ⟨HN4, e4, e5, hb5⟩ := HN1.key x A4 c4 (k + 1) (by rw [show (partN l k).keys.length = k from keysN_len l k]) w4 hown4 (by rw [show (partN l k).keys.length = k from keysN_len l k]; exact hg4); rw [show (partN l k).keys.length = k from keysN_len l k] at e4; have HW5 := Lib.hid ((HW.out.trans ((below_alloc1 wr (.cells #[.int .i64 x] 3)).mono HW.out.size)).trans hb5); have HN5 := Lib.hid HN4; clear hb5 hb4 hg4 hown4 hk1 HN1 HN4 HN p2 hsB h18)
            generalize hw5 : w4.setCell ⟨w2.heap.size, 2, none⟩ (.slice A4 (k + 1) c4) = w5 at *
            clear hw5 e4 e5
            have HB5 := Lib.hid (below_then HB1.out HW5.out)
            obtain ⟨g1, g2, g4, g5, g6, g7, g8⟩ := HG.out
            obtain ⟨h18, hpw⟩ := HKB.out
            have hv := HVM.out
            have hd3 := HR.out.drop (k := 12 + 8 * mB l + wB l * k) (cap := c) (by rw [bv_len]; omega)
            rw [if_neg (by omega), bv_drop] at hd3
            have hd3 := hd3.take (wB l)
            rw [bv_take] at hd3
            have hlv : (vN l k).length = wB l := by unfold vN; rw [List.length_take, List.length_drop]; omega
            obtain ⟨p, hp⟩ : ∃ p, p = wB l * k := ⟨_, rfl⟩
            obtain ⟨b, hb⟩ : ∃ b, b = v + p := ⟨_, rfl⟩
            obtain ⟨q, hq2⟩ : ∃ q, q = p + wB l := ⟨_, rfl⟩
            obtain ⟨b2, hb2⟩ : ∃ b2, b2 = v + q := ⟨_, rfl⟩
            have hrd : Reads w w.heap.size (some (ad.add b)) (bv (vN l k)) := by
              rw [show b = 12 + 8 * mB l + wB l * k by omega]
              exact hd3
            have hcv := fun (V : World) (hS : Below w.heap.size w V) => run_conv_bytes (P := Try.prog) V 22 9 5 Try.underlying22 Try.underlying5 Try.underlying9 (b2 - b) (c - b) (l := vN l k) (by rw [hlv]; omega) (hrd.ext hS)
            have f2 : IntKind.i64.wrap ((k : Int) * (wB l : Int)) = (p : Int) := by
              rw [show (k : Int) * (wB l : Int) = (p : Int) by rw [hp, Int.natCast_mul, Int.mul_comm], IntKind.wrap_i64]; omega
            have f3 : IntKind.i64.wrap ((v : Int) + (p : Int)) = (b : Int) := by rw [hb, IntKind.wrap_i64]; omega
            have f5 : IntKind.i64.wrap ((k : Int) + 1) = (k : Int) + 1 := by rw [IntKind.wrap_i64]; omega
            have f6 : IntKind.i64.wrap (((k : Int) + 1) * (wB l : Int)) = (q : Int) := by
              rw [show ((k : Int) + 1) * (wB l : Int) = (q : Int) by rw [hq2, hp, Int.natCast_add, Int.natCast_mul, Int.add_mul, Int.one_mul, Int.mul_comm (k : Int)], IntKind.wrap_i64]; omega
            have f7 : IntKind.i64.wrap ((v : Int) + (q : Int)) = (b2 : Int) := by rw [hb2, IntKind.wrap_i64]; omega
            have j1 : b ≤ b2 := by omega
            have j2 : b2 ≤ c := by omega
            have j3 : ¬ c = b := by omega
            have j4 : (b : Int) ≤ (b2 : Int) := by omega
            have j5 : (b2 : Int) ≤ (c : Int) := by omega
            have hb6 : Below w5.heap.size w5 w5.drew := (Below.refl w5.heap.size w5).drew
            have HN6 := HN5.out.keep (below_then hb6 (below_alloc1 w5.drew (.cells #[.string ⟨(vN l k).toArray⟩] 9)))
            have hv6 := HN6.v
            rw [show (⟨(partN l k).t, (partN l k).leaf, (partN l k).keys ++ [x], (partN l k).vals⟩ : NodeL).vals = valsN l k from rfl, valsN_len] at hv6
            obtain ⟨-, -, -, q3⟩ := HN5.out.cells
            obtain ⟨-, -, -, q4⟩ := (HN5.out.keep hb6).cells
            obtain ⟨-, -, -, q5⟩ := HN6.cells
            have hz5 : (⟨(partN l k).t, (partN l k).leaf, (partN l k).keys ++ [x], (partN l k).vals⟩ : NodeL).vals.length = k := valsN_len l k
            rw [hz5] at q3 q4 q5
            have q6 : (w5.alloc (.cells #[.string ⟨(vN l k).toArray⟩] 9)).cell? ⟨w2.heap.size, 3, none⟩ = some (.slice A2 k c2) := q5
            have HW7 := Lib.hid (HW5.out.trans ((below_then hb6 (below_alloc1 w5.drew (.cells #[.string ⟨(vN l k).toArray⟩] 9))).mono HW5.out.size))
            have HB7 := Lib.hid (below_then HB1.out HW7.out)
            have HB6 := Lib.hid (below_then HB5.out hb6)
            have HV6 := Lib.hid hv6
            have HN7 := Lib.hid HN6
            have HZ5 := Lib.hid hz5
            have h18' : k ≤ 1000 := by omega
            clear hv6 HN6 hb6 hz5 hd3 hlv hp hb hq2 hb2 hrd hv h18 hpw g1 g2 g4 g5 g6 g7 g8 HN5
            go_upto_region 17 with fail
            refine wp_region_held_drew (S := (fun V => Below w.heap.size w V)) (by kernel_rfl) ?_ (fun hHeld => ?_)
            (focus ((try dsimp only); (first | exact HB6.out | exact HB5.out | exact HB7.out | exact HHH.out | exact HH8.out)))
            first | (refine anyH_skip 0 (by kernel_rfl) (by kernel_rfl) (by simp only [List.getElem?_toArray, List.getElem?_cons_zero] <;> rfl) (by kernel_rfl) (by exact fun _ _ _ h => h) (by rfl) (by assumption) ?_; (try simp only [Act.put, List.setIfInBounds_toArray, List.set_cons_zero, List.set_cons_succ])) | (refine anyH_take 0 (v := ?_) (by kernel_rfl) (by kernel_rfl) (by simp only [List.getElem?_toArray, List.getElem?_cons_zero] <;> rfl) (by kernel_rfl) (by exact fun _ _ _ h => h) (by rfl) ?_ (by assumption) ?_; rotate_left; (focus (intro w hSw; (try dsimp only at hSw); (try simp only [List.getElem_toArray, List.getElem_cons_succ, List.getElem_cons_zero]); go_simp; try (with_reducible rfl))); (try simp only [Act.put, List.setIfInBounds_toArray, List.set_cons_zero, List.set_cons_succ]))
            first | (refine anyH_skip 2 (by kernel_rfl) (by kernel_rfl) (by simp only [List.getElem?_toArray, List.getElem?_cons_succ, List.getElem?_cons_zero] <;> rfl) (by kernel_rfl) (by exact fun _ _ _ h => h) (by rfl) (by assumption) ?_; (try simp only [Act.put, List.setIfInBounds_toArray, List.set_cons_zero, List.set_cons_succ])) | (refine anyH_take 2 (v := ?_) (by kernel_rfl) (by kernel_rfl) (by simp only [List.getElem?_toArray, List.getElem?_cons_succ, List.getElem?_cons_zero] <;> rfl) (by kernel_rfl) (by exact fun _ _ _ h => h) (by rfl) ?_ (by assumption) ?_; rotate_left; (focus (intro w hSw; (try dsimp only at hSw); (try simp only [List.getElem_toArray, List.getElem_cons_succ, List.getElem_cons_zero]); go_simp; try (with_reducible rfl))); (try simp only [Act.put, List.setIfInBounds_toArray, List.set_cons_zero, List.set_cons_succ]))
            first | (refine anyH_skip 3 (by kernel_rfl) (by kernel_rfl) (by simp only [List.getElem?_toArray, List.getElem?_cons_succ, List.getElem?_cons_zero] <;> rfl) (by kernel_rfl) (by exact fun _ _ _ h => h) (by rfl) (by assumption) ?_; (try simp only [Act.put, List.setIfInBounds_toArray, List.set_cons_zero, List.set_cons_succ])) | (refine anyH_take 3 (v := ?_) (by kernel_rfl) (by kernel_rfl) (by simp only [List.getElem?_toArray, List.getElem?_cons_succ, List.getElem?_cons_zero] <;> rfl) (by kernel_rfl) (by exact fun _ _ _ h => h) (by rfl) ?_ (by assumption) ?_; rotate_left; (focus (intro w hSw; (try dsimp only at hSw); (try simp only [List.getElem_toArray, List.getElem_cons_succ, List.getElem_cons_zero]); go_simp; try (with_reducible rfl))); (try simp only [Act.put, List.setIfInBounds_toArray, List.set_cons_zero, List.set_cons_succ]))
            first | (refine anyH_skip 4 (by kernel_rfl) (by kernel_rfl) (by simp only [List.getElem?_toArray, List.getElem?_cons_succ, List.getElem?_cons_zero] <;> rfl) (by kernel_rfl) (by exact fun _ _ _ h => h) (by rfl) (by assumption) ?_; (try simp only [Act.put, List.setIfInBounds_toArray, List.set_cons_zero, List.set_cons_succ])) | (refine anyH_take 4 (v := ?_) (by kernel_rfl) (by kernel_rfl) (by simp only [List.getElem?_toArray, List.getElem?_cons_succ, List.getElem?_cons_zero] <;> rfl) (by kernel_rfl) (by exact fun _ _ _ h => h) (by rfl) ?_ (by assumption) ?_; rotate_left; (focus (intro w hSw; (try dsimp only at hSw); (try simp only [List.getElem_toArray, List.getElem_cons_succ, List.getElem_cons_zero]); go_simp; try (with_reducible rfl))); (try simp only [Act.put, List.setIfInBounds_toArray, List.set_cons_zero, List.set_cons_succ]))
            first | (refine anyH_skip 5 (by kernel_rfl) (by kernel_rfl) (by simp only [List.getElem?_toArray, List.getElem?_cons_succ, List.getElem?_cons_zero] <;> rfl) (by kernel_rfl) (by exact fun _ _ _ h => h) (by rfl) (by assumption) ?_; (try simp only [Act.put, List.setIfInBounds_toArray, List.set_cons_zero, List.set_cons_succ])) | (refine anyH_take 5 (v := ?_) (by kernel_rfl) (by kernel_rfl) (by simp only [List.getElem?_toArray, List.getElem?_cons_succ, List.getElem?_cons_zero] <;> rfl) (by kernel_rfl) (by exact fun _ _ _ h => h) (by rfl) ?_ (by assumption) ?_; rotate_left; (focus (intro w hSw; (try dsimp only at hSw); (try simp only [List.getElem_toArray, List.getElem_cons_succ, List.getElem_cons_zero]); go_simp; try (with_reducible rfl))); (try simp only [Act.put, List.setIfInBounds_toArray, List.set_cons_zero, List.set_cons_succ]))
            first | (refine anyH_skip 6 (by kernel_rfl) (by kernel_rfl) (by simp only [List.getElem?_toArray, List.getElem?_cons_succ, List.getElem?_cons_zero] <;> rfl) (by kernel_rfl) (by exact fun _ _ _ h => h) (by rfl) (by assumption) ?_; (try simp only [Act.put, List.setIfInBounds_toArray, List.set_cons_zero, List.set_cons_succ])) | (refine anyH_take 6 (v := ?_) (by kernel_rfl) (by kernel_rfl) (by simp only [List.getElem?_toArray, List.getElem?_cons_succ, List.getElem?_cons_zero] <;> rfl) (by kernel_rfl) (by exact fun _ _ _ h => h) (by rfl) ?_ (by assumption) ?_; rotate_left; (focus (intro w hSw; (try dsimp only at hSw); (try simp only [List.getElem_toArray, List.getElem_cons_succ, List.getElem_cons_zero]); go_simp; try (with_reducible rfl))); (try simp only [Act.put, List.setIfInBounds_toArray, List.set_cons_zero, List.set_cons_succ]))
            first | (refine anyH_skip 7 (by kernel_rfl) (by kernel_rfl) (by simp only [List.getElem?_toArray, List.getElem?_cons_succ, List.getElem?_cons_zero] <;> rfl) (by kernel_rfl) (by exact fun _ _ _ h => h) (by rfl) (by assumption) ?_; (try simp only [Act.put, List.setIfInBounds_toArray, List.set_cons_zero, List.set_cons_succ])) | (refine anyH_take 7 (v := ?_) (by kernel_rfl) (by kernel_rfl) (by simp only [List.getElem?_toArray, List.getElem?_cons_succ, List.getElem?_cons_zero] <;> rfl) (by kernel_rfl) (by exact fun _ _ _ h => h) (by rfl) ?_ (by assumption) ?_; rotate_left; (focus (intro w hSw; (try dsimp only at hSw); (try simp only [List.getElem_toArray, List.getElem_cons_succ, List.getElem_cons_zero]); go_simp; try (with_reducible rfl))); (try simp only [Act.put, List.setIfInBounds_toArray, List.set_cons_zero, List.set_cons_succ]))
            first | (refine anyH_skip 8 (by kernel_rfl) (by kernel_rfl) (by simp only [List.getElem?_toArray, List.getElem?_cons_succ, List.getElem?_cons_zero] <;> rfl) (by kernel_rfl) (by exact fun _ _ _ h => h) (by rfl) (by assumption) ?_; (try simp only [Act.put, List.setIfInBounds_toArray, List.set_cons_zero, List.set_cons_succ])) | (refine anyH_take 8 (v := ?_) (by kernel_rfl) (by kernel_rfl) (by simp only [List.getElem?_toArray, List.getElem?_cons_succ, List.getElem?_cons_zero] <;> rfl) (by kernel_rfl) (by exact fun _ _ _ h => h) (by rfl) ?_ (by assumption) ?_; rotate_left; (focus (intro w hSw; (try dsimp only at hSw); (try simp only [List.getElem_toArray, List.getElem_cons_succ, List.getElem_cons_zero]); go_simp; try (with_reducible rfl))); (try simp only [Act.put, List.setIfInBounds_toArray, List.set_cons_zero, List.set_cons_succ]))
            first | (refine anyH_skip 9 (by kernel_rfl) (by kernel_rfl) (by simp only [List.getElem?_toArray, List.getElem?_cons_succ, List.getElem?_cons_zero] <;> rfl) (by kernel_rfl) (by exact fun _ _ _ h => h) (by rfl) (by assumption) ?_; (try simp only [Act.put, List.setIfInBounds_toArray, List.set_cons_zero, List.set_cons_succ])) | (refine anyH_take 9 (v := ?_) (by kernel_rfl) (by kernel_rfl) (by simp only [List.getElem?_toArray, List.getElem?_cons_succ, List.getElem?_cons_zero] <;> rfl) (by kernel_rfl) (by exact fun _ _ _ h => h) (by rfl) ?_ (by assumption) ?_; rotate_left; (focus (intro w hSw; (try dsimp only at hSw); (try simp only [List.getElem_toArray, List.getElem_cons_succ, List.getElem_cons_zero]); go_simp; try (with_reducible rfl))); (try simp only [Act.put, List.setIfInBounds_toArray, List.set_cons_zero, List.set_cons_succ]))
            first | (refine anyH_skip 10 (by kernel_rfl) (by kernel_rfl) (by simp only [List.getElem?_toArray, List.getElem?_cons_succ, List.getElem?_cons_zero] <;> rfl) (by kernel_rfl) (by exact fun _ _ _ h => h) (by rfl) (by assumption) ?_; (try simp only [Act.put, List.setIfInBounds_toArray, List.set_cons_zero, List.set_cons_succ])) | (refine anyH_take 10 (v := ?_) (by kernel_rfl) (by kernel_rfl) (by simp only [List.getElem?_toArray, List.getElem?_cons_succ, List.getElem?_cons_zero] <;> rfl) (by kernel_rfl) (by exact fun _ _ _ h => h) (by rfl) ?_ (by assumption) ?_; rotate_left; (focus (intro w hSw; (try dsimp only at hSw); (try simp only [List.getElem_toArray, List.getElem_cons_succ, List.getElem_cons_zero]); go_simp; try (with_reducible rfl))); (try simp only [Act.put, List.setIfInBounds_toArray, List.set_cons_zero, List.set_cons_succ]))
            first | (refine anyH_skip 11 (by kernel_rfl) (by kernel_rfl) (by simp only [List.getElem?_toArray, List.getElem?_cons_succ, List.getElem?_cons_zero] <;> rfl) (by kernel_rfl) (by exact fun _ _ _ h => h) (by rfl) (by assumption) ?_; (try simp only [Act.put, List.setIfInBounds_toArray, List.set_cons_zero, List.set_cons_succ])) | (refine anyH_take 11 (v := ?_) (by kernel_rfl) (by kernel_rfl) (by simp only [List.getElem?_toArray, List.getElem?_cons_succ, List.getElem?_cons_zero] <;> rfl) (by kernel_rfl) (by exact fun _ _ _ h => h) (by rfl) ?_ (by assumption) ?_; rotate_left; (focus (intro w hSw; (try dsimp only at hSw); (try simp only [List.getElem_toArray, List.getElem_cons_succ, List.getElem_cons_zero]); go_simp; try (with_reducible rfl))); (try simp only [Act.put, List.setIfInBounds_toArray, List.set_cons_zero, List.set_cons_succ]))
            first | (refine anyH_skip 12 (by kernel_rfl) (by kernel_rfl) (by simp only [List.getElem?_toArray, List.getElem?_cons_succ, List.getElem?_cons_zero] <;> rfl) (by kernel_rfl) (by exact fun _ _ _ h => h) (by rfl) (by assumption) ?_; (try simp only [Act.put, List.setIfInBounds_toArray, List.set_cons_zero, List.set_cons_succ])) | (refine anyH_take 12 (v := ?_) (by kernel_rfl) (by kernel_rfl) (by simp only [List.getElem?_toArray, List.getElem?_cons_succ, List.getElem?_cons_zero] <;> rfl) (by kernel_rfl) (by exact fun _ _ _ h => h) (by rfl) ?_ (by assumption) ?_; rotate_left; (focus (intro w hSw; (try dsimp only at hSw); (try simp only [List.getElem_toArray, List.getElem_cons_succ, List.getElem_cons_zero]); go_simp; try (with_reducible rfl))); (try simp only [Act.put, List.setIfInBounds_toArray, List.set_cons_zero, List.set_cons_succ]))
            first | (refine anyH_skip 13 (by kernel_rfl) (by kernel_rfl) (by simp only [List.getElem?_toArray, List.getElem?_cons_succ, List.getElem?_cons_zero] <;> rfl) (by kernel_rfl) (by exact fun _ _ _ h => h) (by rfl) (by assumption) ?_; (try simp only [Act.put, List.setIfInBounds_toArray, List.set_cons_zero, List.set_cons_succ])) | (refine anyH_take 13 (v := ?_) (by kernel_rfl) (by kernel_rfl) (by simp only [List.getElem?_toArray, List.getElem?_cons_succ, List.getElem?_cons_zero] <;> rfl) (by kernel_rfl) (by exact fun _ _ _ h => h) (by rfl) ?_ (by assumption) ?_; rotate_left; (focus (intro w hSw; (try dsimp only at hSw); (try simp only [List.getElem_toArray, List.getElem_cons_succ, List.getElem_cons_zero]); go_simp; try (with_reducible rfl))); (try simp only [Act.put, List.setIfInBounds_toArray, List.set_cons_zero, List.set_cons_succ]))
            first | (refine anyH_skip 14 (by kernel_rfl) (by kernel_rfl) (by simp only [List.getElem?_toArray, List.getElem?_cons_succ, List.getElem?_cons_zero] <;> rfl) (by kernel_rfl) (by exact fun _ _ _ h => h) (by rfl) (by assumption) ?_; (try simp only [Act.put, List.setIfInBounds_toArray, List.set_cons_zero, List.set_cons_succ])) | (refine anyH_take 14 (v := ?_) (by kernel_rfl) (by kernel_rfl) (by simp only [List.getElem?_toArray, List.getElem?_cons_succ, List.getElem?_cons_zero] <;> rfl) (by kernel_rfl) (by exact fun _ _ _ h => h) (by rfl) ?_ (by assumption) ?_; rotate_left; (focus (intro w hSw; (try dsimp only at hSw); (try simp only [List.getElem_toArray, List.getElem_cons_succ, List.getElem_cons_zero]); go_simp; try (with_reducible rfl))); (try simp only [Act.put, List.setIfInBounds_toArray, List.set_cons_zero, List.set_cons_succ]))
            first | (refine anyH_skip 15 (by kernel_rfl) (by kernel_rfl) (by simp only [List.getElem?_toArray, List.getElem?_cons_succ, List.getElem?_cons_zero] <;> rfl) (by kernel_rfl) (by exact fun _ _ _ h => h) (by rfl) (by assumption) ?_; (try simp only [Act.put, List.setIfInBounds_toArray, List.set_cons_zero, List.set_cons_succ])) | (refine anyH_take 15 (v := ?_) (by kernel_rfl) (by kernel_rfl) (by simp only [List.getElem?_toArray, List.getElem?_cons_succ, List.getElem?_cons_zero] <;> rfl) (by kernel_rfl) (by exact fun _ _ _ h => h) (by rfl) ?_ (by assumption) ?_; rotate_left; (focus (intro w hSw; (try dsimp only at hSw); (try simp only [List.getElem_toArray, List.getElem_cons_succ, List.getElem_cons_zero]); go_simp; try (with_reducible rfl))); (try simp only [Act.put, List.setIfInBounds_toArray, List.set_cons_zero, List.set_cons_succ]))
            refine anyH_two 1 16 (by kernel_rfl) (by simp only [List.getElem?_toArray, List.getElem?_cons_succ, List.getElem?_cons_zero] <;> rfl) (by simp only [List.getElem?_toArray, List.getElem?_cons_succ, List.getElem?_cons_zero] <;> rfl) (by rfl) (by rfl) (fun K hK => ?_) (fun K hK => ?_)
            ((try simp only [List.getElem_toArray, List.getElem_cons_succ, List.getElem_cons_zero]); go_simp; (first | (refine oper_append_to (.tmp 84) (.tmp 99) 29 rfl w1.heap.size 9 js _ 16 Try.underlying29 js0 js1 js2 js3 rfl _ k (sv (valsN l k)) rfl HV6.out _ (some ⟨w5.drew.heap.size, 0, none⟩) 1 1 [.string ⟨(vN l k).toArray⟩] rfl rfl (Reads.new w5.drew [.string ⟨(vN l k).toArray⟩] 9 (0, 0)) (by simp [Value.oneCell']) (by simp only [maxLen]; omega) (by omega) HW7.out.size ?_; intro A8 c8 w8 hown8 hg8; obtain ⟨HN8, e8, e9, hb8⟩ := HN7.out.val (vN l k) A8 c8 (k + 1) (by rw [HZ5.out]) w8 hown8 (by rw [HZ5.out]; exact hg8); rw [HZ5.out] at e8; have HH8 := Lib.hid (below_then HB1.out (HW7.out.trans (below_of_grown HV6.out HW7.out.size hg8))); have HWZ := Lib.hid (HW7.out.trans hb8); have HHH := Lib.hid (below_then HB1.out HWZ.out); have HNZ : Hid (NodW (w8.setCell ⟨w2.heap.size, 3, none⟩ (.slice A8 (k + 1) c8)) w1.heap.size w2.heap.size (partN l (k + 1)) A4 c4 A8 c8) := (by rw [HNX.out]; exact Lib.hid HN8); clear hb8 HN8 hg8 hown8) | skip); refine hK.out _ _ ?_ (fun hHeld => ?_); (focus ((try dsimp only); (first | exact HB6.out | exact HB5.out | exact HB7.out | exact HHH.out | exact HH8.out))); clear hK K; (try simp only [Act.put, List.setIfInBounds_toArray, List.set_cons_zero, List.set_cons_succ]))
            first | (refine anyH_pass 16 (by kernel_rfl) (by simp only [List.getElem?_toArray, List.getElem?_cons_succ, List.getElem?_cons_zero] <;> rfl) (by rfl) (by assumption) ?_; (try simp only [Act.put, List.setIfInBounds_toArray, List.set_cons_zero, List.set_cons_succ])) | (refine anyH_one 16 (by kernel_rfl) (by simp only [List.getElem?_toArray, List.getElem?_cons_succ, List.getElem?_cons_zero] <;> rfl) (by rfl) (fun K hK => ?_); (try simp only [List.getElem_toArray, List.getElem_cons_succ, List.getElem_cons_zero]); go_simp; (first | (refine oper_append_to (.tmp 84) (.tmp 99) 29 rfl w1.heap.size 9 js _ 16 Try.underlying29 js0 js1 js2 js3 rfl _ k (sv (valsN l k)) rfl HV6.out _ (some ⟨w5.drew.heap.size, 0, none⟩) 1 1 [.string ⟨(vN l k).toArray⟩] rfl rfl (Reads.new w5.drew [.string ⟨(vN l k).toArray⟩] 9 (0, 0)) (by simp [Value.oneCell']) (by simp only [maxLen]; omega) (by omega) HW7.out.size ?_; intro A8 c8 w8 hown8 hg8; obtain ⟨HN8, e8, e9, hb8⟩ := HN7.out.val (vN l k) A8 c8 (k + 1) (by rw [HZ5.out]) w8 hown8 (by rw [HZ5.out]; exact hg8); rw [HZ5.out] at e8; have HH8 := Lib.hid (below_then HB1.out (HW7.out.trans (below_of_grown HV6.out HW7.out.size hg8))); have HWZ := Lib.hid (HW7.out.trans hb8); have HHH := Lib.hid (below_then HB1.out HWZ.out); have HNZ : Hid (NodW (w8.setCell ⟨w2.heap.size, 3, none⟩ (.slice A8 (k + 1) c8)) w1.heap.size w2.heap.size (partN l (k + 1)) A4 c4 A8 c8) := (by rw [HNX.out]; exact Lib.hid HN8); clear hb8 HN8 hg8 hown8) | skip); refine hK.out _ _ ?_ (fun hHeld => ?_); (focus ((try dsimp only); (first | exact HB6.out | exact HB5.out | exact HB7.out | exact HHH.out | exact HH8.out))); clear hK K; (try simp only [Act.put, List.setIfInBounds_toArray, List.set_cons_zero, List.set_cons_succ]))
            (refine anyH_one 17 (by kernel_rfl) (by simp only [List.getElem?_toArray, List.getElem?_cons_succ, List.getElem?_cons_zero] <;> rfl) (by rfl) (fun K hK => ?_); (first | (refine oper_append_to (.tmp 84) (.tmp 99) 29 rfl w1.heap.size 9 js _ 16 Try.underlying29 js0 js1 js2 js3 rfl _ k (sv (valsN l k)) rfl HV6.out _ (some ⟨w5.drew.heap.size, 0, none⟩) 1 1 [.string ⟨(vN l k).toArray⟩] rfl rfl (Reads.new w5.drew [.string ⟨(vN l k).toArray⟩] 9 (0, 0)) (by simp [Value.oneCell']) (by simp only [maxLen]; omega) (by omega) HW7.out.size ?_; intro A8 c8 w8 hown8 hg8; obtain ⟨HN8, e8, e9, hb8⟩ := HN7.out.val (vN l k) A8 c8 (k + 1) (by rw [HZ5.out]) w8 hown8 (by rw [HZ5.out]; exact hg8); rw [HZ5.out] at e8; have HH8 := Lib.hid (below_then HB1.out (HW7.out.trans (below_of_grown HV6.out HW7.out.size hg8))); have HWZ := Lib.hid (HW7.out.trans hb8); have HHH := Lib.hid (below_then HB1.out HWZ.out); have HNZ : Hid (NodW (w8.setCell ⟨w2.heap.size, 3, none⟩ (.slice A8 (k + 1) c8)) w1.heap.size w2.heap.size (partN l (k + 1)) A4 c4 A8 c8) := (by rw [HNX.out]; exact Lib.hid HN8); clear hb8 HN8 hg8 hown8) | skip); refine hK.out _ _ ?_ (fun hHeld => ?_); (focus ((try dsimp only); (first | exact HB6.out | exact HB5.out | exact HB7.out | exact HHH.out | exact HH8.out))); clear hK K; (try simp only [Act.put, List.setIfInBounds_toArray, List.set_cons_zero, List.set_cons_succ]))
            first | (refine anyH_skip 18 (by kernel_rfl) (by kernel_rfl) (by simp only [List.getElem?_toArray, List.getElem?_cons_succ, List.getElem?_cons_zero] <;> rfl) (by kernel_rfl) (by exact fun _ _ _ h => h) (by rfl) (by assumption) ?_; (try simp only [Act.put, List.setIfInBounds_toArray, List.set_cons_zero, List.set_cons_succ])) | (refine anyH_take 18 (v := ?_) (by kernel_rfl) (by kernel_rfl) (by simp only [List.getElem?_toArray, List.getElem?_cons_succ, List.getElem?_cons_zero] <;> rfl) (by kernel_rfl) (by exact fun _ _ _ h => h) (by rfl) ?_ (by assumption) ?_; rotate_left; (focus (intro w hSw; (try dsimp only at hSw); (try simp only [List.getElem_toArray, List.getElem_cons_succ, List.getElem_cons_zero]); go_simp; try (with_reducible rfl))); (try simp only [Act.put, List.setIfInBounds_toArray, List.set_cons_zero, List.set_cons_succ]))
            first | (refine anyH_pass 19 (by kernel_rfl) (by simp only [List.getElem?_toArray, List.getElem?_cons_succ, List.getElem?_cons_zero] <;> rfl) (by rfl) (by assumption) ?_; (try simp only [Act.put, List.setIfInBounds_toArray, List.set_cons_zero, List.set_cons_succ])) | (refine anyH_one 19 (by kernel_rfl) (by simp only [List.getElem?_toArray, List.getElem?_cons_succ, List.getElem?_cons_zero] <;> rfl) (by rfl) (fun K hK => ?_); (try simp only [List.getElem_toArray, List.getElem_cons_succ, List.getElem_cons_zero]); go_simp; (first | (refine oper_append_to (.tmp 84) (.tmp 99) 29 rfl w1.heap.size 9 js _ 16 Try.underlying29 js0 js1 js2 js3 rfl _ k (sv (valsN l k)) rfl HV6.out _ (some ⟨w5.drew.heap.size, 0, none⟩) 1 1 [.string ⟨(vN l k).toArray⟩] rfl rfl (Reads.new w5.drew [.string ⟨(vN l k).toArray⟩] 9 (0, 0)) (by simp [Value.oneCell']) (by simp only [maxLen]; omega) (by omega) HW7.out.size ?_; intro A8 c8 w8 hown8 hg8; obtain ⟨HN8, e8, e9, hb8⟩ := HN7.out.val (vN l k) A8 c8 (k + 1) (by rw [HZ5.out]) w8 hown8 (by rw [HZ5.out]; exact hg8); rw [HZ5.out] at e8; have HH8 := Lib.hid (below_then HB1.out (HW7.out.trans (below_of_grown HV6.out HW7.out.size hg8))); have HWZ := Lib.hid (HW7.out.trans hb8); have HHH := Lib.hid (below_then HB1.out HWZ.out); have HNZ : Hid (NodW (w8.setCell ⟨w2.heap.size, 3, none⟩ (.slice A8 (k + 1) c8)) w1.heap.size w2.heap.size (partN l (k + 1)) A4 c4 A8 c8) := (by rw [HNX.out]; exact Lib.hid HN8); clear hb8 HN8 hg8 hown8) | skip); refine hK.out _ _ ?_ (fun hHeld => ?_); (focus ((try dsimp only); (first | exact HB6.out | exact HB5.out | exact HB7.out | exact HHH.out | exact HH8.out))); clear hK K; (try simp only [Act.put, List.setIfInBounds_toArray, List.set_cons_zero, List.set_cons_succ]))
            rotate_left
            ((try simp only [List.getElem_toArray, List.getElem_cons_succ, List.getElem_cons_zero]); go_simp; (first | (refine oper_append_to (.tmp 84) (.tmp 99) 29 rfl w1.heap.size 9 js _ 16 Try.underlying29 js0 js1 js2 js3 rfl _ k (sv (valsN l k)) rfl HV6.out _ (some ⟨w5.drew.heap.size, 0, none⟩) 1 1 [.string ⟨(vN l k).toArray⟩] rfl rfl (Reads.new w5.drew [.string ⟨(vN l k).toArray⟩] 9 (0, 0)) (by simp [Value.oneCell']) (by simp only [maxLen]; omega) (by omega) HW7.out.size ?_; intro A8 c8 w8 hown8 hg8; obtain ⟨HN8, e8, e9, hb8⟩ := HN7.out.val (vN l k) A8 c8 (k + 1) (by rw [HZ5.out]) w8 hown8 (by rw [HZ5.out]; exact hg8); rw [HZ5.out] at e8; have HH8 := Lib.hid (below_then HB1.out (HW7.out.trans (below_of_grown HV6.out HW7.out.size hg8))); have HWZ := Lib.hid (HW7.out.trans hb8); have HHH := Lib.hid (below_then HB1.out HWZ.out); have HNZ : Hid (NodW (w8.setCell ⟨w2.heap.size, 3, none⟩ (.slice A8 (k + 1) c8)) w1.heap.size w2.heap.size (partN l (k + 1)) A4 c4 A8 c8) := (by rw [HNX.out]; exact Lib.hid HN8); clear hb8 HN8 hg8 hown8) | skip); refine hK.out _ _ ?_ (fun hHeld => ?_); (focus ((try dsimp only); (first | exact HB6.out | exact HB5.out | exact HB7.out | exact HHH.out | exact HH8.out))); clear hK K; (try simp only [Act.put, List.setIfInBounds_toArray, List.set_cons_zero, List.set_cons_succ]))
            first | (refine anyH_pass 1 (by kernel_rfl) (by simp only [List.getElem?_toArray, List.getElem?_cons_succ, List.getElem?_cons_zero] <;> rfl) (by rfl) (by assumption) ?_; (try simp only [Act.put, List.setIfInBounds_toArray, List.set_cons_zero, List.set_cons_succ])) | (refine anyH_one 1 (by kernel_rfl) (by simp only [List.getElem?_toArray, List.getElem?_cons_succ, List.getElem?_cons_zero] <;> rfl) (by rfl) (fun K hK => ?_); (try simp only [List.getElem_toArray, List.getElem_cons_succ, List.getElem_cons_zero]); go_simp; (first | (refine oper_append_to (.tmp 84) (.tmp 99) 29 rfl w1.heap.size 9 js _ 16 Try.underlying29 js0 js1 js2 js3 rfl _ k (sv (valsN l k)) rfl HV6.out _ (some ⟨w5.drew.heap.size, 0, none⟩) 1 1 [.string ⟨(vN l k).toArray⟩] rfl rfl (Reads.new w5.drew [.string ⟨(vN l k).toArray⟩] 9 (0, 0)) (by simp [Value.oneCell']) (by simp only [maxLen]; omega) (by omega) HW7.out.size ?_; intro A8 c8 w8 hown8 hg8; obtain ⟨HN8, e8, e9, hb8⟩ := HN7.out.val (vN l k) A8 c8 (k + 1) (by rw [HZ5.out]) w8 hown8 (by rw [HZ5.out]; exact hg8); rw [HZ5.out] at e8; have HH8 := Lib.hid (below_then HB1.out (HW7.out.trans (below_of_grown HV6.out HW7.out.size hg8))); have HWZ := Lib.hid (HW7.out.trans hb8); have HHH := Lib.hid (below_then HB1.out HWZ.out); have HNZ : Hid (NodW (w8.setCell ⟨w2.heap.size, 3, none⟩ (.slice A8 (k + 1) c8)) w1.heap.size w2.heap.size (partN l (k + 1)) A4 c4 A8 c8) := (by rw [HNX.out]; exact Lib.hid HN8); clear hb8 HN8 hg8 hown8) | skip); refine hK.out _ _ ?_ (fun hHeld => ?_); (focus ((try dsimp only); (first | exact HB6.out | exact HB5.out | exact HB7.out | exact HHH.out | exact HH8.out))); clear hK K; (try simp only [Act.put, List.setIfInBounds_toArray, List.set_cons_zero, List.set_cons_succ]))
            (refine anyH_one 17 (by kernel_rfl) (by simp only [List.getElem?_toArray, List.getElem?_cons_succ, List.getElem?_cons_zero] <;> rfl) (by rfl) (fun K hK => ?_); (first | (refine oper_append_to (.tmp 84) (.tmp 99) 29 rfl w1.heap.size 9 js _ 16 Try.underlying29 js0 js1 js2 js3 rfl _ k (sv (valsN l k)) rfl HV6.out _ (some ⟨w5.drew.heap.size, 0, none⟩) 1 1 [.string ⟨(vN l k).toArray⟩] rfl rfl (Reads.new w5.drew [.string ⟨(vN l k).toArray⟩] 9 (0, 0)) (by simp [Value.oneCell']) (by simp only [maxLen]; omega) (by omega) HW7.out.size ?_; intro A8 c8 w8 hown8 hg8; obtain ⟨HN8, e8, e9, hb8⟩ := HN7.out.val (vN l k) A8 c8 (k + 1) (by rw [HZ5.out]) w8 hown8 (by rw [HZ5.out]; exact hg8); rw [HZ5.out] at e8; have HH8 := Lib.hid (below_then HB1.out (HW7.out.trans (below_of_grown HV6.out HW7.out.size hg8))); have HWZ := Lib.hid (HW7.out.trans hb8); have HHH := Lib.hid (below_then HB1.out HWZ.out); have HNZ : Hid (NodW (w8.setCell ⟨w2.heap.size, 3, none⟩ (.slice A8 (k + 1) c8)) w1.heap.size w2.heap.size (partN l (k + 1)) A4 c4 A8 c8) := (by rw [HNX.out]; exact Lib.hid HN8); clear hb8 HN8 hg8 hown8) | skip); refine hK.out _ _ ?_ (fun hHeld => ?_); (focus ((try dsimp only); (first | exact HB6.out | exact HB5.out | exact HB7.out | exact HHH.out | exact HH8.out))); clear hK K; (try simp only [Act.put, List.setIfInBounds_toArray, List.set_cons_zero, List.set_cons_succ]))
            first | (refine anyH_skip 18 (by kernel_rfl) (by kernel_rfl) (by simp only [List.getElem?_toArray, List.getElem?_cons_succ, List.getElem?_cons_zero] <;> rfl) (by kernel_rfl) (by exact fun _ _ _ h => h) (by rfl) (by assumption) ?_; (try simp only [Act.put, List.setIfInBounds_toArray, List.set_cons_zero, List.set_cons_succ])) | (refine anyH_take 18 (v := ?_) (by kernel_rfl) (by kernel_rfl) (by simp only [List.getElem?_toArray, List.getElem?_cons_succ, List.getElem?_cons_zero] <;> rfl) (by kernel_rfl) (by exact fun _ _ _ h => h) (by rfl) ?_ (by assumption) ?_; rotate_left; (focus (intro w hSw; (try dsimp only at hSw); (try simp only [List.getElem_toArray, List.getElem_cons_succ, List.getElem_cons_zero]); go_simp; try (with_reducible rfl))); (try simp only [Act.put, List.setIfInBounds_toArray, List.set_cons_zero, List.set_cons_succ]))
            first | (refine anyH_pass 19 (by kernel_rfl) (by simp only [List.getElem?_toArray, List.getElem?_cons_succ, List.getElem?_cons_zero] <;> rfl) (by rfl) (by assumption) ?_; (try simp only [Act.put, List.setIfInBounds_toArray, List.set_cons_zero, List.set_cons_succ])) | (refine anyH_one 19 (by kernel_rfl) (by simp only [List.getElem?_toArray, List.getElem?_cons_succ, List.getElem?_cons_zero] <;> rfl) (by rfl) (fun K hK => ?_); (try simp only [List.getElem_toArray, List.getElem_cons_succ, List.getElem_cons_zero]); go_simp; (first | (refine oper_append_to (.tmp 84) (.tmp 99) 29 rfl w1.heap.size 9 js _ 16 Try.underlying29 js0 js1 js2 js3 rfl _ k (sv (valsN l k)) rfl HV6.out _ (some ⟨w5.drew.heap.size, 0, none⟩) 1 1 [.string ⟨(vN l k).toArray⟩] rfl rfl (Reads.new w5.drew [.string ⟨(vN l k).toArray⟩] 9 (0, 0)) (by simp [Value.oneCell']) (by simp only [maxLen]; omega) (by omega) HW7.out.size ?_; intro A8 c8 w8 hown8 hg8; obtain ⟨HN8, e8, e9, hb8⟩ := HN7.out.val (vN l k) A8 c8 (k + 1) (by rw [HZ5.out]) w8 hown8 (by rw [HZ5.out]; exact hg8); rw [HZ5.out] at e8; have HH8 := Lib.hid (below_then HB1.out (HW7.out.trans (below_of_grown HV6.out HW7.out.size hg8))); have HWZ := Lib.hid (HW7.out.trans hb8); have HHH := Lib.hid (below_then HB1.out HWZ.out); have HNZ : Hid (NodW (w8.setCell ⟨w2.heap.size, 3, none⟩ (.slice A8 (k + 1) c8)) w1.heap.size w2.heap.size (partN l (k + 1)) A4 c4 A8 c8) := (by rw [HNX.out]; exact Lib.hid HN8); clear hb8 HN8 hg8 hown8) | skip); refine hK.out _ _ ?_ (fun hHeld => ?_); (focus ((try dsimp only); (first | exact HB6.out | exact HB5.out | exact HB7.out | exact HHH.out | exact HH8.out))); clear hK K; (try simp only [Act.put, List.setIfInBounds_toArray, List.set_cons_zero, List.set_cons_succ]))
            rotate_left
            all_goals (refine wpAnyH_done (by kernel_rfl) ?_ _)
            all_goals
              clear q3 q4 q5 q6 e8 e9
              go_wp2
              go_roundw
              case rel => exact ⟨k + 1, A4, c4, A8, c8, by omega, by go_num, HE1, HNZ, HWZ⟩
              case measure => simp [intOf]; omega
          · obtain rfl : k = n2 l := by omega
            have HE := Lib.hid (read_end HFO.out HE0.out)
            obtain ⟨p0, p1, p2, p3⟩ := HN.out.cells
            rw [show (partN l (n2 l)).keys.length = n2 l from keysN_len l (n2 l)] at p2
            rw [show (partN l (n2 l)).vals.length = n2 l from valsN_len l (n2 l)] at p3
            replace p0 : wr.cell? ⟨w2.heap.size, 0, none⟩ = some (.int .i64 (n1 l : Int)) := p0
            replace p1 : wr.cell? ⟨w2.heap.size, 1, none⟩ = some (.bool (lfN l)) := p1
            have HNR := Lib.hid (fun x0 x1 x2 x3 => HN.out.set4 HKR.out x0 x1 x2 x3)
            clear hlt hk
            go_wp2
            try simp only [Exit.inBlock, Exit.then]
            refine bodyPost_ret (v := .tuple #[.agg #[.int .i64 (n1 l : Int), .bool (lfN l), .slice A (n2 l) c1, .slice A2 (n2 l) c2], .int .i64 0]) (by rw [results_cell_tmp rfl]; go_simp) rfl ?_
            rw [HE.out.1, HE.out.2]
            exact ⟨A, c1, A2, c2, by rw [show (partN l (n2 l)).keys.length = n2 l from keysN_len l (n2 l), show (partN l (n2 l)).vals.length = n2 l from valsN_len l (n2 l)]; rfl, HNR.out _ _ _ _, below_set4 HB.out _ _ _ _⟩
end Go.Proofs.Ytilkcecjciiboaa
