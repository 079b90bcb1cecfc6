/-
  Chapter 7: the reference's Put, walked.
-/
import Derived.Test.YtilkcecjciiboaaNod3
import Derived.Test.YtilkcecjciiboaaNod6
import Derived.Test.YtilkcecjciiboaaRef1
import Derived.Test.YtilkcecjciiboaaBase8
namespace Go.Proofs.Ytilkcecjciiboaa
open Go.RowKit
/-- the bytes so far: the head, i places of keys, j values, and z zeros -/
def rowA (n : NodeL) (i : Nat) : List UInt8 := nodeH n ++ keysB n i ++ zs (8 * (i - n.keys.length))
def rowB (n : NodeL) (j : Nat) : List UInt8 := rowA n (mN n) ++ valsB n j
theorem leb2_small (k : Nat) (h : k < 256) : leb 2 k = [UInt8.ofNat k, 0] := by
  have h2 : k / 256 = 0 := by omega
  simp [leb, Nat.mod_eq_of_lt h, h2]
theorem leb1_small (k : Nat) (h : k < 256) : leb 1 k = [UInt8.ofNat k] := by simp [leb, Nat.mod_eq_of_lt h]
theorem headV (n : NodeL) (fl tn kn W M : Nat) (h1 : fl = flN n) (h2 : n.t = (tn : Int)) (h3 : kn = n.keys.length) (h4 : W = wN n) (h5 : M = mN n) (t5 : tn < 256) (k5 : kn < 256) (w5 : W < 256) (m5 : M < 256) :
    bv (nodeH n) = [.int .u8 (fl : Int), .int .u8 (tn : Int), .int .u8 (kn : Int), .int .u8 0, .int .u8 (W : Int), .int .u8 0, .int .u8 (M : Int), .int .u8 0, .int .u8 0, .int .u8 0, .int .u8 0, .int .u8 0] := by
  have hfl : fl < 256 := by rw [h1]; unfold flN; split <;> omega
  rw [← headP n fl tn kn W M h1 h2 h3 h4 h5]
  unfold fB
  simp only [List.flatMap_cons, List.flatMap_nil, List.append_nil]
  rw [leb1_small fl hfl, leb1_small tn t5, leb2_small kn k5, leb2_small W w5, leb2_small M m5]
  simp [bv, leb, Nat.mod_eq_of_lt hfl, Nat.mod_eq_of_lt t5, Nat.mod_eq_of_lt k5, Nat.mod_eq_of_lt w5, Nat.mod_eq_of_lt m5]
theorem keysB_more (n : NodeL) {i : Nat} (h : n.keys.length ≤ i) : keysB n (i + 1) = keysB n i := by
  unfold keysB
  rw [List.take_of_length_le (by omega), List.take_of_length_le (by omega)]
theorem rowA_key (n : NodeL) {i : Nat} (h : i < n.keys.length) : rowA n i ++ leb 8 (n.keys.getD i 0).toNat = rowA n (i + 1) := by
  unfold rowA
  rw [keysB_next n h, show i - n.keys.length = 0 by omega, show i + 1 - n.keys.length = 0 by omega]
  simp [zs]
theorem rowA_zero (n : NodeL) {i : Nat} (h : n.keys.length ≤ i) : rowA n i ++ zs 8 = rowA n (i + 1) := by
  unfold rowA
  rw [keysB_more n h, show i + 1 - n.keys.length = i - n.keys.length + 1 by omega, Nat.mul_succ]
  unfold zs
  rw [← List.replicate_append_replicate, ← List.append_assoc]
theorem rowA_len (n : NodeL) : ∀ i, (rowA n i).length = 12 + 8 * i
  | 0 => by unfold rowA keysB; simp [nodeH_len, zs]
  | i + 1 => by
    rcases Nat.lt_or_ge i n.keys.length with h | h
    · rw [← rowA_key n h, List.length_append, rowA_len n i, leb_len]; omega
    · rw [← rowA_zero n h, List.length_append, rowA_len n i, zs_len]; omega
theorem rowA_start (n : NodeL) : rowA n 0 = nodeH n := by unfold rowA keysB; simp [zs]
theorem rowB_start (n : NodeL) : rowB n 0 = rowA n (mN n) := by unfold rowB valsB; simp
theorem rowB_next (n : NodeL) {j : Nat} (h : j < n.vals.length) : rowB n j ++ n.vals.getD j [] = rowB n (j + 1) := by unfold rowB; rw [valsB_next n h, List.append_assoc]
theorem rowB_len {n : NodeL} (h : RightN n) {j : Nat} (hj : j ≤ n.keys.length) : (rowB n j).length = 12 + 8 * mN n + wN n * j := by
  unfold rowB
  rw [List.length_append, rowA_len, valsB_len n (by have := h.v; omega) (fun i hi => h.vl i (by omega))]
theorem rowB_end {n : NodeL} (h : RightN n) : rowB n n.keys.length ++ zs (232 - 8 * mN n - wN n * n.keys.length) = nodeB n := by
  have hm := h.m
  unfold rowB rowA nodeB nodeP
  have : keysB n (mN n) = keysB n n.keys.length := by unfold keysB; rw [List.take_of_length_le hm, List.take_length]
  rw [this]
  simp only [List.append_assoc]
def lenN : Value → Nat
  | .slice _ n _ => n
  | _ => 0
set_option maxRecDepth 100000 in
set_option maxHeartbeats 8000000 in
theorem rput_node {w : World} {n : NodeL} {A : Option Addr} {c : Nat} {A2 : Option Addr} {c2 : Nat} (h : NodR w w.heap.size n A c A2 c2) (hk : n.keys.length ≤ 1000000) (hv : n.vals.length ≤ 1000000) :
    Calls Try.prog 36 #[.agg #[.int .i64 n.t, .bool n.leaf, .slice A n.keys.length c, .slice A2 n.vals.length c2]] w (GivesE 5 (bv (putNV n)) (putNE n) w) := by
  obtain ⟨w1, hw1⟩ : ∃ w1, w1 = w.alloc (.cells (nodV n A c A2 c2) 31) := ⟨_, rfl⟩
  have hx : NodBox w1 w.heap.size w.heap.size n A c A2 c2 := by rw [hw1]; exact NodBox.new h
  have hs1 : w1.heap.size = w.heap.size + 1 := by rw [hw1]; simp
  have HB1 := Lib.hid (show Below w.heap.size w w1 by rw [hw1]; exact below_alloc1 w _)
  have hs0 : w1.heap[w.heap.size]? = some (.cells (nodV n A c A2 c2) 31) := by rw [hw1]; exact heap_alloc_new w _
  have hss : (Try.prog.info? 31).map (·.size) = some (nodV n A c A2 c2).size := by
    rw [show (nodV n A c A2 c2).size = 4 from rfl]
    kernel_rfl
  have hra := rright_any (h.ext HB1.out) hk hv
  have HNX := Lib.hid (fun (V : World) (hb : Below w1.heap.size w1 V) => hx.ext (by omega) (by omega) hb)
  have hss1 : w.heap.size < w1.heap.size := by omega
  cases hok : rightN n with
  | false =>
    have hvv : putNV n = [] ∧ putNE n = 1 := by unfold putNV putNE; rw [hok]; exact ⟨rfl, rfl⟩
    rw [hvv.1, hvv.2]
    rw [hok] at hra
    clear hvv hok HNX hx
    go_enter Try.func36, Try.ntmps36
    go_upto_region 1 with fail
    rw [show w.alloc (.cells #[.int .i64 n.t, .bool n.leaf, .slice A n.keys.length c, .slice A2 n.vals.length c2] 31) = w1 from hw1.symm]
    unfold nodV at hs0 hss
    clear hw1 hs1 h
    go_wp2_with (refine wpList_load_row rfl 31 _ rfl w.heap.size rfl 31 _ _ _ hs0 Try.underlying31 rfl hss ?_)
    refine hra.mono ?_
    rintro e w2 ⟨rfl, hb2⟩
    have hB := below_then HB1.out hb2
    clear hra hb2
    go_wp2
    go_ret2
    exact ⟨none, 0, rfl, World.ownsRow_nil _ _ _ _, hB⟩
  | true =>
    have hvv : putNV n = nodeB n ∧ putNE n = 0 := by unfold putNV putNE; rw [hok]; exact ⟨rfl, rfl⟩
    rw [hvv.1, hvv.2]
    rw [hok] at hra
    go_enter Try.func36, Try.ntmps36
    go_upto_region 1 with fail
    rw [show w.alloc (.cells #[.int .i64 n.t, .bool n.leaf, .slice A n.keys.length c, .slice A2 n.vals.length c2] 31) = w1 from hw1.symm]
    unfold nodV at hs0 hss
    have R := rightN_of hok
    obtain ⟨W, hW⟩ : ∃ W, W = wN n := ⟨_, rfl⟩
    obtain ⟨M, hM⟩ : ∃ M, M = mN n := ⟨_, rfl⟩
    obtain ⟨tn, htn⟩ : ∃ tn : Nat, n.t = (tn : Int) := ⟨n.t.toNat, by have := R.tl; omega⟩
    obtain ⟨kn, hkn⟩ : ∃ kn, kn = n.keys.length := ⟨_, rfl⟩
    obtain ⟨lf, hlf⟩ : ∃ lf, lf = n.leaf := ⟨_, rfl⟩
    have hwi := R.wi
    have hkm := R.m
    have hm18 := R.m18
    have hw24 := R.w24
    have hvl := R.v
    have htl := R.tl
    have ht5 : tn ≤ 5 := by omega
    have HWD := Lib.hid (fun V => (show Calls Try.prog 40 #[.int .i64 (tn : Int), .bool lf] V fun e w' => e = .returned (.int .i64 (W : Int)) ∧ Below V.heap.size V w' from by
      have := rwidth7_any n.t n.leaf V
      rw [hwi, ← hW, htn, ← hlf] at this
      exact this))
    have HMX := Lib.hid (fun V => (show Calls Try.prog 41 #[.int .i64 (tn : Int), .bool lf] V fun e w' => e = .returned (.int .i64 (M : Int)) ∧ Below V.heap.size V w' from by
      have := rmax_any n.t n.leaf V
      rw [show maxV n.t n.leaf = mN n from rfl, ← hM, htn, ← hlf] at this
      exact this))
    have HQ := Lib.hid (fun (V : World) (hb : Below w1.heap.size w1 V) => (show V.cell? ⟨w.heap.size, 0, none⟩ = some (.int .i64 (tn : Int)) ∧ V.cell? ⟨w.heap.size, 1, none⟩ = some (.bool lf) ∧ V.cell? ⟨w.heap.size, 2, none⟩ = some (.slice A kn c) ∧ V.cell? ⟨w.heap.size, 3, none⟩ = some (.slice A2 kn c2) from by
      have q := HNX.out V hb
      rw [← htn, hlf, hkn, ← hvl]
      refine ⟨q.q0, q.q1, ?_, q.q3⟩
      rw [hvl]
      exact q.q2))
    have HHV := Lib.hid (show ∀ fl : Nat, fl = (if lf = true then 1 else 0) → bv (nodeH n) = [.int .u8 (fl : Int), .int .u8 (tn : Int), .int .u8 (kn : Int), .int .u8 0, .int .u8 (W : Int), .int .u8 0, .int .u8 (M : Int), .int .u8 0, .int .u8 0, .int .u8 0, .int .u8 0, .int .u8 0] from
      fun fl hfl => headV n fl tn kn W M (by rw [hfl, hlf]; rfl) htn hkn hW hM (by omega) (by omega) (by omega) (by omega))
    have HLEN := Lib.hid (nodeB_len R)
    have HAK := Lib.hid (fun i hi => rowA_key n (i := i) hi)
    have HAZ := Lib.hid (fun i hi => rowA_zero n (i := i) hi)
    have HAL := Lib.hid (rowA_len n)
    have HBN := Lib.hid (fun j hj => rowB_next n (j := j) hj)
    have HBL := Lib.hid (fun j hj => rowB_len R (j := j) hj)
    have HBE := Lib.hid (rowB_end R)
    have HFR := Lib.hid (fun k hk => fit_row R (k := k) hk)
    have HKE := Lib.hid (fun i hi => keyE_zero.1 (R.ky i hi))
    have HVL := Lib.hid (fun i hi => R.vl i hi)
    have HA0 := Lib.hid (rowA_start n)
    have HB0 := Lib.hid (rowB_start n)
    rw [← hkn] at HAK HAZ HBL HFR HKE HVL HBE hkm hvl
    rw [← hM] at HBL HFR HBE HB0 hkm hm18
    rw [← hW] at HBL HFR HBE HVL hw24
    rw [hvl] at HBN
    clear hw1 hs1 hvv
    rw [htn] at hs0 hra hss ⊢
    rw [← hlf, ← hkn, hvl] at hs0 hra hss ⊢
    have HKN := Lib.hid hkn
    have HVN := Lib.hid hvl
    obtain ⟨i0, hi, hz0, hz1, hz2⟩ := info_parts Try.infoU8
    clear hW hM htn hkn hlf hvl hwi hx h hok htl
    go_wp2_with (refine wpList_load_row rfl 31 _ rfl w.heap.size rfl 31 _ _ _ hs0 Try.underlying31 rfl hss ?_)
    refine hra.mono ?_
    rintro e w2 ⟨rfl, hb2⟩
    have HB2 := Lib.hid hb2
    clear hra hs0 hss
    obtain ⟨q0, q1, q2, q3⟩ := HQ.out _ hb2
    clear hb2
    go_wp2_with fail
    refine (HWD.out _).mono ?_
    rintro e w3 ⟨rfl, hb3⟩
    have HB3 := Lib.hid (below_then HB2.out hb3)
    clear hb3 HB2 q0 q1 q2 q3 HWD
    obtain ⟨q0, q1, q2, q3⟩ := HQ.out _ HB3.out
    go_wp2_with fail
    refine (HMX.out _).mono ?_
    rintro e w4 ⟨rfl, hb4⟩
    have HB4 := Lib.hid (below_then HB3.out hb4)
    clear hb4 HB3 q0 q1 q2 q3 HMX
    obtain ⟨q0, q1, q2, q3⟩ := HQ.out _ HB4.out
    have u1 : IntKind.u8.wrap (tn : Int) = (tn : Int) := by rw [IntKind.wrap_u8]; omega
    have u2 : IntKind.u8.wrap (kn : Int) = (kn : Int) := by rw [IntKind.wrap_u8]; omega
    have u3 : IntKind.u8.wrap (W : Int) = (W : Int) := by rw [IntKind.wrap_u8]; omega
    have u4 : IntKind.u8.wrap (M : Int) = (M : Int) := by rw [IntKind.wrap_u8]; omega
    go_upto_region 6 with fail
    have hlit := World.ownsRow_lit (e := 5) (size := 1) (base := w1.heap.size) w4 #[.int .u8 0, .int .u8 (tn : Int), .int .u8 (kn : Int), .int .u8 0, .int .u8 (W : Int), .int .u8 0, .int .u8 (M : Int), .int .u8 0, .int .u8 0, .int .u8 0, .int .u8 0, .int .u8 0] 12 HB4.out.size (by decide) (by rfl)
    have HB5 := Lib.hid (below_then HB4.out (below_alloc1 w4 (.cells #[.int .u8 0, .int .u8 (tn : Int), .int .u8 (kn : Int), .int .u8 0, .int .u8 (W : Int), .int .u8 0, .int .u8 (M : Int), .int .u8 0, .int .u8 0, .int .u8 0, .int .u8 0, .int .u8 0] 5)))
    have HG := Lib.hid HB4.out.size
    clear q0 q1 q2 q3 HB4 u1 u2 u3 u4
    generalize w4.alloc (.cells #[.int .u8 0, .int .u8 (tn : Int), .int .u8 (kn : Int), .int .u8 0, .int .u8 (W : Int), .int .u8 0, .int .u8 (M : Int), .int .u8 0, .int .u8 0, .int .u8 0, .int .u8 0, .int .u8 0] 5) = w5 at *
    generalize w4.heap.size = g at *
    obtain ⟨-, q1, -, -⟩ := HQ.out _ HB5.out
    go_upto_if 35 with fail
    go_cut [6] (fun s6 wx => s6 = .slice (some ⟨g, 0, none⟩) 12 12 ∧ Hid (wx.ownsRow w1.heap.size 5 1 (.slice (some ⟨g, 0, none⟩) 12 12) 12 (bv (nodeH n))) ∧ Hid (Below w1.heap.size w1 wx))
    case first =>
      cases lf with
      | false =>
        have HO := Lib.hid (show w5.ownsRow w1.heap.size 5 1 (.slice (some ⟨g, 0, none⟩) 12 12) 12 (bv (nodeH n)) from by rw [HHV.out 0 rfl]; exact hlit)
        clear hlit
        go_wp2
        go_meet
        exact ⟨rfl, HO, HB5⟩
      | true =>
        have hcl := hlit.cellAt 0 (by decide)
        have hfz := hlit.frozenAt 0
        have hst := hlit.stored 0 (.int .u8 1)
        have HO := Lib.hid (show (w5.setCell ⟨g, 0, none⟩ (.int .u8 1)).ownsRow w1.heap.size 5 1 (.slice (some ⟨g, 0, none⟩) 12 12) 12 (bv (nodeH n)) from by rw [HHV.out 1 rfl]; exact hst.1)
        have HB6 := Lib.hid (show Below w1.heap.size w1 (w5.setCell ⟨g, 0, none⟩ (.int .u8 1)) from HB5.out.grown hst.2 HB5.out.size (fun j hj => by cases hj; exact HG.out))
        have hcl : w5.cell? ⟨g, 0, none⟩ = some (.int .u8 0) := hcl
        clear hlit hst
        go_wp2
        go_meet
        exact ⟨rfl, HO, HB6⟩
    case rest =>
      obtain ⟨rfl, HO, HB6⟩ := hcut
      clear hlit HB5 q1 HHV
      have HO' := HO.out
      rw [← HA0.out] at HO'
      have HO := Lib.hid HO'
      clear HO' HA0
      go_wp2_with fail
      go_loopw [6, 7] (fun s6 s7 wr => ∃ (i m : Nat) (A6 : Option Addr) (c6 : Nat), i ≤ M ∧ Hid (m = 12 + 8 * i) ∧ s7 = .int .i64 i ∧ s6 = .slice A6 m c6 ∧ Hid (wr.ownsRow w1.heap.size 5 1 (.slice A6 m c6) m (bv (rowA n i))) ∧ Hid (Below w1.heap.size w1 wr)) (fun _ s7 _ => M - (intOf s7).toNat)
      case atStart => exact ⟨0, 12, _, _, by omega, Lib.hid rfl, rfl, rfl, HO, HB6⟩
      case round =>
        clear HO HB6
        obtain ⟨i, m, A6, c6, hiM, HMI, rfl, rfl, HO, HB⟩ := hrel
        have hm9 : m ≤ 156 := by have := HMI.out; omega
        obtain ⟨-, -, q2, q3⟩ := HQ.out _ HB.out
        by_cases hlt : i < M
        · have hci : (i : Int) < (M : Int) := by omega
          by_cases hik : i < kn
          · have hcj : (i : Int) < (kn : Int) := by omega
            have hnr := (HNX.out _ HB.out).nr
            obtain ⟨ad, rfl, -, hc1⟩ := hnr.ky.at_ (k := i) (by rw [iv_len, ← HKN.out]; exact hik)
            rw [iv_getD n.keys (by rw [← HKN.out]; exact hik)] at hc1
            have hke := HKE.out i hik
            have PA := Lib.hid (HAK.out i hik)
            obtain ⟨xn, hxn⟩ := Int.eq_ofNat_of_zero_le hke.1.1
            rw [hxn, Int.toNat_natCast] at PA
            rw [hxn] at hc1
            have hx9 : xn < 9223372036854775808 := by have := hke.1.2; omega
            clear hke hxn hnr HBE HBL HBN HFR HVL HB0 HLEN HAL HAZ HAK HKE
            have hP := fun V => rbytes_any xn hx9 8 (by omega) V
            go_wp2_with fail
            refine (hP _).mono ?_
            rintro e w7 ⟨A7, c7, rfl, hown7, hb7⟩
            rw [bv_len, leb_len] at hown7
            rw [bv_len, leb_len]
            have hB7 := below_then HB.out hb7
            have hownk := own_keep HO.out hb7
            have hr7 := Reads.of_own hown7
            clear hP hc1 hb7 hown7 HO HB
            go_wp2_with (at_builtin; refine wpList_append_to _ rfl (.tmp 48) (.tmp 54) _ rfl w1.heap.size 5 i0 _ 1 Try.underlying22 hi hz0 hz1 hz2 rfl _ m (bv (rowA n i)) rfl hownk _ A7 8 c7 (bv (leb 8 xn)) rfl (by rw [bv_len, leb_len]) hr7 (bv_one _) (by simp only [maxLen]; omega) (by omega) hB7.size ?_; intro A8 c8 w8 hown8 hg8 hb8 _; rw [← bv_append, PA.out] at hown8; have HO8 := Lib.hid hown8; have HB8 := Lib.hid (hB7.trans hb8); clear hownk hr7 hg8 hb8 hown8 hB7 PA)
            go_roundw
            case rel => exact ⟨i + 1, m + 8, A8, c8, by omega, Lib.hid (by have := HMI.out; omega), by go_num, rfl, HO8, HB8⟩
            case measure => simp [intOf]; omega
          · have hcj : decide (i < kn) = false := decide_eq_false hik
            have PA := Lib.hid (HAZ.out i (by omega))
            clear HBE HBL HBN HFR HVL HB0 HLEN HAL HAZ HAK HKE
            go_wp2_with (at_builtin; refine wpList_append_zeros _ rfl (.tmp 56) (.const _) _ 3 rfl w1.heap.size 5 i0 Try.underlying22 Try.underlying3 hi hz0 hz1 hz2 _ m (bv (rowA n i)) rfl HO.out 8 rfl (by omega) HB.out.size ?_; intro A8 c8 w8 hown8 hg8 hb8; rw [← bv_append, show List.replicate 8 (0 : UInt8) = zs 8 from rfl, PA.out] at hown8; have HO8 := Lib.hid hown8; have HB8 := Lib.hid (HB.out.trans hb8); clear hg8 hb8 hown8 PA HO HB)
            go_roundw
            case rel => exact ⟨i + 1, m + 8, A8, c8, by omega, Lib.hid (by have := HMI.out; omega), by go_num, rfl, HO8, HB8⟩
            case measure => simp [intOf]; omega
        · obtain rfl : i = M := by omega
          have HO' := HO.out
          rw [← HB0.out] at HO'
          have HO1 := Lib.hid HO'
          clear HO' HB0 HAL HAZ HAK HKE HO
          have hml := HFR.out kn (Nat.le_refl _)
          go_wp2_with fail
          go_loopw [6, 8] (fun s6 s8 wr => ∃ (j m : Nat) (A6 : Option Addr) (c6 : Nat), j ≤ kn ∧ Hid (m = 12 + 8 * i + W * j) ∧ s8 = .int .i64 j ∧ s6 = .slice A6 m c6 ∧ Hid (wr.ownsRow w1.heap.size 5 1 (.slice A6 m c6) m (bv (rowB n j))) ∧ Hid (Below w1.heap.size w1 wr)) (fun _ s8 _ => kn - (intOf s8).toNat)
          case atStart => exact ⟨0, m, _, _, by omega, Lib.hid (by rw [HMI.out]; rfl), rfl, rfl, HO1, HB⟩
          case round =>
            clear HO1 HB q2 q3 HMI hm9
            obtain ⟨j, m, A6, c6, hjk, HM, rfl, rfl, HO, HB⟩ := hrel
            obtain ⟨-, -, -, q3⟩ := HQ.out _ HB.out
            by_cases hlt : j < kn
            · have hci : (j : Int) < (kn : Int) := by omega
              obtain ⟨ad, rfl, -, hc1⟩ := (HNX.out _ HB.out).nr.vl.at_ (k := j) (by rw [sv_len, HVN.out]; exact hlt)
              rw [sv_getD n.vals (by rw [HVN.out]; exact hlt)] at hc1
              have PB := Lib.hid (HBN.out j hlt)
              have hyl := HVL.out j hlt
              have hm9 : m ≤ 244 := by
                have h1 := HFR.out j (by omega)
                have h2 := HM.out
                omega
              generalize n.vals.getD j [] = y at *
              have HM2 := Lib.hid (show m + W = 12 + 8 * i + W * (j + 1) by rw [HM.out, Nat.mul_succ]; omega)
              clear HM hml HFR HBL HBN HBE HLEN HVL
              go_wp2_with (at_builtin; refine wpList_append_str _ rfl (.tmp 65) (.tmp 70) _ 9 rfl w1.heap.size 5 i0 _ Try.underlying22 Try.underlying9 hi hz0 hz1 hz2 rfl _ m (bv (rowB n j)) rfl HO.out y rfl (by omega) HB.out.size ?_; intro A8 c8 w8 hown8 hg8 hb8; rw [← bv_append, PB.out, hyl] at hown8; rw [hyl]; have HO8 := Lib.hid hown8; have HB8 := Lib.hid (HB.out.trans hb8); clear hg8 hb8 hown8 PB HO HB)
              go_roundw
              case rel => exact ⟨j + 1, m + W, A8, c8, by omega, HM2, by go_num, rfl, HO8, HB8⟩
              case measure => simp [intOf]; omega
            · obtain rfl : j = kn := by omega
              obtain ⟨b0, hb0⟩ : ∃ b0, b0 = 12 + 8 * i + W * j := ⟨_, rfl⟩
              have hb9 : b0 ≤ 244 := by omega
              have HO0 := Lib.hid (show wr.ownsRow w1.heap.size 5 1 (.slice A6 m c6) m (bv (rowB n j ++ zs 0)) from by rw [show zs 0 = [] from rfl, List.append_nil]; exact HO.out)
              have hm0 : m = b0 + 0 := by rw [hb0]; exact HM.out
              have HZZ := Lib.hid (show rowB n j ++ zs (244 - b0) = nodeB n from by rw [← HBE.out, hb0]; congr 2; omega)
              clear hb0 HM hml HFR HBL HBN HBE HVL HO
              go_wp2_with fail
              go_loopw [6] (fun s6 wr => ∃ (z m : Nat) (A6 : Option Addr) (c6 : Nat), m ≤ 244 ∧ Hid (m = b0 + z) ∧ s6 = .slice A6 m c6 ∧ Hid (wr.ownsRow w1.heap.size 5 1 (.slice A6 m c6) m (bv (rowB n j ++ zs z))) ∧ Hid (Below w1.heap.size w1 wr)) (fun s6 _ => 244 - lenN s6)
              case atStart => exact ⟨0, m, _, _, by omega, Lib.hid hm0, rfl, HO0, HB⟩
              case round =>
                clear HO0 HB hm0 q3
                obtain ⟨z, m, A6, c6, hm4, HMZ, rfl, HO, HB⟩ := hrel
                by_cases hlt : m < 244
                · have PZ := Lib.hid (show rowB n j ++ zs z ++ [0] = rowB n j ++ zs (z + 1) from by rw [List.append_assoc]; unfold zs; rw [List.replicate_succ'])
                  have hci : (m : Int) < 244 := by omega
                  go_wp2_with (at_builtin; refine wpList_append_to _ rfl (.tmp 75) (.tmp 76) _ rfl w1.heap.size 5 i0 _ 1 Try.underlying22 hi hz0 hz1 hz2 rfl _ m (bv (rowB n j ++ zs z)) rfl (HO.out.alloc _) _ _ 1 1 [Value.int .u8 0] rfl rfl (Reads.new wr [Value.int .u8 0] 5 (0, 0)) (by simp [Value.oneCell']) (by simp only [maxLen]; omega) (by omega) (by have := HB.out.size; simp; omega) ?_; intro A7 c7 w7 hown7 hg7 hb7 _; rw [show [Value.int .u8 0] = bv [0] from rfl, ← bv_append, PZ.out] at hown7; have HO8 := Lib.hid hown7; have HB8 := Lib.hid ((HB.out.alloc HB.out.size _).trans hb7); clear hg7 hown7 hb7 HO HB PZ)
                  go_roundw
                  case rel => exact ⟨z + 1, m + 1, A7, c7, by omega, Lib.hid (by have := HMZ.out; omega), rfl, HO8, HB8⟩
                  case measure => simp [lenN]; omega
                · obtain rfl : m = 244 := by omega
                  have hzz : z = 244 - b0 := by have := HMZ.out; omega
                  have ho := own_mono HO.out HB1.out.size
                  rw [hzz, HZZ.out] at ho
                  have hB := below_then HB1.out HB.out
                  clear hzz HZZ HO HB HMZ
                  go_wp2
                  go_ret2
                  exact ⟨A6, c6, by rw [bv_len, HLEN.out]; rfl, by rw [bv_len, HLEN.out]; exact ho, hB⟩
end Go.Proofs.Ytilkcecjciiboaa
