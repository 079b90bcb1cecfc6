/-
  Chapter 7: node.Put, walked.
-/
import Derived.Test.YtilkcecjciiboaaNod2
import Derived.Test.YtilkcecjciiboaaNod4
import Derived.Test.YtilkcecjciiboaaCode2
import Derived.Test.YtilkcecjciiboaaBase7
import Derived.Test.YtilkcecjciiboaaBase9
namespace Go.Proofs.Ytilkcecjciiboaa
open Go.RowKit
theorem made_zerosN (n : Nat) : (madeCells (Value.int .u8 0).cells (n * 1)).toList = bv (List.replicate n 0) := by
  rw [Nat.mul_one]
  apply List.ext_getElem
  · simp [madeCells, bv]
  · intro i h1 h2
    simp [madeCells, bv, Value.cells, Nat.mod_one]
def flN (n : NodeL) : Nat := if n.leaf = true then 1 else 0
theorem headP (n : NodeL) (fl tn kn W M : Nat) (h1 : fl = flN n) (h2 : n.t = (tn : Int)) (h3 : kn = n.keys.length) (h4 : W = wN n) (h5 : M = mN n) :
    fB [(1, fl), (1, tn), (2, kn), (2, W), (2, M), (4, 0)] = nodeH n := by
  subst h1 h3 h4 h5
  unfold nodeH flN fB
  rw [h2]
  simp only [List.flatMap_cons, List.flatMap_nil, List.append_nil, List.append_assoc, Int.toNat_natCast]
theorem cpack6 (n : NodeL) (fl tn kn W M : Nat) (h1 : fl = flN n) (h2 : n.t = (tn : Int)) (h3 : kn = n.keys.length) (h4 : W = wN n) (h5 : M = mN n) (t5 : tn < 256) (k5 : kn < 65536) (w5 : W < 65536) (m5 : M < 65536) (g : Nat) (V : World)
    (hg : V.heap[g]? = some (.cells #[.int .i64 1, .int .i64 (fl : Int), .int .i64 1, .int .i64 (tn : Int), .int .i64 2, .int .i64 (kn : Int), .int .i64 2, .int .i64 (W : Int), .int .i64 2, .int .i64 (M : Int), .int .i64 4, .int .i64 0] 82)) :
    Calls Try.prog 58 #[.slice (some ⟨g, 0, none⟩) 6 6] V fun e w' =>
      ∃ A c, e = .returned (.tuple #[.slice A 12 c, .int .i64 0]) ∧ Hid (w'.ownsRow V.heap.size 5 1 (.slice A 12 c) 12 (bv (nodeH n))) ∧ Hid (Below V.heap.size V w') := by
  have hfl : fl < 256 := by rw [h1]; unfold flN; split <;> omega
  have hB := headP n fl tn kn W M h1 h2 h3 h4 h5
  have K := cpackL [(1, fl), (1, tn), (2, kn), (2, W), (2, M), (4, 0)] (by
    intro p hp
    simp only [List.mem_cons, List.not_mem_nil, or_false] at hp
    unfold fldOk
    rcases hp with rfl | rfl | rfl | rfl | rfl | rfl
    · exact .inl ⟨rfl, hfl⟩
    · exact .inl ⟨rfl, t5⟩
    · exact .inr (.inl ⟨rfl, k5⟩)
    · exact .inr (.inl ⟨rfl, w5⟩)
    · exact .inr (.inl ⟨rfl, m5⟩)
    · exact .inr (.inr (.inl ⟨rfl, by decide⟩))) (by simp) g V hg
  rw [hB, nodeH_len] at K
  exact K
theorem cpack1 (x : Nat) (hx : x < 9223372036854775808) (g : Nat) (V : World) (hg : V.heap[g]? = some (.cells #[.int .i64 8, .int .i64 (x : Int)] 82)) :
    Calls Try.prog 58 #[.slice (some ⟨g, 0, none⟩) 1 1] V fun e w' =>
      ∃ A c, e = .returned (.tuple #[.slice A 8 c, .int .i64 0]) ∧ Hid (w'.ownsRow V.heap.size 5 1 (.slice A 8 c) 8 (bv (leb 8 x))) ∧ Hid (Below V.heap.size V w') := by
  have hB : fB [(8, x)] = leb 8 x := by simp [fB]
  have K := cpackL [(8, x)] (by
    intro p hp
    simp only [List.mem_cons, List.not_mem_nil, or_false] at hp
    unfold fldOk
    subst hp
    exact .inr (.inr (.inr ⟨rfl, hx⟩))) (by simp) g V hg
  rw [hB, leb_len] at K
  exact K
set_option maxRecDepth 100000 in
set_option maxHeartbeats 8000000 in
theorem put_node {w : World} {n : NodeL} {A : Option Addr} {c : Nat} {A2 : Option Addr} {c2 : Nat} (h : NodR w w.heap.size n A c A2 c2) (hk : n.keys.length ≤ 1000000) (hv : n.vals.length ≤ 1000000) :
    Calls Try.prog 25 #[.agg #[.int .i64 n.t, .bool n.leaf, .slice A n.keys.length c, .slice A2 n.vals.length c2]] w (GivesE 5 (bv (putNV n)) (putNE n) w) := by
  obtain ⟨w1, hw1⟩ : ∃ w1, w1 = w.alloc (.cells (nodV n A c A2 c2) 31) := ⟨_, rfl⟩
  have hx : NodBox w1 w.heap.size w.heap.size n A c A2 c2 := by rw [hw1]; exact NodBox.new h
  have hs1 : w1.heap.size = w.heap.size + 1 := by rw [hw1]; simp
  have HB1 := Lib.hid (show Below w.heap.size w w1 by rw [hw1]; exact below_alloc1 w _)
  have hs0 : w1.heap[w.heap.size]? = some (.cells (nodV n A c A2 c2) 31) := by rw [hw1]; exact heap_alloc_new w _
  have hss : (Try.prog.info? 31).map (·.size) = some (nodV n A c A2 c2).size := by
    rw [show (nodV n A c A2 c2).size = 4 from rfl]
    kernel_rfl
  have hra := right_any (h.ext HB1.out) hk hv
  have HNX := Lib.hid (fun (V : World) (hb : Below w1.heap.size w1 V) => hx.ext (by omega) (by omega) hb)
  have hss1 : w.heap.size < w1.heap.size := by omega
  cases hok : rightN n with
  | false =>
    have hvv : putNV n = [] ∧ putNE n = 1 := by unfold putNV putNE; rw [hok]; exact ⟨rfl, rfl⟩
    rw [hvv.1, hvv.2]
    rw [hok] at hra
    clear hvv hok HNX hx
    go_enter Try.func25, Try.ntmps25
    go_upto_region 1 with fail
    rw [show w.alloc (.cells #[.int .i64 n.t, .bool n.leaf, .slice A n.keys.length c, .slice A2 n.vals.length c2] 31) = w1 from hw1.symm]
    unfold nodV at hs0 hss
    clear hw1 hs1 h
    go_wp2_with (refine wpList_load_row rfl 31 _ rfl w.heap.size rfl 31 _ _ _ hs0 Try.underlying31 rfl hss ?_)
    refine hra.mono ?_
    rintro e w2 ⟨rfl, hb2⟩
    have hB := below_then HB1.out hb2
    clear hra hb2
    go_wp2
    go_ret2
    exact ⟨none, 0, rfl, World.ownsRow_nil _ _ _ _, hB⟩
  | true =>
    have hvv : putNV n = nodeB n ∧ putNE n = 0 := by unfold putNV putNE; rw [hok]; exact ⟨rfl, rfl⟩
    rw [hvv.1, hvv.2]
    rw [hok] at hra
    go_enter Try.func25, Try.ntmps25
    go_upto_region 1 with fail
    rw [show w.alloc (.cells #[.int .i64 n.t, .bool n.leaf, .slice A n.keys.length c, .slice A2 n.vals.length c2] 31) = w1 from hw1.symm]
    unfold nodV at hs0 hss
    have R := rightN_of hok
    obtain ⟨W, hW⟩ : ∃ W, W = wN n := ⟨_, rfl⟩
    obtain ⟨M, hM⟩ : ∃ M, M = mN n := ⟨_, rfl⟩
    obtain ⟨tn, htn⟩ : ∃ tn : Nat, n.t = (tn : Int) := ⟨n.t.toNat, by have := R.tl; omega⟩
    obtain ⟨fl, hfl⟩ : ∃ fl, fl = flN n := ⟨_, rfl⟩
    obtain ⟨kn, hkn⟩ : ∃ kn, kn = n.keys.length := ⟨_, rfl⟩
    obtain ⟨lf, hlf⟩ : ∃ lf, lf = n.leaf := ⟨_, rfl⟩
    have hwi := R.wi
    have hkm := R.m
    have hm18 := R.m18
    have hw24 := R.w24
    have hvl := R.v
    have htl := R.tl
    have hw0 := R.w0
    have hfit := R.fit
    have HPK := Lib.hid (fun g V hg => cpack6 n fl tn kn W M hfl htn hkn hW hM (by omega) (by omega) (by omega) (by omega) g V hg)
    have HFL := Lib.hid (fun V => (show Calls Try.prog 59 #[.bool lf] V fun e w' => e = .returned (.int .i64 (fl : Int)) ∧ V = w' from by
      rw [hfl, hlf]
      unfold flN
      have := flag_any n.leaf V
      cases hl : n.leaf
      · rw [hl] at this; exact this
      · rw [hl] at this; exact this))
    have HWD := Lib.hid (fun V => (show Calls Try.prog 24 #[.int .i64 (tn : Int), .bool lf] V fun e w' => e = .returned (.int .i64 (W : Int)) ∧ w' = V from by
      have := width_any n.t n.leaf V
      rw [hwi, ← hW, htn, ← hlf] at this
      exact this.mono fun e w' ⟨h1, h2⟩ => ⟨h1, h2.symm⟩))
    have HMX := Lib.hid (fun V => (show Calls Try.prog 23 #[.int .i64 (tn : Int), .bool lf] V fun e w' => e = .returned (.int .i64 (M : Int)) ∧ w' = V from by
      have := max_any n.t n.leaf V
      rw [show maxV n.t n.leaf = mN n from rfl, ← hM, htn, ← hlf] at this
      exact this.mono fun e w' ⟨h1, h2⟩ => ⟨h1, h2.symm⟩))
    have HQ := Lib.hid (fun (V : World) (hb : Below w1.heap.size w1 V) => (show V.cell? ⟨w.heap.size, 0, none⟩ = some (.int .i64 (tn : Int)) ∧ V.cell? ⟨w.heap.size, 1, none⟩ = some (.bool lf) ∧ V.cell? ⟨w.heap.size, 2, none⟩ = some (.slice A kn c) ∧ V.cell? ⟨w.heap.size, 3, none⟩ = some (.slice A2 kn c2) from by
      have q := HNX.out V hb
      rw [← htn, hlf, hkn, ← hvl]
      refine ⟨q.q0, q.q1, ?_, q.q3⟩
      rw [hvl]
      exact q.q2))
    have HLEN := Lib.hid (nodeB_len R)
    have HZ := Lib.hid (nodeP_zero R)
    have HPL := Lib.hid (fun k j hk hj => nodeP_len R (k := k) (j := j) hk hj)
    have HPUTK := Lib.hid (fun k hk => put_key R (k := k) hk)
    have HPUTV := Lib.hid (fun k hk => put_val R (k := k) hk)
    have HFR := Lib.hid (fun k hk => fit_row R (k := k) hk)
    have HKE := Lib.hid (fun i hi => keyE_zero.1 (R.ky i hi))
    have HVL := Lib.hid (fun i hi => R.vl i hi)
    rw [← hkn] at HPL HPUTK HPUTV HFR HKE HVL hkm hvl
    rw [← hM] at HPUTV HFR hkm hm18 hfit
    rw [← hW] at HPUTV HFR HVL hw24 hw0 hfit
    have HNB := Lib.hid (show nodeB n = nodeP n kn kn by rw [hkn]; rfl)
    clear hw1 hs1 hvv
    rw [htn] at hs0 hra hss ⊢
    rw [← hlf, ← hkn, hvl] at hs0 hra hss ⊢
    have HKN := Lib.hid hkn
    have HVN := Lib.hid hvl
    have hsz : (Try.prog.info? 5).map (·.size) = some 1 := by kernel_rfl
    obtain ⟨i0, hi, hz0, hz1, hz2⟩ := info_parts Try.infoU8
    clear hW hM htn hfl hkn hlf hvl hwi hx h hok htl
    go_wp2_with (refine wpList_load_row rfl 31 _ rfl w.heap.size rfl 31 _ _ _ hs0 Try.underlying31 rfl hss ?_)
    refine hra.mono ?_
    rintro e w2 ⟨rfl, hb2⟩
    have HB2 := Lib.hid hb2
    clear hra hs0 hss
    obtain ⟨q0, q1, q2, q3⟩ := HQ.out _ hb2
    clear hb2
    go_upto_region 3 with fail
    go_cut [4, 5] (fun s4 s5 wx => s4 = .int .i64 (W : Int) ∧ s5 = .int .i64 (M : Int) ∧ ∃ m, wx = w2.drewN m)
    case first =>
      clear HB2 HLEN HZ HPL HPUTK HPUTV HFR HKE HVL HNB HKN HVN HPK HFL HQ HNX
      go_quiet (first | (go_at_call 24; exact Calls.quiet_of_same (HWD.out _)) | (go_at_call 23; exact Calls.quiet_of_same (HMX.out _)))
      go_wp2
      go_meet
      exact ⟨rfl, rfl, _, rfl⟩
    case rest =>
      obtain ⟨rfl, rfl, m, rfl⟩ := hcut
      have hB3 := below_drewN HB2.out m
      generalize w2.drewN m = w3 at *
      clear q0 q1 q2 q3
      obtain ⟨q0, q1, q2, q3⟩ := HQ.out _ hB3
      have hB9 := (Below.refl w3.heap.size w3).drew
      have HK := Lib.hid (fun (V V' : World) (hb : Below V.heap.size V V') (hS : Below w3.heap.size w3 V ∧ V.cell? ⟨w.heap.size, 0, none⟩ = some (.int .i64 (tn : Int)) ∧ V.cell? ⟨w.heap.size, 1, none⟩ = some (.bool lf) ∧ V.cell? ⟨w.heap.size, 2, none⟩ = some (.slice A kn c)) =>
        (show Below w3.heap.size w3 V' ∧ V'.cell? ⟨w.heap.size, 0, none⟩ = some (.int .i64 (tn : Int)) ∧ V'.cell? ⟨w.heap.size, 1, none⟩ = some (.bool lf) ∧ V'.cell? ⟨w.heap.size, 2, none⟩ = some (.slice A kn c) from ⟨below_then hS.1 hb, keep_cell hb hS.2.1, keep_cell hb hS.2.2.1, keep_cell hb hS.2.2.2⟩))
      have HB3 := Lib.hid hB3
      clear HB2 hB3 HWD HMX
      go_upto_region 4 with fail
      refine wp_region_held_drew (S := (fun V => Below w3.heap.size w3 V ∧ V.cell? ⟨w.heap.size, 0, none⟩ = some (.int .i64 (tn : Int)) ∧ V.cell? ⟨w.heap.size, 1, none⟩ = some (.bool lf) ∧ V.cell? ⟨w.heap.size, 2, none⟩ = some (.slice A kn c))) (by kernel_rfl) ?_ (fun hHeld => ?_)
      (focus ((try dsimp only); (first | exact ⟨hB9, q0, q1, q2⟩ | assumption | exact HK.out _ _ hb4.out hHeld | exact HK.out _ _ (below_alloc1 _ _) hHeld)))
      first | (refine anyH_skip 0 (by kernel_rfl) (by kernel_rfl) (by simp only [List.getElem?_toArray, List.getElem?_cons_zero] <;> rfl) (by kernel_rfl) (by exact fun _ _ _ h => h) (by rfl) (by assumption) ?_; (try simp only [Act.put, List.setIfInBounds_toArray, List.set_cons_zero, List.set_cons_succ])) | (refine anyH_take 0 (v := ?_) (by kernel_rfl) (by kernel_rfl) (by simp only [List.getElem?_toArray, List.getElem?_cons_zero] <;> rfl) (by kernel_rfl) (by exact fun _ _ _ h => h) (by rfl) ?_ (by assumption) ?_; rotate_left; (focus (intro w hSw; (try dsimp only at hSw); (try simp only [List.getElem_toArray, List.getElem_cons_succ, List.getElem_cons_zero]); go_simp; try (with_reducible rfl))); (try simp only [Act.put, List.setIfInBounds_toArray, List.set_cons_zero, List.set_cons_succ]))
      first | (refine anyH_skip 1 (by kernel_rfl) (by kernel_rfl) (by simp only [List.getElem?_toArray, List.getElem?_cons_succ, List.getElem?_cons_zero] <;> rfl) (by kernel_rfl) (by exact fun _ _ _ h => h) (by rfl) (by assumption) ?_; (try simp only [Act.put, List.setIfInBounds_toArray, List.set_cons_zero, List.set_cons_succ])) | (refine anyH_take 1 (v := ?_) (by kernel_rfl) (by kernel_rfl) (by simp only [List.getElem?_toArray, List.getElem?_cons_succ, List.getElem?_cons_zero] <;> rfl) (by kernel_rfl) (by exact fun _ _ _ h => h) (by rfl) ?_ (by assumption) ?_; rotate_left; (focus (intro w hSw; (try dsimp only at hSw); (try simp only [List.getElem_toArray, List.getElem_cons_succ, List.getElem_cons_zero]); go_simp; try (with_reducible rfl))); (try simp only [Act.put, List.setIfInBounds_toArray, List.set_cons_zero, List.set_cons_succ]))
      first | (refine anyH_skip 4 (by kernel_rfl) (by kernel_rfl) (by simp only [List.getElem?_toArray, List.getElem?_cons_succ, List.getElem?_cons_zero] <;> rfl) (by kernel_rfl) (by exact fun _ _ _ h => h) (by rfl) (by assumption) ?_; (try simp only [Act.put, List.setIfInBounds_toArray, List.set_cons_zero, List.set_cons_succ])) | (refine anyH_take 4 (v := ?_) (by kernel_rfl) (by kernel_rfl) (by simp only [List.getElem?_toArray, List.getElem?_cons_succ, List.getElem?_cons_zero] <;> rfl) (by kernel_rfl) (by exact fun _ _ _ h => h) (by rfl) ?_ (by assumption) ?_; rotate_left; (focus (intro w hSw; (try dsimp only at hSw); (try simp only [List.getElem_toArray, List.getElem_cons_succ, List.getElem_cons_zero]); go_simp; try (with_reducible rfl))); (try simp only [Act.put, List.setIfInBounds_toArray, List.set_cons_zero, List.set_cons_succ]))
      first | (refine anyH_skip 5 (by kernel_rfl) (by kernel_rfl) (by simp only [List.getElem?_toArray, List.getElem?_cons_succ, List.getElem?_cons_zero] <;> rfl) (by kernel_rfl) (by exact fun _ _ _ h => h) (by rfl) (by assumption) ?_; (try simp only [Act.put, List.setIfInBounds_toArray, List.set_cons_zero, List.set_cons_succ])) | (refine anyH_take 5 (v := ?_) (by kernel_rfl) (by kernel_rfl) (by simp only [List.getElem?_toArray, List.getElem?_cons_succ, List.getElem?_cons_zero] <;> rfl) (by kernel_rfl) (by exact fun _ _ _ h => h) (by rfl) ?_ (by assumption) ?_; rotate_left; (focus (intro w hSw; (try dsimp only at hSw); (try simp only [List.getElem_toArray, List.getElem_cons_succ, List.getElem_cons_zero]); go_simp; try (with_reducible rfl))); (try simp only [Act.put, List.setIfInBounds_toArray, List.set_cons_zero, List.set_cons_succ]))
      first | (refine anyH_skip 6 (by kernel_rfl) (by kernel_rfl) (by simp only [List.getElem?_toArray, List.getElem?_cons_succ, List.getElem?_cons_zero] <;> rfl) (by kernel_rfl) (by exact fun _ _ _ h => h) (by rfl) (by assumption) ?_; (try simp only [Act.put, List.setIfInBounds_toArray, List.set_cons_zero, List.set_cons_succ])) | (refine anyH_take 6 (v := ?_) (by kernel_rfl) (by kernel_rfl) (by simp only [List.getElem?_toArray, List.getElem?_cons_succ, List.getElem?_cons_zero] <;> rfl) (by kernel_rfl) (by exact fun _ _ _ h => h) (by rfl) ?_ (by assumption) ?_; rotate_left; (focus (intro w hSw; (try dsimp only at hSw); (try simp only [List.getElem_toArray, List.getElem_cons_succ, List.getElem_cons_zero]); go_simp; try (with_reducible rfl))); (try simp only [Act.put, List.setIfInBounds_toArray, List.set_cons_zero, List.set_cons_succ]))
      first | (refine anyH_skip 7 (by kernel_rfl) (by kernel_rfl) (by simp only [List.getElem?_toArray, List.getElem?_cons_succ, List.getElem?_cons_zero] <;> rfl) (by kernel_rfl) (by exact fun _ _ _ h => h) (by rfl) (by assumption) ?_; (try simp only [Act.put, List.setIfInBounds_toArray, List.set_cons_zero, List.set_cons_succ])) | (refine anyH_take 7 (v := ?_) (by kernel_rfl) (by kernel_rfl) (by simp only [List.getElem?_toArray, List.getElem?_cons_succ, List.getElem?_cons_zero] <;> rfl) (by kernel_rfl) (by exact fun _ _ _ h => h) (by rfl) ?_ (by assumption) ?_; rotate_left; (focus (intro w hSw; (try dsimp only at hSw); (try simp only [List.getElem_toArray, List.getElem_cons_succ, List.getElem_cons_zero]); go_simp; try (with_reducible rfl))); (try simp only [Act.put, List.setIfInBounds_toArray, List.set_cons_zero, List.set_cons_succ]))
      first | (refine anyH_skip 8 (by kernel_rfl) (by kernel_rfl) (by simp only [List.getElem?_toArray, List.getElem?_cons_succ, List.getElem?_cons_zero] <;> rfl) (by kernel_rfl) (by exact fun _ _ _ h => h) (by rfl) (by assumption) ?_; (try simp only [Act.put, List.setIfInBounds_toArray, List.set_cons_zero, List.set_cons_succ])) | (refine anyH_take 8 (v := ?_) (by kernel_rfl) (by kernel_rfl) (by simp only [List.getElem?_toArray, List.getElem?_cons_succ, List.getElem?_cons_zero] <;> rfl) (by kernel_rfl) (by exact fun _ _ _ h => h) (by rfl) ?_ (by assumption) ?_; rotate_left; (focus (intro w hSw; (try dsimp only at hSw); (try simp only [List.getElem_toArray, List.getElem_cons_succ, List.getElem_cons_zero]); go_simp; try (with_reducible rfl))); (try simp only [Act.put, List.setIfInBounds_toArray, List.set_cons_zero, List.set_cons_succ]))
      first | (refine anyH_skip 9 (by kernel_rfl) (by kernel_rfl) (by simp only [List.getElem?_toArray, List.getElem?_cons_succ, List.getElem?_cons_zero] <;> rfl) (by kernel_rfl) (by exact fun _ _ _ h => h) (by rfl) (by assumption) ?_; (try simp only [Act.put, List.setIfInBounds_toArray, List.set_cons_zero, List.set_cons_succ])) | (refine anyH_take 9 (v := ?_) (by kernel_rfl) (by kernel_rfl) (by simp only [List.getElem?_toArray, List.getElem?_cons_succ, List.getElem?_cons_zero] <;> rfl) (by kernel_rfl) (by exact fun _ _ _ h => h) (by rfl) ?_ (by assumption) ?_; rotate_left; (focus (intro w hSw; (try dsimp only at hSw); (try simp only [List.getElem_toArray, List.getElem_cons_succ, List.getElem_cons_zero]); go_simp; try (with_reducible rfl))); (try simp only [Act.put, List.setIfInBounds_toArray, List.set_cons_zero, List.set_cons_succ]))
      first | (refine anyH_skip 10 (by kernel_rfl) (by kernel_rfl) (by simp only [List.getElem?_toArray, List.getElem?_cons_succ, List.getElem?_cons_zero] <;> rfl) (by kernel_rfl) (by exact fun _ _ _ h => h) (by rfl) (by assumption) ?_; (try simp only [Act.put, List.setIfInBounds_toArray, List.set_cons_zero, List.set_cons_succ])) | (refine anyH_take 10 (v := ?_) (by kernel_rfl) (by kernel_rfl) (by simp only [List.getElem?_toArray, List.getElem?_cons_succ, List.getElem?_cons_zero] <;> rfl) (by kernel_rfl) (by exact fun _ _ _ h => h) (by rfl) ?_ (by assumption) ?_; rotate_left; (focus (intro w hSw; (try dsimp only at hSw); (try simp only [List.getElem_toArray, List.getElem_cons_succ, List.getElem_cons_zero]); go_simp; try (with_reducible rfl))); (try simp only [Act.put, List.setIfInBounds_toArray, List.set_cons_zero, List.set_cons_succ]))
      first | (refine anyH_skip 11 (by kernel_rfl) (by kernel_rfl) (by simp only [List.getElem?_toArray, List.getElem?_cons_succ, List.getElem?_cons_zero] <;> rfl) (by kernel_rfl) (by exact fun _ _ _ h => h) (by rfl) (by assumption) ?_; (try simp only [Act.put, List.setIfInBounds_toArray, List.set_cons_zero, List.set_cons_succ])) | (refine anyH_take 11 (v := ?_) (by kernel_rfl) (by kernel_rfl) (by simp only [List.getElem?_toArray, List.getElem?_cons_succ, List.getElem?_cons_zero] <;> rfl) (by kernel_rfl) (by exact fun _ _ _ h => h) (by rfl) ?_ (by assumption) ?_; rotate_left; (focus (intro w hSw; (try dsimp only at hSw); (try simp only [List.getElem_toArray, List.getElem_cons_succ, List.getElem_cons_zero]); go_simp; try (with_reducible rfl))); (try simp only [Act.put, List.setIfInBounds_toArray, List.set_cons_zero, List.set_cons_succ]))
      first | (refine anyH_skip 12 (by kernel_rfl) (by kernel_rfl) (by simp only [List.getElem?_toArray, List.getElem?_cons_succ, List.getElem?_cons_zero] <;> rfl) (by kernel_rfl) (by exact fun _ _ _ h => h) (by rfl) (by assumption) ?_; (try simp only [Act.put, List.setIfInBounds_toArray, List.set_cons_zero, List.set_cons_succ])) | (refine anyH_take 12 (v := ?_) (by kernel_rfl) (by kernel_rfl) (by simp only [List.getElem?_toArray, List.getElem?_cons_succ, List.getElem?_cons_zero] <;> rfl) (by kernel_rfl) (by exact fun _ _ _ h => h) (by rfl) ?_ (by assumption) ?_; rotate_left; (focus (intro w hSw; (try dsimp only at hSw); (try simp only [List.getElem_toArray, List.getElem_cons_succ, List.getElem_cons_zero]); go_simp; try (with_reducible rfl))); (try simp only [Act.put, List.setIfInBounds_toArray, List.set_cons_zero, List.set_cons_succ]))
      first | (refine anyH_skip 13 (by kernel_rfl) (by kernel_rfl) (by simp only [List.getElem?_toArray, List.getElem?_cons_succ, List.getElem?_cons_zero] <;> rfl) (by kernel_rfl) (by exact fun _ _ _ h => h) (by rfl) (by assumption) ?_; (try simp only [Act.put, List.setIfInBounds_toArray, List.set_cons_zero, List.set_cons_succ])) | (refine anyH_take 13 (v := ?_) (by kernel_rfl) (by kernel_rfl) (by simp only [List.getElem?_toArray, List.getElem?_cons_succ, List.getElem?_cons_zero] <;> rfl) (by kernel_rfl) (by exact fun _ _ _ h => h) (by rfl) ?_ (by assumption) ?_; rotate_left; (focus (intro w hSw; (try dsimp only at hSw); (try simp only [List.getElem_toArray, List.getElem_cons_succ, List.getElem_cons_zero]); go_simp; try (with_reducible rfl))); (try simp only [Act.put, List.setIfInBounds_toArray, List.set_cons_zero, List.set_cons_succ]))
      first | (refine anyH_skip 14 (by kernel_rfl) (by kernel_rfl) (by simp only [List.getElem?_toArray, List.getElem?_cons_succ, List.getElem?_cons_zero] <;> rfl) (by kernel_rfl) (by exact fun _ _ _ h => h) (by rfl) (by assumption) ?_; (try simp only [Act.put, List.setIfInBounds_toArray, List.set_cons_zero, List.set_cons_succ])) | (refine anyH_take 14 (v := ?_) (by kernel_rfl) (by kernel_rfl) (by simp only [List.getElem?_toArray, List.getElem?_cons_succ, List.getElem?_cons_zero] <;> rfl) (by kernel_rfl) (by exact fun _ _ _ h => h) (by rfl) ?_ (by assumption) ?_; rotate_left; (focus (intro w hSw; (try dsimp only at hSw); (try simp only [List.getElem_toArray, List.getElem_cons_succ, List.getElem_cons_zero]); go_simp; try (with_reducible rfl))); (try simp only [Act.put, List.setIfInBounds_toArray, List.set_cons_zero, List.set_cons_succ]))
      first | (refine anyH_skip 15 (by kernel_rfl) (by kernel_rfl) (by simp only [List.getElem?_toArray, List.getElem?_cons_succ, List.getElem?_cons_zero] <;> rfl) (by kernel_rfl) (by exact fun _ _ _ h => h) (by rfl) (by assumption) ?_; (try simp only [Act.put, List.setIfInBounds_toArray, List.set_cons_zero, List.set_cons_succ])) | (refine anyH_take 15 (v := ?_) (by kernel_rfl) (by kernel_rfl) (by simp only [List.getElem?_toArray, List.getElem?_cons_succ, List.getElem?_cons_zero] <;> rfl) (by kernel_rfl) (by exact fun _ _ _ h => h) (by rfl) ?_ (by assumption) ?_; rotate_left; (focus (intro w hSw; (try dsimp only at hSw); (try simp only [List.getElem_toArray, List.getElem_cons_succ, List.getElem_cons_zero]); go_simp; try (with_reducible rfl))); (try simp only [Act.put, List.setIfInBounds_toArray, List.set_cons_zero, List.set_cons_succ]))
      first | (refine anyH_pass 2 (by kernel_rfl) (by simp only [List.getElem?_toArray, List.getElem?_cons_succ, List.getElem?_cons_zero] <;> rfl) (by rfl) (by assumption) ?_; (try simp only [Act.put, List.setIfInBounds_toArray, List.set_cons_zero, List.set_cons_succ])) | (refine anyH_one 2 (by kernel_rfl) (by simp only [List.getElem?_toArray, List.getElem?_cons_succ, List.getElem?_cons_zero] <;> rfl) (by rfl) (fun K hK => ?_); (try simp only [List.getElem_toArray, List.getElem_cons_succ, List.getElem_cons_zero]); go_simp; (first | (go_at_call 59; refine (HFL.out _).mono ?_; rintro e w4 ⟨rfl, rfl⟩) | (go_at_call 58; refine (HPK.out _ _ (by exact heap_alloc_new _ _)).mono ?_; rintro e w4 ⟨A4, c4, rfl, hown4, hb4⟩) | skip); refine hK.out _ _ ?_ (fun hHeld => ?_); (focus ((try dsimp only); (first | exact ⟨hB9, q0, q1, q2⟩ | assumption | exact HK.out _ _ hb4.out hHeld | exact HK.out _ _ (below_alloc1 _ _) hHeld))); clear hK K; (try simp only [Act.put, List.setIfInBounds_toArray, List.set_cons_zero, List.set_cons_succ]))
      first | (refine anyH_skip 3 (by kernel_rfl) (by kernel_rfl) (by simp only [List.getElem?_toArray, List.getElem?_cons_succ, List.getElem?_cons_zero] <;> rfl) (by kernel_rfl) (by exact fun _ _ _ h => h) (by rfl) (by assumption) ?_; (try simp only [Act.put, List.setIfInBounds_toArray, List.set_cons_zero, List.set_cons_succ])) | (refine anyH_take 3 (v := ?_) (by kernel_rfl) (by kernel_rfl) (by simp only [List.getElem?_toArray, List.getElem?_cons_succ, List.getElem?_cons_zero] <;> rfl) (by kernel_rfl) (by exact fun _ _ _ h => h) (by rfl) ?_ (by assumption) ?_; rotate_left; (focus (intro w hSw; (try dsimp only at hSw); (try simp only [List.getElem_toArray, List.getElem_cons_succ, List.getElem_cons_zero]); go_simp; try (with_reducible rfl))); (try simp only [Act.put, List.setIfInBounds_toArray, List.set_cons_zero, List.set_cons_succ]))
      first | (refine anyH_pass 16 (by kernel_rfl) (by simp only [List.getElem?_toArray, List.getElem?_cons_succ, List.getElem?_cons_zero] <;> rfl) (by rfl) (by assumption) ?_; (try simp only [Act.put, List.setIfInBounds_toArray, List.set_cons_zero, List.set_cons_succ])) | (refine anyH_one 16 (by kernel_rfl) (by simp only [List.getElem?_toArray, List.getElem?_cons_succ, List.getElem?_cons_zero] <;> rfl) (by rfl) (fun K hK => ?_); (try simp only [List.getElem_toArray, List.getElem_cons_succ, List.getElem_cons_zero]); go_simp; (first | (go_at_call 59; refine (HFL.out _).mono ?_; rintro e w4 ⟨rfl, rfl⟩) | (go_at_call 58; refine (HPK.out _ _ (by exact heap_alloc_new _ _)).mono ?_; rintro e w4 ⟨A4, c4, rfl, hown4, hb4⟩) | skip); refine hK.out _ _ ?_ (fun hHeld => ?_); (focus ((try dsimp only); (first | exact ⟨hB9, q0, q1, q2⟩ | assumption | exact HK.out _ _ hb4.out hHeld | exact HK.out _ _ (below_alloc1 _ _) hHeld))); clear hK K; (try simp only [Act.put, List.setIfInBounds_toArray, List.set_cons_zero, List.set_cons_succ]))
      first | (refine anyH_pass 17 (by kernel_rfl) (by simp only [List.getElem?_toArray, List.getElem?_cons_succ, List.getElem?_cons_zero] <;> rfl) (by rfl) (by assumption) ?_; (try simp only [Act.put, List.setIfInBounds_toArray, List.set_cons_zero, List.set_cons_succ])) | (refine anyH_one 17 (by kernel_rfl) (by simp only [List.getElem?_toArray, List.getElem?_cons_succ, List.getElem?_cons_zero] <;> rfl) (by rfl) (fun K hK => ?_); (try simp only [List.getElem_toArray, List.getElem_cons_succ, List.getElem_cons_zero]); go_simp; (first | (go_at_call 59; refine (HFL.out _).mono ?_; rintro e w4 ⟨rfl, rfl⟩) | (go_at_call 58; refine (HPK.out _ _ (by exact heap_alloc_new _ _)).mono ?_; rintro e w4 ⟨A4, c4, rfl, hown4, hb4⟩) | skip); refine hK.out _ _ ?_ (fun hHeld => ?_); (focus ((try dsimp only); (first | exact ⟨hB9, q0, q1, q2⟩ | assumption | exact HK.out _ _ hb4.out hHeld | exact HK.out _ _ (below_alloc1 _ _) hHeld))); clear hK K; (try simp only [Act.put, List.setIfInBounds_toArray, List.set_cons_zero, List.set_cons_succ]))
      first | (refine anyH_skip 18 (by kernel_rfl) (by kernel_rfl) (by simp only [List.getElem?_toArray, List.getElem?_cons_succ, List.getElem?_cons_zero] <;> rfl) (by kernel_rfl) (by exact fun _ _ _ h => h) (by rfl) (by assumption) ?_; (try simp only [Act.put, List.setIfInBounds_toArray, List.set_cons_zero, List.set_cons_succ])) | (refine anyH_take 18 (v := ?_) (by kernel_rfl) (by kernel_rfl) (by simp only [List.getElem?_toArray, List.getElem?_cons_succ, List.getElem?_cons_zero] <;> rfl) (by kernel_rfl) (by exact fun _ _ _ h => h) (by rfl) ?_ (by assumption) ?_; rotate_left; (focus (intro w hSw; (try dsimp only at hSw); (try simp only [List.getElem_toArray, List.getElem_cons_succ, List.getElem_cons_zero]); go_simp; try (with_reducible rfl))); (try simp only [Act.put, List.setIfInBounds_toArray, List.set_cons_zero, List.set_cons_succ]))
      first | (refine anyH_skip 19 (by kernel_rfl) (by kernel_rfl) (by simp only [List.getElem?_toArray, List.getElem?_cons_succ, List.getElem?_cons_zero] <;> rfl) (by kernel_rfl) (by exact fun _ _ _ h => h) (by rfl) (by assumption) ?_; (try simp only [Act.put, List.setIfInBounds_toArray, List.set_cons_zero, List.set_cons_succ])) | (refine anyH_take 19 (v := ?_) (by kernel_rfl) (by kernel_rfl) (by simp only [List.getElem?_toArray, List.getElem?_cons_succ, List.getElem?_cons_zero] <;> rfl) (by kernel_rfl) (by exact fun _ _ _ h => h) (by rfl) ?_ (by assumption) ?_; rotate_left; (focus (intro w hSw; (try dsimp only at hSw); (try simp only [List.getElem_toArray, List.getElem_cons_succ, List.getElem_cons_zero]); go_simp; try (with_reducible rfl))); (try simp only [Act.put, List.setIfInBounds_toArray, List.set_cons_zero, List.set_cons_succ]))
      first | (refine anyH_skip 20 (by kernel_rfl) (by kernel_rfl) (by simp only [List.getElem?_toArray, List.getElem?_cons_succ, List.getElem?_cons_zero] <;> rfl) (by kernel_rfl) (by exact fun _ _ _ h => h) (by rfl) (by assumption) ?_; (try simp only [Act.put, List.setIfInBounds_toArray, List.set_cons_zero, List.set_cons_succ])) | (refine anyH_take 20 (v := ?_) (by kernel_rfl) (by kernel_rfl) (by simp only [List.getElem?_toArray, List.getElem?_cons_succ, List.getElem?_cons_zero] <;> rfl) (by kernel_rfl) (by exact fun _ _ _ h => h) (by rfl) ?_ (by assumption) ?_; rotate_left; (focus (intro w hSw; (try dsimp only at hSw); (try simp only [List.getElem_toArray, List.getElem_cons_succ, List.getElem_cons_zero]); go_simp; try (with_reducible rfl))); (try simp only [Act.put, List.setIfInBounds_toArray, List.set_cons_zero, List.set_cons_succ]))
      first | (refine anyH_skip 21 (by kernel_rfl) (by kernel_rfl) (by simp only [List.getElem?_toArray, List.getElem?_cons_succ, List.getElem?_cons_zero] <;> rfl) (by kernel_rfl) (by exact fun _ _ _ h => h) (by rfl) (by assumption) ?_; (try simp only [Act.put, List.setIfInBounds_toArray, List.set_cons_zero, List.set_cons_succ])) | (refine anyH_take 21 (v := ?_) (by kernel_rfl) (by kernel_rfl) (by simp only [List.getElem?_toArray, List.getElem?_cons_succ, List.getElem?_cons_zero] <;> rfl) (by kernel_rfl) (by exact fun _ _ _ h => h) (by rfl) ?_ (by assumption) ?_; rotate_left; (focus (intro w hSw; (try dsimp only at hSw); (try simp only [List.getElem_toArray, List.getElem_cons_succ, List.getElem_cons_zero]); go_simp; try (with_reducible rfl))); (try simp only [Act.put, List.setIfInBounds_toArray, List.set_cons_zero, List.set_cons_succ]))
      first | (refine anyH_skip 22 (by kernel_rfl) (by kernel_rfl) (by simp only [List.getElem?_toArray, List.getElem?_cons_succ, List.getElem?_cons_zero] <;> rfl) (by kernel_rfl) (by exact fun _ _ _ h => h) (by rfl) (by assumption) ?_; (try simp only [Act.put, List.setIfInBounds_toArray, List.set_cons_zero, List.set_cons_succ])) | (refine anyH_take 22 (v := ?_) (by kernel_rfl) (by kernel_rfl) (by simp only [List.getElem?_toArray, List.getElem?_cons_succ, List.getElem?_cons_zero] <;> rfl) (by kernel_rfl) (by exact fun _ _ _ h => h) (by rfl) ?_ (by assumption) ?_; rotate_left; (focus (intro w hSw; (try dsimp only at hSw); (try simp only [List.getElem_toArray, List.getElem_cons_succ, List.getElem_cons_zero]); go_simp; try (with_reducible rfl))); (try simp only [Act.put, List.setIfInBounds_toArray, List.set_cons_zero, List.set_cons_succ]))
      all_goals (refine wpAnyH_done (by kernel_rfl) ?_ _)
      have HB4 := below_then HB3.out hHeld.1
      have hr4 := Reads.of_own hown4.out
      have HM := Lib.hid (show (madeCells (Value.int .u8 0).cells (244 * 1)).toList = bv (zs 244) from made_zerosN 244)
      have HS := Lib.hid (show (bv (zs 244)).take 0 ++ ((bv (nodeH n)).take (244 - 0) ++ (bv (zs 244)).drop (0 + (bv (nodeH n)).length)) = bv (nodeP n 0 0) by
        rw [HZ.out, bv_len, nodeH_len, List.take_zero, List.nil_append, List.take_of_length_le (by rw [bv_len, nodeH_len]; decide), bv_drop, ← bv_append]
        rfl)
      clear hHeld q0 q1 q2 q3 HK HB3 hb4 hown4 HPK HFL HZ hB9
      rename_i w4
      go_wp2_with (at_make; refine wpList_make_full _ rfl (.const _) (.const _) _ rfl w1.heap.size 5 i0 _ 1 Try.underlying22 hi hz0 hz1 .i64 .i64 244 244 244 rfl rfl (by omega) (by omega) (by rw [hz2]; omega) (by simp only [maxLen]; omega) HB4.size ?_; intro w5 hown5 hg5; rw [HM.out] at hown5; have hB5 : Below w1.heap.size w1 w5 := HB4.grown hg5 HB4.size (fun k hk => by cases hk); have hr5 := hr4.grown hg5 (Nat.le_refl _) (fun k hk => by cases hk); obtain ⟨w6, hrun6, hown6, hg6, hs6⟩ := run_copy_to w5 22 22 3 5 Try.underlying22 hsz w1.heap.size w4.heap.size 244 244 (bv (zs 244)) hown5 0 (by decide) (some ⟨w4.heap.size, 0, none⟩) 244 244 (by decide) (fun _ => rfl) w4.heap.size A4 12 c4 (bv (nodeH n)) (by rw [bv_len, nodeH_len]) hr5 (bv_one _); rw [HS.out] at hown6; have HO6 := Lib.hid hown6; have HB6 : Hid (Below w1.heap.size w1 w6) := Lib.hid (hB5.grown hg6 hB5.size (fun k hk => by cases hk; exact HB4.size)); obtain ⟨-, -, q2, q3⟩ := HQ.out _ HB6.out; have hrun6 : (Builtin.copy_ #[22, 22] 3 #[.slice (some ⟨w4.heap.size, 0, none⟩) 244 244, .slice A4 12 c4]).run Try.prog w5 = .ok (.int .i64 12) w6 := hrun6; clear hown6 hown5)
      have HG := Lib.hid HB4.size
      clear hr4 HB4 HM HS hi hz0 hz1 hz2 hrun6 hr5 hg5 hg6 hs6 hB5
      generalize w4.heap.size = g at *
      go_loopw [9, 10, 11, 12, 54] (fun _ _ _ _ s54 wr => ∃ k : Nat, k ≤ kn ∧ s54 = .int .i64 k ∧ Hid (wr.ownsRow w1.heap.size 5 1 (.slice (some ⟨g, 0, none⟩) 244 244) 244 (bv (nodeP n k k))) ∧ Hid (Below w1.heap.size w1 wr)) (fun _ _ _ _ s54 _ => kn - (intOf s54).toNat)
      case atStart => exact ⟨0, by omega, rfl, HO6, HB6⟩
      case round =>
        obtain ⟨k, hkk, rfl, HO, HB⟩ := hrel
        by_cases hlt : k < kn
        · have hci : (k : Int) < (kn : Int) := by omega
          have hnr := (HNX.out _ HB.out).nr
          obtain ⟨ad, rfl, -, hc1⟩ := hnr.ky.at_ (k := k) (by rw [iv_len, ← HKN.out]; exact hlt)
          rw [iv_getD n.keys (by rw [← HKN.out]; exact hlt)] at hc1
          obtain ⟨ad2, rfl, -, -⟩ := hnr.vl.at_ (k := k) (by rw [sv_len, HVN.out]; exact hlt)
          have HC := Lib.hid (fun (V : World) (hb : Below w1.heap.size w1 V) => (show V.cell? (ad2.add k) = some (.string ⟨(n.vals.getD k []).toArray⟩) from by
            obtain ⟨ay, ey, -, c2⟩ := (HNX.out _ hb).nr.vl.at_ (k := k) (by rw [sv_len, HVN.out]; exact hlt)
            injection ey with ey
            subst ey
            rw [sv_getD n.vals (by rw [HVN.out]; exact hlt)] at c2
            exact c2))
          have hke := HKE.out k hlt
          have hvl := HVL.out k hlt
          have hfr := HFR.out (k + 1) (by omega)
          have PK := Lib.hid (HPUTK.out k hlt)
          have PV := Lib.hid (HPUTV.out k hlt)
          clear HKE HVL HFR HPUTK HPUTV hnr
          obtain ⟨xn, hxn⟩ := Int.eq_ofNat_of_zero_le hke.1.1
          rw [hxn, Int.toNat_natCast] at PK
          rw [hxn] at hc1
          have hx9 : xn < 9223372036854775808 := by have := hke.1.2; omega
          clear hke hxn
          generalize n.vals.getD k [] = y at *
          rw [Nat.mul_succ] at hfr
          have hP := cpack1 xn hx9
          have HHO := HO.out
          go_wp2_with fail
          refine (hP _ _ (by exact heap_alloc_new _ _)).mono ?_
          rintro e w7 ⟨A7, c7, rfl, hown7, hb7⟩
          have hb7' := below_then (below_alloc1 wr _) hb7.out
          have HB7 := Lib.hid (below_then HB.out hb7')
          have hr7 := Reads.of_own hown7.out
          have hownk := own_keep HHO hb7'
          obtain ⟨w8, hrun8, hown8, hg8, hs8⟩ := run_copy_to w7 22 22 3 5 Try.underlying22 hsz w1.heap.size g 244 244 (bv (nodeP n k k)) hownk (12 + k * 8) (by omega) (some ⟨g, 12 + k * 8, none⟩) (244 - (12 + k * 8)) (244 - (12 + k * 8)) rfl (fun _ => rfl) w7.heap.size A7 8 c7 (bv (leb 8 xn)) (by rw [bv_len, leb_len]) hr7 (bv_one _)
          rw [bv_len, leb_len, bv_take, bv_take, bv_drop, ← bv_append, ← bv_append, show (leb 8 xn).take (244 - (12 + k * 8)) = leb 8 xn from List.take_of_length_le (by rw [leb_len]; omega), Nat.mul_comm k 8, PK.out] at hown8
          rw [Nat.min_eq_left (by omega)] at hrun8
          have hrun8 : (Builtin.copy_ #[22, 22] 3 #[.slice (some ⟨g, 12 + k * 8, none⟩) (244 - (12 + k * 8)) (244 - (12 + k * 8)), .slice A7 8 c7]).run Try.prog w7 = .ok (.int .i64 8) w8 := hrun8
          have HB8 := Lib.hid (HB7.out.grown hg8 HB7.out.size (fun j hj => by cases hj; exact HG.out))
          have HO8 := Lib.hid hown8
          clear hP hc1 hb7 hown7 HHO hb7' hownk hr7 hg8 hs8 hown8 PK HB7 HO HB
          obtain ⟨-, -, -, q3⟩ := HQ.out _ HB8.out
          have hcy := HC.out _ HB8.out
          obtain ⟨q, hq⟩ : ∃ q, q = k * W := ⟨_, rfl⟩
          have hq9 : 8 * M + (q + W) ≤ 232 := by rw [hq, Nat.mul_comm k W]; exact hfr
          have wq : IntKind.i64.wrap ((k : Int) * (W : Int)) = (q : Int) := by
            rw [hq, show ((k : Int) * (W : Int)) = ((k * W : Nat) : Int) by simp, IntKind.wrap_i64, ← hq]; omega
          obtain ⟨w9, hrun9, hown9, hg9, hs9⟩ := run_copy_str w8.drew 22 9 3 5 Try.underlying22 hsz w1.heap.size g 244 244 (bv (nodeP n (k + 1) k)) HO8.out.drew (12 + M * 8 + q) (244 - (12 + M * 8 + q)) (244 - (12 + M * 8 + q)) y (by omega) (by omega)
          rw [hvl, bv_take, bv_drop, ← bv_append, ← bv_append, show 12 + M * 8 + q = 12 + 8 * M + W * k by rw [hq, Nat.mul_comm k W, Nat.mul_comm M 8], PV.out] at hown9
          have HB9 := Lib.hid (HB8.out.drew.grown hg9 HB8.out.drew.size (fun j hj => by cases hj; exact HG.out))
          have HO9 := Lib.hid hown9
          clear hg9 hs9 hown9 HO8 PV HC hfr hq HB8
          go_upto_region 12 with fail
          go_region
          go_wp2
          go_roundw
          case rel => exact ⟨k + 1, by omega, by go_num, HO9, HB9⟩
          case measure => simp [intOf]; omega
        · obtain rfl : k = kn := by omega
          have hB := below_then HB1.out HB.out
          have ho := own_mono HO.out HB1.out.size
          clear HO HB
          go_wp2
          go_ret2
          exact ⟨some ⟨g, 0, none⟩, 244, by rw [bv_len, HLEN.out]; rfl, by rw [bv_len, HLEN.out, HNB.out]; exact ho, hB⟩
end Go.Proofs.Ytilkcecjciiboaa
