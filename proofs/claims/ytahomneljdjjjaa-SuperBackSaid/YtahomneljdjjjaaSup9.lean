/-
  Chapter 6: the reference's Read (under way).
-/
import Derived.Test.YtahomneljdjjjaaSup8
import Derived.Test.YtahomneljdjjjaaSupR
import Derived.Test.YtahomneljdjjjaaLaw09
import Derived.Test.YtahomneljdjjjaaRef1C
import Derived.BigRegion
namespace Go.Proofs.Ytahomneljdjjjaa
open Go.RowKit

theorem getV_drop (l : List UInt8) (a : Nat) (hl : l.length = 244) (ha : a ≤ 232) : getV (l.drop 8) (a : Int) 4 = (((getN l ((8 + a : Nat) : Int) 4 : Nat) : Int), 0) := by
  have e : getN (l.drop 8) (a : Int) 4 = getN l ((8 + a : Nat) : Int) 4 := by
    unfold getN
    rw [Int.toNat_natCast, Int.toNat_natCast, List.drop_drop]
  unfold getV
  rw [e]
  have h := le_lt ((l.drop ((8 + a : Nat) : Int).toNat).take (4 : Int).toNat)
  have h2 : ((l.drop ((8 + a : Nat) : Int).toNat).take (4 : Int).toNat).length ≤ 4 := by rw [List.length_take]; omega
  have h3 : 256 ^ ((l.drop ((8 + a : Nat) : Int).toNat).take (4 : Int).toNat).length ≤ 256 ^ 4 := Nat.pow_le_pow_right (by decide) h2
  rw [if_pos (thereV_ok (by decide) (by omega) (by rw [List.length_drop]; omega)), if_pos (by unfold getN; omega)]
theorem unp_fours (l : List UInt8) (hl : l.length = 244) : ∀ (k a : Nat), a + 4 * k ≤ 236 → unpE (l.drop 8) (a : Int) (List.replicate k 4) = 0 ∧ unpB (l.drop 8) (a : Int) (List.replicate k 4) = (List.range k).map fun i => ((getN l ((8 + a + 4 * i : Nat) : Int) 4 : Nat) : Int)
  | 0, _, _ => ⟨rfl, rfl⟩
  | k + 1, a, h => by
    obtain ⟨h1, h2⟩ := unp_fours l hl k (a + 4) (by omega)
    have hg := getV_drop l a hl (by omega)
    rw [List.replicate_succ, unpE, unpB, hg, if_pos rfl, show ((a : Int) + 4) = ((a + 4 : Nat) : Int) by omega, h1, h2]
    refine ⟨rfl, ?_⟩
    rw [List.range_succ_eq_map, List.map_cons, List.map_map]
    congr 1
    apply List.map_congr_left
    intro i _
    show ((getN l ((8 + (a + 4) + 4 * i : Nat) : Int) 4 : Nat) : Int) = ((getN l ((8 + a + 4 * (i + 1) : Nat) : Int) 4 : Nat) : Int)
    rw [show 8 + (a + 4) + 4 * i = 8 + a + 4 * (i + 1) by omega]
def numsL (l : List UInt8) : List Int := [(getN l 8 4 : Nat), readN l 0, readN l 1, readN l 2, readN l 3, readN l 4, readN l 5, readN l 6, readN l 7, readN l 8, readN l 9, readN l 10]
def fours : List Int := [4, 4, 4, 4, 4, 4, 4, 4, 4, 4, 4, 4]
theorem unp_nums (l : List UInt8) (hl : l.length = 244) : unpE (l.drop 8) 0 fours = 0 ∧ unpV (l.drop 8) 0 fours = numsL l := by
  obtain ⟨h1, h2⟩ := unp_fours l hl 12 0 (by omega)
  have h1 : unpE (l.drop 8) 0 fours = 0 := h1
  refine ⟨h1, ?_⟩
  unfold unpV
  rw [if_pos h1]
  exact h2
theorem readOK_ref (l : List UInt8) (hl : l.length = 244) : readOK l = (okS (readN l) 11 && (decide (l.take 8 = magicB) && (decide ((getN l 8 4 : Int) = 1) && zeroB (l.drop 56)))) := by
  unfold readOK
  rw [read_iff l hl, decide_eq_true hl]
  rfl
set_option maxRecDepth 100000 in
set_option maxHeartbeats 4000000 in
theorem rread_super (A : Option Addr) (c : Nat) (l : List UInt8) (w : World) (hq : l.length ≤ c) (hm : l.length ≤ reachBytes) (h : Reads w w.heap.size A (bv l)) :
    Calls Try.prog 53 #[.slice A l.length c] w fun e w' => e = .returned (.tuple #[.agg (supC (readS l)), .int .i64 (readE l)]) ∧ Below w.heap.size w w' := by
  have hmm := hm
  simp only [reachBytes] at hmm
  have hsz := sup_size fun _ => 0
  have hr0 : (w.alloc (.cells (supC fun _ => 0) 23)).heap[w.heap.size]? = some (.cells (supC fun _ => 0) 23) := heap_alloc_new _ _
  have hB := below_alloc1 w (.cells (supC fun _ => 0) 23)
  have HF := Lib.hid (show ∀ q, readOK l = q → readS l = (if q = true then readN l else fun _ => 0) ∧ readE l = (if q = true then 0 else 7) from fun q h => by
    unfold readS readE
    rw [h]
    exact ⟨rfl, rfl⟩)
  by_cases hl : l.length = 244
  · have HOK := Lib.hid (readOK_ref l hl)
    have hrd := h.ext hB
    obtain ⟨ad, rfl, _⟩ := hrd.at_ (k := 0) (by rw [bv_len]; omega)
    have c8 : 8 ≤ c := by omega
    have c244 : 244 ≤ c := by omega
    have ci8 : (8 : Int) ≤ (c : Int) := by omega
    have hR8 := hrd.take 8
    rw [bv_take] at hR8
    have hcv0 := run_conv_bytes (P := Try.prog) (w.alloc (.cells (supC fun _ => 0) 23)) 24 9 5 Try.underlying24 Try.underlying5 Try.underlying9 8 c (by rw [List.length_take]; omega) hR8
    have hcv : (convert 24 9 (.slice (some ad) 8 c)).run Try.prog (w.alloc (.cells #[.int .i64 0, .int .i64 0, .int .i64 0, .int .i64 0, .int .i64 0, .int .i64 0, .int .i64 0, .int .i64 0, .int .i64 0, .int .i64 0, .int .i64 0] 23)) = .ok (.string ⟨(l.take 8).toArray⟩) (w.alloc (.cells #[.int .i64 0, .int .i64 0, .int .i64 0, .int .i64 0, .int .i64 0, .int .i64 0, .int .i64 0, .int .i64 0, .int .i64 0, .int .i64 0, .int .i64 0] 23)) := hcv0
    clear hcv0
    by_cases ht : l.take 8 = magicB
    · have HOK2 := Lib.hid (show readOK l = (okS (readN l) 11 && (decide ((getN l 8 4 : Int) = 1) && zeroB (l.drop 56))) by rw [HOK.out, decide_eq_true ht]; simp)
      rw [ht] at hcv
      have hup := fun (A2 : Option Addr) (W : World) (h1 : Reads W W.heap.size (some ⟨ad.block, ad.off + 8, none⟩) (bv (l.drop 8))) (h2 : Reads W W.heap.size A2 (iv fours)) => runpack_any (some ⟨ad.block, ad.off + 8, none⟩) (c - 8) (l.drop 8) A2 12 fours W (by rw [List.length_drop]; simp only [reachBytes]; omega) (by decide) h1 h2
      rw [(unp_nums l hl).1, (unp_nums l hl).2, show (l.drop 8).length = 236 by rw [List.length_drop]; omega, show fours.length = 12 from rfl] at hup
      have hz := fun (W : World) (B : Nat) (h1 : Reads W B (some ⟨ad.block, ad.off + 56, none⟩) (bv (l.drop 56))) => rzero_any (some ⟨ad.block, ad.off + 56, none⟩) (c - 56) (l.drop 56) W B (by rw [List.length_drop]; simp only [reachBytes]; omega) h1
      rw [show (l.drop 56).length = 188 by rw [List.length_drop]; omega] at hz
      have hrr := fun W => rright_any (readN l) W
      have hR := hrd.drop (k := 8) (cap := c) (by rw [bv_len]; exact hq)
      rw [if_neg (by omega), bv_drop] at hR
      have hR' : Reads (w.alloc (.cells (supC fun _ => 0) 23)) (w.alloc (.cells (supC fun _ => 0) 23)).heap.size (some ⟨ad.block, ad.off + 8, none⟩) (bv (l.drop 8)) := hR
      have hRz := h.drop (k := 56) (cap := c) (by rw [bv_len]; exact hq)
      rw [if_neg (by omega), bv_drop] at hRz
      have hRz' : Reads w w.heap.size (some ⟨ad.block, ad.off + 56, none⟩) (bv (l.drop 56)) := hRz
      have hrd2 := Reads.new (w.alloc (.cells #[.int .i64 0, .int .i64 0, .int .i64 0, .int .i64 0, .int .i64 0, .int .i64 0, .int .i64 0, .int .i64 0, .int .i64 0, .int .i64 0, .int .i64 0] 23)) (iv fours) 3 (0, 0)
      rw [World.size_alloc] at hrd2
      have hs2 : ((w.alloc (.cells #[.int .i64 0, .int .i64 0, .int .i64 0, .int .i64 0, .int .i64 0, .int .i64 0, .int .i64 0, .int .i64 0, .int .i64 0, .int .i64 0, .int .i64 0] 23)).alloc (.cells #[.int .i64 4, .int .i64 4, .int .i64 4, .int .i64 4, .int .i64 4, .int .i64 4, .int .i64 4, .int .i64 4, .int .i64 4, .int .i64 4, .int .i64 4, .int .i64 4] 3)).heap.size = w.heap.size + 2 := by simp
      have hrd3 : Reads ((w.alloc (.cells #[.int .i64 0, .int .i64 0, .int .i64 0, .int .i64 0, .int .i64 0, .int .i64 0, .int .i64 0, .int .i64 0, .int .i64 0, .int .i64 0, .int .i64 0] 23)).alloc (.cells #[.int .i64 4, .int .i64 4, .int .i64 4, .int .i64 4, .int .i64 4, .int .i64 4, .int .i64 4, .int .i64 4, .int .i64 4, .int .i64 4, .int .i64 4, .int .i64 4] 3)) ((w.alloc (.cells #[.int .i64 0, .int .i64 0, .int .i64 0, .int .i64 0, .int .i64 0, .int .i64 0, .int .i64 0, .int .i64 0, .int .i64 0, .int .i64 0, .int .i64 0] 23)).alloc (.cells #[.int .i64 4, .int .i64 4, .int .i64 4, .int .i64 4, .int .i64 4, .int .i64 4, .int .i64 4, .int .i64 4, .int .i64 4, .int .i64 4, .int .i64 4, .int .i64 4] 3)).heap.size (some ⟨w.heap.size + 1, 0, none⟩) (iv fours) := by
        rw [hs2]
        exact hrd2
      have hRw : Reads ((w.alloc (.cells #[.int .i64 0, .int .i64 0, .int .i64 0, .int .i64 0, .int .i64 0, .int .i64 0, .int .i64 0, .int .i64 0, .int .i64 0, .int .i64 0, .int .i64 0] 23)).alloc (.cells #[.int .i64 4, .int .i64 4, .int .i64 4, .int .i64 4, .int .i64 4, .int .i64 4, .int .i64 4, .int .i64 4, .int .i64 4, .int .i64 4, .int .i64 4, .int .i64 4] 3)) ((w.alloc (.cells #[.int .i64 0, .int .i64 0, .int .i64 0, .int .i64 0, .int .i64 0, .int .i64 0, .int .i64 0, .int .i64 0, .int .i64 0, .int .i64 0, .int .i64 0] 23)).alloc (.cells #[.int .i64 4, .int .i64 4, .int .i64 4, .int .i64 4, .int .i64 4, .int .i64 4, .int .i64 4, .int .i64 4, .int .i64 4, .int .i64 4, .int .i64 4, .int .i64 4] 3)).heap.size (some ⟨ad.block, ad.off + 8, none⟩) (bv (l.drop 8)) := hR'.ext (below_alloc1 _ (.cells #[.int .i64 4, .int .i64 4, .int .i64 4, .int .i64 4, .int .i64 4, .int .i64 4, .int .i64 4, .int .i64 4, .int .i64 4, .int .i64 4, .int .i64 4, .int .i64 4] 3))
      have hBw := hB.trans ((below_alloc1 (w.alloc (.cells #[.int .i64 0, .int .i64 0, .int .i64 0, .int .i64 0, .int .i64 0, .int .i64 0, .int .i64 0, .int .i64 0, .int .i64 0, .int .i64 0, .int .i64 0] 23)) (.cells #[.int .i64 4, .int .i64 4, .int .i64 4, .int .i64 4, .int .i64 4, .int .i64 4, .int .i64 4, .int .i64 4, .int .i64 4, .int .i64 4, .int .i64 4, .int .i64 4] 3)).mono (by simp))
      have hr1 := heap_alloc' hr0 (.cells #[.int .i64 4, .int .i64 4, .int .i64 4, .int .i64 4, .int .i64 4, .int .i64 4, .int .i64 4, .int .i64 4, .int .i64 4, .int .i64 4, .int .i64 4, .int .i64 4] 3)
      have hrr' : ∀ W, Calls Try.prog 20 #[.agg #[.int .i64 (readN l 0), .int .i64 (readN l 1), .int .i64 (readN l 2), .int .i64 (readN l 3), .int .i64 (readN l 4), .int .i64 (readN l 5), .int .i64 (readN l 6), .int .i64 (readN l 7), .int .i64 (readN l 8), .int .i64 (readN l 9), .int .i64 (readN l 10)]] W fun e w' => e = .returned (.bool (okS (readN l) 11)) ∧ Below W.heap.size W w' := hrr
      have HL := Lib.hid (readOK_ref l hl)
      have HCEL : Hid (∀ (g : Nat) (W : World), (∀ (j : Nat) (v : Value), (iv (numsL l))[j]? = some v → W.cell? ⟨g, j, none⟩ = some v) →
        W.cell? ⟨g, 0, none⟩ = some (.int .i64 (getN l 8 4 : Nat)) ∧ W.cell? ⟨g, 1, none⟩ = some (.int .i64 (readN l 0)) ∧ W.cell? ⟨g, 2, none⟩ = some (.int .i64 (readN l 1)) ∧ W.cell? ⟨g, 3, none⟩ = some (.int .i64 (readN l 2)) ∧ W.cell? ⟨g, 4, none⟩ = some (.int .i64 (readN l 3)) ∧ W.cell? ⟨g, 5, none⟩ = some (.int .i64 (readN l 4)) ∧ W.cell? ⟨g, 6, none⟩ = some (.int .i64 (readN l 5)) ∧ W.cell? ⟨g, 7, none⟩ = some (.int .i64 (readN l 6)) ∧ W.cell? ⟨g, 8, none⟩ = some (.int .i64 (readN l 7)) ∧ W.cell? ⟨g, 9, none⟩ = some (.int .i64 (readN l 8)) ∧ W.cell? ⟨g, 10, none⟩ = some (.int .i64 (readN l 9)) ∧ W.cell? ⟨g, 11, none⟩ = some (.int .i64 (readN l 10))) :=
        fun g W hc => ⟨hc 0 _ rfl, hc 1 _ rfl, hc 2 _ rfl, hc 3 _ rfl, hc 4 _ rfl, hc 5 _ rfl, hc 6 _ rfl, hc 7 _ rfl, hc 8 _ rfl, hc 9 _ rfl, hc 10 _ rfl, hc 11 _ rfl⟩
      have hNL : (iv (numsL l)).length = 12 := rfl
      have HCN : Hid (supC (readN l) = #[.int .i64 (readN l 0), .int .i64 (readN l 1), .int .i64 (readN l 2), .int .i64 (readN l 3), .int .i64 (readN l 4), .int .i64 (readN l 5), .int .i64 (readN l 6), .int .i64 (readN l 7), .int .i64 (readN l 8), .int .i64 (readN l 9), .int .i64 (readN l 10)]) := rfl
      generalize numsL l = NL at *
      generalize l.drop 8 = l8 at *
      generalize l.drop 56 = l56 at *
      generalize readN l 0 = n0 at *
      generalize readN l 1 = n1 at *
      generalize readN l 2 = n2 at *
      generalize readN l 3 = n3 at *
      generalize readN l 4 = n4 at *
      generalize readN l 5 = n5 at *
      generalize readN l 6 = n6 at *
      generalize readN l 7 = n7 at *
      generalize readN l 8 = n8 at *
      generalize readN l 9 = n9 at *
      generalize readN l 10 = n10 at *
      generalize getN l 8 4 = g0 at *
      rw [hl]
      clear hrd hR hR8 hRz hrr hR' HOK HL
      go_enter Try.func53, Try.ntmps53
      go_wp2_with fail
      refine (hup (some ⟨w.heap.size + 1, 0, none⟩) ((w.alloc (.cells #[.int .i64 0, .int .i64 0, .int .i64 0, .int .i64 0, .int .i64 0, .int .i64 0, .int .i64 0, .int .i64 0, .int .i64 0, .int .i64 0, .int .i64 0] 23)).alloc (.cells #[.int .i64 4, .int .i64 4, .int .i64 4, .int .i64 4, .int .i64 4, .int .i64 4, .int .i64 4, .int .i64 4, .int .i64 4, .int .i64 4, .int .i64 4, .int .i64 4] 3)) hRw hrd3).mono ?_
      rintro e w3 ⟨A3, c3, rfl, ho3, hb3⟩
      rw [hNL] at ho3
      rw [hNL]
      have hcap3 := own_cap ho3 (by omega)
      obtain ⟨g3, rfl, hcc⟩ := own_cells ho3 (by omega)
      obtain ⟨m0, m1, m2, m3, m4, m5, m6, m7, m8, m9, m10, m11⟩ := HCEL.out g3 w3 hcc
      have hr3 := heap_keep hr1 hb3
      have hB3 := hBw.trans (hb3.mono hBw.size)
      clear hcc ho3 hb3 hup hRw hrd2 hrd3 hs2 hBw hr1 HCEL hcv
      go_wp2_with fail
      go_region_held3 (fun W => W.cell? ⟨g3, 1, none⟩ = some (.int .i64 n0) ∧ W.cell? ⟨g3, 2, none⟩ = some (.int .i64 n1) ∧ W.cell? ⟨g3, 3, none⟩ = some (.int .i64 n2) ∧ W.cell? ⟨g3, 4, none⟩ = some (.int .i64 n3) ∧ W.cell? ⟨g3, 5, none⟩ = some (.int .i64 n4) ∧ W.cell? ⟨g3, 6, none⟩ = some (.int .i64 n5) ∧ W.cell? ⟨g3, 7, none⟩ = some (.int .i64 n6) ∧ W.cell? ⟨g3, 8, none⟩ = some (.int .i64 n7) ∧ W.cell? ⟨g3, 9, none⟩ = some (.int .i64 n8) ∧ W.cell? ⟨g3, 10, none⟩ = some (.int .i64 n9) ∧ W.cell? ⟨g3, 11, none⟩ = some (.int .i64 n10)) (go_keep) (fail)
      have q0 : ((w3.alloc (.cells #[.int .i64 n0, .int .i64 n1, .int .i64 n2, .int .i64 n3, .int .i64 n4, .int .i64 n5, .int .i64 n6, .int .i64 n7, .int .i64 n8, .int .i64 n9, .int .i64 n10] 23)).drew).cell? ⟨g3, 0, none⟩ = some (.int .i64 (g0 : Nat)) := (World.cell?_alloc_lt w3 _ _ (block_lt_of_cell m0)).trans m0
      have hr4 : ((w3.alloc (.cells #[.int .i64 n0, .int .i64 n1, .int .i64 n2, .int .i64 n3, .int .i64 n4, .int .i64 n5, .int .i64 n6, .int .i64 n7, .int .i64 n8, .int .i64 n9, .int .i64 n10] 23)).drew).heap[w.heap.size]? = some (.cells (supC fun _ => 0) 23) := heap_alloc' hr3 _
      have hB4 : Below w.heap.size w ((w3.alloc (.cells #[.int .i64 n0, .int .i64 n1, .int .i64 n2, .int .i64 n3, .int .i64 n4, .int .i64 n5, .int .i64 n6, .int .i64 n7, .int .i64 n8, .int .i64 n9, .int .i64 n10] 23)).drew) := (hB3.alloc hB3.size _).drew
      have hrow : ((w3.alloc (.cells #[.int .i64 n0, .int .i64 n1, .int .i64 n2, .int .i64 n3, .int .i64 n4, .int .i64 n5, .int .i64 n6, .int .i64 n7, .int .i64 n8, .int .i64 n9, .int .i64 n10] 23)).drew).heap[w3.heap.size]? = some (.cells #[.int .i64 n0, .int .i64 n1, .int .i64 n2, .int .i64 n3, .int .i64 n4, .int .i64 n5, .int .i64 n6, .int .i64 n7, .int .i64 n8, .int .i64 n9, .int .i64 n10] 23) := heap_alloc_new w3 _
      have s0 := heap_cell hrow 0 rfl
      have s1 := heap_cell hrow 1 rfl
      have s2 := heap_cell hrow 2 rfl
      have s3 := heap_cell hrow 3 rfl
      have s4 := heap_cell hrow 4 rfl
      have s5 := heap_cell hrow 5 rfl
      have s6 := heap_cell hrow 6 rfl
      have s7 := heap_cell hrow 7 rfl
      have s8 := heap_cell hrow 8 rfl
      have s9 := heap_cell hrow 9 rfl
      have s10 := heap_cell hrow 10 rfl
      have hone : ∀ v ∈ (#[.int .i64 n0, .int .i64 n1, .int .i64 n2, .int .i64 n3, .int .i64 n4, .int .i64 n5, .int .i64 n6, .int .i64 n7, .int .i64 n8, .int .i64 n9, .int .i64 n10] : Array Value).toList, v.oneCell' = true := by
        intro v hv
        simp at hv
        rcases hv with rfl | rfl | rfl | rfl | rfl | rfl | rfl | rfl | rfl | rfl | rfl <;> rfl
      have hsz2 : (Try.prog.info? 23).map (·.size) = some (#[.int .i64 n0, .int .i64 n1, .int .i64 n2, .int .i64 n3, .int .i64 n4, .int .i64 n5, .int .i64 n6, .int .i64 n7, .int .i64 n8, .int .i64 n9, .int .i64 n10] : Array Value).size := hsz
      have hC : Hid (supC (readN l) = #[.int .i64 n0, .int .i64 n1, .int .i64 n2, .int .i64 n3, .int .i64 n4, .int .i64 n5, .int .i64 n6, .int .i64 n7, .int .i64 n8, .int .i64 n9, .int .i64 n10]) := HCN.out
      generalize ((w3.alloc (.cells #[.int .i64 n0, .int .i64 n1, .int .i64 n2, .int .i64 n3, .int .i64 n4, .int .i64 n5, .int .i64 n6, .int .i64 n7, .int .i64 n8, .int .i64 n9, .int .i64 n10] 23)).drew) = W4 at *
      generalize w3.heap.size = g6 at *
      clear m0 m1 m2 m3 m4 m5 m6 m7 m8 m9 m10 m11 hr3 hB3
      have hrz := hRz'.below hB4
      by_cases hg : g0 = 1
      · subst hg
        cases hzz : zeroB l56 with
        | false =>
          have HFF := Lib.hid (HF.out false (by rw [HOK2.out, hzz]; simp))
          rw [hzz] at hz
          clear HF HOK2 hzz
          go_wp2_with fail
          refine (hz _ _ hrz).mono ?_
          rintro e w6 ⟨rfl, rfl⟩
          go_wp2_with (refine wpList_store_whole rfl 23 _ _ rfl w.heap.size (supC fun _ => 0) rfl rfl _ 23 hr4 rfl hsz (supC_one _) ?_; intro W5 h5 hg5 hs5)
          refine bodyPost_ret (v := .tuple #[.agg (supC fun _ => 0), .int .i64 7]) (results_row_tmp (p := 2) (u := 3) rfl _ _ w.heap.size 23 (supC fun _ => 0) _ _ rfl h5 Try.underlying23 rfl hsz) rfl ⟨by rw [HFF.out.1, HFF.out.2]; rfl, ?_⟩
          exact hB4.grown hg5 hB4.size (fun k hk => by cases hk; omega)
        | true =>
          rw [hzz] at hz
          cases hok : okS (readN l) 11 with
          | false =>
            have HFF := Lib.hid (HF.out false (by rw [HOK2.out, hok]; rfl))
            rw [hok] at hrr'
            clear HF HOK2 hzz hok
            go_wp2_with fail
            refine (hz _ _ hrz).mono ?_
            rintro e w6 ⟨rfl, rfl⟩
            go_wp2_with fail
            refine (hrr' _).mono ?_
            rintro e w6 ⟨rfl, hb6⟩
            have hr6 := heap_keep hr4 hb6
            have hB6 := below_then hB4 hb6
            go_wp2_with (refine wpList_store_whole rfl 23 _ _ rfl w.heap.size (supC fun _ => 0) rfl rfl _ 23 hr6 rfl hsz (supC_one _) ?_; intro W5 h5 hg5 hs5)
            refine bodyPost_ret (v := .tuple #[.agg (supC fun _ => 0), .int .i64 7]) (results_row_tmp (p := 2) (u := 3) rfl _ _ w.heap.size 23 (supC fun _ => 0) _ _ rfl h5 Try.underlying23 rfl hsz) rfl ⟨by rw [HFF.out.1, HFF.out.2]; rfl, ?_⟩
            exact hB6.grown hg5 hB6.size (fun k hk => by cases hk; omega)
          | true =>
            have HFF := Lib.hid (HF.out true (by rw [HOK2.out, hok, hzz]; rfl))
            rw [hok] at hrr'
            clear HF HOK2 hzz hok
            go_wp2_with fail
            refine (hz _ _ hrz).mono ?_
            rintro e w6 ⟨rfl, rfl⟩
            go_wp2_with fail
            refine (hrr' _).mono ?_
            rintro e w6 ⟨rfl, hb6⟩
            have hr6 := heap_keep hr4 hb6
            have hrow6 := heap_keep hrow hb6
            have hB6 := below_then hB4 hb6
            clear s0 s1 s2 s3 s4 s5 s6 s7 s8 s9 s10
            go_wp2_with (first | (refine wpList_load_row rfl 23 _ rfl g6 rfl 23 _ _ _ hrow6 Try.underlying23 rfl hsz2 ?_) | (refine wpList_store_whole rfl 23 _ _ rfl w.heap.size #[.int .i64 n0, .int .i64 n1, .int .i64 n2, .int .i64 n3, .int .i64 n4, .int .i64 n5, .int .i64 n6, .int .i64 n7, .int .i64 n8, .int .i64 n9, .int .i64 n10] rfl rfl _ 23 hr6 rfl hsz2 hone ?_; intro W5 h5 hg5 hs5))
            refine bodyPost_ret (v := .tuple #[.agg #[.int .i64 n0, .int .i64 n1, .int .i64 n2, .int .i64 n3, .int .i64 n4, .int .i64 n5, .int .i64 n6, .int .i64 n7, .int .i64 n8, .int .i64 n9, .int .i64 n10], .int .i64 0]) (results_row_tmp (p := 2) (u := 3) rfl _ _ w.heap.size 23 #[.int .i64 n0, .int .i64 n1, .int .i64 n2, .int .i64 n3, .int .i64 n4, .int .i64 n5, .int .i64 n6, .int .i64 n7, .int .i64 n8, .int .i64 n9, .int .i64 n10] _ _ rfl h5 Try.underlying23 rfl hsz2) rfl ⟨by rw [HFF.out.1, HFF.out.2, ← hC]; rfl, ?_⟩
            exact hB6.grown hg5 hB6.size (fun k hk => by cases hk; omega)
      · have HFF := Lib.hid (HF.out false (by rw [HOK2.out, decide_eq_false (show ¬ ((g0 : Int) = 1) by omega)]; simp))
        have d1 : ((g0 : Int) != 1) = true := by simp; omega
        clear HF HOK2 hg
        go_wp2_with (refine wpList_store_whole rfl 23 _ _ rfl w.heap.size (supC fun _ => 0) rfl rfl _ 23 hr4 rfl hsz (supC_one _) ?_; intro W5 h5 hg5 hs5)
        refine bodyPost_ret (v := .tuple #[.agg (supC fun _ => 0), .int .i64 7]) (results_row_tmp (p := 2) (u := 3) rfl _ _ w.heap.size 23 (supC fun _ => 0) _ _ rfl h5 Try.underlying23 rfl hsz) rfl ⟨by rw [HFF.out.1, HFF.out.2]; rfl, ?_⟩
        exact hB4.grown hg5 hB4.size (fun k hk => by cases hk; omega)
    · have hno : readOK l = false := by rw [HOK.out, decide_eq_false ht]; simp
      have HFF := Lib.hid (HF.out _ hno)
      have ht : (l.take 8 == [83, 67, 65, 78, 84, 76, 73, 78]) = false := by
        rw [beq_eq_false_iff_ne]
        exact ht
      rw [hl]
      clear hno HF HOK hrd
      generalize l.take 8 = t at *
      go_enter Try.func53, Try.ntmps53
      go_wp2_with (refine wpList_store_whole rfl 23 _ _ rfl w.heap.size (supC fun _ => 0) rfl rfl _ 23 hr0 rfl hsz (supC_one _) ?_; intro W3 h3 hg3 hs3)
      refine bodyPost_ret (v := .tuple #[.agg (supC fun _ => 0), .int .i64 7]) (results_row_tmp (p := 2) (u := 3) rfl _ _ w.heap.size 23 (supC fun _ => 0) _ _ rfl h3 Try.underlying23 rfl hsz) rfl ⟨by rw [HFF.out.1, HFF.out.2]; rfl, ?_⟩
      exact hB.grown hg3 hB.size (fun k hk => by cases hk; omega)
  · have hno : readOK l = false := by unfold readOK; rw [decide_eq_false hl]; rfl
    have HFF := Lib.hid (HF.out _ hno)
    have d1 : ((l.length : Int) != 244) = true := by simp; omega
    clear hno hl HF
    go_enter Try.func53, Try.ntmps53
    go_wp2_with (refine wpList_store_whole rfl 23 _ _ rfl w.heap.size (supC fun _ => 0) rfl rfl _ 23 hr0 rfl hsz (supC_one _) ?_; intro W3 h3 hg3 hs3)
    refine bodyPost_ret (v := .tuple #[.agg (supC fun _ => 0), .int .i64 7]) (results_row_tmp (p := 2) (u := 3) rfl _ _ w.heap.size 23 (supC fun _ => 0) _ _ rfl h3 Try.underlying23 rfl hsz) rfl ⟨by rw [HFF.out.1, HFF.out.2]; rfl, ?_⟩
    exact hB.grown hg3 hB.size (fun k hk => by cases hk; omega)
end Go.Proofs.Ytahomneljdjjjaa
