/-
  Chapter 8's ValueOne, walked. (Printed by wip/genval5.py.)
-/
import Derived.Test.YtahomneljdjjjaaVal13
import Derived.Deep.DeepCutAuto
namespace Go.Proofs.Ytahomneljdjjjaa
open Go.RowKit

theorem rdN_wf (ps : List Part) (s : List UInt8) : ∀ n ∈ rdN ps s, (Lit.int .i64 n).wf = true := by
  unfold rdN
  split
  · exact unpB_wf s _ 0
  · intro n hn
    rw [List.mem_replicate] at hn
    rw [hn.2]
    rfl
theorem map_one (s : List UInt8) (h : rdE [mapP] s = 0) : mapV (rd1 mapP s / 16777216) (rd1 mapP s % 16777216) = s := by
  have h1 := read_told [mapP] s (good_one (good8 _ _ (by omega))) h
  obtain ⟨n, hn⟩ := rd_one mapP s
  have h2 : rd1 mapP s = n := by unfold rd1; rw [hn]; rfl
  rw [hn] at h1
  rw [h2]
  simp only [List.zip_cons_cons, List.zip_nil_left] at h1
  have hE : valE [(mapP, n)] = true := by
    unfold rdE at h
    split at h
    · split at h
      · rename_i hh
        have := hh.2
        unfold rdN at hn
        rw [if_pos (by unfold rdE; rw [if_pos (by assumption), if_pos hh])] at hn
        rw [hn] at this
        simpa using this
      · cases h
    · cases h
  have hb : 0 ≤ n ∧ n ≤ 1099511627775 := by simpa [valE, inB, mapP] using hE
  unfold mapV
  rw [if_pos (by simp only [mapIn, decide_eq_true_eq]; omega), show n / 16777216 * 16777216 + n % 16777216 = n by omega]
  exact h1
theorem four_one (lo hi : Int) (hlo : 0 ≤ lo) (hhi : hi < 4294967296) (s : List UInt8) (h : rdE [(4, lo, hi)] s = 0) : valV [((4, lo, hi), rd1 (4, lo, hi) s)] = s := by
  have h1 := read_told [(4, lo, hi)] s (good_one (good4 _ _ hlo hhi)) h
  obtain ⟨n, hn⟩ := rd_one (4, lo, hi) s
  have h2 : rd1 (4, lo, hi) s = n := by unfold rd1; rw [hn]; rfl
  rw [hn] at h1
  rw [h2]
  exact h1
theorem rd1_wf (p : Part) (s : List UInt8) : (Lit.int .i64 (rd1 p s)).wf = true := by
  obtain ⟨n, hn⟩ := rd_one p s
  have h2 : rd1 p s = n := by unfold rd1; rw [hn]; rfl
  rw [h2]
  exact rdN_wf [p] s n (by rw [hn]; simp)
theorem slot_one (s : List UInt8) (x y z : Int) (hn : rdN slotPs s = [x, y, z]) (h : rdE slotPs s = 0) : valV (slotZ x y z) = s := by
  have h1 := read_told slotPs s (fun p hp => slotZ_good 0 0 0 (p, 0) (by simp [slotZ]; simp [slotPs] at hp; rcases hp with rfl | rfl <;> simp)) h
  rw [hn] at h1
  exact h1
theorem det_one (s : List UInt8) (a b c d : Int) (hn : rdN detPs s = [a, b, c, d]) (h : rdE detPs s = 0) : valV (detZ a b c d) = s := by
  have h1 := read_told detPs s (fun p hp => detZ_good 0 0 0 0 (p, 0) (by simp [detZ]; simp [detPs] at hp; rcases hp with rfl | rfl | rfl <;> simp)) h
  rw [hn] at h1
  exact h1
set_option maxRecDepth 100000 in
set_option maxHeartbeats 4000000 in
theorem law_ValueOne (a0 : ByteArray) (w : World) (w0 : a0.size ≤ maxLen) :
    Calls Try.prog 16 #[.string a0] w fun e w' => e = .returned (.bool true) ∧ Below w.heap.size w w' := by
  obtain ⟨l0, rfl⟩ : ∃ l0 : List UInt8, a0 = ⟨l0.toArray⟩ := ⟨a0.data.toList, by simp⟩
  have m0 : l0.length ≤ 9223372036854775807 := by simpa [maxLen, ByteArray.size] using w0
  clear w0
  obtain ⟨s, hs, hd⟩ : ∃ s : List UInt8, s.length ≤ reachBytes ∧ (if 100 < l0.length then l0.take 100 else l0) = s := ⟨_, by split <;> simp [reachBytes] <;> omega, rfl⟩
  have hx : 100 < l0.length → (ByteArray.mk l0.toArray).extract 0 100 = ⟨s.toArray⟩ := fun hl => by
    rw [if_pos hl] at hd
    rw [← hd]
    apply ByteArray.ext
    simp
  have hn : ¬ 100 < l0.length → l0 = s := fun hl => by
    rw [if_neg hl] at hd
    exact hd
  clear hd
  have t1 := fun W => vreadMap_any s W hs
  have t2 := fun W => vreadDetail_any s W hs
  have t3 := fun W => vreadSlot_any s W hs
  have t4 := fun W => vreadRoot_any s W hs
  have t5 := fun W => vreadCount_any s W hs
  have f1 := fun W => vmap_any (rd1 mapP s / 16777216) (rd1 mapP s % 16777216) W
  have o1 := map_one s
  generalize rd1 mapP s / 16777216 = m1 at *
  generalize rd1 mapP s % 16777216 = m2 at *
  generalize rdE [mapP] s = v1 at *
  generalize mapV m1 m2 = p1 at *
  obtain ⟨a, b, c, d, hd⟩ := rd_details s
  have o2 := det_one s a b c d hd
  have wf := rdN_wf detPs s
  rw [hd] at t2 wf
  have f2 := fun W => vdetail_any a b c d W (wf a (by simp)) (wf b (by simp)) (wf c (by simp)) (wf d (by simp))
  simp only [iv, List.map_cons, List.map_nil] at t2
  clear hd wf
  generalize rdE detPs s = v2 at *
  generalize valV (detZ a b c d) = p2 at *
  obtain ⟨x, y, z, hd⟩ := rd_slot s
  have o3 := slot_one s x y z hd
  have wf := rdN_wf slotPs s
  rw [hd] at t3 wf
  have f3 := fun W => vslot_any x y z W (wf x (by simp)) (wf y (by simp)) (wf z (by simp))
  simp only [iv, List.map_cons, List.map_nil] at t3
  clear hd wf
  generalize rdE slotPs s = v3 at *
  generalize valV (slotZ x y z) = p3 at *
  have f4 := fun W => vroot_any (rd1 rootP s) W (rd1_wf _ s)
  have o4 : rdE [rootP] s = 0 → valV [(rootP, rd1 rootP s)] = s := four_one 1 14399 (by omega) (by omega) s
  generalize rd1 rootP s = m4 at *
  generalize rdE [rootP] s = v4 at *
  generalize valV [(rootP, m4)] = p4 at *
  have f5 := fun W => vcount_any (rd1 countP s) W (rd1_wf _ s)
  have o5 : rdE [countP] s = 0 → valV [(countP, rd1 countP s)] = s := four_one 3 2147483647 (by omega) (by omega) s
  generalize rd1 countP s = m5 at *
  generalize rdE [countP] s = v5 at *
  generalize valV [(countP, m5)] = p5 at *
  have l8 := lives08
  have O1 := Lib.hid o1
  have O2 := Lib.hid o2
  have O3 := Lib.hid o3
  have O4 := Lib.hid o4
  have O5 := Lib.hid o5
  have HX := Lib.hid hx
  have HN := Lib.hid hn
  clear o1 o2 o3 o4 o5 hx hn
  go_enter Try.func16, Try.ntmps16
  go_upto_if 16 with fail
  go_cut [0] (fun s0 wx => s0 = .string ⟨s.toArray⟩ ∧ w = wx)
  case first =>
    by_cases hl : 100 < l0.length
    · have d1 : decide (100 < (l0.length : Int)) = true := decide_eq_true (by omega)
      have d2 : (100 : Int) ≤ (l0.length : Int) := by omega
      have hx := HX.out hl
      go_wp2
      go_meet
      exact ⟨rfl, rfl⟩
    · have d1 : decide (100 < (l0.length : Int)) = false := decide_eq_false (by omega)
      have hn := HN.out hl
      subst hn
      go_wp2
      go_meet
      exact ⟨rfl, rfl⟩
  case rest =>
    obtain ⟨rfl, rfl⟩ := hcut
    clear HX HN
    go_wp2_with fail
    refine (t1 _).mono ?_
    rintro e wa ⟨rfl, hb⟩
    have hB := hb
    clear hb t1
    go_upto_region 4 with fail
    go_cut [33] (fun s1 wx => s1 = .bool false ∧ Below w.heap.size w wx)
    case first =>
      by_cases he : v1 = 0
      · have hp := O1.out he
        subst he
        rw [hp] at f1
        clear hp
        go_wp2_with fail
        refine (f1 _).mono ?_
        rintro e wb ⟨rfl, hb⟩
        have hB := below_then hB hb
        go_wp2
        go_meet
        exact ⟨rfl, hB⟩
      · have d1 : (v1 == 0) = false := by simpa using he
        go_wp2
        go_meet
        exact ⟨rfl, hB⟩
    case rest =>
      clear hB f1 O1
      obtain ⟨rfl, hB⟩ := hcut
      go_wp2_with fail
      refine (t2 _).mono ?_
      rintro e wa ⟨rfl, hb⟩
      have hB := below_then hB hb
      have hB := hB.alloc hB.size (.cells #[.int .i64 a, .int .i64 b, .int .i64 c, .int .i64 d] 33)
      have N1 := heap_alloc_new wa (.cells #[.int .i64 a, .int .i64 b, .int .i64 c, .int .i64 d] 33)
      have q0 := heap_cell N1 0 rfl
      have q1 := heap_cell N1 1 rfl
      have q2 := heap_cell N1 2 rfl
      have q3 := heap_cell N1 3 rfl
      clear N1
      clear hb t2
      go_upto_region 7 with fail
      go_cut [46] (fun s1 wx => s1 = .bool false ∧ Below w.heap.size w wx)
      case first =>
        by_cases he : v2 = 0
        · have hp := O2.out he
          subst he
          rw [hp] at f2
          clear hp
          go_wp2_with fail
          refine (f2 _).mono ?_
          rintro e wb ⟨rfl, hb⟩
          have hB := below_then hB hb
          go_wp2
          go_meet
          exact ⟨rfl, hB⟩
        · have d1 : (v2 == 0) = false := by simpa using he
          go_wp2
          go_meet
          exact ⟨rfl, hB⟩
      case rest =>
        clear hB q0 q1 q2 q3 f2 O2
        obtain ⟨rfl, hB⟩ := hcut
        go_wp2_with fail
        refine (t3 _).mono ?_
        rintro e wa ⟨rfl, hb⟩
        have hB := below_then hB hb
        have hB := hB.alloc hB.size (.cells #[.int .i64 x, .int .i64 y, .int .i64 z] 35)
        have N1 := heap_alloc_new wa (.cells #[.int .i64 x, .int .i64 y, .int .i64 z] 35)
        have q0 := heap_cell N1 0 rfl
        have q1 := heap_cell N1 1 rfl
        have q2 := heap_cell N1 2 rfl
        clear N1
        clear hb t3
        go_upto_region 10 with fail
        go_cut [59] (fun s1 wx => s1 = .bool false ∧ Below w.heap.size w wx)
        case first =>
          by_cases he : v3 = 0
          · have hp := O3.out he
            subst he
            rw [hp] at f3
            clear hp
            go_wp2_with fail
            refine (f3 _).mono ?_
            rintro e wb ⟨rfl, hb⟩
            have hB := below_then hB hb
            go_wp2
            go_meet
            exact ⟨rfl, hB⟩
          · have d1 : (v3 == 0) = false := by simpa using he
            go_wp2
            go_meet
            exact ⟨rfl, hB⟩
        case rest =>
          clear hB q0 q1 q2 f3 O3
          obtain ⟨rfl, hB⟩ := hcut
          go_wp2_with fail
          refine (t4 _).mono ?_
          rintro e wa ⟨rfl, hb⟩
          have hB := below_then hB hb
          clear hb t4
          go_upto_region 13 with fail
          go_cut [72] (fun s1 wx => s1 = .bool false ∧ Below w.heap.size w wx)
          case first =>
            by_cases he : v4 = 0
            · have hp := O4.out he
              subst he
              rw [hp] at f4
              clear hp
              go_wp2_with fail
              refine (f4 _).mono ?_
              rintro e wb ⟨rfl, hb⟩
              have hB := below_then hB hb
              go_wp2
              go_meet
              exact ⟨rfl, hB⟩
            · have d1 : (v4 == 0) = false := by simpa using he
              go_wp2
              go_meet
              exact ⟨rfl, hB⟩
          case rest =>
            clear hB f4 O4
            obtain ⟨rfl, hB⟩ := hcut
            go_wp2_with fail
            refine (t5 _).mono ?_
            rintro e wa ⟨rfl, hb⟩
            have hB := below_then hB hb
            clear t5 hb
            by_cases he : v5 = 0
            · have hp := O5.out he
              subst he
              rw [hp] at f5
              clear hp
              go_wp2_with fail
              refine (f5 _).mono ?_
              rintro e wb ⟨rfl, hb⟩
              have hB := below_then hB hb
              go_wp2_with fail
              refine (l8 _).mono ?_
              rintro e wc ⟨rfl, hb⟩
              have hB := below_then hB hb
              go_wp2
              go_ret
              exact ⟨rfl, hB⟩
            · have d1 : (v5 != 0) = true := by simpa using he
              go_wp2_with fail
              refine (l8 _).mono ?_
              rintro e wc ⟨rfl, hb⟩
              have hB := below_then hB hb
              go_wp2
              go_ret
              exact ⟨rfl, hB⟩
end Go.Proofs.Ytahomneljdjjjaa
