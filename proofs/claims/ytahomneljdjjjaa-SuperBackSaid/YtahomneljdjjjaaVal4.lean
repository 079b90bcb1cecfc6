/-
  value.Map and the reference's text, Map, Root, Count, walked.
-/
import Derived.Test.YtahomneljdjjjaaVal3
namespace Go.Proofs.Ytahomneljdjjjaa
open Go.RowKit
attribute [local go_sem ↓] Go.wp_at_zero Go.wp_at_succ

def mapIn (b t : Int) : Bool := decide (0 ≤ b ∧ b ≤ 65535 ∧ 0 ≤ t ∧ t ≤ 16777215)
def mapV (b t : Int) : List UInt8 := if mapIn b t = true then valV [(mapP, b * 16777216 + t)] else []
theorem or_add24 (b t : Nat) (hb : b < 65536) (ht : t < 16777216) : bits .or .i64 ((b : Int) * 16777216) (t : Int) = (b : Int) * 16777216 + t := by
  have h1 := i64_or_n (b * 16777216) t (by omega) (by omega)
  have h2 := Nat.two_pow_add_eq_or_of_lt (i := 24) (show t < 2 ^ 24 by omega) b
  have h3 : (2 : Nat) ^ 24 * b = b * 16777216 := by omega
  rw [h3] at h2
  rw [← h2] at h1
  rw [Int.natCast_mul, Int.natCast_add, Int.natCast_mul] at h1
  exact h1
set_option maxRecDepth 100000 in
set_option maxHeartbeats 1000000 in
theorem vmap_any (b t : Int) (w : World) : Calls Try.prog 22 #[.int .i64 b, .int .i64 t] w fun e w' => e = .returned (.string ⟨(mapV b t).toArray⟩) ∧ Below w.heap.size w w' := by
  by_cases hin : mapIn b t = true
  · have hin' : 0 ≤ b ∧ b ≤ 65535 ∧ 0 ≤ t ∧ t ≤ 16777215 := by simpa [mapIn] using hin
    obtain ⟨h1, h2, h3, h4⟩ := hin'
    obtain ⟨b, rfl⟩ := Int.eq_ofNat_of_zero_le h1
    obtain ⟨t, rfl⟩ := Int.eq_ofNat_of_zero_le h3
    have hV : mapV b t = valV [(mapP, (b : Int) * 16777216 + t)] := by unfold mapV; rw [if_pos hin]
    have hor := or_add24 b t (by omega) (by omega)
    have hwf : (Lit.int .i64 ((b : Int) * 16777216 + t)).wf = true := by simp [Lit.wf, IntKind.min, IntKind.max, IntKind.bits, IntKind.signed]; omega
    have hp := fun (A A2 : Option Addr) (W : World) h h2 => vput_any A 1 A2 1 [(mapP, (b : Int) * 16777216 + t)] W (by simp) (by simp [mapP]; exact good8 _ _ (by omega)) (by simpa using hwf) h h2
    rw [hV]
    generalize valV [(mapP, (b : Int) * 16777216 + t)] = res at *
    have HP := Lib.hid hp
    have HOR := Lib.hid hor
    clear hin hV hwf hp hor
    have d1 : decide ((b : Int) < 0) = false := decide_eq_false (by omega)
    have d2 : decide ((65536 : Int) ≤ (b : Int)) = false := decide_eq_false (by omega)
    have d3 : decide ((t : Int) < 0) = false := decide_eq_false (by omega)
    have d4 : decide ((16777215 : Int) < (t : Int)) = false := decide_eq_false (by omega)
    go_enter Try.func22, Try.ntmps22
    go_wp2_with fail
    refine (mapping_any _).mono ?_
    rintro e w1 ⟨A, rfl, hr, hb1⟩
    have hor := HOR.out
    go_wp2_with fail
    refine (HP.out _ _ _ ((hr.below (below_alloc1 _ _)).more (by simp)) ((Reads.new w1 (iv [(b : Int) * 16777216 + t]) 3 (0, 0)).more (by simp))).mono ?_
    rintro e w2 ⟨rfl, hb⟩
    have hB2 := below_then (below_then hb1 (below_alloc1 w1 (.cells #[.int .i64 ((b : Int) * 16777216 + t)] 3))) hb
    clear HP hr hb hb1
    go_wp2
    go_ret
    exact ⟨rfl, hB2⟩
  · have hV : mapV b t = [] := by unfold mapV; rw [if_neg hin]
    rw [hV]
    clear hV
    have hor : b < 0 ∨ 65535 < b ∨ t < 0 ∨ 16777215 < t := by
      simp only [mapIn, decide_eq_true_eq] at hin
      omega
    clear hin
    by_cases c1 : b < 0
    · clear hor
      go_enter Try.func22, Try.ntmps22
      go_wp2
      go_ret
      exact ⟨rfl, Below.refl _ _⟩
    by_cases c2 : 65535 < b
    · clear hor
      go_enter Try.func22, Try.ntmps22
      go_wp2
      go_ret
      exact ⟨rfl, Below.refl _ _⟩
    by_cases c3 : t < 0
    · clear hor
      go_enter Try.func22, Try.ntmps22
      go_wp2
      go_ret
      exact ⟨rfl, Below.refl _ _⟩
    · have c4 : 16777215 < t := by omega
      clear hor
      go_enter Try.func22, Try.ntmps22
      go_wp2
      go_ret
      exact ⟨rfl, Below.refl _ _⟩

set_option maxRecDepth 100000 in
set_option maxHeartbeats 1000000 in
theorem text_any (A : Option Addr) (c : Nat) (A2 : Option Addr) (c2 : Nat) (z : List (Nat × Nat)) (w : World) (hm : z.length ≤ 100) (hg : ∀ q ∈ z, q.1 < 9223372036854775808 ∧ q.2 ≤ 8)
    (h : Reads w w.heap.size A (iv (z.map fun q => (q.1 : Int)))) (h2 : Reads w w.heap.size A2 (iv (z.map fun q => (q.2 : Int)))) :
    Calls Try.prog 72 #[.slice A z.length c, .slice A2 z.length c2] w fun e w' => e = .returned (.string ⟨(z.flatMap fun q => leb q.2 q.1).toArray⟩) ∧ Below w.heap.size w w' := by
  have HG := Lib.hid hg
  clear hg
  have hlen : ∀ k, ((z.take k).flatMap fun q => leb q.2 q.1).length ≤ 8 * z.length := fun k => by
    have : ∀ l : List (Nat × Nat), (∀ q ∈ l, q.2 ≤ 8) → (l.flatMap fun q => leb q.2 q.1).length ≤ 8 * l.length := fun l hl => by
      induction l with
      | nil => simp
      | cons q l ih =>
        have h1 := hl q (by simp)
        have h2 := ih (fun r hr => hl r (by simp [hr]))
        simp only [List.flatMap_cons, List.length_append, leb_len, List.length_cons] at *
        omega
    have h3 := this (z.take k) (fun q hq => (HG.out q (List.mem_of_mem_take hq)).2)
    rw [List.length_take] at h3
    omega
  have HL := Lib.hid hlen
  clear hlen
  go_enter Try.func72, Try.ntmps72
  go_wp2_with fail
  go_loopw [5, 6] (fun v i wr => ∃ k : Nat, k ≤ z.length ∧ i = .int .i64 k ∧ v = .string ⟨((z.take k).flatMap fun q => leb q.2 q.1).toArray⟩ ∧ Below w.heap.size w wr) (fun _ i _ => z.length - (intOf i).toNat)
  case atStart => exact ⟨0, by omega, rfl, rfl, Below.refl _ _⟩
  case round =>
    obtain ⟨k, hk, rfl, rfl, hbr⟩ := hrel
    by_cases hlt : k < z.length
    · obtain ⟨ad, rfl, had, hc⟩ := (h.below hbr).num (k := k) (by rw [List.length_map]; exact hlt)
      obtain ⟨ad2, rfl, had2, hc2⟩ := (h2.below hbr).num (k := k) (by rw [List.length_map]; exact hlt)
      rw [List.getElem_map] at hc hc2
      obtain ⟨hn, hx⟩ := HG.out z[k] (List.getElem_mem hlt)
      have hl := HL.out k
      have HS := Lib.hid (show ((z.take (k + 1)).flatMap fun q => leb q.2 q.1) = ((z.take k).flatMap fun q => leb q.2 q.1) ++ leb z[k].2 z[k].1 by rw [take_snoc z k hlt, List.flatMap_append]; simp)
      generalize z[k] = q at *
      obtain ⟨n, x⟩ := q
      simp only at hn hx hc hc2 HS
      have hby := rbytes_any n hn x hx
      generalize ((z.take k).flatMap fun q => leb q.2 q.1) = pre at *
      have hsz : ¬ 9223372036854775807 < pre.length + x := by omega
      have hll := leb_len x n
      have hi0 : (0 : Int) ≤ (k : Int) := by omega
      have hi1 : (k : Int) < (z.length : Int) := by omega
      go_wp2_with fail
      go_region_with (go_at_call 66; refine (hby _).mono ?_; rintro e w2 ⟨A3, c3, rfl, hown3, hb3⟩; rw [bv_len, leb_len]; have hcv := run_conv_bytes (P := Try.prog) w2 24 9 5 Try.underlying24 Try.underlying5 Try.underlying9 x c3 (leb_len x n).symm (Reads.of_own hown3))
      all_goals
        have hB : Below wr.heap.size wr w2 := ((Below.refl _ wr).drew).trans hb3
        have hbr2 := hbr.trans (hB.mono hbr.size)
        clear hb3 hown3 hcv hby hB hll hsz
        go_wp2
        go_roundw
      all_goals first | exact ⟨k + 1, by omega, by go_num, by rw [HS.out, ← bcat], hbr2⟩ | (simp [intOf]; omega) | (refine ⟨⟨k + 1, by omega, by go_num, by rw [HS.out, ← bcat], hbr2⟩, ?_⟩; simp [intOf]; omega) | trace_state
    · obtain rfl : k = z.length := by omega
      have HT := Lib.hid (show z.take z.length = z from List.take_length)
      go_wp2
      go_ret
      exact ⟨by rw [HT.out]; rfl, hbr⟩
theorem text_new (z : List (Nat × Nat)) (w : World) (hm : z.length ≤ 100) (hg : ∀ q ∈ z, q.1 < 9223372036854775808 ∧ q.2 ≤ 8) :
    Calls Try.prog 72 #[.slice (some ⟨w.heap.size, 0, none⟩) z.length z.length, .slice (some ⟨w.heap.size + 1, 0, none⟩) z.length z.length]
      ((w.alloc (.cells (iv (z.map fun q => (q.1 : Int))).toArray 3)).alloc (.cells (iv (z.map fun q => (q.2 : Int))).toArray 3))
      fun e w' => e = .returned (.string ⟨(z.flatMap fun q => leb q.2 q.1).toArray⟩) ∧ Below w.heap.size w w' := by
  have h1 := Reads.new w (iv (z.map fun q => (q.1 : Int))) 3 (0, 0)
  have h2 := Reads.new (w.alloc (.cells (iv (z.map fun q => (q.1 : Int))).toArray 3)) (iv (z.map fun q => (q.2 : Int))) 3 (0, 0)
  rw [World.size_alloc] at h2
  refine (text_any _ _ _ _ z _ hm hg ((h1.alloc (by simp) _).more (by simp)) (h2.more (by simp))).mono ?_
  rintro e w' ⟨rfl, hb⟩
  exact ⟨rfl, below_then (below_alloc2 w _ _) hb⟩
theorem one_V (p : Part) (n : Nat) (x : Nat) (hp : p.1 = x) (h : inB p n = true) : valV [(p, (n : Int))] = leb x n := by
  have : valE [(p, (n : Int))] = true := by simp [valE, h]
  unfold valV
  rw [if_pos this]
  simp [valB, hp]
theorem one_F (p : Part) (n : Int) (h : inB p n = false) : valV [(p, n)] = [] := by
  have : valE [(p, n)] = false := by simp [valE, h]
  unfold valV
  rw [this]
  rfl
set_option maxHeartbeats 1000000 in
theorem rroot_any (n : Int) (w : World) : Calls Try.prog 29 #[.int .i64 n] w fun e w' => e = .returned (.string ⟨(valV [(rootP, n)]).toArray⟩) ∧ Below w.heap.size w w' := by
  have hin := in_any n 1 14399
  by_cases h : inB (8, 1, 14399) n = true
  · have hio : 1 ≤ n ∧ n ≤ 14399 := by simpa [inB] using h
    obtain ⟨m, rfl⟩ := Int.eq_ofNat_of_zero_le (show 0 ≤ n by omega)
    rw [one_V rootP m 4 rfl h]
    have ht := text_new [(m, 4)] w (by simp) (by intro q hq; simp at hq; subst hq; exact ⟨by show m < _; omega, Nat.le_of_ble_eq_true rfl⟩)
    rw [show ([(m, 4)].flatMap fun q : Nat × Nat => leb q.2 q.1) = leb 4 m by simp] at ht
    rw [h] at hin
    clear h hio
    generalize leb 4 m = res at *
    go_enter Try.func29, Try.ntmps29
    go_wp2_with fail
    refine (hin _).mono ?_
    rintro e w1 ⟨rfl, rfl⟩
    go_wp2_with fail
    refine ht.mono ?_
    rintro e w2 ⟨rfl, hb⟩
    clear ht hin
    go_wp2
    go_ret
    exact ⟨rfl, hb⟩
  · have hF : inB (8, 1, 14399) n = false := by simpa using h
    rw [one_F rootP n hF]
    rw [hF] at hin
    clear h hF
    go_enter Try.func29, Try.ntmps29
    go_wp2_with fail
    refine (hin _).mono ?_
    rintro e w1 ⟨rfl, rfl⟩
    clear hin
    go_wp2
    go_ret
    exact ⟨rfl, Below.refl _ _⟩
set_option maxHeartbeats 1000000 in
theorem rcount_any (n : Int) (w : World) : Calls Try.prog 31 #[.int .i64 n] w fun e w' => e = .returned (.string ⟨(valV [(countP, n)]).toArray⟩) ∧ Below w.heap.size w w' := by
  have hin := in_any n 3 2147483647
  by_cases h : inB (8, 3, 2147483647) n = true
  · have hio : 3 ≤ n ∧ n ≤ 2147483647 := by simpa [inB] using h
    obtain ⟨m, rfl⟩ := Int.eq_ofNat_of_zero_le (show 0 ≤ n by omega)
    rw [one_V countP m 4 rfl h]
    have ht := text_new [(m, 4)] w (by simp) (by intro q hq; simp at hq; subst hq; exact ⟨by show m < _; omega, Nat.le_of_ble_eq_true rfl⟩)
    rw [show ([(m, 4)].flatMap fun q : Nat × Nat => leb q.2 q.1) = leb 4 m by simp] at ht
    rw [h] at hin
    clear h hio
    generalize leb 4 m = res at *
    go_enter Try.func31, Try.ntmps31
    go_wp2_with fail
    refine (hin _).mono ?_
    rintro e w1 ⟨rfl, rfl⟩
    go_wp2_with fail
    refine ht.mono ?_
    rintro e w2 ⟨rfl, hb⟩
    clear ht hin
    go_wp2
    go_ret
    exact ⟨rfl, hb⟩
  · have hF : inB (8, 3, 2147483647) n = false := by simpa using h
    rw [one_F countP n hF]
    rw [hF] at hin
    clear h hF
    go_enter Try.func31, Try.ntmps31
    go_wp2_with fail
    refine (hin _).mono ?_
    rintro e w1 ⟨rfl, rfl⟩
    clear hin
    go_wp2
    go_ret
    exact ⟨rfl, Below.refl _ _⟩
set_option maxRecDepth 100000 in
set_option maxHeartbeats 1000000 in
theorem rmap_any (b t : Int) (w : World) : Calls Try.prog 23 #[.int .i64 b, .int .i64 t] w fun e w' => e = .returned (.string ⟨(mapV b t).toArray⟩) ∧ Below w.heap.size w w' := by
  have hin1 := in_any b 0 65535
  have hin2 := in_any t 0 16777215
  by_cases h1 : inB (8, 0, 65535) b = true
  · by_cases h2 : inB (8, 0, 16777215) t = true
    · have hb' : 0 ≤ b ∧ b ≤ 65535 := by simpa [inB] using h1
      have ht' : 0 ≤ t ∧ t ≤ 16777215 := by simpa [inB] using h2
      obtain ⟨b, rfl⟩ := Int.eq_ofNat_of_zero_le hb'.1
      obtain ⟨t, rfl⟩ := Int.eq_ofNat_of_zero_le ht'.1
      have hmi : mapIn b t = true := decide_eq_true ⟨hb'.1, hb'.2, ht'.1, ht'.2⟩
      have hV : mapV b t = leb 8 (b * 16777216 + t) := by
        unfold mapV
        rw [if_pos hmi]
        have := one_V mapP (b * 16777216 + t) 8 rfl (decide_eq_true ⟨by show (0 : Int) ≤ _; omega, by show _ ≤ (1099511627775 : Int); omega⟩)
        rw [← this]
        simp
      rw [hV]
      have ht := text_new [(b * 16777216 + t, 8)] w (by simp) (by intro q hq; simp at hq; subst hq; exact ⟨by show b * 16777216 + t < _; omega, Nat.le_of_ble_eq_true rfl⟩)
      rw [show ([(b * 16777216 + t, 8)].flatMap fun q : Nat × Nat => leb q.2 q.1) = leb 8 (b * 16777216 + t) by simp] at ht
      rw [h1] at hin1
      rw [h2] at hin2
      have b1 : (b : Int) ≤ 65535 := hb'.2
      have b2 : (t : Int) ≤ 16777215 := ht'.2
      have ht2 := Lib.hid ht
      clear h1 h2 hb' ht' hmi hV ht
      generalize leb 8 (b * 16777216 + t) = res at *
      go_enter Try.func23, Try.ntmps23
      go_wp2_with fail
      refine (hin1 _).mono ?_
      rintro e w1 ⟨rfl, rfl⟩
      go_wp2_with fail
      refine (hin2 _).mono ?_
      rintro e w1 ⟨rfl, rfl⟩
      go_wp2_with fail
      have ht := ht2.out
      simp only [List.map_cons, List.map_nil, Int.natCast_add, Int.natCast_mul] at ht
      refine ht.mono ?_
      rintro e w2 ⟨rfl, hb⟩
      clear ht hin1 hin2
      go_wp2
      go_ret
      exact ⟨rfl, hb⟩
    · have hF : inB (8, 0, 16777215) t = false := by simpa using h2
      have hmi : mapIn b t = false := decide_eq_false (fun h => h2 (decide_eq_true ⟨h.2.2.1, h.2.2.2⟩))
      have hV : mapV b t = [] := by unfold mapV; rw [hmi]; rfl
      rw [hV]
      rw [h1] at hin1
      rw [hF] at hin2
      clear h1 h2 hF hmi hV
      go_enter Try.func23, Try.ntmps23
      go_wp2_with fail
      refine (hin1 _).mono ?_
      rintro e w1 ⟨rfl, rfl⟩
      go_wp2_with fail
      refine (hin2 _).mono ?_
      rintro e w1 ⟨rfl, rfl⟩
      clear hin1 hin2
      go_wp2
      go_ret
      exact ⟨rfl, Below.refl _ _⟩
  · have hF : inB (8, 0, 65535) b = false := by simpa using h1
    have hmi : mapIn b t = false := decide_eq_false (fun h => h1 (decide_eq_true ⟨h.1, h.2.1⟩))
    have hV : mapV b t = [] := by unfold mapV; rw [hmi]; rfl
    rw [hV]
    rw [hF] at hin1
    clear h1 hF hmi hV
    go_enter Try.func23, Try.ntmps23
    go_wp2_with fail
    refine (hin1 _).mono ?_
    rintro e w1 ⟨rfl, rfl⟩
    clear hin1 hin2
    go_wp2
    go_ret
    exact ⟨rfl, Below.refl _ _⟩
end Go.Proofs.Ytahomneljdjjjaa
