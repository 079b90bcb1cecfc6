/-
  value.Map and the reference's text, Map, Root, Count, walked.
-/
import Derived.Test.YtcnalndhlonblaaVal3
namespace Go.Proofs.Ytcnalndhlonblaa
open Go.RowKit
attribute [local go_sem ↓] Go.wp_at_zero Go.wp_at_succ

def mapIn (b t : Int) : Bool := decide (0 ≤ b ∧ b ≤ 65535 ∧ 0 ≤ t ∧ t ≤ 16777215)
def mapV (b t : Int) : List UInt8 := if mapIn b t = true then valV [(mapP, b * 16777216 + t)] else []
theorem or_add24 (b t : Nat) (hb : b < 65536) (ht : t < 16777216) : bits .or .i64 ((b : Int) * 16777216) (t : Int) = (b : Int) * 16777216 + t := by
  have h1 := i64_or_n (b * 16777216) t (by omega) (by omega)
  have h2 := Nat.two_pow_add_eq_or_of_lt (i := 24) (show t < 2 ^ 24 by omega) b
  have h3 : (2 : Nat) ^ 24 * b = b * 16777216 := by omega
  rw [h3] at h2
  rw [← h2] at h1
  rw [Int.natCast_mul, Int.natCast_add, Int.natCast_mul] at h1
  exact h1
set_option maxRecDepth 100000 in
set_option maxHeartbeats 1000000 in
theorem text_any (A : Option Addr) (c : Nat) (A2 : Option Addr) (c2 : Nat) (z : List (Nat × Nat)) (w : World) (hm : z.length ≤ 100) (hg : ∀ q ∈ z, q.1 < 9223372036854775808 ∧ q.2 ≤ 8)
    (h : Reads w w.heap.size A (iv (z.map fun q => (q.1 : Int)))) (h2 : Reads w w.heap.size A2 (iv (z.map fun q => (q.2 : Int)))) :
    Calls Try.prog 62 #[.slice A z.length c, .slice A2 z.length c2] w fun e w' => e = .returned (.string ⟨(z.flatMap fun q => leb q.2 q.1).toArray⟩) ∧ Below w.heap.size w w' := by
  have HG := Lib.hid hg
  clear hg
  have hlen : ∀ k, ((z.take k).flatMap fun q => leb q.2 q.1).length ≤ 8 * z.length := fun k => by
    have : ∀ l : List (Nat × Nat), (∀ q ∈ l, q.2 ≤ 8) → (l.flatMap fun q => leb q.2 q.1).length ≤ 8 * l.length := fun l hl => by
      induction l with
      | nil => simp
      | cons q l ih =>
        have h1 := hl q (by simp)
        have h2 := ih (fun r hr => hl r (by simp [hr]))
        simp only [List.flatMap_cons, List.length_append, leb_len, List.length_cons] at *
        omega
    have h3 := this (z.take k) (fun q hq => (HG.out q (List.mem_of_mem_take hq)).2)
    rw [List.length_take] at h3
    omega
  have HL := Lib.hid hlen
  clear hlen
  go_enter Try.func62, Try.ntmps62
  go_wp2_with fail
  go_loopw [5, 6] (fun v i wr => ∃ k : Nat, k ≤ z.length ∧ i = .int .i64 k ∧ v = .string ⟨((z.take k).flatMap fun q => leb q.2 q.1).toArray⟩ ∧ Below w.heap.size w wr) (fun _ i _ => z.length - (intOf i).toNat)
  case atStart => exact ⟨0, by omega, rfl, rfl, Below.refl _ _⟩
  case round =>
    obtain ⟨k, hk, rfl, rfl, hbr⟩ := hrel
    by_cases hlt : k < z.length
    · obtain ⟨ad, rfl, had, hc⟩ := (h.below hbr).num (k := k) (by rw [List.length_map]; exact hlt)
      obtain ⟨ad2, rfl, had2, hc2⟩ := (h2.below hbr).num (k := k) (by rw [List.length_map]; exact hlt)
      rw [List.getElem_map] at hc hc2
      obtain ⟨hn, hx⟩ := HG.out z[k] (List.getElem_mem hlt)
      have hl := HL.out k
      have HS := Lib.hid (show ((z.take (k + 1)).flatMap fun q => leb q.2 q.1) = ((z.take k).flatMap fun q => leb q.2 q.1) ++ leb z[k].2 z[k].1 by rw [take_snoc z k hlt, List.flatMap_append]; simp)
      generalize z[k] = q at *
      obtain ⟨n, x⟩ := q
      simp only at hn hx hc hc2 HS
      have hby := rbytes_any n hn x hx
      generalize ((z.take k).flatMap fun q => leb q.2 q.1) = pre at *
      have hsz : ¬ 9223372036854775807 < pre.length + x := by omega
      have hll := leb_len x n
      have hi0 : (0 : Int) ≤ (k : Int) := by omega
      have hi1 : (k : Int) < (z.length : Int) := by omega
      go_wp2_with fail
      go_region_with (go_at_call 47; refine (hby _).mono ?_; rintro e w2 ⟨A3, c3, rfl, hown3, hb3⟩; rw [bv_len, leb_len]; have hcv := run_conv_bytes (P := Try.prog) w2 43 9 5 Try.underlying43 Try.underlying5 Try.underlying9 x c3 (leb_len x n).symm (Reads.of_own hown3))
      all_goals
        have hB : Below wr.heap.size wr w2 := ((Below.refl _ wr).drew).trans hb3
        have hbr2 := hbr.trans (hB.mono hbr.size)
        clear hb3 hown3 hcv hby hB hll hsz
        go_wp2
        go_roundw
      all_goals first | exact ⟨k + 1, by omega, by go_num, by rw [HS.out, ← bcat], hbr2⟩ | (simp [intOf]; omega) | (refine ⟨⟨k + 1, by omega, by go_num, by rw [HS.out, ← bcat], hbr2⟩, ?_⟩; simp [intOf]; omega) | trace_state
    · obtain rfl : k = z.length := by omega
      have HT := Lib.hid (show z.take z.length = z from List.take_length)
      go_wp2
      go_ret
      exact ⟨by rw [HT.out]; rfl, hbr⟩
theorem text_new (z : List (Nat × Nat)) (w : World) (hm : z.length ≤ 100) (hg : ∀ q ∈ z, q.1 < 9223372036854775808 ∧ q.2 ≤ 8) :
    Calls Try.prog 62 #[.slice (some ⟨w.heap.size, 0, none⟩) z.length z.length, .slice (some ⟨w.heap.size + 1, 0, none⟩) z.length z.length]
      ((w.alloc (.cells (iv (z.map fun q => (q.1 : Int))).toArray 3)).alloc (.cells (iv (z.map fun q => (q.2 : Int))).toArray 3))
      fun e w' => e = .returned (.string ⟨(z.flatMap fun q => leb q.2 q.1).toArray⟩) ∧ Below w.heap.size w w' := by
  have h1 := Reads.new w (iv (z.map fun q => (q.1 : Int))) 3 (0, 0)
  have h2 := Reads.new (w.alloc (.cells (iv (z.map fun q => (q.1 : Int))).toArray 3)) (iv (z.map fun q => (q.2 : Int))) 3 (0, 0)
  rw [World.size_alloc] at h2
  refine (text_any _ _ _ _ z _ hm hg ((h1.alloc (by simp) _).more (by simp)) (h2.more (by simp))).mono ?_
  rintro e w' ⟨rfl, hb⟩
  exact ⟨rfl, below_then (below_alloc2 w _ _) hb⟩
theorem one_V (p : Part) (n : Nat) (x : Nat) (hp : p.1 = x) (h : inB p n = true) : valV [(p, (n : Int))] = leb x n := by
  have : valE [(p, (n : Int))] = true := by simp [valE, h]
  unfold valV
  rw [if_pos this]
  simp [valB, hp]
theorem one_F (p : Part) (n : Int) (h : inB p n = false) : valV [(p, n)] = [] := by
  have : valE [(p, n)] = false := by simp [valE, h]
  unfold valV
  rw [this]
  rfl
set_option maxHeartbeats 1000000 in
theorem rcount_any (n : Int) (w : World) : Calls Try.prog 35 #[.int .i64 n] w fun e w' => e = .returned (.string ⟨(valV [(countP, n)]).toArray⟩) ∧ Below w.heap.size w w' := by
  have hin := in_any n 3 2147483647
  by_cases h : inB (8, 3, 2147483647) n = true
  · have hio : 3 ≤ n ∧ n ≤ 2147483647 := by simpa [inB] using h
    obtain ⟨m, rfl⟩ := Int.eq_ofNat_of_zero_le (show 0 ≤ n by omega)
    rw [one_V countP m 4 rfl h]
    have ht := text_new [(m, 4)] w (by simp) (by intro q hq; simp at hq; subst hq; exact ⟨by show m < _; omega, Nat.le_of_ble_eq_true rfl⟩)
    rw [show ([(m, 4)].flatMap fun q : Nat × Nat => leb q.2 q.1) = leb 4 m by simp] at ht
    rw [h] at hin
    clear h hio
    generalize leb 4 m = res at *
    go_enter Try.func35, Try.ntmps35
    go_wp2_with fail
    refine (hin _).mono ?_
    rintro e w1 ⟨rfl, rfl⟩
    go_wp2_with fail
    refine ht.mono ?_
    rintro e w2 ⟨rfl, hb⟩
    clear ht hin
    go_wp2
    go_ret
    exact ⟨rfl, hb⟩
  · have hF : inB (8, 3, 2147483647) n = false := by simpa using h
    rw [one_F countP n hF]
    rw [hF] at hin
    clear h hF
    go_enter Try.func35, Try.ntmps35
    go_wp2_with fail
    refine (hin _).mono ?_
    rintro e w1 ⟨rfl, rfl⟩
    clear hin
    go_wp2
    go_ret
    exact ⟨rfl, Below.refl _ _⟩
end Go.Proofs.Ytcnalndhlonblaa
