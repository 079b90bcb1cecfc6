/-
  What code.Pack, code.Zero and the reference's Zero compute, each walked once.
-/
import Derived.Test.YtcnalndhlonblaaCode2
import Derived.Test.YtcnalndhlonblaaBase3
namespace Go.Proofs.Ytcnalndhlonblaa
open Go.RowKit

theorem packE_append (a b : List (Int × Int)) : packE (a ++ b) = if packE a = 0 then packE b else packE a := by
  induction a with
  | nil => simp [packE]
  | cons x a ih =>
    obtain ⟨wd, n⟩ := x
    simp only [List.cons_append, packE, ih]
    split
    · split
      · rfl
      · simp
    · simp
theorem packB_append (a b : List (Int × Int)) : packB (a ++ b) = packB a ++ packB b := by
  induction a with
  | nil => rfl
  | cons x a ih => obtain ⟨wd, n⟩ := x; simp [packB, ih]
theorem packB_len (ls : List (Int × Int)) (h : packE ls = 0) : (packB ls).length ≤ 8 * ls.length := by
  induction ls with
  | nil => simp [packB]
  | cons x ls ih =>
    obtain ⟨wd, n⟩ := x
    simp only [packE] at h
    split at h
    · rename_i hk
      split at h
      · have := (knownB_iff wd).1 hk
        simp only [packB, List.length_append, leb_len, List.length_cons]
        have := ih h
        omega
      · cases h
    · cases h

set_option maxRecDepth 100000 in
set_option maxHeartbeats 1000000 in
theorem pack_any (A : Option Addr) (c : Nat) (ls : List (Int × Int)) (w : World) (hm : ls.length * 16 ≤ reachBytes) (hw : ∀ p ∈ ls, (Lit.int .i64 p.2).wf = true) (h : Reads2 w w.heap.size A ls) :
    Calls Try.prog 42 #[.slice A ls.length c] w (GivesE 5 (bv (packV ls)) (packE ls) w) := by
  simp only [reachBytes] at hm
  have HW := Lib.hid hw
  clear hw
  obtain ⟨i0, hi, hz0, hz1, hz2⟩ := info_parts Try.infoU8
  go_enter Try.func42, Try.ntmps42
  go_wp2_with fail
  go_loopw [4, 9] (fun v i wr => ∃ (k m : Nat), k ≤ ls.length ∧ i = .int .i64 k ∧ packE (ls.take k) = 0 ∧ m = (packB (ls.take k)).length ∧ wr.ownsRow w.heap.size 5 1 v m (bv (packB (ls.take k))) ∧ Below w.heap.size w wr) (fun _ i _ => ls.length - (intOf i).toNat)
  case atStart => exact ⟨0, 0, by omega, rfl, rfl, rfl, World.ownsRow_nil _ _ _ _, Below.refl _ _⟩
  case round =>
    obtain ⟨k, m, hk, rfl, he, hml, hown, hbr⟩ := hrel
    by_cases hlt : k < ls.length
    · obtain ⟨b, o, rfl, hbb, hc⟩ := h.below hbr (by omega)
      have hp := List.getElem?_eq_getElem hlt
      have hcell := hc k _ hp
      have hwf := HW.out ls[k] (List.getElem_mem hlt)
      have hsn := take_snoc ls k hlt
      have hE : packE (ls.take (k + 1)) = packE [ls[k]] := by rw [hsn, packE_append, if_pos he]
      have hall : packE ls = if packE [ls[k]] = 0 then packE (ls.drop (k + 1)) else packE [ls[k]] := by
        conv => lhs; rw [← List.take_append_drop (k + 1) ls]
        rw [packE_append, hE]
      have hB' : packB (ls.take (k + 1)) = packB (ls.take k) ++ packB [ls[k]] := by rw [hsn, packB_append]
      have hml2 := packB_len (ls.take k) he
      rw [List.length_take, ← hml] at hml2
      have HML := Lib.hid hml
      have HE0 := Lib.hid he
      have HE := Lib.hid hE
      have HALL := Lib.hid hall
      have HB := Lib.hid hB'
      obtain ⟨hc1, hc2⟩ := hcell
      clear hc hp hsn hE hall hB' hml he
      generalize hq : ls[k] = q at *
      obtain ⟨wd, n⟩ := q
      clear hq
      simp only at hc1 hc2 hwf
      by_cases hkn : knownB wd = true
      · by_cases hft : fitsB n wd = true
        · obtain ⟨n', rfl⟩ := fitsB_ok hft hkn
          have h1 : packE [(wd, (n' : Int))] = 0 := by simp [packE, hkn, hft]
          have h2 : packB [(wd, (n' : Int))] = leb wd.toNat n' := by simp [packB]
          have hwd8 := (knownB_iff wd).1 hkn
          have hby := bytes_any n' (by have := (wf_i64 hwf).2; omega) wd hkn
          rw [h1] at HE
          rw [h2] at HB
          obtain ⟨x, rfl⟩ := Int.eq_ofNat_of_zero_le (show 0 ≤ wd by omega)
          rw [Int.toNat_natCast] at hby HB
          have hx8 : x ≤ 8 := by omega
          have HK := Lib.hid hkn
          have HF := Lib.hid hft
          clear hkn hft h1 h2 HALL hwf hwd8
          go_wp2_with fail
          refine (known_any _ _).mono ?_
          rintro e w' ⟨rfl, rfl⟩
          rw [HK.out]
          go_wp2_with fail
          refine (fits_any _ _ _).mono ?_
          rintro e w' ⟨rfl, rfl⟩
          rw [HF.out]
          go_wp2_with fail
          refine (hby _).mono ?_
          rintro e w1 ⟨A1, c1, rfl, hown1, hb1⟩
          rw [bv_len, leb_len] at hown1 ⊢
          have hK := own_keep (hown.alloc _) hb1
          have hB1 := (hbr.alloc hbr.size _).trans (hb1.mono (by have := hbr.size; simp; omega))
          have hR1 := Reads.of_own hown1
          clear hown1 hb1 hown
          go_wp2_with (at_builtin; refine wpList_append_to _ rfl (.tmp 23) (.tmp 28) _ rfl w.heap.size 5 i0 _ 1 Try.underlying43 hi hz0 hz1 hz2 rfl _ m (bv (packB (ls.take k))) rfl hK _ A1 x c1 (bv (leb x n')) rfl (by rw [bv_len, leb_len]) hR1 (bv_one _) (by simp only [maxLen]; omega) (by omega) hB1.size ?_; intro A2 c2 w2 hown2 hg2 hb2 _)
          go_roundw
          case rel => exact ⟨k + 1, m + x, by omega, by go_num, HE.out, by rw [HB.out, List.length_append, leb_len, ← HML.out], by rw [HB.out, bv_append]; exact hown2, hB1.trans hb2⟩
          case measure => simp [intOf]; omega
        · have hft' : fitsB n wd = false := by simpa using hft
          have h1 : packE [(wd, n)] = 2 := by simp [packE, hkn, hft']
          rw [h1, if_neg (by decide)] at HALL
          have hP : packV ls = [] := by unfold packV; rw [HALL.out, if_neg (by decide)]
          rw [HALL.out, hP]
          have HK := Lib.hid hkn
          have HF := Lib.hid hft'
          clear hkn hft hft' h1 HALL hwf hP
          go_wp2_with fail
          refine (known_any _ _).mono ?_
          rintro e w' ⟨rfl, rfl⟩
          rw [HK.out]
          go_wp2_with fail
          refine (fits_any _ _ _).mono ?_
          rintro e w' ⟨rfl, rfl⟩
          rw [HF.out]
          go_wp2
          go_ret2
          exact ⟨none, 0, rfl, World.ownsRow_nil _ _ _ _, hbr.alloc hbr.size _⟩
      · have hkn' : knownB wd = false := by simpa using hkn
        have h1 : packE [(wd, n)] = 1 := by simp [packE, hkn']
        rw [h1, if_neg (by decide)] at HALL
        have hP : packV ls = [] := by unfold packV; rw [HALL.out, if_neg (by decide)]
        rw [HALL.out, hP]
        have HK := Lib.hid hkn'
        clear hkn hkn' h1 HALL hwf hP
        go_wp2_with fail
        refine (known_any _ _).mono ?_
        rintro e w' ⟨rfl, rfl⟩
        rw [HK.out]
        go_wp2
        go_ret2
        exact ⟨none, 0, rfl, World.ownsRow_nil _ _ _ _, hbr.alloc hbr.size _⟩
    · obtain rfl : k = ls.length := by omega
      rw [List.take_length] at he hml hown
      have hP : packV ls = packB ls := by unfold packV; rw [if_pos he]
      have HML := Lib.hid hml
      have HP := Lib.hid hP
      have HE0 := Lib.hid he
      clear hml he hP
      obtain ⟨A1, c1, rfl⟩ := own_form hown
      go_wp2
      go_ret2
      exact ⟨A1, c1, by rw [HP.out, HE0.out, bv_len, ← HML.out]; rfl, by rw [HP.out, bv_len, ← HML.out]; exact hown, hbr⟩

/-- where the first byte that is not 0 stands -/
def nzAt (l : List UInt8) : Int := match l.findIdx? (· != 0) with | some k => (k : Int) | none => -1
theorem zero1_any (b : Nat) (w : World) : Calls Try.prog 76 #[.int .u8 b] w fun e w' => e = .returned (.bool ((b : Int) != 0)) ∧ w = w' := by
  go_enter Try.func76, Try.ntmps76
  go_wp2
  go_ret
  exact ⟨rfl, rfl⟩
theorem all_take (l : List UInt8) (k : Nat) (b : UInt8) (hb : l[k]? = some b) (hn : b ≠ 0) : zeroB l = false := by
  unfold zeroB
  rw [List.all_eq_false]
  exact ⟨b, List.mem_of_getElem? hb, by simpa using hn⟩
theorem all_zero (l : List UInt8) (h : ∀ j, j < l.length → l[j]? = some 0) : zeroB l = true := by
  unfold zeroB
  rw [List.all_eq_true]
  intro b hb
  obtain ⟨j, hj, rfl⟩ := List.getElem_of_mem hb
  have := h j hj
  rw [List.getElem?_eq_getElem hj] at this
  injection this with this
  simp [this]
theorem u8_ne (b : UInt8) : ((b.toNat : Int) != 0) = (b != 0) := by
  by_cases h : b = 0
  · subst h; rfl
  · have : b.toNat ≠ 0 := fun e => h (UInt8.toNat_inj.1 (by simpa using e))
    have h1 : ((b.toNat : Int) != 0) = true := by simp; omega
    rw [h1]; simp [h]

set_option maxHeartbeats 1000000 in
/-- the first byte that is not 0, or -1: told by its sign -/
theorem idx_any (A : Option Addr) (c : Nat) (l : List UInt8) (w : World) (B : Nat) (hm : l.length ≤ reachBytes) (h : Reads w B A (bv l)) :
    Calls Try.prog 88 #[.slice A l.length c, .func (.func 76) #[] #[]] w fun e w' => ∃ r : Int, e = .returned (.int .i64 r) ∧ decide (0 ≤ r) = !zeroB l ∧ w = w' := by
  simp only [reachBytes] at hm
  go_enter Try.func88, Try.ntmps88
  go_wp2_with fail
  go_loop [8] (fun i => ∃ k : Nat, k ≤ l.length ∧ i = .int .i64 k ∧ ∀ j, j < k → l[j]? = some 0) (fun i => l.length - (intOf i).toNat)
  case atStart => exact ⟨0, by omega, rfl, by intro j hj; omega⟩
  case round =>
    obtain ⟨k, hk, rfl, hz⟩ := hrel
    have HZ := Lib.hid hz
    clear hz
    by_cases hlt : k < l.length
    · obtain ⟨ad, b, rfl, _, hb, hc⟩ := byte_at h hlt
      have HB := Lib.hid hb
      clear hb
      by_cases hb0 : b = 0
      · subst hb0
        have e0 : (((0 : UInt8).toNat : Int) != 0) = false := rfl
        go_wp2_with fail
        refine (zero1_any _ _).mono ?_
        rintro e w1 ⟨rfl, rfl⟩
        go_wp2
        go_round
        case rel => exact ⟨k + 1, by omega, by go_num, fun j hj => by
          rcases Nat.lt_or_ge j k with h1 | h1
          · exact HZ.out j h1
          · obtain rfl : j = k := by omega
            exact HB.out⟩
        case measure => simp [intOf]; omega
      · have e0 : ((b.toNat : Int) != 0) = true := by rw [u8_ne]; simpa using hb0
        have HA := Lib.hid (all_take l k b HB.out hb0)
        generalize b.toNat = bn at *
        go_wp2_with fail
        refine (zero1_any _ _).mono ?_
        rintro e w1 ⟨rfl, rfl⟩
        go_wp2
        go_ret
        exact ⟨k, rfl, by rw [HA.out]; simp, rfl⟩
    · obtain rfl : k = l.length := by omega
      have HA := Lib.hid (all_zero l HZ.out)
      go_wp2
      go_ret
      exact ⟨-1, rfl, by rw [HA.out]; rfl, rfl⟩
theorem zero_any (A : Option Addr) (c : Nat) (l : List UInt8) (w : World) (B : Nat) (hm : l.length ≤ reachBytes) (h : Reads w B A (bv l)) :
    Calls Try.prog 49 #[.slice A l.length c] w fun e w' => e = .returned (.bool (zeroB l)) ∧ w = w' := by
  have hcf : Calls Try.prog 75 #[.slice A l.length c, .func (.func 76) #[] #[]] w fun e w' => e = .returned (.bool (!zeroB l)) ∧ w = w' := by
    go_enter Try.func75, Try.ntmps75
    go_wp2_with fail
    refine (idx_any A c l w B hm h).mono ?_
    rintro e w1 ⟨r, rfl, hr, rfl⟩
    have HR := Lib.hid hr
    clear hr
    go_wp2
    go_ret
    exact ⟨ret_bool HR.out, rfl⟩
  go_enter Try.func49, Try.ntmps49
  go_wp2_with fail
  refine hcf.mono ?_
  rintro e w1 ⟨rfl, rfl⟩
  go_wp2
  go_ret
  exact ⟨by simp, rfl⟩
set_option maxHeartbeats 1000000 in
theorem rzero_any (A : Option Addr) (c : Nat) (l : List UInt8) (w : World) (B : Nat) (hm : l.length ≤ reachBytes) (h : Reads w B A (bv l)) :
    Calls Try.prog 50 #[.slice A l.length c] w fun e w' => e = .returned (.bool (zeroB l)) ∧ w = w' := by
  simp only [reachBytes] at hm
  go_enter Try.func50, Try.ntmps50
  go_wp2_with fail
  go_loop [3] (fun i => ∃ k : Nat, k ≤ l.length ∧ i = .int .i64 k ∧ ∀ j, j < k → l[j]? = some 0) (fun i => l.length - (intOf i).toNat)
  case atStart => exact ⟨0, by omega, rfl, by intro j hj; omega⟩
  case round =>
    obtain ⟨k, hk, rfl, hz⟩ := hrel
    have HZ := Lib.hid hz
    clear hz
    by_cases hlt : k < l.length
    · obtain ⟨ad, b, rfl, _, hb, hc⟩ := byte_at h hlt
      have HB := Lib.hid hb
      clear hb
      by_cases hb0 : b = 0
      · subst hb0
        have e0 : (((0 : UInt8).toNat : Int) != 0) = false := rfl
        go_wp2
        go_round
        case rel => exact ⟨k + 1, by omega, by go_num, fun j hj => by
          rcases Nat.lt_or_ge j k with h1 | h1
          · exact HZ.out j h1
          · obtain rfl : j = k := by omega
            exact HB.out⟩
        case measure => simp [intOf]; omega
      · have e0 : ((b.toNat : Int) != 0) = true := by rw [u8_ne]; simpa using hb0
        have HA := Lib.hid (all_take l k b HB.out hb0)
        generalize b.toNat = bn at *
        go_wp2
        go_ret
        exact ⟨by rw [HA.out]; rfl, rfl⟩
    · obtain rfl : k = l.length := by omega
      have HA := Lib.hid (all_zero l HZ.out)
      go_wp2
      go_ret
      exact ⟨by rw [HA.out]; rfl, rfl⟩
end Go.Proofs.Ytcnalndhlonblaa
