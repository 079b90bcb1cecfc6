/-
  bytes.Repeat of one byte, walked.
-/
import Derived.Lib.MakeNoZero
import Derived.Lib.SlBuf
import Derived.Laws.Externs
import Derived.Laws.Bits64b
import Derived.BigRegion
import Derived.Test.YtcnalndhlonblaaBase2
import Derived.Test.YtcnalndhlonblaaBase4
import Derived.Test.YtcnalndhlonblaaChecked
namespace Go.Proofs.Ytcnalndhlonblaa
open Go.RowKit

theorem u64_low (n : Nat) (h : n ≤ 200) : bits .and .u64 (n : Int) 4294967295 = (n : Int) := by
  rw [show (4294967295 : Int) = ((4294967295 : Nat) : Int) from rfl, bits_and_u64_nat n 4294967295 (by omega) (by omega), show (4294967295 : Nat) = 2 ^ 32 - 1 from rfl, Nat.and_two_pow_sub_one_eq_mod, Nat.mod_eq_of_lt (by omega)]
theorem u64_small (n : Nat) (h : n ≤ 200) : IntKind.u64.wrap (n : Int) = (n : Int) := by
  simp [IntKind.wrap, IntKind.bits, IntKind.signed]
  omega
theorem mul64_one (n : Nat) (h : n ≤ 200) (w : World) : Calls Try.prog 97 #[.int .u64 1, .int .u64 n] w fun e w' => e = .returned (.tuple #[.int .u64 0, .int .u64 n]) ∧ w = w' := by
  have h1 := u64_low n h
  have h2 := u64_low 0 (by omega)
  have h3 : (n : Int) / 4294967296 = 0 := by omega
  have h4 : bits .and .u64 1 4294967295 = 1 := by decide
  have h5 : IntKind.u64.wrap (n : Int) = (n : Int) := u64_small n h
  have h6 : IntKind.u64.wrap 0 = 0 := by decide
  go_enter Try.func97, Try.ntmps97
  go_wp2
  go_ret2
  exact ⟨rfl, rfl⟩
theorem mul_one' (n : Nat) (h : n ≤ 200) (w : World) : Calls Try.prog 94 #[.int .u64 1, .int .u64 n] w fun e w' => e = .returned (.tuple #[.int .u64 0, .int .u64 n]) ∧ w = w' := by
  have h5 : IntKind.u64.wrap (n : Int) = (n : Int) := u64_small n h
  go_enter Try.func94, Try.ntmps94
  go_wp2_with fail
  refine (mul64_one n h _).mono ?_
  rintro e w1 ⟨rfl, rfl⟩
  go_wp2
  go_ret2
  exact ⟨rfl, rfl⟩
/-- a buffer's next bytes, from wherever they are read -/
theorem buf_more {P : Program} (w0 wr : World) (h N : Nat) (acc l : List UInt8) (a : Addr) (m c : Nat) (t ty e : TypeId) (hu : P.underlying t = some (.slice e)) (hs : (P.info? e).map (·.size) = some 1)
    (hb : Lib.Buf w0 wr h N acc) (hcells : ∀ j u, (bv l)[j]? = some u → wr.cell? (a.add j) = some u) (hl : l.length = min m (N - acc.length)) :
    ∃ wr', (Builtin.copy_ #[t, t] ty #[.slice (some ⟨h, acc.length, none⟩) (N - acc.length) (N - acc.length), .slice (some a) m c]).run P wr = .ok (goInt (l.length : Int)) wr' ∧ Lib.Buf w0 wr' h N (acc ++ l) := by
  have hf := hb.fits
  have hfit : acc.length + l.length ≤ N := by omega
  have hr := run_copy_cells (P := P) wr t t ty e h acc.length (N - acc.length) (N - acc.length) a m c (bv l) hu hs (by rw [bv_len]; exact hl) hcells
    (fun j hj => by rw [bv_len] at hj; exact hb.there _ (by omega)) (fun j hj => by rw [bv_len] at hj; exact hb.free _ (by omega)) (bv_one _)
  rw [bv_len] at hr
  refine ⟨_, hr, ?_⟩
  have hin := World.cell?_setCells_in h (bv l) acc.length wr (fun j hj => by rw [bv_len] at hj; exact hb.there _ (by omega))
  have hout := World.cell?_setCells_out h (bv l) acc.length wr
  refine ⟨Lib.below_setCells h (Nat.le_refl _) _ _ hb.below, ?_, ?_, ?_, by rw [List.length_append]; exact hfit⟩
  · intro j hj
    by_cases h1 : acc.length ≤ j ∧ j < acc.length + l.length
    · obtain ⟨d, rfl⟩ : ∃ d, j = acc.length + d := ⟨j - acc.length, by omega⟩
      rw [hin d (by rw [bv_len]; omega)]
      rfl
    · rw [hout ⟨h, j, none⟩ (fun _ _ => by rw [bv_len]; show j < _ ∨ _ ≤ j; omega)]
      exact hb.there j hj
  · intro j hj
    rw [World.frozen?_setCells]
    exact hb.free j hj
  · intro j x hx
    by_cases h1 : j < acc.length
    · rw [List.getElem?_append_left h1] at hx
      rw [hout ⟨h, j, none⟩ (fun _ _ => Or.inl h1)]
      exact hb.holds j x hx
    · rw [List.getElem?_append_right (by omega)] at hx
      obtain ⟨d, rfl⟩ : ∃ d, j = acc.length + d := ⟨j - acc.length, by omega⟩
      rw [Nat.add_sub_cancel_left] at hx
      have hd : d < l.length := (List.getElem?_eq_some_iff.1 hx).1
      rw [hin d (by rw [bv_len]; exact hd)]
      simp [bv, (List.getElem?_eq_some_iff.1 hx).2]
set_option maxRecDepth 100000 in
set_option maxHeartbeats 2000000 in
theorem repeat_any (A : Option Addr) (c : Nat) (b : UInt8) (n : Nat) (hn : n ≤ 200) (w : World) (B : Nat) (hr : Reads w B A (bv [b])) (hB : B ≤ w.heap.size) :
    Calls Try.prog 86 #[.slice A 1 c, .int .i64 n] w fun e w' => ∃ A' c', e = .returned (.slice A' n c') ∧ Reads w' w'.heap.size A' (bv (List.replicate n b)) ∧ Below w.heap.size w w' := by
  by_cases h0 : n = 0
  · subst h0
    go_enter Try.func86, Try.ntmps86
    go_wp2
    go_ret
    exact ⟨_, _, rfl, Reads.nil_ _ _ _, below_alloc1 _ _⟩
  · have h5 : IntKind.u64.wrap (n : Int) = (n : Int) := u64_small n hn
    have hne : ((n : Int) == 0) = false := by simp; omega
    have hmul := fun W => mul_one' n hn W
    obtain ⟨ad, rfl, hadb, hc0⟩ := hr.at_ (k := 0) (by simp [bv])
    obtain ⟨cs, hrunM, hle, -⟩ := Lib.run_makeNoZero (P := Try.prog) w #[3] 43 5 Try.underlying43 n (by omega)
    have hcall : (callFunc 95 #[.int .i64 (n : Int)]).run Try.prog w = .ok (.value (.slice (some ⟨w.heap.size, 0, none⟩) n cs.size)) ((w.alloc (.cells cs 5)).drewN 2) := by
      rw [run_callFunc_extern Try.func95 (by kernel_rfl) (by kernel_rfl) (by kernel_rfl) (e := Extern.BytealgMakeNoZero.makeNoZero #[3] #[43]) (by kernel_rfl), hrunM]
      rfl
    have B0 := Lib.Buf.start w cs 5 n 2 hle
    have hs5 : (Try.prog.info? 5).map (·.size) = some 1 := by kernel_rfl
    have i1 : (n : Int) ≤ (cs.size : Int) := by omega
    obtain ⟨w1, hr1, B1⟩ := buf_more (P := Try.prog) w _ w.heap.size n [] [b] ad 1 c 43 3 5 Try.underlying43 hs5 B0 (fun j u hj => by
      obtain ⟨ad', ha', -, hcc⟩ := (hr.below (B0.below.mono hB)) (by have := (List.getElem?_eq_some_iff.1 hj).1; omega)
      cases ha'
      exact hcc j u hj) (by simp; omega)
    rw [List.length_nil, Nat.sub_zero] at hr1
    rw [List.nil_append] at B1
    have hr1' : (Builtin.copy_ #[43, 43] 3 #[.slice (some ⟨w.heap.size, 0, none⟩) n n, .slice (some ad) 1 c]).run Try.prog ((w.alloc (.cells cs 5)).drewN 2) = .ok (.int .i64 1) w1 := hr1
    have HB1 := Lib.hid B1
    clear hr1 B0 B1 hrunM
    go_enter Try.func86, Try.ntmps86
    go_wp2_with fail
    refine (hmul _).mono ?_
    rintro e w2 ⟨rfl, rfl⟩
    clear hmul
    go_wp2_with fail
    go_loopw [10] (fun i wr => ∃ p : Nat, 1 ≤ p ∧ p ≤ n ∧ i = .int .i64 p ∧ Hid (Lib.Buf w wr w.heap.size n (List.replicate p b))) (fun i _ => n - (intOf i).toNat)
    case atStart => exact ⟨1, by omega, by omega, rfl, HB1⟩
    case round =>
      obtain ⟨p, hp1, hpn, rfl, HB⟩ := hrel
      clear hcall hr1' HB1
      by_cases hlt : p < n
      · obtain ⟨k, hk⟩ : ∃ k, k = min p (n - p) := ⟨_, rfl⟩
        have hk1 : 1 ≤ k := by omega
        have hk2 : p + k ≤ n := by omega
        have hBd : Lib.Buf w wr.drew w.heap.size n (List.replicate p b) := ⟨HB.out.below.drew, HB.out.there, HB.out.free, HB.out.holds, HB.out.fits⟩
        obtain ⟨w2, hr2, B2⟩ := buf_more (P := Try.prog) w wr.drew w.heap.size n (List.replicate p b) (List.replicate k b) ⟨w.heap.size, 0, none⟩ p n 43 3 5 Try.underlying43 hs5 hBd (fun j u hj => by
          rw [Addr.add_lit, Nat.zero_add]
          have hjk : j < k := by have := (List.getElem?_eq_some_iff.1 hj).1; rw [bv_len, List.length_replicate] at this; exact this
          have h1 := HB.out.holds j b (by rw [List.getElem?_replicate, if_pos (by omega)])
          unfold bv at hj
          rw [List.getElem?_map, List.getElem?_replicate, if_pos hjk] at hj
          injection hj with hj
          rw [← hj]
          exact h1) (by rw [List.length_replicate, List.length_replicate]; exact hk)
        rw [List.length_replicate, List.length_replicate] at hr2
        rw [List.replicate_append_replicate] at B2
        have hr2' : (Builtin.copy_ #[43, 43] 3 #[.slice (some ⟨w.heap.size, p, none⟩) (n - p) (n - p), .slice (some ⟨w.heap.size, 0, none⟩) p n]).run Try.prog wr.drew = .ok (.int .i64 (k : Int)) w2 := hr2
        have HB2 := Lib.hid B2
        have hmin : min (p : Int) (n : Int) = (p : Int) := by omega
        have hnp : n ≠ p := by omega
        have i2 : (p : Int) ≤ (n : Int) := by omega
        have i3 : (0 : Int) ≤ (p : Int) := by omega
        have i4 : ((p : Int) < (n : Int)) := by omega
        clear B2 hr2 hBd hk
        go_wp2_with fail
        go_region
        all_goals
          go_wp2
          go_roundw
          case rel => exact ⟨p + k, by omega, by omega, by go_num, HB2⟩
          case measure => simp [intOf]; omega
      · obtain rfl : p = n := by omega
        have hb := HB.out.below
        go_wp2
        go_ret
        refine ⟨_, _, rfl, ?_, hb⟩
        intro hpos
        refine ⟨⟨w.heap.size, 0, none⟩, rfl, block_lt_of_cell (HB.out.holds 0 b (by rw [List.getElem?_replicate, if_pos (by omega)])), fun j u hj => ?_⟩
        rw [Addr.add_lit, Nat.zero_add]
        unfold bv at hj
        rw [List.getElem?_map] at hj
        cases hq : (List.replicate p b)[j]? with
        | none => rw [hq] at hj; cases hj
        | some x =>
          rw [hq] at hj
          injection hj with hj
          rw [← hj]
          exact HB.out.holds j x hq
end Go.Proofs.Ytcnalndhlonblaa
