/-
  Chapter 45: Used, the program's and the reference's, walked.
-/
import Derived.Test.YtcnalndhlonblaaPkP
import Derived.Test.YtcnalndhlonblaaImg2
import Derived.Test.YtcnalndhlonblaaImgR3
import Derived.Test.YtcnalndhlonblaaCode3
namespace Go.Proofs.Ytcnalndhlonblaa
open Go.RowKit
attribute [local go_sem ↓] Go.wp_at_zero Go.wp_at_succ
theorem Try.infoI45 : (Try.prog.info? 3).map (fun i => (i.zero, i.size, i.bytes)) = some (some (.int .i64 0), 1, 8) := by kernel_rfl
def ivn (l : List Nat) : List Value := l.map fun n : Nat => .int .i64 (n : Int)
theorem ivn_len (l : List Nat) : (ivn l).length = l.length := by simp [ivn]
theorem ivn_snoc (l : List Nat) (n : Nat) : ivn (l ++ [n]) = ivn l ++ [Value.int .i64 (n : Int)] := by simp [ivn]
theorem own_lenX {W : World} {base n : Nat} {e : TypeId} {v : Value} {xs : List Value} (h : W.ownsRow base e 1 v n xs) : n = xs.length := by have := h.1; omega
theorem used_nil (w : World) : Calls Try.prog 24 #[.pointer none] w fun e w' => e = .returned (.slice none 0 0) ∧ w = w' := by
  go_enter Try.func24, Try.ntmps24
  go_wp2_with fail
  refine (blocks_nil w).mono ?_
  rintro e w1 ⟨rfl, rfl⟩
  go_wp2_with fail
  go_loopw [3, 9] (fun s3 s9 wr => s3 = .slice none 0 0 ∧ s9 = .int .i64 0 ∧ wr = w) (fun _ _ _ => 0)
  case atStart => exact ⟨rfl, rfl, rfl⟩
  case round =>
    obtain ⟨rfl, rfl, rfl⟩ := hrel
    go_wp2
    go_ret
    exact ⟨rfl, rfl⟩
set_option maxRecDepth 100000 in
set_option maxHeartbeats 2000000 in
theorem used_any {w : World} {B g : Nat} {A : Option Addr} {c : Nat} {bs : List UInt8} (h : Img w B g A c bs) :
    Calls Try.prog 24 #[.pointer (some ⟨g, 0, none⟩)] w (Gives 3 (ivn (usedL (blksL bs))) w) := by
  obtain ⟨i0, hi, hz0, hz1, hz2⟩ := info_parts Try.infoI45
  have HI := Lib.hid h
  obtain ⟨N, hN⟩ : ∃ N, N = bs.length / 256 := ⟨_, rfl⟩
  have HN := Lib.hid hN
  have hN2 : N ≤ 14400 := by have := h.2.2.1; omega
  obtain ⟨L, hL⟩ : ∃ L, L = blksL bs := ⟨_, rfl⟩
  have HL := Lib.hid hL
  rw [← hL]
  have HU := Lib.hid (show usedL L = usedN L N by unfold usedL; rw [hL, blksL_len, ← hN])
  have HBL := Lib.hid (show ∀ i, i < N → (L.getD i []).length = 256 ∧ irdB bs (i : Int) = L.getD i [] ∧ irdE bs.length (i : Int) = 0 from fun i hi => by
    rw [hN] at hi
    have hE : irdE bs.length (i : Int) = 0 := irdE_zero.2 ⟨by omega, by omega⟩
    exact ⟨by rw [hL]; exact blksL_each bs i hi, by unfold irdB; rw [if_pos hE, hL, blksL_at bs i hi]; rfl, hE⟩)
  clear h hN hL
  go_enter Try.func24, Try.ntmps24
  go_wp2_with fail
  refine (blocks_any HI.out).mono ?_
  rw [← HN.out]
  rintro e w1 ⟨rfl, rfl⟩
  go_wp2_with fail
  go_loopw [3, 4, 5, 6, 9] (fun s3 _ _ _ s9 wr => ∃ (k m : Nat) (A1 : Option Addr) (c1 : Nat), s3 = .slice A1 m c1 ∧ s9 = .int .i64 (k : Int) ∧ k ≤ N ∧ m ≤ k ∧ Hid (wr.ownsRow w.heap.size 3 1 (.slice A1 m c1) m (ivn (usedN L k))) ∧ Hid (Below w.heap.size w wr)) (fun _ _ _ _ s9 _ => N - (intOf s9).toNat)
  case atStart => exact ⟨0, 0, none, 0, rfl, rfl, by omega, by omega, Lib.hid (World.ownsRow_nil _ _ _ _), Lib.hid (Below.refl _ _)⟩
  case round =>
    obtain ⟨k, m, A1, c1, rfl, rfl, hk, hm, HO, HB⟩ := hrel
    by_cases hlt : k < N
    · obtain ⟨h256, hrd, hre⟩ := HBL.out k hlt
      have hrd' := iread_any (HI.out.below HB.out) (k : Int)
      rw [hrd, hre] at hrd'
      have H256 := Lib.hid h256
      have HRD := Lib.hid hrd'
      have HUS := Lib.hid (show usedN L (k + 1) = if zeroB (L.getD k []) = true then usedN L k else usedN L k ++ [k] from rfl)
      generalize L.getD k [] = x at *
      have i1 : (k : Int) < (N : Int) := by omega
      clear h256 hrd hre hrd'
      go_wp2_with fail
      refine HRD.out.mono ?_
      rintro e w2 ⟨A2, c2, rfl, hown2, hb2⟩
      have HR2 := Lib.hid (Reads.of_own hown2)
      have HO2 := Lib.hid (own_keep HO.out hb2)
      have HB2 := Lib.hid (HB.out.trans (hb2.mono HB.out.size))
      rw [bv_len, H256.out]
      have HZ := Lib.hid (show Calls Try.prog 49 #[.slice A2 256 c2] w2 fun e w' => e = .returned (.bool (zeroB x)) ∧ w2 = w' from by
        have := zero_any A2 c2 x w2 _ (by rw [H256.out]; simp only [reachBytes]; omega) HR2.out
        rw [H256.out] at this
        exact this)
      clear hown2 hb2
      go_wp2_with fail
      refine HZ.out.mono ?_
      rintro e w3 ⟨rfl, rfl⟩
      cases hz : zeroB x with
      | true =>
        have HUS2 := Lib.hid (show usedN L (k + 1) = usedN L k by rw [HUS.out, if_pos hz])
        clear hz
        go_wp2
        go_roundw
        case rel => exact ⟨k + 1, m, A1, c1, rfl, by go_num, by omega, by omega, Lib.hid (by rw [HUS2.out]; exact HO2.out), HB2⟩
        case measure => simp [intOf]; omega
      | false =>
        have HUS2 := Lib.hid (show usedN L (k + 1) = usedN L k ++ [k] by rw [HUS.out, hz, if_neg (by decide)])
        clear hz
        have hs := HB2.out.size
        have HOa := Lib.hid (HO2.out.alloc (.cells #[.int .i64 (k : Int)] 3))
        have HNa := Lib.hid (Reads.new w2 [Value.int .i64 (k : Int)] 3 (0, 0))
        have HBa := Lib.hid (HB2.out.alloc hs (.cells #[.int .i64 (k : Int)] 3))
        have hbd : w.heap.size ≤ (w2.alloc (.cells #[.int .i64 (k : Int)] 3)).heap.size := by simp; omega
        go_wp2_with (at_builtin; refine wpList_append_to _ rfl (.tmp 21) (.tmp 23) _ rfl w.heap.size 3 i0 _ 8 Try.underlying22 hi hz0 hz1 hz2 rfl _ m (ivn (usedN L k)) rfl HOa.out _ _ 1 1 [Value.int .i64 (k : Int)] rfl rfl HNa.out (by simp [Value.oneCell']) (by simp only [maxLen]; omega) (by omega) hbd ?_; intro A7 c7 w7 hown7 hg7 hb7 hl7; have HO7 := Lib.hid hown7; have HB7 := Lib.hid (HBa.out.trans hb7); clear hown7 hg7 hb7 hl7)
        go_roundw
        case rel => exact ⟨k + 1, m + 1, A7, c7, rfl, by go_num, by omega, by omega, Lib.hid (by rw [HUS2.out, ivn_snoc]; exact HO7.out), HB7⟩
        case measure => simp [intOf]; omega
    · obtain rfl : k = N := by omega
      go_wp2
      go_ret
      have hl := own_lenX HO.out
      refine ⟨A1, c1, ?_, ?_, HB.out⟩
      · rw [HU.out, ← hl]; rfl
      · rw [HU.out, ← hl]; exact HO.out
end Go.Proofs.Ytcnalndhlonblaa
