/-
  What code.Put computes, walked once.
-/
import Derived.Test.YtilkcecjciiboaaCode
import Derived.Test.YtilkcecjciiboaaBase2
namespace Go.Proofs.Ytilkcecjciiboaa
open Go.RowKit
attribute [local go_sem ↓] Go.wp_at_zero Go.wp_at_succ

/-- a slice of the call's own making, or none, beside an error's number -/
def GivesE (e : TypeId) (xs : List Value) (err : Int) (w : World) (en : Ending) (w' : World) : Prop :=
  ∃ A c, en = .returned (.tuple #[.slice A xs.length c, .int .i64 err]) ∧ w'.ownsRow w.heap.size e 1 (.slice A xs.length c) xs.length xs ∧ Below w.heap.size w w'
theorem putE_zero {l : List UInt8} {a x n : Int} (h : putE l a x n = 0) : thereV l.length a x = 0 ∧ fitsB n x = true := by
  unfold putE at h
  split at h
  · rename_i ht
    split at h
    · rename_i hf; exact ⟨ht, hf⟩
    · cases h
  · rename_i ht; exact absurd h ht
theorem fitsB_ok {n x : Int} (h : fitsB n x = true) (_hk : knownB x = true) : ∃ m : Nat, n = m := by
  simp [fitsB] at h
  exact Int.eq_ofNat_of_zero_le h.1

set_option maxRecDepth 100000 in
set_option maxHeartbeats 1000000 in
theorem put_any (A : Option Addr) (c : Nat) (l : List UInt8) (a x n : Int) (w : World) (B : Nat) (hB : B ≤ w.heap.size) (hn : (Lit.int .i64 n).wf = true) (hm : l.length ≤ reachBytes) (h : Reads w B A (bv l)) :
    Calls Try.prog 62 #[.slice A l.length c, .int .i64 a, .int .i64 x, .int .i64 n] w (GivesE 5 (bv (putV l a x n)) (putE l a x n) w) := by
  have hm2 := hm
  simp only [reachBytes] at hm2
  have err : ∀ e : Int, e ≠ 0 → thereV l.length a x = e → putV l a x n = [] ∧ putE l a x n = e := fun e h0 h => by
    have : putE l a x n = e := by unfold putE; rw [h, if_neg h0]
    exact ⟨by unfold putV; rw [if_neg (by omega)], this⟩
  rcases thereV_cases l.length a x with ht | ht | ht
  · obtain ⟨hk, h0, h1⟩ := thereV_zero ht
    clear err
    by_cases hf : fitsB n x = true
    · have hE : putE l a x n = 0 := by unfold putE; rw [if_pos ht, if_pos hf]
      have hV : putV l a x n = putB l a x n := by unfold putV; rw [if_pos hE]
      rw [hE, hV]
      obtain ⟨m, rfl⟩ := fitsB_ok hf hk
      have hx := (knownB_iff x).1 hk
      obtain ⟨at_, rfl⟩ := Int.eq_ofNat_of_zero_le h0
      obtain ⟨wd, rfl⟩ := Int.eq_ofNat_of_zero_le (show 0 ≤ x by omega)
      have hpos : 0 < wd ∧ at_ + wd ≤ l.length := by omega
      have hmb := (wf_i64 hn).2
      have hby := bytes_any m (by omega) wd hk
      have HT := Lib.hid ht
      have HF := Lib.hid hf
      clear ht hf hx hE hV hk
      go_enter Try.func62, Try.ntmps62
      go_wp2_with fail
      refine (there_any _ _ _ _ _ _ hm).mono ?_
      rintro e w' ⟨rfl, rfl⟩
      rw [HT.out]
      go_wp2_with fail
      refine (fits_any _ _ _).mono ?_
      rintro e w' ⟨rfl, rfl⟩
      rw [HF.out]
      go_wp2_with fail
      refine (clone_any A c l w B hB hm h).mono ?_
      rintro e w1 ⟨A1, c1, rfl, hown, hb1⟩
      rw [bv_len] at hown ⊢
      obtain ⟨g, hgA, hlc⟩ : ∃ g, A1 = some ⟨g, 0, none⟩ ∧ l.length ≤ c1 ∧ c1 ≤ maxLen := by
        rcases hown.2 with ⟨h', hz⟩ | ⟨g, cap, cur, h', _, _, hnc, hcm, _⟩
        · omega
        · simp only [Value.slice.injEq, true_and] at h'
          obtain ⟨h1, rfl⟩ := h'
          exact ⟨g, h1, hnc, hcm⟩
      subst hgA
      obtain ⟨hlc1, hlc2⟩ := hlc
      clear hlc2 hmb
      have i1 : (0 : Int) ≤ (at_ : Int) := by omega
      have i2 : (at_ : Int) ≤ (l.length : Int) := by omega
      have i3 : (l.length : Int) ≤ (c1 : Int) := by omega
      go_wp2_with fail
      have hsz1 : (Try.prog.info? 5).map (·.size) = some 1 := by kernel_rfl
      go_region_held3 (fun _ => True) (trivial) (first | (go_at_call 92; refine (hby _).mono ?_; rintro e w2 ⟨A2, c2, rfl, hown2, hb2⟩; rw [bv_len, leb_len] at hown2 ⊢; have hownK := own_keep (show w1.drew.ownsRow w.heap.size 5 1 (.slice (some ⟨g, 0, none⟩) l.length c1) l.length (bv l) from hown.drew) hb2) | (refine step_copy_to rfl (.tmp 27) (.tmp 30) _ _ rfl 5 Try.underlying22 hsz1 w.heap.size g l.length c1 (bv l) hownK at_ (by omega) (some ⟨g, at_, none⟩) _ _ rfl rfl (fun _ => rfl) _ A2 wd c2 (bv (leb wd m)) rfl (by rw [bv_len, leb_len]) (Reads.of_own hown2) (bv_one _) (own_base hownK) ?_; intro w3 hown3 hg3 hb3 hs3))
      have hlist : (bv l).take at_ ++ ((bv (leb wd m)).take (l.length - at_) ++ (bv l).drop (at_ + (bv (leb wd m)).length)) = bv (putB l at_ wd m) := by
        unfold putB
        rw [bv_len, leb_len, List.take_of_length_le (l := bv (leb wd m)) (by rw [bv_len, leb_len]; omega), bv_append, bv_append, bv_take, bv_drop, show ((at_ : Int) + (wd : Int)).toNat = at_ + wd by omega]
        simp
      have hll : (putB l at_ wd m).length = l.length := by
        unfold putB
        simp only [List.length_append, List.length_take, List.length_drop, leb_len]
        omega
      rw [hlist] at hown3
      have hB3 : Below w.heap.size w w3 := (below_then hb1 (show Below w1.heap.size w1 w2 from ((Below.refl _ w1).drew).trans hb2)).trans hb3
      have HLL := Lib.hid hll
      clear hlist hll hb2 hb3 hg3 hs3 hown2 hownK hown
      go_wp2
      go_ret2
      exact ⟨_, c1, by rw [bv_len, HLL.out]; rfl, by rw [bv_len, HLL.out]; exact hown3, hB3⟩
    · have hf' : fitsB n x = false := by simpa using hf
      have hE : putE l a x n = 2 := by unfold putE; rw [if_pos ht, hf', if_neg (by decide)]
      have hV : putV l a x n = [] := by unfold putV; rw [if_neg (by omega)]
      rw [hE, hV]
      have HT := Lib.hid ht
      have HF := Lib.hid hf'
      clear ht hf hf' hE hV
      go_enter Try.func62, Try.ntmps62
      go_wp2_with fail
      refine (there_any _ _ _ _ _ _ hm).mono ?_
      rintro e w' ⟨rfl, rfl⟩
      rw [HT.out]
      go_wp2_with fail
      refine (fits_any _ _ _).mono ?_
      rintro e w' ⟨rfl, rfl⟩
      rw [HF.out]
      go_wp2
      go_ret2
      exact ⟨none, 0, rfl, World.ownsRow_nil _ _ _ _, Below.refl _ _⟩
  · obtain ⟨hV, hE⟩ := err 1 (by decide) ht
    rw [hE, hV]
    have HT := Lib.hid ht
    clear ht hE hV err
    go_enter Try.func62, Try.ntmps62
    go_wp2_with fail
    refine (there_any _ _ _ _ _ _ hm).mono ?_
    rintro e w' ⟨rfl, rfl⟩
    rw [HT.out]
    go_wp2
    go_ret2
    exact ⟨none, 0, rfl, World.ownsRow_nil _ _ _ _, Below.refl _ _⟩
  · obtain ⟨hV, hE⟩ := err 3 (by decide) ht
    rw [hE, hV]
    have HT := Lib.hid ht
    clear ht hE hV err
    go_enter Try.func62, Try.ntmps62
    go_wp2_with fail
    refine (there_any _ _ _ _ _ _ hm).mono ?_
    rintro e w' ⟨rfl, rfl⟩
    rw [HT.out]
    go_wp2
    go_ret2
    exact ⟨none, 0, rfl, World.ownsRow_nil _ _ _ _, Below.refl _ _⟩
end Go.Proofs.Ytilkcecjciiboaa
