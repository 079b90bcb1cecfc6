/-
  Chapter 45's PackBack, walked.
-/
import Derived.Test.YtcnalndhlonblaaBase9
import Derived.Test.YtcnalndhlonblaaLaw45
import Derived.Test.YtcnalndhlonblaaPk8
import Derived.BigRegion
import Derived.Laws.BitsAllLaws
namespace Go.Proofs.Ytcnalndhlonblaa
open Go.RowKit
theorem blks_flat (bs : List UInt8) (h : bs.length % 256 = 0) : (blksL bs).flatten = bs := by
  unfold blksL
  rw [chunks_flat _ _ (Nat.div_mul_le_self _ _), List.take_of_length_le (by omega)]
theorem each_at : ∀ {L : List (List UInt8)}, Each L → ∀ i, i < L.length → (L.flatten.drop (i * 256)).take 256 = L.getD i []
  | [], _, i, h => absurd h (by simp)
  | x :: L, hE, 0, _ => by
    have hx : x.length = 256 := hE x (List.mem_cons_self ..)
    rw [Nat.zero_mul, List.drop_zero, List.flatten_cons, List.take_left' hx]
    rfl
  | x :: L, hE, i + 1, h => by
    have hx : x.length = 256 := hE x (List.mem_cons_self ..)
    rw [List.flatten_cons, Nat.succ_mul, Nat.add_comm (i * 256) 256, ← List.drop_drop, List.drop_left' hx]
    rw [each_at (L := L) (fun y hy => hE y (List.mem_cons_of_mem _ hy)) i (by simpa using h)]
    rfl
theorem blks_back {L : List (List UInt8)} (h : Each L) : blksL L.flatten = L := by
  have hl : (blksL L.flatten).length = L.length := by rw [blksL_len, each_len h]; omega
  apply List.ext_getElem hl
  intro i h1 h2
  have e := blksL_at L.flatten i (by rw [each_len h]; omega)
  rw [each_at h i h2, List.getD_eq_getElem?_getD, List.getElem?_eq_getElem h1, List.getD_eq_getElem?_getD, List.getElem?_eq_getElem h2] at e
  exact e
theorem imgOf_flat (l : List UInt8) : (blksL (imgOf l)).flatten = imgOf l := blks_flat _ (by
  unfold imgOf
  have : min (l.length / 256) 14400 * 256 ≤ l.length := Nat.le_trans (Nat.mul_le_mul_right _ (Nat.min_le_left _ _)) (Nat.div_mul_le_self _ _)
  rw [List.length_take, Nat.min_eq_left this]
  exact Nat.mul_mod_left _ _)
theorem flat_le {α : Type} (f : α → List UInt8) (c : Nat) : ∀ l : List α, (∀ x ∈ l, (f x).length ≤ c) → (l.flatMap f).length ≤ c * l.length
  | [], _ => by simp
  | x :: l, h => by
    have h1 := flat_le f c l (fun y hy => h y (List.mem_cons_of_mem _ hy))
    have h2 := h x (List.mem_cons_self ..)
    rw [List.flatMap_cons, List.length_append, List.length_cons, Nat.mul_succ]
    omega
theorem pk_small {L : List (List UInt8)} (hE : Each L) : 20 ≤ (pkB L).length ∧ (pkB L).length ≤ 20 + 265 * L.length := by
  have hb : (bodyB L (usedL L).length).length ≤ 265 * (usedL L).length := by
    rw [bodyB_all]
    apply flat_le
    intro k hk
    have hk := usedN_lt L L.length k hk
    rw [piece_len]
    have := (squeeze_made (L.getD k [])).2
    rw [getD_each hE hk] at this
    omega
  have hu := usedL_le L
  have : (pkB L).length = (headB L ++ bodyB L (usedL L).length).length + 4 := sumB_len _
  rw [this, List.length_append, head_len]
  omega
theorem pos_at8 (a : Int) (n : Nat) (h : 0 < n) (hn : n ≤ 1000000) : ∃ k : Nat, k < n ∧ (wrap64 (a.tmod n + n)).tmod n = (k : Int) := by
  have h1 : a.tmod n < n := Int.tmod_lt_of_pos a (by omega)
  have h2 : -(n : Int) < a.tmod n := Int.lt_tmod_of_pos a (by omega)
  generalize a.tmod n = t at *
  rw [show wrap64 (t + n) = t + n from by unfold wrap64; omega, Int.tmod_eq_emod_of_nonneg (by omega)]
  have h3 : 0 ≤ (t + (n : Int)) % (n : Int) := Int.emod_nonneg _ (by omega)
  have h4 : (t + (n : Int)) % (n : Int) < (n : Int) := Int.emod_lt_of_pos _ (by omega)
  exact ⟨((t + (n : Int)) % (n : Int)).toNat, by omega, by omega⟩
set_option maxRecDepth 100000 in
set_option maxHeartbeats 40000000 in
theorem law_PackBack (A0 : Option Addr) (c0 : Nat) (l0 : List UInt8) (A1 : Option Addr) (c1 : Nat) (l1 : List UInt8) (a2 a3 : Int) (w : World) (q0 : l0.length ≤ c0) (m0 : l0.length ≤ reachBytes) (r0 : Reads w w.heap.size A0 (bv l0)) (q1 : l1.length ≤ c1) (_m1 : l1.length ≤ reachBytes) (r1 : Reads w w.heap.size A1 (bv l1)) (_w2 : (Lit.int .i64 a2).wf = true) (w3 : (Lit.int .u32 a3).wf = true) :
    Calls Try.prog 9 #[.slice A0 l0.length c0, .slice A1 l1.length c1, .int .i64 a2, .int .u32 a3] w fun e w' => e = .returned (.bool true) ∧ Below w.heap.size w w' := by
  have hb2 : 0 ≤ a3 ∧ a3 < 4294967296 := by
    simp [Lit.wf, IntKind.min, IntKind.max, IntKind.bits, IntKind.signed] at w3; omega
  clear w3
  go_enter Try.func9, Try.ntmps9
  by_cases h1 : 8000 < l0.length
  · have d1 : decide (8000 < (l0.length : Int)) = true := decide_eq_true (by omega)
    clear r0 r1
    go_wp2_with fail
    refine (lives45 _).mono ?_
    rintro e w5 ⟨rfl, hb⟩
    go_wp2
    go_ret
    exact ⟨rfl, hb⟩
  have d1 : decide (8000 < (l0.length : Int)) = false := decide_eq_false (by omega)
  by_cases h2 : 4000 < l1.length
  · have d2 : decide (4000 < (l1.length : Int)) = true := decide_eq_true (by omega)
    clear r0 r1
    go_wp2_with fail
    refine (lives45 _).mono ?_
    rintro e w5 ⟨rfl, hb⟩
    go_wp2
    go_ret
    exact ⟨rfl, hb⟩
  have d2 : decide (4000 < (l1.length : Int)) = false := decide_eq_false (by omega)
  have K1 := Lib.hid (iof_any A0 c0 l0 w q0 m0 r0)
  have hle : (blksL (imgOf l0)).length ≤ 31 := by
    rw [blks_of]
    unfold rimgOf
    rw [chunks_len]
    omega
  obtain ⟨L, hL⟩ : ∃ L, L = blksL (imgOf l0) := ⟨_, rfl⟩
  have hE : Each L := by rw [hL]; exact blks_eachE _
  have hYL : L.flatten = imgOf l0 := by rw [hL]; exact imgOf_flat l0
  rw [← hL] at hle
  obtain ⟨Y, hY⟩ : ∃ Y, Y = imgOf l0 := ⟨_, rfl⟩
  rw [← hY] at hYL K1 hL
  have HL := Lib.hid hL
  have HYL := Lib.hid hYL
  obtain ⟨hx20, hx9⟩ := pk_small hE
  have HUP := Lib.hid (up_pack hE (by omega))
  have HBU := Lib.hid (fun (c : List UInt8) (at_ m : Nat) => up_burst hE (by omega) c at_ m)
  obtain ⟨X, hX⟩ : ∃ X, X = pkB L := ⟨_, rfl⟩
  rw [← hX] at hx20 hx9 HUP HBU
  have HX := Lib.hid hX
  obtain ⟨n, hn⟩ : ∃ n, n = X.length := ⟨_, rfl⟩
  rw [← hn] at hx20 hx9 HBU
  have HN := Lib.hid hn
  have hn9 : n ≤ 9000 := by omega
  have KC := Lib.hid (fun W (hb : Below w.heap.size w W) => unpackI_any A1 c1 l1 (by omega) q1 W (r1.ext hb))
  have HR1 := Lib.hid r1
  clear hL hE hYL hY hX hn hx9 hle h1 h2 r0 r1
  go_wp2_with fail
  refine K1.out.mono ?_
  rintro e W1 ⟨g, Ai, ci, rfl, hI, hb1⟩
  have HI1 := Lib.hid hI
  have HB1 := Lib.hid hb1
  have K2 := Lib.hid (ipack_any hI)
  rw [← HL.out, ← HX.out] at K2
  clear hI hb1 K1
  go_wp2_with fail
  refine K2.out.mono ?_
  rintro e W2 ⟨A2, c2, rfl, hown2, hb2'⟩
  rw [bv_len, ← HN.out] at hown2
  rw [bv_len, ← HN.out]
  have HB2 := Lib.hid (below_then HB1.out hb2')
  have HI2 := Lib.hid (HI1.out.below hb2')
  have HO2 := Lib.hid hown2
  have hcap := own_capP hown2 (by omega)
  have K3 := Lib.hid (show Calls Try.prog 28 #[.slice A2 n c2] W2 (GivesUp (upE X) W2) from by
    have := unpackI_any A2 c2 X (by rw [← HN.out]; omega) (by rw [← HN.out]; exact hcap) W2 (Reads.of_own hown2)
    rw [← HN.out] at this
    exact this)
  rw [HUP.out] at K3
  clear hown2 hb2' K2 HI1
  go_wp2_with fail
  refine K3.out.mono ?_
  rintro e W3 ⟨v, rfl, hb3, hv, -⟩
  obtain ⟨g2, Aj, cj, rfl, hJ⟩ := hv rfl
  rw [HYL.out] at hJ
  have HB3 := Lib.hid (below_then HB2.out hb3)
  have HI3 := Lib.hid (HI2.out.below hb3)
  have HJ3 := Lib.hid hJ
  have HO3 := Lib.hid (own_keep HO2.out hb3)
  have KB := Lib.hid (fun (p : Nat) W (hp : p = g ∨ p = g2) (hb : Below W3.heap.size W3 W) => (show Calls Try.prog 30 #[.pointer (some ⟨p, 0, none⟩)] W (Gives 5 (bv Y) W) from by
    rcases hp with rfl | rfl
    · exact ibytes_any (HI3.out.below hb)
    · exact ibytes_any (HJ3.out.below hb)))
  clear hv hb3 hJ K3 HI2 HO2
  go_upto_region 6 with fail
  go_cut [61] (fun s61 wx => s61 = .bool false ∧ Hid (Below W3.heap.size W3 wx))
  case first =>
    have HB := Lib.hid ((Below.refl W3.heap.size W3).drew)
    refine wp_region_held_drew (S := (fun V => Below W3.heap.size W3 V)) (by kernel_rfl) ?_ (fun hHeld => ?_)
    (focus ((try dsimp only); (first | exact HB.out | assumption)))
    first | (refine anyH_skip 0 (by kernel_rfl) (by kernel_rfl) (by simp only [List.getElem?_toArray, List.getElem?_cons_zero] <;> rfl) (by kernel_rfl) (by exact fun _ _ _ h => h) (by rfl) (by assumption) ?_; (try simp only [Act.put, List.setIfInBounds_toArray, List.set_cons_zero, List.set_cons_succ])) | (refine anyH_take 0 (v := ?_) (by kernel_rfl) (by kernel_rfl) (by simp only [List.getElem?_toArray, List.getElem?_cons_zero] <;> rfl) (by kernel_rfl) (by exact fun _ _ _ h => h) (by rfl) ?_ (by assumption) ?_; rotate_left; (focus (intro w hSw; (try dsimp only at hSw); (try simp only [List.getElem_toArray, List.getElem_cons_succ, List.getElem_cons_zero]); go_simp; try (with_reducible rfl))); (try simp only [Act.put, List.setIfInBounds_toArray, List.set_cons_zero, List.set_cons_succ]))
    first | (refine anyH_skip 1 (by kernel_rfl) (by kernel_rfl) (by simp only [List.getElem?_toArray, List.getElem?_cons_succ, List.getElem?_cons_zero] <;> rfl) (by kernel_rfl) (by exact fun _ _ _ h => h) (by rfl) (by assumption) ?_; (try simp only [Act.put, List.setIfInBounds_toArray, List.set_cons_zero, List.set_cons_succ])) | (refine anyH_take 1 (v := ?_) (by kernel_rfl) (by kernel_rfl) (by simp only [List.getElem?_toArray, List.getElem?_cons_succ, List.getElem?_cons_zero] <;> rfl) (by kernel_rfl) (by exact fun _ _ _ h => h) (by rfl) ?_ (by assumption) ?_; rotate_left; (focus (intro w hSw; (try dsimp only at hSw); (try simp only [List.getElem_toArray, List.getElem_cons_succ, List.getElem_cons_zero]); go_simp; try (with_reducible rfl))); (try simp only [Act.put, List.setIfInBounds_toArray, List.set_cons_zero, List.set_cons_succ]))
    first | (refine anyH_skip 2 (by kernel_rfl) (by kernel_rfl) (by simp only [List.getElem?_toArray, List.getElem?_cons_succ, List.getElem?_cons_zero] <;> rfl) (by kernel_rfl) (by exact fun _ _ _ h => h) (by rfl) (by assumption) ?_; (try simp only [Act.put, List.setIfInBounds_toArray, List.set_cons_zero, List.set_cons_succ])) | (refine anyH_take 2 (v := ?_) (by kernel_rfl) (by kernel_rfl) (by simp only [List.getElem?_toArray, List.getElem?_cons_succ, List.getElem?_cons_zero] <;> rfl) (by kernel_rfl) (by exact fun _ _ _ h => h) (by rfl) ?_ (by assumption) ?_; rotate_left; (focus (intro w hSw; (try dsimp only at hSw); (try simp only [List.getElem_toArray, List.getElem_cons_succ, List.getElem_cons_zero]); go_simp; try (with_reducible rfl))); (try simp only [Act.put, List.setIfInBounds_toArray, List.set_cons_zero, List.set_cons_succ]))
    first | (refine anyH_skip 3 (by kernel_rfl) (by kernel_rfl) (by simp only [List.getElem?_toArray, List.getElem?_cons_succ, List.getElem?_cons_zero] <;> rfl) (by kernel_rfl) (by exact fun _ _ _ h => h) (by rfl) (by assumption) ?_; (try simp only [Act.put, List.setIfInBounds_toArray, List.set_cons_zero, List.set_cons_succ])) | (refine anyH_take 3 (v := ?_) (by kernel_rfl) (by kernel_rfl) (by simp only [List.getElem?_toArray, List.getElem?_cons_succ, List.getElem?_cons_zero] <;> rfl) (by kernel_rfl) (by exact fun _ _ _ h => h) (by rfl) ?_ (by assumption) ?_; rotate_left; (focus (intro w hSw; (try dsimp only at hSw); (try simp only [List.getElem_toArray, List.getElem_cons_succ, List.getElem_cons_zero]); go_simp; try (with_reducible rfl))); (try simp only [Act.put, List.setIfInBounds_toArray, List.set_cons_zero, List.set_cons_succ]))
    first | (refine anyH_skip 4 (by kernel_rfl) (by kernel_rfl) (by simp only [List.getElem?_toArray, List.getElem?_cons_succ, List.getElem?_cons_zero] <;> rfl) (by kernel_rfl) (by exact fun _ _ _ h => h) (by rfl) (by assumption) ?_; (try simp only [Act.put, List.setIfInBounds_toArray, List.set_cons_zero, List.set_cons_succ])) | (refine anyH_take 4 (v := ?_) (by kernel_rfl) (by kernel_rfl) (by simp only [List.getElem?_toArray, List.getElem?_cons_succ, List.getElem?_cons_zero] <;> rfl) (by kernel_rfl) (by exact fun _ _ _ h => h) (by rfl) ?_ (by assumption) ?_; rotate_left; (focus (intro w hSw; (try dsimp only at hSw); (try simp only [List.getElem_toArray, List.getElem_cons_succ, List.getElem_cons_zero]); go_simp; try (with_reducible rfl))); (try simp only [Act.put, List.setIfInBounds_toArray, List.set_cons_zero, List.set_cons_succ]))
    first | (refine anyH_skip 5 (by kernel_rfl) (by kernel_rfl) (by simp only [List.getElem?_toArray, List.getElem?_cons_succ, List.getElem?_cons_zero] <;> rfl) (by kernel_rfl) (by exact fun _ _ _ h => h) (by rfl) (by assumption) ?_; (try simp only [Act.put, List.setIfInBounds_toArray, List.set_cons_zero, List.set_cons_succ])) | (refine anyH_take 5 (v := ?_) (by kernel_rfl) (by kernel_rfl) (by simp only [List.getElem?_toArray, List.getElem?_cons_succ, List.getElem?_cons_zero] <;> rfl) (by kernel_rfl) (by exact fun _ _ _ h => h) (by rfl) ?_ (by assumption) ?_; rotate_left; (focus (intro w hSw; (try dsimp only at hSw); (try simp only [List.getElem_toArray, List.getElem_cons_succ, List.getElem_cons_zero]); go_simp; try (with_reducible rfl))); (try simp only [Act.put, List.setIfInBounds_toArray, List.set_cons_zero, List.set_cons_succ]))
    first | (refine anyH_skip 6 (by kernel_rfl) (by kernel_rfl) (by simp only [List.getElem?_toArray, List.getElem?_cons_succ, List.getElem?_cons_zero] <;> rfl) (by kernel_rfl) (by exact fun _ _ _ h => h) (by rfl) (by assumption) ?_; (try simp only [Act.put, List.setIfInBounds_toArray, List.set_cons_zero, List.set_cons_succ])) | (refine anyH_take 6 (v := ?_) (by kernel_rfl) (by kernel_rfl) (by simp only [List.getElem?_toArray, List.getElem?_cons_succ, List.getElem?_cons_zero] <;> rfl) (by kernel_rfl) (by exact fun _ _ _ h => h) (by rfl) ?_ (by assumption) ?_; rotate_left; (focus (intro w hSw; (try dsimp only at hSw); (try simp only [List.getElem_toArray, List.getElem_cons_succ, List.getElem_cons_zero]); go_simp; try (with_reducible rfl))); (try simp only [Act.put, List.setIfInBounds_toArray, List.set_cons_zero, List.set_cons_succ]))
    first | (refine anyH_skip 7 (by kernel_rfl) (by kernel_rfl) (by simp only [List.getElem?_toArray, List.getElem?_cons_succ, List.getElem?_cons_zero] <;> rfl) (by kernel_rfl) (by exact fun _ _ _ h => h) (by rfl) (by assumption) ?_; (try simp only [Act.put, List.setIfInBounds_toArray, List.set_cons_zero, List.set_cons_succ])) | (refine anyH_take 7 (v := ?_) (by kernel_rfl) (by kernel_rfl) (by simp only [List.getElem?_toArray, List.getElem?_cons_succ, List.getElem?_cons_zero] <;> rfl) (by kernel_rfl) (by exact fun _ _ _ h => h) (by rfl) ?_ (by assumption) ?_; rotate_left; (focus (intro w hSw; (try dsimp only at hSw); (try simp only [List.getElem_toArray, List.getElem_cons_succ, List.getElem_cons_zero]); go_simp; try (with_reducible rfl))); (try simp only [Act.put, List.setIfInBounds_toArray, List.set_cons_zero, List.set_cons_succ]))
    first | (refine anyH_skip 8 (by kernel_rfl) (by kernel_rfl) (by simp only [List.getElem?_toArray, List.getElem?_cons_succ, List.getElem?_cons_zero] <;> rfl) (by kernel_rfl) (by exact fun _ _ _ h => h) (by rfl) (by assumption) ?_; (try simp only [Act.put, List.setIfInBounds_toArray, List.set_cons_zero, List.set_cons_succ])) | (refine anyH_take 8 (v := ?_) (by kernel_rfl) (by kernel_rfl) (by simp only [List.getElem?_toArray, List.getElem?_cons_succ, List.getElem?_cons_zero] <;> rfl) (by kernel_rfl) (by exact fun _ _ _ h => h) (by rfl) ?_ (by assumption) ?_; rotate_left; (focus (intro w hSw; (try dsimp only at hSw); (try simp only [List.getElem_toArray, List.getElem_cons_succ, List.getElem_cons_zero]); go_simp; try (with_reducible rfl))); (try simp only [Act.put, List.setIfInBounds_toArray, List.set_cons_zero, List.set_cons_succ]))
    first | (refine anyH_skip 9 (by kernel_rfl) (by kernel_rfl) (by simp only [List.getElem?_toArray, List.getElem?_cons_succ, List.getElem?_cons_zero] <;> rfl) (by kernel_rfl) (by exact fun _ _ _ h => h) (by rfl) (by assumption) ?_; (try simp only [Act.put, List.setIfInBounds_toArray, List.set_cons_zero, List.set_cons_succ])) | (refine anyH_take 9 (v := ?_) (by kernel_rfl) (by kernel_rfl) (by simp only [List.getElem?_toArray, List.getElem?_cons_succ, List.getElem?_cons_zero] <;> rfl) (by kernel_rfl) (by exact fun _ _ _ h => h) (by rfl) ?_ (by assumption) ?_; rotate_left; (focus (intro w hSw; (try dsimp only at hSw); (try simp only [List.getElem_toArray, List.getElem_cons_succ, List.getElem_cons_zero]); go_simp; try (with_reducible rfl))); (try simp only [Act.put, List.setIfInBounds_toArray, List.set_cons_zero, List.set_cons_succ]))
    first | (refine anyH_skip 10 (by kernel_rfl) (by kernel_rfl) (by simp only [List.getElem?_toArray, List.getElem?_cons_succ, List.getElem?_cons_zero] <;> rfl) (by kernel_rfl) (by exact fun _ _ _ h => h) (by rfl) (by assumption) ?_; (try simp only [Act.put, List.setIfInBounds_toArray, List.set_cons_zero, List.set_cons_succ])) | (refine anyH_take 10 (v := ?_) (by kernel_rfl) (by kernel_rfl) (by simp only [List.getElem?_toArray, List.getElem?_cons_succ, List.getElem?_cons_zero] <;> rfl) (by kernel_rfl) (by exact fun _ _ _ h => h) (by rfl) ?_ (by assumption) ?_; rotate_left; (focus (intro w hSw; (try dsimp only at hSw); (try simp only [List.getElem_toArray, List.getElem_cons_succ, List.getElem_cons_zero]); go_simp; try (with_reducible rfl))); (try simp only [Act.put, List.setIfInBounds_toArray, List.set_cons_zero, List.set_cons_succ]))
    first | (refine anyH_skip 11 (by kernel_rfl) (by kernel_rfl) (by simp only [List.getElem?_toArray, List.getElem?_cons_succ, List.getElem?_cons_zero] <;> rfl) (by kernel_rfl) (by exact fun _ _ _ h => h) (by rfl) (by assumption) ?_; (try simp only [Act.put, List.setIfInBounds_toArray, List.set_cons_zero, List.set_cons_succ])) | (refine anyH_take 11 (v := ?_) (by kernel_rfl) (by kernel_rfl) (by simp only [List.getElem?_toArray, List.getElem?_cons_succ, List.getElem?_cons_zero] <;> rfl) (by kernel_rfl) (by exact fun _ _ _ h => h) (by rfl) ?_ (by assumption) ?_; rotate_left; (focus (intro w hSw; (try dsimp only at hSw); (try simp only [List.getElem_toArray, List.getElem_cons_succ, List.getElem_cons_zero]); go_simp; try (with_reducible rfl))); (try simp only [Act.put, List.setIfInBounds_toArray, List.set_cons_zero, List.set_cons_succ]))
    first | (refine anyH_skip 14 (by kernel_rfl) (by kernel_rfl) (by simp only [List.getElem?_toArray, List.getElem?_cons_succ, List.getElem?_cons_zero] <;> rfl) (by kernel_rfl) (by exact fun _ _ _ h => h) (by rfl) (by assumption) ?_; (try simp only [Act.put, List.setIfInBounds_toArray, List.set_cons_zero, List.set_cons_succ])) | (refine anyH_take 14 (v := ?_) (by kernel_rfl) (by kernel_rfl) (by simp only [List.getElem?_toArray, List.getElem?_cons_succ, List.getElem?_cons_zero] <;> rfl) (by kernel_rfl) (by exact fun _ _ _ h => h) (by rfl) ?_ (by assumption) ?_; rotate_left; (focus (intro w hSw; (try dsimp only at hSw); (try simp only [List.getElem_toArray, List.getElem_cons_succ, List.getElem_cons_zero]); go_simp; try (with_reducible rfl))); (try simp only [Act.put, List.setIfInBounds_toArray, List.set_cons_zero, List.set_cons_succ]))
    first | (refine anyH_pass 12 (by kernel_rfl) (by simp only [List.getElem?_toArray, List.getElem?_cons_succ, List.getElem?_cons_zero] <;> rfl) (by rfl) (by assumption) ?_; (try simp only [Act.put, List.setIfInBounds_toArray, List.set_cons_zero, List.set_cons_succ])) | (refine anyH_one 12 (by kernel_rfl) (by simp only [List.getElem?_toArray, List.getElem?_cons_succ, List.getElem?_cons_zero] <;> rfl) (by rfl) (fun K hK => ?_); (try simp only [List.getElem_toArray, List.getElem_cons_succ, List.getElem_cons_zero]); go_simp; (first | (go_at_call 30; have hx := HA.out; refine (KB.out _ _ (by first | exact .inl rfl | exact .inr rfl) HB.out).mono ?_; rintro e w4 ⟨A4, c4, rfl, hown4, hb⟩; rw [bv_len] at hown4; rw [bv_len]; have cvo := run_conv_bytes (P := Try.prog) w4 43 9 5 Try.underlying43 Try.underlying5 Try.underlying9 Y.length c3 rfl (hx.ext hb); have cv2 := run_conv_bytes (P := Try.prog) w4 43 9 5 Try.underlying43 Try.underlying5 Try.underlying9 Y.length c4 rfl (Reads.of_own hown4); replace HB := Lib.hid (below_then HB.out hb); clear hown4 hb hx) | (go_at_call 30; refine (KB.out _ _ (by first | exact .inl rfl | exact .inr rfl) HB.out).mono ?_; rintro e w3 ⟨A3, c3, rfl, hown3, hb⟩; rw [bv_len] at hown3; rw [bv_len]; have HA := Lib.hid (Reads.of_own hown3); have cv := run_conv_bytes (P := Try.prog) w3 43 9 5 Try.underlying43 Try.underlying5 Try.underlying9 Y.length c3 rfl HA.out; replace HB := Lib.hid (below_then HB.out hb); clear hown3 hb) | skip); refine hK.out _ _ ?_ (fun hHeld => ?_); (focus ((try dsimp only); (first | exact HB.out | assumption))); clear hK K; (try simp only [Act.put, List.setIfInBounds_toArray, List.set_cons_zero, List.set_cons_succ]))
    refine anyH_two 13 15 (by kernel_rfl) (by simp only [List.getElem?_toArray, List.getElem?_cons_succ, List.getElem?_cons_zero] <;> rfl) (by simp only [List.getElem?_toArray, List.getElem?_cons_succ, List.getElem?_cons_zero] <;> rfl) (by rfl) (by rfl) (fun K hK => ?_) (fun K hK => ?_)
    ((try simp only [List.getElem_toArray, List.getElem_cons_succ, List.getElem_cons_zero]); go_simp; (first | (go_at_call 30; have hx := HA.out; refine (KB.out _ _ (by first | exact .inl rfl | exact .inr rfl) HB.out).mono ?_; rintro e w4 ⟨A4, c4, rfl, hown4, hb⟩; rw [bv_len] at hown4; rw [bv_len]; have cvo := run_conv_bytes (P := Try.prog) w4 43 9 5 Try.underlying43 Try.underlying5 Try.underlying9 Y.length c3 rfl (hx.ext hb); have cv2 := run_conv_bytes (P := Try.prog) w4 43 9 5 Try.underlying43 Try.underlying5 Try.underlying9 Y.length c4 rfl (Reads.of_own hown4); replace HB := Lib.hid (below_then HB.out hb); clear hown4 hb hx) | (go_at_call 30; refine (KB.out _ _ (by first | exact .inl rfl | exact .inr rfl) HB.out).mono ?_; rintro e w3 ⟨A3, c3, rfl, hown3, hb⟩; rw [bv_len] at hown3; rw [bv_len]; have HA := Lib.hid (Reads.of_own hown3); have cv := run_conv_bytes (P := Try.prog) w3 43 9 5 Try.underlying43 Try.underlying5 Try.underlying9 Y.length c3 rfl HA.out; replace HB := Lib.hid (below_then HB.out hb); clear hown3 hb) | skip); refine hK.out _ _ ?_ (fun hHeld => ?_); (focus ((try dsimp only); (first | exact HB.out | assumption))); clear hK K; (try simp only [Act.put, List.setIfInBounds_toArray, List.set_cons_zero, List.set_cons_succ]))
    first | (refine anyH_pass 15 (by kernel_rfl) (by simp only [List.getElem?_toArray, List.getElem?_cons_succ, List.getElem?_cons_zero] <;> rfl) (by rfl) (by assumption) ?_; (try simp only [Act.put, List.setIfInBounds_toArray, List.set_cons_zero, List.set_cons_succ])) | (refine anyH_one 15 (by kernel_rfl) (by simp only [List.getElem?_toArray, List.getElem?_cons_succ, List.getElem?_cons_zero] <;> rfl) (by rfl) (fun K hK => ?_); (try simp only [List.getElem_toArray, List.getElem_cons_succ, List.getElem_cons_zero]); go_simp; (first | (go_at_call 30; have hx := HA.out; refine (KB.out _ _ (by first | exact .inl rfl | exact .inr rfl) HB.out).mono ?_; rintro e w4 ⟨A4, c4, rfl, hown4, hb⟩; rw [bv_len] at hown4; rw [bv_len]; have cvo := run_conv_bytes (P := Try.prog) w4 43 9 5 Try.underlying43 Try.underlying5 Try.underlying9 Y.length c3 rfl (hx.ext hb); have cv2 := run_conv_bytes (P := Try.prog) w4 43 9 5 Try.underlying43 Try.underlying5 Try.underlying9 Y.length c4 rfl (Reads.of_own hown4); replace HB := Lib.hid (below_then HB.out hb); clear hown4 hb hx) | (go_at_call 30; refine (KB.out _ _ (by first | exact .inl rfl | exact .inr rfl) HB.out).mono ?_; rintro e w3 ⟨A3, c3, rfl, hown3, hb⟩; rw [bv_len] at hown3; rw [bv_len]; have HA := Lib.hid (Reads.of_own hown3); have cv := run_conv_bytes (P := Try.prog) w3 43 9 5 Try.underlying43 Try.underlying5 Try.underlying9 Y.length c3 rfl HA.out; replace HB := Lib.hid (below_then HB.out hb); clear hown3 hb) | skip); refine hK.out _ _ ?_ (fun hHeld => ?_); (focus ((try dsimp only); (first | exact HB.out | assumption))); clear hK K; (try simp only [Act.put, List.setIfInBounds_toArray, List.set_cons_zero, List.set_cons_succ]))
    first | (refine anyH_pass 16 (by kernel_rfl) (by simp only [List.getElem?_toArray, List.getElem?_cons_succ, List.getElem?_cons_zero] <;> rfl) (by rfl) (by assumption) ?_; (try simp only [Act.put, List.setIfInBounds_toArray, List.set_cons_zero, List.set_cons_succ])) | (refine anyH_one 16 (by kernel_rfl) (by simp only [List.getElem?_toArray, List.getElem?_cons_succ, List.getElem?_cons_zero] <;> rfl) (by rfl) (fun K hK => ?_); (try simp only [List.getElem_toArray, List.getElem_cons_succ, List.getElem_cons_zero]); go_simp; (first | (go_at_call 30; have hx := HA.out; refine (KB.out _ _ (by first | exact .inl rfl | exact .inr rfl) HB.out).mono ?_; rintro e w4 ⟨A4, c4, rfl, hown4, hb⟩; rw [bv_len] at hown4; rw [bv_len]; have cvo := run_conv_bytes (P := Try.prog) w4 43 9 5 Try.underlying43 Try.underlying5 Try.underlying9 Y.length c3 rfl (hx.ext hb); have cv2 := run_conv_bytes (P := Try.prog) w4 43 9 5 Try.underlying43 Try.underlying5 Try.underlying9 Y.length c4 rfl (Reads.of_own hown4); replace HB := Lib.hid (below_then HB.out hb); clear hown4 hb hx) | (go_at_call 30; refine (KB.out _ _ (by first | exact .inl rfl | exact .inr rfl) HB.out).mono ?_; rintro e w3 ⟨A3, c3, rfl, hown3, hb⟩; rw [bv_len] at hown3; rw [bv_len]; have HA := Lib.hid (Reads.of_own hown3); have cv := run_conv_bytes (P := Try.prog) w3 43 9 5 Try.underlying43 Try.underlying5 Try.underlying9 Y.length c3 rfl HA.out; replace HB := Lib.hid (below_then HB.out hb); clear hown3 hb) | skip); refine hK.out _ _ ?_ (fun hHeld => ?_); (focus ((try dsimp only); (first | exact HB.out | assumption))); clear hK K; (try simp only [Act.put, List.setIfInBounds_toArray, List.set_cons_zero, List.set_cons_succ]))
    first | (refine anyH_skip 17 (by kernel_rfl) (by kernel_rfl) (by simp only [List.getElem?_toArray, List.getElem?_cons_succ, List.getElem?_cons_zero] <;> rfl) (by kernel_rfl) (by exact fun _ _ _ h => h) (by rfl) (by assumption) ?_; (try simp only [Act.put, List.setIfInBounds_toArray, List.set_cons_zero, List.set_cons_succ])) | (refine anyH_take 17 (v := ?_) (by kernel_rfl) (by kernel_rfl) (by simp only [List.getElem?_toArray, List.getElem?_cons_succ, List.getElem?_cons_zero] <;> rfl) (by kernel_rfl) (by exact fun _ _ _ h => h) (by rfl) ?_ (by assumption) ?_; rotate_left; (focus (intro w hSw; (try dsimp only at hSw); (try simp only [List.getElem_toArray, List.getElem_cons_succ, List.getElem_cons_zero]); go_simp; try (with_reducible rfl))); (try simp only [Act.put, List.setIfInBounds_toArray, List.set_cons_zero, List.set_cons_succ]))
    first | (refine anyH_skip 18 (by kernel_rfl) (by kernel_rfl) (by simp only [List.getElem?_toArray, List.getElem?_cons_succ, List.getElem?_cons_zero] <;> rfl) (by kernel_rfl) (by exact fun _ _ _ h => h) (by rfl) (by assumption) ?_; (try simp only [Act.put, List.setIfInBounds_toArray, List.set_cons_zero, List.set_cons_succ])) | (refine anyH_take 18 (v := ?_) (by kernel_rfl) (by kernel_rfl) (by simp only [List.getElem?_toArray, List.getElem?_cons_succ, List.getElem?_cons_zero] <;> rfl) (by kernel_rfl) (by exact fun _ _ _ h => h) (by rfl) ?_ (by assumption) ?_; rotate_left; (focus (intro w hSw; (try dsimp only at hSw); (try simp only [List.getElem_toArray, List.getElem_cons_succ, List.getElem_cons_zero]); go_simp; try (with_reducible rfl))); (try simp only [Act.put, List.setIfInBounds_toArray, List.set_cons_zero, List.set_cons_succ]))
    rotate_left
    ((try simp only [List.getElem_toArray, List.getElem_cons_succ, List.getElem_cons_zero]); go_simp; (first | (go_at_call 30; have hx := HA.out; refine (KB.out _ _ (by first | exact .inl rfl | exact .inr rfl) HB.out).mono ?_; rintro e w4 ⟨A4, c4, rfl, hown4, hb⟩; rw [bv_len] at hown4; rw [bv_len]; have cvo := run_conv_bytes (P := Try.prog) w4 43 9 5 Try.underlying43 Try.underlying5 Try.underlying9 Y.length c3 rfl (hx.ext hb); have cv2 := run_conv_bytes (P := Try.prog) w4 43 9 5 Try.underlying43 Try.underlying5 Try.underlying9 Y.length c4 rfl (Reads.of_own hown4); replace HB := Lib.hid (below_then HB.out hb); clear hown4 hb hx) | (go_at_call 30; refine (KB.out _ _ (by first | exact .inl rfl | exact .inr rfl) HB.out).mono ?_; rintro e w3 ⟨A3, c3, rfl, hown3, hb⟩; rw [bv_len] at hown3; rw [bv_len]; have HA := Lib.hid (Reads.of_own hown3); have cv := run_conv_bytes (P := Try.prog) w3 43 9 5 Try.underlying43 Try.underlying5 Try.underlying9 Y.length c3 rfl HA.out; replace HB := Lib.hid (below_then HB.out hb); clear hown3 hb) | skip); refine hK.out _ _ ?_ (fun hHeld => ?_); (focus ((try dsimp only); (first | exact HB.out | assumption))); clear hK K; (try simp only [Act.put, List.setIfInBounds_toArray, List.set_cons_zero, List.set_cons_succ]))
    refine anyH_two 13 16 (by kernel_rfl) (by simp only [List.getElem?_toArray, List.getElem?_cons_succ, List.getElem?_cons_zero] <;> rfl) (by simp only [List.getElem?_toArray, List.getElem?_cons_succ, List.getElem?_cons_zero] <;> rfl) (by rfl) (by rfl) (fun K hK => ?_) (fun K hK => ?_)
    ((try simp only [List.getElem_toArray, List.getElem_cons_succ, List.getElem_cons_zero]); go_simp; (first | (go_at_call 30; have hx := HA.out; refine (KB.out _ _ (by first | exact .inl rfl | exact .inr rfl) HB.out).mono ?_; rintro e w4 ⟨A4, c4, rfl, hown4, hb⟩; rw [bv_len] at hown4; rw [bv_len]; have cvo := run_conv_bytes (P := Try.prog) w4 43 9 5 Try.underlying43 Try.underlying5 Try.underlying9 Y.length c3 rfl (hx.ext hb); have cv2 := run_conv_bytes (P := Try.prog) w4 43 9 5 Try.underlying43 Try.underlying5 Try.underlying9 Y.length c4 rfl (Reads.of_own hown4); replace HB := Lib.hid (below_then HB.out hb); clear hown4 hb hx) | (go_at_call 30; refine (KB.out _ _ (by first | exact .inl rfl | exact .inr rfl) HB.out).mono ?_; rintro e w3 ⟨A3, c3, rfl, hown3, hb⟩; rw [bv_len] at hown3; rw [bv_len]; have HA := Lib.hid (Reads.of_own hown3); have cv := run_conv_bytes (P := Try.prog) w3 43 9 5 Try.underlying43 Try.underlying5 Try.underlying9 Y.length c3 rfl HA.out; replace HB := Lib.hid (below_then HB.out hb); clear hown3 hb) | skip); refine hK.out _ _ ?_ (fun hHeld => ?_); (focus ((try dsimp only); (first | exact HB.out | assumption))); clear hK K; (try simp only [Act.put, List.setIfInBounds_toArray, List.set_cons_zero, List.set_cons_succ]))
    first | (refine anyH_pass 16 (by kernel_rfl) (by simp only [List.getElem?_toArray, List.getElem?_cons_succ, List.getElem?_cons_zero] <;> rfl) (by rfl) (by assumption) ?_; (try simp only [Act.put, List.setIfInBounds_toArray, List.set_cons_zero, List.set_cons_succ])) | (refine anyH_one 16 (by kernel_rfl) (by simp only [List.getElem?_toArray, List.getElem?_cons_succ, List.getElem?_cons_zero] <;> rfl) (by rfl) (fun K hK => ?_); (try simp only [List.getElem_toArray, List.getElem_cons_succ, List.getElem_cons_zero]); go_simp; (first | (go_at_call 30; have hx := HA.out; refine (KB.out _ _ (by first | exact .inl rfl | exact .inr rfl) HB.out).mono ?_; rintro e w4 ⟨A4, c4, rfl, hown4, hb⟩; rw [bv_len] at hown4; rw [bv_len]; have cvo := run_conv_bytes (P := Try.prog) w4 43 9 5 Try.underlying43 Try.underlying5 Try.underlying9 Y.length c3 rfl (hx.ext hb); have cv2 := run_conv_bytes (P := Try.prog) w4 43 9 5 Try.underlying43 Try.underlying5 Try.underlying9 Y.length c4 rfl (Reads.of_own hown4); replace HB := Lib.hid (below_then HB.out hb); clear hown4 hb hx) | (go_at_call 30; refine (KB.out _ _ (by first | exact .inl rfl | exact .inr rfl) HB.out).mono ?_; rintro e w3 ⟨A3, c3, rfl, hown3, hb⟩; rw [bv_len] at hown3; rw [bv_len]; have HA := Lib.hid (Reads.of_own hown3); have cv := run_conv_bytes (P := Try.prog) w3 43 9 5 Try.underlying43 Try.underlying5 Try.underlying9 Y.length c3 rfl HA.out; replace HB := Lib.hid (below_then HB.out hb); clear hown3 hb) | skip); refine hK.out _ _ ?_ (fun hHeld => ?_); (focus ((try dsimp only); (first | exact HB.out | assumption))); clear hK K; (try simp only [Act.put, List.setIfInBounds_toArray, List.set_cons_zero, List.set_cons_succ]))
    first | (refine anyH_skip 17 (by kernel_rfl) (by kernel_rfl) (by simp only [List.getElem?_toArray, List.getElem?_cons_succ, List.getElem?_cons_zero] <;> rfl) (by kernel_rfl) (by exact fun _ _ _ h => h) (by rfl) (by assumption) ?_; (try simp only [Act.put, List.setIfInBounds_toArray, List.set_cons_zero, List.set_cons_succ])) | (refine anyH_take 17 (v := ?_) (by kernel_rfl) (by kernel_rfl) (by simp only [List.getElem?_toArray, List.getElem?_cons_succ, List.getElem?_cons_zero] <;> rfl) (by kernel_rfl) (by exact fun _ _ _ h => h) (by rfl) ?_ (by assumption) ?_; rotate_left; (focus (intro w hSw; (try dsimp only at hSw); (try simp only [List.getElem_toArray, List.getElem_cons_succ, List.getElem_cons_zero]); go_simp; try (with_reducible rfl))); (try simp only [Act.put, List.setIfInBounds_toArray, List.set_cons_zero, List.set_cons_succ]))
    first | (refine anyH_skip 18 (by kernel_rfl) (by kernel_rfl) (by simp only [List.getElem?_toArray, List.getElem?_cons_succ, List.getElem?_cons_zero] <;> rfl) (by kernel_rfl) (by exact fun _ _ _ h => h) (by rfl) (by assumption) ?_; (try simp only [Act.put, List.setIfInBounds_toArray, List.set_cons_zero, List.set_cons_succ])) | (refine anyH_take 18 (v := ?_) (by kernel_rfl) (by kernel_rfl) (by simp only [List.getElem?_toArray, List.getElem?_cons_succ, List.getElem?_cons_zero] <;> rfl) (by kernel_rfl) (by exact fun _ _ _ h => h) (by rfl) ?_ (by assumption) ?_; rotate_left; (focus (intro w hSw; (try dsimp only at hSw); (try simp only [List.getElem_toArray, List.getElem_cons_succ, List.getElem_cons_zero]); go_simp; try (with_reducible rfl))); (try simp only [Act.put, List.setIfInBounds_toArray, List.set_cons_zero, List.set_cons_succ]))
    rotate_left
    ((try simp only [List.getElem_toArray, List.getElem_cons_succ, List.getElem_cons_zero]); go_simp; (first | (go_at_call 30; have hx := HA.out; refine (KB.out _ _ (by first | exact .inl rfl | exact .inr rfl) HB.out).mono ?_; rintro e w4 ⟨A4, c4, rfl, hown4, hb⟩; rw [bv_len] at hown4; rw [bv_len]; have cvo := run_conv_bytes (P := Try.prog) w4 43 9 5 Try.underlying43 Try.underlying5 Try.underlying9 Y.length c3 rfl (hx.ext hb); have cv2 := run_conv_bytes (P := Try.prog) w4 43 9 5 Try.underlying43 Try.underlying5 Try.underlying9 Y.length c4 rfl (Reads.of_own hown4); replace HB := Lib.hid (below_then HB.out hb); clear hown4 hb hx) | (go_at_call 30; refine (KB.out _ _ (by first | exact .inl rfl | exact .inr rfl) HB.out).mono ?_; rintro e w3 ⟨A3, c3, rfl, hown3, hb⟩; rw [bv_len] at hown3; rw [bv_len]; have HA := Lib.hid (Reads.of_own hown3); have cv := run_conv_bytes (P := Try.prog) w3 43 9 5 Try.underlying43 Try.underlying5 Try.underlying9 Y.length c3 rfl HA.out; replace HB := Lib.hid (below_then HB.out hb); clear hown3 hb) | skip); refine hK.out _ _ ?_ (fun hHeld => ?_); (focus ((try dsimp only); (first | exact HB.out | assumption))); clear hK K; (try simp only [Act.put, List.setIfInBounds_toArray, List.set_cons_zero, List.set_cons_succ]))
    first | (refine anyH_pass 13 (by kernel_rfl) (by simp only [List.getElem?_toArray, List.getElem?_cons_succ, List.getElem?_cons_zero] <;> rfl) (by rfl) (by assumption) ?_; (try simp only [Act.put, List.setIfInBounds_toArray, List.set_cons_zero, List.set_cons_succ])) | (refine anyH_one 13 (by kernel_rfl) (by simp only [List.getElem?_toArray, List.getElem?_cons_succ, List.getElem?_cons_zero] <;> rfl) (by rfl) (fun K hK => ?_); (try simp only [List.getElem_toArray, List.getElem_cons_succ, List.getElem_cons_zero]); go_simp; (first | (go_at_call 30; have hx := HA.out; refine (KB.out _ _ (by first | exact .inl rfl | exact .inr rfl) HB.out).mono ?_; rintro e w4 ⟨A4, c4, rfl, hown4, hb⟩; rw [bv_len] at hown4; rw [bv_len]; have cvo := run_conv_bytes (P := Try.prog) w4 43 9 5 Try.underlying43 Try.underlying5 Try.underlying9 Y.length c3 rfl (hx.ext hb); have cv2 := run_conv_bytes (P := Try.prog) w4 43 9 5 Try.underlying43 Try.underlying5 Try.underlying9 Y.length c4 rfl (Reads.of_own hown4); replace HB := Lib.hid (below_then HB.out hb); clear hown4 hb hx) | (go_at_call 30; refine (KB.out _ _ (by first | exact .inl rfl | exact .inr rfl) HB.out).mono ?_; rintro e w3 ⟨A3, c3, rfl, hown3, hb⟩; rw [bv_len] at hown3; rw [bv_len]; have HA := Lib.hid (Reads.of_own hown3); have cv := run_conv_bytes (P := Try.prog) w3 43 9 5 Try.underlying43 Try.underlying5 Try.underlying9 Y.length c3 rfl HA.out; replace HB := Lib.hid (below_then HB.out hb); clear hown3 hb) | skip); refine hK.out _ _ ?_ (fun hHeld => ?_); (focus ((try dsimp only); (first | exact HB.out | assumption))); clear hK K; (try simp only [Act.put, List.setIfInBounds_toArray, List.set_cons_zero, List.set_cons_succ]))
    first | (refine anyH_skip 17 (by kernel_rfl) (by kernel_rfl) (by simp only [List.getElem?_toArray, List.getElem?_cons_succ, List.getElem?_cons_zero] <;> rfl) (by kernel_rfl) (by exact fun _ _ _ h => h) (by rfl) (by assumption) ?_; (try simp only [Act.put, List.setIfInBounds_toArray, List.set_cons_zero, List.set_cons_succ])) | (refine anyH_take 17 (v := ?_) (by kernel_rfl) (by kernel_rfl) (by simp only [List.getElem?_toArray, List.getElem?_cons_succ, List.getElem?_cons_zero] <;> rfl) (by kernel_rfl) (by exact fun _ _ _ h => h) (by rfl) ?_ (by assumption) ?_; rotate_left; (focus (intro w hSw; (try dsimp only at hSw); (try simp only [List.getElem_toArray, List.getElem_cons_succ, List.getElem_cons_zero]); go_simp; try (with_reducible rfl))); (try simp only [Act.put, List.setIfInBounds_toArray, List.set_cons_zero, List.set_cons_succ]))
    first | (refine anyH_skip 18 (by kernel_rfl) (by kernel_rfl) (by simp only [List.getElem?_toArray, List.getElem?_cons_succ, List.getElem?_cons_zero] <;> rfl) (by kernel_rfl) (by exact fun _ _ _ h => h) (by rfl) (by assumption) ?_; (try simp only [Act.put, List.setIfInBounds_toArray, List.set_cons_zero, List.set_cons_succ])) | (refine anyH_take 18 (v := ?_) (by kernel_rfl) (by kernel_rfl) (by simp only [List.getElem?_toArray, List.getElem?_cons_succ, List.getElem?_cons_zero] <;> rfl) (by kernel_rfl) (by exact fun _ _ _ h => h) (by rfl) ?_ (by assumption) ?_; rotate_left; (focus (intro w hSw; (try dsimp only at hSw); (try simp only [List.getElem_toArray, List.getElem_cons_succ, List.getElem_cons_zero]); go_simp; try (with_reducible rfl))); (try simp only [Act.put, List.setIfInBounds_toArray, List.set_cons_zero, List.set_cons_succ]))
    rotate_left
    all_goals (refine wpAnyH_done (by kernel_rfl) ?_ _)
    all_goals
      go_wp2_with fail
      go_meet
      exact ⟨rfl, HB⟩
  case rest =>
    obtain ⟨rfl, HB4⟩ := hcut
    rename_i W4
    have HB5 := Lib.hid (below_then HB3.out HB4.out)
    have HO5 := Lib.hid (own_mono (own_keep HO3.out HB4.out) HB1.out.size)
    have d3 : ((n : Int) == 0) = false := by rw [beq_eq_false_iff_ne]; omega
    have hN0 : ¬ (n = 0) := by omega
    obtain ⟨at_, hat2, hat⟩ := pos_at8 a2 (8 * n) (by omega) (by omega)
    clear KB HI3 HJ3 HO3 HB4
    go_upto_region 12 with fail
    have hat' : (wrap64 (a2.tmod (8 * (n : Int)) + 8 * (n : Int))).tmod (8 * (n : Int)) = (at_ : Int) := hat
    rw [hat']
    obtain ⟨bits, rfl⟩ := Int.eq_ofNat_of_zero_le hb2.1
    have hbit : bits < 4294967296 := by omega
    have HTAIL := Lib.hid (fun (W : World) (hb : Below w.heap.size w W) => KC.out W hb)
    clear hat hat' hb2 hN0 HUP KC
    go_wp2_with fail
    go_loopw [14, 15] (fun v i wr => ∃ (k : Nat) (lk : List UInt8), k ≤ 32 ∧ i = .int .i64 k ∧ lk.length = n ∧ le lk = le X ^^^ (2 ^ at_ * (bits % 2 ^ k)) ∧ Hid (wr.ownsRow w.heap.size 5 1 (.slice A2 n c2) n (bv lk)) ∧ v = .bool (decide (bits % 2 ^ k ≠ 0)) ∧ Hid (Below w.heap.size w wr)) (fun _ i _ => 32 - (intOf i).toNat)
    case atStart => exact ⟨0, X, by omega, rfl, HN.out.symm, by simp [Nat.mod_one], HO5, by simp [Nat.mod_one], HB5⟩
    case round =>
      obtain ⟨k, lk, hk, rfl, hlk, hle, hown, rfl, hbr⟩ := hrel
      have HLE := Lib.hid hle
      have HLK := Lib.hid hlk
      by_cases hgo : k < 32 ∧ at_ + k < 8 * n
      · obtain ⟨hk3, hk4⟩ := hgo
        have hi1 : (at_ + k) / 8 < n := by omega
        obtain ⟨gg, rfl⟩ : ∃ g, A2 = some ⟨g, 0, none⟩ := by
          obtain ⟨g, cap, hv, _, _⟩ := hown.out.form (by omega)
          injection hv with h1
          exact ⟨g, h1⟩
        have hcell := hown.out.cellAt ((at_ + k) / 8) (by omega)
        rw [bv_get lk _ (by omega)] at hcell
        have hfro := hown.out.frozenAt ((at_ + k) / 8)
        have hset := le_set lk ((at_ + k) / 8) (by omega) ((at_ + k) % 8) (by omega)
        have HSET := Lib.hid hset
        have hyb := lk[(at_ + k) / 8].toNat_lt
        clear hset
        generalize hy : lk[(at_ + k) / 8] = y at *
        clear hy
        clear hle hlk hk
        generalize hsm : decide (bits % 2 ^ k ≠ 0) = sm at *
        have HSM := Lib.hid (show Value.bool sm = .bool (decide (bits % 2 ^ k ≠ 0)) by rw [hsm])
        clear hsm
        generalize hyn : y.toNat = yn at *
        have HYN := Lib.hid hyn
        clear hyn
        have hbt : Go.bits .and .u32 ((bits : Int) / 2 ^ k) 1 = ((bits / 2 ^ k % 2 : Nat) : Int) := by
          rw [show ((bits : Int) / 2 ^ k) = ((bits / 2 ^ k : Nat) : Int) by simp]
          exact u32_and1 _ (Nat.lt_of_le_of_lt (Nat.div_le_self _ _) hbit)
        have hst : Go.bits .xor .u8 (yn : Int) ((2 : Int) ^ ((at_ + k) % 8) % 256) = ((yn ^^^ 2 ^ ((at_ + k) % 8) : Nat) : Int) := by
          have hp : (2 : Nat) ^ ((at_ + k) % 8) < 256 := Nat.lt_of_lt_of_le (Nat.pow_lt_pow_right (by omega) (show (at_ + k) % 8 < 8 by omega)) (by decide)
          rw [show ((2 : Int) ^ ((at_ + k) % 8) % 256) = ((2 ^ ((at_ + k) % 8) : Nat) : Int) by
            rw [show ((2 : Int) ^ ((at_ + k) % 8)) = ((2 ^ ((at_ + k) % 8) : Nat) : Int) by simp]
            exact Int.emod_eq_of_lt (Int.natCast_nonneg _) (Int.ofNat_lt.2 hp)]
          exact u8_xor_nat _ _ hyb hp
        have HB0 : Hid (bits / 2 ^ k % 2 = 0 → bits % 2 ^ (k + 1) = bits % 2 ^ k) := burst_zero bits k
        have HB1 : Hid (bits / 2 ^ k % 2 = 1 → bits % 2 ^ (k + 1) ≠ 0) := burst_pos bits k
        have HB2 : Hid (bits / 2 ^ k % 2 = 1 → le X ^^^ (2 ^ at_ * (bits % 2 ^ k)) ^^^ 2 ^ (at_ + k) = le X ^^^ (2 ^ at_ * (bits % 2 ^ (k + 1)))) := burst_succ (le X) at_ bits k
        have ht2 : bits / 2 ^ k % 2 < 2 := by omega
        have i4 : (at_ : Int) + (k : Int) < 8 * (n : Int) := by omega
        generalize bits / 2 ^ k % 2 = t at *
        by_cases ht : t = 1
        · subst ht
          go_wp2_with fail
          go_region
          have hst2 := (hown.out.stored ((at_ + k) / 8) (.int .u8 ((yn ^^^ 2 ^ ((at_ + k) % 8) : Nat) : Int))).1
          have hB3 := Lib.hid ((hbr.out.setCell (p := ⟨gg, (at_ + k) / 8, none⟩) (hown.out.lt gg rfl).1 (.int .u8 ((yn ^^^ 2 ^ ((at_ + k) % 8) : Nat) : Int))).drew)
          have hst3 := Lib.hid hst2.drew
          clear hst2 hst hbt hcell hfro
          generalize (wr.setCell ⟨gg, (at_ + k) / 8, none⟩ (.int .u8 ((yn ^^^ 2 ^ ((at_ + k) % 8) : Nat) : Int))).drew = w3 at *
          go_wp2
          go_roundw
          case rel =>
            refine ⟨k + 1, lk.set ((at_ + k) / 8) (y ^^^ UInt8.ofNat (2 ^ ((at_ + k) % 8))), by omega, by go_num, by rw [List.length_set]; exact HLK.out, ?_, ?_, ?_, hB3⟩
            · rw [HSET.out, HLE.out, show 8 * ((at_ + k) / 8) + (at_ + k) % 8 = at_ + k by omega]
              exact HB2.out trivial
            · have he : (bv lk).set ((at_ + k) / 8) (.int .u8 ((yn ^^^ 2 ^ ((at_ + k) % 8) : Nat) : Int)) = bv (lk.set ((at_ + k) / 8) (y ^^^ UInt8.ofNat (2 ^ ((at_ + k) % 8)))) := by
                unfold bv
                rw [List.map_set]
                congr 2
                rw [UInt8.toNat_xor, HYN.out, UInt8.toNat_ofNat', Nat.mod_eq_of_lt (show 2 ^ ((at_ + k) % 8) < 2 ^ 8 from Nat.pow_lt_pow_right (by omega) (by omega))]
              rw [← he]
              exact hst3
            · rw [decide_eq_true (HB1.out trivial)]
          case measure => simp [intOf]; omega
        · obtain rfl : t = 0 := by omega
          clear ht
          go_wp2
          go_roundw
          case rel => exact ⟨k + 1, lk, by omega, by go_num, HLK.out, by rw [HB0.out rfl]; exact HLE.out, hown, by rw [HB0.out rfl]; exact HSM.out, hbr⟩
          case measure => simp [intOf]; omega
      · have hE := HBU.out lk at_ (bits % 2 ^ k) hlk (by omega) (Nat.lt_of_le_of_lt (Nat.mod_le _ _) hbit) hle
        have q := unpackI_any A2 c2 lk (by omega) (by rw [hlk]; exact hcap) wr (Reads.of_own hown.out)
        rw [hlk] at q
        obtain ⟨sm, hsm⟩ : ∃ sm, sm = decide (bits % 2 ^ k ≠ 0) := ⟨_, rfl⟩
        rw [← hsm]
        obtain ⟨⟨UL, G⟩, hU⟩ : ∃ U, U = upE lk := ⟨_, rfl⟩
        rw [← hU] at hE q
        have dG : (G == 4) = sm := by
          have hE : G = if bits % 2 ^ k = 0 then 0 else 4 := hE
          rw [hE, hsm]
          by_cases h0 : bits % 2 ^ k = 0
          · rw [if_pos h0, decide_eq_false (fun h => h h0)]; rfl
          · rw [if_neg h0, decide_eq_true h0]; rfl
        have Q := Lib.hid q
        clear q hU hE hsm hle hlk HLE HLK hown
        have hex : k < 32 ∧ ¬ at_ + k < 8 * n ∨ k = 32 := by omega
        clear hgo
        rcases hex with ⟨hk3, hk4⟩ | rfl
        all_goals
          go_wp2_with fail
          refine Q.out.mono ?_
          rintro e W6 ⟨v6, rfl, hb6, -, -⟩
          have HB6 := Lib.hid (below_then hbr.out hb6)
          have K7 := Lib.hid (HTAIL.out _ HB6.out)
          clear hb6 Q hbr
          go_wp2_with fail
          refine K7.out.mono ?_
          rintro e W7 ⟨v7, rfl, hb7, h70, h71⟩
          have HB7 := Lib.hid (below_then HB6.out hb7)
          clear hb7 K7 HTAIL dG
          by_cases hE1 : (upE l1).2 = 0
          · obtain ⟨g7, A7, c7, rfl, hI7⟩ := h70 hE1
            obtain ⟨hp1, hp2, -⟩ := pack_up (b := l1) (L := (upE l1).1) (Prod.ext rfl hE1)
            have K8 := ipack_any hI7
            rw [blks_back hp2, hp1] at K8
            rw [hE1]
            have K8 := Lib.hid K8
            clear h70 h71 hp1 hp2 hI7 hE1
            go_wp2_with fail
            refine K8.out.mono ?_
            rintro e W8 ⟨A8, c8, rfl, hown8, hb8⟩
            rw [bv_len] at hown8
            rw [bv_len]
            have HB8 := Lib.hid (below_then HB7.out hb8)
            have cv1 := run_conv_bytes (P := Try.prog) W8 43 9 5 Try.underlying43 Try.underlying5 Try.underlying9 l1.length c8 rfl (Reads.of_own hown8)
            have cv2 := run_conv_bytes (P := Try.prog) W8 43 9 5 Try.underlying43 Try.underlying5 Try.underlying9 l1.length c1 rfl (HR1.out.ext HB8.out)
            clear hown8 hb8 K8
            go_wp2_with fail
            refine (lives45 _).mono ?_
            rintro e W9 ⟨rfl, hb9⟩
            have HB9 := below_then HB8.out hb9
            go_wp2
            go_ret
            exact ⟨rfl, HB9⟩
          · obtain rfl : v7 = none := h71 hE1
            obtain ⟨E, hE⟩ : ∃ E, E = (upE l1).2 := ⟨_, rfl⟩
            rw [← hE] at hE1 ⊢
            have d7 : (E != 0) = true := by rw [bne_iff_ne]; exact hE1
            clear h70 h71 hE hE1
            go_wp2_with fail
            refine (lives45 _).mono ?_
            rintro e W9 ⟨rfl, hb9⟩
            have HB9 := below_then HB7.out hb9
            go_wp2
            go_ret
            exact ⟨rfl, HB9⟩
end Go.Proofs.Ytcnalndhlonblaa
