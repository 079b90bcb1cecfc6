/-
  Chapter 45: Pack, walked.
-/
import Derived.Test.YtcnalndhlonblaaPk1
import Derived.Test.YtcnalndhlonblaaPkP2
import Derived.Test.YtcnalndhlonblaaSq6
import Derived.Test.YtcnalndhlonblaaBase7
import Derived.Lib.SlBytesConst
namespace Go.Proofs.Ytcnalndhlonblaa
open Go.RowKit
attribute [local go_sem ↓] Go.wp_at_zero Go.wp_at_succ
/-- bytes of the call's own, of that length, beside the number 0 -/
def GivesB (bs : List UInt8) (m : Nat) (w : World) (en : Ending) (w' : World) : Prop :=
  ∃ A c, en = .returned (.tuple #[.slice A m c, .int .i64 0]) ∧ Hid (w'.ownsRow w.heap.size 5 1 (.slice A m c) m (bv bs)) ∧ Hid (Below w.heap.size w w')
theorem fits_w {x n : Nat} (hx : x = 2 ∨ x = 4) (h : n < 256 ^ x) : knownB (x : Int) = true ∧ fitsB (n : Int) (x : Int) = true ∧ (Lit.int .i64 (n : Int)).wf = true := by
  rcases hx with rfl | rfl
  · refine ⟨by decide, ?_, ?_⟩
    · unfold fitsB; simp; omega
    · simp [Lit.wf, IntKind.min, IntKind.max, IntKind.bits, IntKind.signed]; omega
  · refine ⟨by decide, ?_, ?_⟩
    · unfold fitsB; simp; omega
    · simp [Lit.wf, IntKind.min, IntKind.max, IntKind.bits, IntKind.signed]; omega
theorem cpack1 {x n : Nat} (hx : x = 2 ∨ x = 4) (h : n < 256 ^ x) (w : World) :
    Calls Try.prog 42 #[.slice (some ⟨w.heap.size, 0, none⟩) 1 1] (w.alloc (.cells #[.int .i64 (x : Int), .int .i64 (n : Int)] 87)) (GivesB (leb x n) x w) := by
  obtain ⟨f1, f2, f3⟩ := fits_w hx h
  have e0 : packE [((x : Int), (n : Int))] = 0 := by unfold packE; rw [if_pos f1, if_pos f2]; rfl
  have e1 : packV [((x : Int), (n : Int))] = leb x n := by unfold packV; rw [if_pos e0]; simp [packB]
  have hR : Reads2 (w.alloc (.cells #[.int .i64 (x : Int), .int .i64 (n : Int)] 87)) (w.heap.size + 1) (some ⟨w.heap.size, 0, none⟩) [((x : Int), (n : Int))] := fun _ => by
    refine ⟨_, 0, rfl, Nat.lt_succ_self _, fun j p hj => ?_⟩
    have hjl := (List.getElem?_eq_some_iff.1 hj).1
    simp at hjl
    subst hjl
    rw [World.cell?_alloc_mark, World.cell?_alloc_mark]
    simp at hj
    subst hj
    exact ⟨rfl, rfl⟩
  refine (pack_any _ 1 [((x : Int), (n : Int))] _ (by simp [reachBytes]) (fun p hp => by simp at hp; subst hp; exact f3) (hR.more (by simp))).mono ?_
  rintro e w' ⟨A, c, rfl, hown, hb⟩
  rw [e0, e1]
  rw [e1, bv_len, leb_len] at hown
  rw [bv_len, leb_len]
  exact ⟨A, c, rfl, Lib.hid (own_mono hown (by simp)), Lib.hid (below_then (below_alloc1 w _) hb)⟩
theorem cpack2 {x n y m : Nat} (hx : x = 2 ∨ x = 4) (h : n < 256 ^ x) (hy : y = 2 ∨ y = 4) (h' : m < 256 ^ y) (w : World) :
    Calls Try.prog 42 #[.slice (some ⟨w.heap.size, 0, none⟩) 2 2] (w.alloc (.cells #[.int .i64 (x : Int), .int .i64 (n : Int), .int .i64 (y : Int), .int .i64 (m : Int)] 87)) (GivesB (leb x n ++ leb y m) (x + y) w) := by
  obtain ⟨f1, f2, f3⟩ := fits_w hx h
  obtain ⟨g1, g2, g3⟩ := fits_w hy h'
  have e0 : packE [((x : Int), (n : Int)), ((y : Int), (m : Int))] = 0 := by unfold packE; rw [if_pos f1, if_pos f2]; unfold packE; rw [if_pos g1, if_pos g2]; rfl
  have e1 : packV [((x : Int), (n : Int)), ((y : Int), (m : Int))] = leb x n ++ leb y m := by unfold packV; rw [if_pos e0]; simp [packB]
  have hR : Reads2 (w.alloc (.cells #[.int .i64 (x : Int), .int .i64 (n : Int), .int .i64 (y : Int), .int .i64 (m : Int)] 87)) (w.heap.size + 1) (some ⟨w.heap.size, 0, none⟩) [((x : Int), (n : Int)), ((y : Int), (m : Int))] := fun _ => by
    refine ⟨_, 0, rfl, Nat.lt_succ_self _, fun j p hj => ?_⟩
    have hjl := (List.getElem?_eq_some_iff.1 hj).1
    simp at hjl
    have : j = 0 ∨ j = 1 := by omega
    rw [World.cell?_alloc_mark, World.cell?_alloc_mark]
    rcases this with h | h <;> subst h <;> simp at hj <;> subst hj <;> exact ⟨rfl, rfl⟩
  refine (pack_any _ 2 [((x : Int), (n : Int)), ((y : Int), (m : Int))] _ (by simp [reachBytes]) (fun p hp => by simp at hp; rcases hp with rfl | rfl; exact f3; exact g3) (hR.more (by simp))).mono ?_
  rintro e w' ⟨A, c, rfl, hown, hb⟩
  rw [e0, e1]
  rw [e1, bv_len, List.length_append, leb_len, leb_len] at hown
  rw [bv_len, List.length_append, leb_len, leb_len]
  exact ⟨A, c, rfl, Lib.hid (own_mono hown (by simp)), Lib.hid (below_then (below_alloc1 w _) hb)⟩
theorem own_away {w : World} {B e n : Nat} {v : Value} {xs : List Value} (h : w.ownsRow B e 1 v n xs) {r : Option Nat} (hr : ∀ k, r = some k → k < B) : v.ownBlock = none ∨ v.ownBlock ≠ r := by
  rcases h.2 with ⟨rfl, _⟩ | ⟨g, cap, cur, rfl, hg, _⟩
  · exact .inl rfl
  · exact .inr fun e => by
      have := hr g e.symm
      omega
theorem ipack_nil (w : World) : Calls Try.prog 22 #[.pointer none] w fun e w' => e = .returned (.tuple #[.slice none 0 0, .int .i64 18]) ∧ w = w' := by
  go_enter Try.func22, Try.ntmps22
  go_wp2
  go_ret2
  exact ⟨rfl, rfl⟩
theorem ivn_get (l : List Nat) {k : Nat} (h : k < l.length) : (ivn l)[k]? = some (.int .i64 ((l.getD k 0 : Nat) : Int)) := by
  unfold ivn
  rw [List.getElem?_map, List.getElem?_eq_getElem h, List.getD_eq_getElem?_getD, List.getElem?_eq_getElem h]
  rfl
set_option maxRecDepth 100000 in
set_option maxHeartbeats 4000000 in
theorem ipack_any {w : World} {B g : Nat} {A : Option Addr} {c : Nat} {bs : List UInt8} (h : Img w B g A c bs) :
    Calls Try.prog 22 #[.pointer (some ⟨g, 0, none⟩)] w (GivesE 5 (bv (pkB (blksL bs))) 0 w) := by
  obtain ⟨i0, hi, hz0, hz1, hz2⟩ := info_parts Try.infoByte
  have HI := Lib.hid h
  obtain ⟨N, hN⟩ : ∃ N, N = bs.length / 256 := ⟨_, rfl⟩
  have HN := Lib.hid hN
  have hN2 : N ≤ 14400 := by have := h.2.2.1; omega
  obtain ⟨L, hL⟩ : ∃ L, L = blksL bs := ⟨_, rfl⟩
  have HL := Lib.hid hL
  rw [← hL]
  have HLN := Lib.hid (show L.length = N by rw [hL, blksL_len, ← hN])
  have HUS := Lib.hid (used_any h)
  rw [← hL] at HUS
  have HBL := Lib.hid (show ∀ i, i < N → (L.getD i []).length = 256 ∧ irdB bs (i : Int) = L.getD i [] ∧ irdE bs.length (i : Int) = 0 from fun i hi => by
    rw [hN] at hi
    have hE : irdE bs.length (i : Int) = 0 := irdE_zero.2 ⟨by omega, by omega⟩
    exact ⟨by rw [hL]; exact blksL_each bs i hi, by unfold irdB; rw [if_pos hE, hL, blksL_at bs i hi]; rfl, hE⟩)
  obtain ⟨U, hU⟩ : ∃ U, U = usedL L := ⟨_, rfl⟩
  rw [← hU] at HUS
  have HU := Lib.hid hU
  have hul : U.length ≤ N := by rw [hU, ← HLN.out]; exact usedL_le L
  have HULT := Lib.hid (show ∀ k, k < U.length → U.getD k 0 < N ∧ U[k]? = some (U.getD k 0) from fun k hk => by
    have e : U[k]? = some (U.getD k 0) := by rw [List.getD_eq_getElem?_getD, List.getElem?_eq_getElem hk]; rfl
    refine ⟨?_, e⟩
    rw [← HLN.out]
    have := usedN_lt L L.length (U.getD k 0) (by rw [show usedN L L.length = U from hU.symm]; exact List.mem_of_getElem? e)
    exact this)
  clear h hN hL hU
  obtain ⟨M, hM⟩ : ∃ M, M = U.length := ⟨_, rfl⟩
  have HM := Lib.hid hM
  rw [← hM] at hul HULT
  clear hM
  have kc := fun (w : World) (C : Array Value) (n c : Nat) => Lib.run_convert_bytes_const (P := Try.prog) w 43 5 C n c Try.underlying43 Try.underlying5
  go_enter Try.func22, Try.ntmps22
  go_wp2_with fail
  refine HUS.out.mono ?_
  rintro e w1 ⟨A1, c1, rfl, hown1, hb1⟩
  rw [ivn_len, ← HM.out] at hown1 ⊢
  have HI1 := Lib.hid (HI.out.below hb1)
  have HB1 := Lib.hid hb1
  have HR1 := Lib.hid (Reads.of_own hown1)
  have HK2 := Lib.hid (cpack2 (x := 4) (n := N) (y := 4) (m := M) (.inr rfl) (by omega) (.inr rfl) (by omega) w1)
  clear hown1 hb1 HUS HI
  go_wp2_with fail
  refine (blocks_any HI1.out).mono ?_
  rw [← HN.out]
  rintro e w2 ⟨rfl, rfl⟩
  go_wp2_with fail
  refine HK2.out.mono ?_
  rintro e w2 ⟨A2, c2, rfl, HO2, HB2⟩
  have HOm := Lib.hid (Hold.const w2 w1.heap.size 5 [.int .u8 83, .int .u8 67, .int .u8 65, .int .u8 78, .int .u8 80, .int .u8 65, .int .u8 67, .int .u8 75] (8, 9) (by decide) (by decide))
  have HR2 := Lib.hid ((Reads.of_own HO2.out).alloc (Nat.le_refl _) (.cells #[.int .u8 83, .int .u8 67, .int .u8 65, .int .u8 78, .int .u8 80, .int .u8 65, .int .u8 67, .int .u8 75] 5 (8, 9)))
  have HB2a := Lib.hid (HB2.out.alloc HB2.out.size (.cells #[.int .u8 83, .int .u8 67, .int .u8 65, .int .u8 78, .int .u8 80, .int .u8 65, .int .u8 67, .int .u8 75] 5 (8, 9)))
  have HLL := Lib.hid (show 8 = (bv (leb 4 N ++ leb 4 M)).length by rw [bv_len, List.length_append, leb_len, leb_len])
  have HLM := Lib.hid (show [Value.int .u8 83, .int .u8 67, .int .u8 65, .int .u8 78, .int .u8 80, .int .u8 65, .int .u8 67, .int .u8 75] ++ bv (leb 4 N ++ leb 4 M) = bv (headB L) by
    unfold headB
    rw [HLN.out, ← HU.out, ← HM.out, bv_append magicB]
    rfl)
  go_wp2_with (at_builtin; refine wpList_append_hold rfl (.tmp 33) (.tmp 34) _ rfl w1.heap.size 5 i0 _ 1 Try.underlying43 hi hz0 hz1 hz2 rfl _ 8 _ rfl HOm.out _ _ 8 _ (bv (leb 4 N ++ leb 4 M)) rfl HLL.out (by decide) HR2.out (bv_one _) (by simp only [maxLen]; omega) (by omega) HB2a.out.size ?_; intro A7 c7 w7 hown7 hb7; rw [HLM.out] at hown7; have HO7 := Lib.hid hown7; have HB7 := Lib.hid (HB2a.out.trans hb7); clear hown7 hb7)
  have HSQ := Lib.hid (fun (W : World) (A' : Option Addr) (c' : Nat) (x : List UInt8) (h : x.length = 256) (hr : Reads W W.heap.size A' (bv x)) => squeeze_any A' c' x (by omega) W hr)
  have HBN := Lib.hid (show ∀ i, i < M → bodyB L (i + 1) = bodyB L i ++ (leb 4 (U.getD i 0) ++ leb 2 (squeezeL (L.getD (U.getD i 0) [])).length ++ squeezeL (L.getD (U.getD i 0) [])) from fun i hi => by
    rw [bodyB_next L (x := U.getD i 0) (by rw [← HU.out]; exact (HULT.out i hi).2)]; rfl)
  clear HK2 HO2 HOm HR2 HB2a HLL HLM kc
  go_loopw [7, 9, 10, 11, 12, 13, 14, 38] (fun s7 _ _ _ _ _ _ s38 wr => ∃ (i mo : Nat) (A8 : Option Addr) (c8 : Nat), s7 = .slice A8 mo c8 ∧ s38 = .int .i64 (i : Int) ∧ i ≤ M ∧ mo ≤ 16 + 65542 * i ∧ Hid (wr.ownsRow w1.heap.size 5 1 (.slice A8 mo c8) mo (bv (headB L ++ bodyB L i))) ∧ Hid (Below w1.heap.size w1 wr)) (fun _ _ _ _ _ _ _ s38 _ => M - (intOf s38).toNat)
  case atStart => exact ⟨0, 16, A7, c7, rfl, rfl, by omega, by omega, Lib.hid (by rw [bodyB_zero, List.append_nil]; exact HO7.out), HB7⟩
  case round =>
    obtain ⟨i, mo, A8, c8, rfl, rfl, hi', hmo, HO, HB⟩ := hrel
    by_cases hlt : i < M
    · obtain ⟨hx, -⟩ := HULT.out i hlt
      have HBI := Lib.hid (HBN.out i hlt)
      obtain ⟨ad, rfl, hab, hcell⟩ := (HR1.out.below HB.out).at_ (k := i) (by rw [ivn_len, ← HM.out]; exact hlt)
      have hg := ivn_get U (k := i) (by rw [← HM.out]; exact hlt)
      rw [List.getElem?_eq_getElem (by rw [ivn_len, ← HM.out]; exact hlt)] at hg
      injection hg with hg
      rw [hg] at hcell
      have HG := Lib.hid hg
      clear hg
      obtain ⟨x, hxe⟩ : ∃ x, x = U.getD i 0 := ⟨_, rfl⟩
      rw [← hxe] at hx hcell HBI
      clear hxe HG
      obtain ⟨h256, hrd, hre⟩ := HBL.out x hx
      have hrd' := iread_any (HI1.out.below HB.out) (x : Int)
      rw [hrd, hre] at hrd'
      obtain ⟨bk, hbk⟩ : ∃ bk, bk = L.getD x [] := ⟨_, rfl⟩
      rw [← hbk] at hrd' h256 HBI
      have HRD := Lib.hid hrd'
      have H256 := Lib.hid h256
      have HSL := Lib.hid (show (squeezeL bk).length < 65536 from (sq_small h256).1)
      clear hrd hre hrd' h256 hbk
      have i1 : (i : Int) < (M : Int) := by omega
      go_wp2_with fail
      refine HRD.out.mono ?_
      rintro e w3 ⟨A3, c3, rfl, hown3, hb3⟩
      have HB3 := Lib.hid (HB.out.trans (hb3.mono HB.out.size))
      have HO3 := Lib.hid (own_keep HO.out hb3)
      have HLT := Lib.hid (show ∀ k, (Value.slice A8 mo c8).ownBlock = some k → k < w3.heap.size from fun k hk => (HO3.out.lt k hk).2)
      have HS3 := Lib.hid (HSQ.out _ A3 c3 bk H256.out (Reads.of_own hown3))
      rw [H256.out] at HS3
      rw [bv_len, H256.out]
      clear hown3 hb3 HO HRD HB
      go_wp2_with fail
      refine HS3.out.mono ?_
      rintro e w4 ⟨A4, c4, rfl, hown4, hb4⟩
      rw [bv_len] at hown4 ⊢
      have HB4 := Lib.hid (HB3.out.trans (hb4.mono HB3.out.size))
      have HO4 := Lib.hid (own_keep HO3.out hb4)
      have HR4 := Lib.hid hown4
      obtain ⟨sl, hsl⟩ : ∃ sl, sl = (squeezeL bk).length := ⟨_, rfl⟩
      rw [← hsl] at HBI HSL HR4 ⊢
      have HSE := Lib.hid hsl
      have hs65 : sl < 65536 := HSL.out
      have HK4 := Lib.hid (cpack2 (x := 4) (n := x) (y := 2) (m := sl) (.inr rfl) (by omega) (.inl rfl) (by omega) w4)
      clear hown4 hb4 HS3 HO3 HB3 hsl
      go_wp2_with fail
      refine HK4.out.mono ?_
      rintro e w5 ⟨A5, c5, rfl, HOb, HBb⟩
      have HB5 := Lib.hid (HB4.out.trans (HBb.out.mono HB4.out.size))
      have HO5 := Lib.hid (own_keep HO4.out HBb.out)
      have HR5 := Lib.hid (Reads.of_own HOb.out)
      have HS5 := Lib.hid (own_keep HR4.out HBb.out)
      have HL5 := Lib.hid (show 4 + 2 = (bv (leb 4 x ++ leb 2 sl)).length by rw [bv_len, List.length_append, leb_len, leb_len])
      have HL6 := Lib.hid (show sl = (bv (squeezeL bk)).length by rw [bv_len]; exact HSE.out)
      clear HO4 HOb HB4 HK4 HR4
      go_wp2_with (at_builtin; first
        | (refine wpList_append_to _ rfl (.tmp 60) (.tmp 61) _ rfl w1.heap.size 5 i0 _ 1 Try.underlying43 hi hz0 hz1 hz2 rfl _ mo (bv (headB L ++ bodyB L i)) rfl HO5.out _ _ (4 + 2) _ (bv (leb 4 x ++ leb 2 sl)) rfl HL5.out HR5.out (bv_one _) (by simp only [maxLen]; omega) (by omega) HB5.out.size ?_; intro A8 c8 w8 hown8 hg8 hb8 hl8; have HO8 := Lib.hid hown8; have HB8 := Lib.hid (HB5.out.trans hb8); have HS8 := Lib.hid (Reads.of_own (HS5.out.kept hg8 (own_away HS5.out (fun k hk => HLT.out k hk)))); clear hown8 hg8 hb8 hl8)
        | (refine wpList_append_to _ rfl (.tmp 62) (.tmp 63) _ rfl w1.heap.size 5 i0 _ 1 Try.underlying43 hi hz0 hz1 hz2 rfl _ (mo + (4 + 2)) (bv (headB L ++ bodyB L i) ++ bv (leb 4 x ++ leb 2 sl)) rfl HO8.out _ _ sl _ (bv (squeezeL bk)) rfl HL6.out HS8.out (bv_one _) (by simp only [maxLen]; omega) (by omega) HB8.out.size ?_; intro A9 c9 w9 hown9 hg9 hb9 hl9; have HO9 := Lib.hid hown9; have HB9 := Lib.hid (HB8.out.trans hb9); clear hown9 hg9 hb9 hl9))
      go_roundw
      case rel =>
        refine ⟨i + 1, mo + (4 + 2) + sl, A9, c9, rfl, by go_num, by omega, by omega, Lib.hid ?_, HB9⟩
        have h9 := HO9.out
        rw [← bv_append, ← bv_append, List.append_assoc, List.append_assoc, ← HBI.out] at h9
        exact h9
      case measure => simp [intOf]; omega
    · obtain rfl : i = M := by omega
      have HPK := Lib.hid (show pkB L = (headB L ++ bodyB L i) ++ leb 4 (crcM 0 (headB L ++ bodyB L i)) by
        unfold pkB sumB
        rw [← HU.out, ← HM.out])
      have HMO := Lib.hid (own_lenX HO.out)
      obtain ⟨D, hD⟩ : ∃ D, D = headB L ++ bodyB L i := ⟨_, rfl⟩
      rw [← hD] at HO HPK HMO
      have hmd : mo = D.length := by have := HMO.out; rw [bv_len] at this; exact this
      have HMD := Lib.hid hmd
      have hR := Reads.of_own HO.out
      have HK5 := Lib.hid (sum_any (some ⟨wr.heap.size, 0, none⟩) 1 1 [D] _ rfl (by simp [maxLen]) ((Pieces.one 43 mo c8 hmd hR (by simp only [maxLen]; omega)).more (by simp)))
      rw [show [D].flatten = D by simp] at HK5
      have hcl := crcM_lt 0 (by omega) D
      obtain ⟨q, hq⟩ : ∃ q, q = crcM 0 D := ⟨_, rfl⟩
      rw [← hq] at HK5 HPK hcl
      have HCL := Lib.hid hcl
      clear hD hmd hR hcl hq
      go_wp2_with fail
      refine HK5.out.mono ?_
      rintro e w3 ⟨rfl, hb3⟩
      have hb3 := below_then (below_alloc1 wr _) hb3
      have HB3 := Lib.hid (HB.out.trans (hb3.mono HB.out.size))
      have HO3 := Lib.hid (own_keep HO.out hb3)
      have HK6 := Lib.hid (cpack1 (x := 4) (n := q) (.inr rfl) HCL.out w3)
      clear hb3 HK5 HB HO
      go_wp2_with fail
      refine HK6.out.mono ?_
      rintro e w4 ⟨A4, c4, rfl, HO4, HB4⟩
      have HB5 := Lib.hid (HB3.out.trans (HB4.out.mono HB3.out.size))
      have HO5 := Lib.hid (own_keep HO3.out HB4.out)
      have HR5 := Lib.hid (Reads.of_own HO4.out)
      have HL5 := Lib.hid (show 4 = (bv (leb 4 q)).length by rw [bv_len, leb_len])
      clear HO3 HO4 HK6 HB4
      go_wp2_with (at_builtin; refine wpList_append_to _ rfl (.tmp 75) (.tmp 76) _ rfl w1.heap.size 5 i0 _ 1 Try.underlying43 hi hz0 hz1 hz2 rfl _ mo (bv D) rfl HO5.out _ _ 4 _ (bv (leb 4 q)) rfl HL5.out HR5.out (bv_one _) (by simp only [maxLen]; omega) (by omega) HB5.out.size ?_; intro A8 c8 w8 hown8 hg8 hb8 hl8; have HO8 := Lib.hid hown8; have HB8 := Lib.hid (HB5.out.trans hb8); clear hown8 hg8 hb8 hl8)
      go_ret2
      have hln : mo + 4 = (bv (pkB L)).length := by rw [bv_len, HPK.out, List.length_append, leb_len, ← HMD.out]
      have h9 := HO8.out
      rw [← bv_append, ← HPK.out] at h9
      rw [hln] at h9
      exact ⟨A8, c8, by rw [← hln]; rfl, own_mono h9 HB1.out.size, HB1.out.trans (HB8.out.mono HB1.out.size)⟩
end Go.Proofs.Ytcnalndhlonblaa
