/-
  Chapter 45: the reference's Used, Sealed and Pack, walked.
-/
import Derived.Test.YtcnalndhlonblaaPk3
import Derived.Test.YtcnalndhlonblaaImgR2
import Derived.Test.YtcnalndhlonblaaBase4
import Derived.Test.YtcnalndhlonblaaSq8
import Derived.Test.YtcnalndhlonblaaRef1
namespace Go.Proofs.Ytcnalndhlonblaa
open Go.RowKit
attribute [local go_sem ↓] Go.wp_at_zero Go.wp_at_succ
set_option maxRecDepth 100000 in
set_option maxHeartbeats 2000000 in
theorem rused_any {w : World} {B g : Nat} {A : Option Addr} {c : Nat} {L : List (List UInt8)} (h : RImg w B g A c L) (hE : Each L) :
    Calls Try.prog 25 #[.pointer (some ⟨g, 0, none⟩)] w (Gives 3 (ivn (usedL L)) w) := by
  obtain ⟨i0, hi, hz0, hz1, hz2⟩ := info_parts Try.infoI45
  have HI := Lib.hid h
  obtain ⟨N, hN⟩ : ∃ N, N = L.length := ⟨_, rfl⟩
  have HN := Lib.hid hN
  have hN2 : N ≤ 14400 := by have := h.2.2.1; omega
  have HU := Lib.hid (show usedL L = usedN L N by rw [hN]; rfl)
  have HUN := Lib.hid (show ∀ k, usedN L (k + 1) = if zeroB (L.getD k []) = true then usedN L k else usedN L k ++ [k] from fun k => rfl)
  have HFM := Lib.hid (fun (W : World) (hb : Below w.heap.size w W) (k : Nat) (hk : k < N) => (show ∃ h0, A = some ⟨h0, 0, none⟩ ∧ W.cell? ⟨h0, k, none⟩ = some (.string ⟨(L.getD k []).toArray⟩) ∧ (L.getD k []).length = 256 from by
    have h' := h.below hb
    obtain ⟨h0, hA, hcap⟩ := h'.form (by omega)
    have e : L.getD k [] = L[k] := by rw [List.getD_eq_getElem?_getD, List.getElem?_eq_getElem (by omega)]; rfl
    refine ⟨h0, hA, ?_, getD_each hE (by omega)⟩
    have hr := h'.2.1
    rw [hA] at hr
    rw [hr.cellAt k (by omega), e]
    exact sv_get L k (by omega)))
  have HFC := Lib.hid (fun (W : World) (hb : Below w.heap.size w W) => (show W.cell? ⟨g, 0, none⟩ = some (.slice A N c) by have := (h.below hb).cell; rw [← hN] at this; exact this))
  clear h hN hE
  go_enter Try.func25, Try.ntmps25
  go_wp2_with fail
  go_loopw [3, 4] (fun s3 s4 wr => ∃ (k m : Nat) (A1 : Option Addr) (c1 : Nat), s3 = .slice A1 m c1 ∧ s4 = .int .i64 (k : Int) ∧ k ≤ N ∧ m ≤ k ∧ Hid (wr.ownsRow w.heap.size 3 1 (.slice A1 m c1) m (ivn (usedN L k))) ∧ Hid (Below w.heap.size w wr)) (fun _ s4 _ => N - (intOf s4).toNat)
  case atStart => exact ⟨0, 0, none, 0, rfl, rfl, by omega, by omega, Lib.hid (World.ownsRow_nil _ _ _ _), Lib.hid (Below.refl _ _)⟩
  case round =>
    obtain ⟨k, m, A1, c1, rfl, rfl, hk, hm, HO, HB⟩ := hrel
    have q0 := HFC.out wr HB.out
    by_cases hlt : k < N
    · obtain ⟨h0, rfl, hcell, h256⟩ := HFM.out wr HB.out k hlt
      have HUS := Lib.hid (HUN.out k)
      obtain ⟨x, hx⟩ : ∃ x, x = L.getD k [] := ⟨_, rfl⟩
      rw [← hx] at hcell h256 HUS
      obtain ⟨cc, O, hcv, hR, hcl⟩ := run_str_bytes (P := Try.prog) wr 9 43 5 x Try.underlying9 Try.underlying43 Try.underlying5
      have HBel := Lib.hid (show Below w.heap.size w (wr.drew.alloc O) from HB.out.drew.alloc HB.out.size O)
      have HO2 := Lib.hid (show (wr.drew.alloc O).ownsRow w.heap.size 3 1 (.slice A1 m c1) m (ivn (usedN L k)) from HO.out.drew.alloc O)
      have HZ := Lib.hid (rzero_any (some ⟨wr.heap.size, 0, none⟩) cc x (wr.drew.alloc O) _ (by rw [h256]; decide) hR)
      rw [h256] at HZ hcv
      have i1 : (k : Int) < (N : Int) := by omega
      clear hx h256 hR hcl
      go_wp2_with fail
      refine HZ.out.mono ?_
      rintro e w3 ⟨rfl, e3⟩
      have HB3 := Lib.hid (show Below w.heap.size w w3 by rw [← e3]; exact HBel.out)
      have HO3 := Lib.hid (show w3.ownsRow w.heap.size 3 1 (.slice A1 m c1) m (ivn (usedN L k)) by rw [← e3]; exact HO2.out)
      clear e3 HZ HO2 HBel hcv q0
      cases hz : zeroB x with
      | true =>
        have HUS2 := Lib.hid (show usedN L (k + 1) = usedN L k by rw [HUS.out, if_pos hz])
        clear hz
        go_wp2
        go_roundw
        case rel => exact ⟨k + 1, m, A1, c1, rfl, by go_num, by omega, by omega, Lib.hid (by rw [HUS2.out]; exact HO3.out), HB3⟩
        case measure => simp [intOf]; omega
      | false =>
        have HUS2 := Lib.hid (show usedN L (k + 1) = usedN L k ++ [k] by rw [HUS.out, hz, if_neg (by decide)])
        clear hz
        have hs := HB3.out.size
        have HOa := Lib.hid (HO3.out.alloc (.cells #[.int .i64 (k : Int)] 3))
        have HNa := Lib.hid (Reads.new w3 [Value.int .i64 (k : Int)] 3 (0, 0))
        have HBa := Lib.hid (HB3.out.alloc hs (.cells #[.int .i64 (k : Int)] 3))
        have hbd : w.heap.size ≤ (w3.alloc (.cells #[.int .i64 (k : Int)] 3)).heap.size := by simp; omega
        go_wp2_with (at_builtin; refine wpList_append_to _ rfl (.tmp 24) (.tmp 26) _ rfl w.heap.size 3 i0 _ 8 Try.underlying22 hi hz0 hz1 hz2 rfl _ m (ivn (usedN L k)) rfl HOa.out _ _ 1 1 [Value.int .i64 (k : Int)] rfl rfl HNa.out (by simp [Value.oneCell']) (by simp only [maxLen]; omega) (by omega) hbd ?_; intro A7 c7 w7 hown7 hg7 hb7 hl7; have HO7 := Lib.hid hown7; have HB7 := Lib.hid (HBa.out.trans hb7); clear hown7 hg7 hb7 hl7)
        go_roundw
        case rel => exact ⟨k + 1, m + 1, A7, c7, rfl, by go_num, by omega, by omega, Lib.hid (by rw [HUS2.out, ivn_snoc]; exact HO7.out), HB7⟩
        case measure => simp [intOf]; omega
    · obtain rfl : k = N := by omega
      go_wp2
      go_ret
      have hl := own_lenX HO.out
      refine ⟨A1, c1, ?_, ?_, HB.out⟩
      · rw [HU.out, ← hl]; rfl
      · rw [HU.out, ← hl]; exact HO.out
set_option maxRecDepth 100000 in
set_option maxHeartbeats 2000000 in
theorem sealed_any (A : Option Addr) (c : Nat) (b : List UInt8) (w : World) (hm : b.length ≤ 1000000000) (h : Reads w w.heap.size A (bv b)) :
    Calls Try.prog 27 #[.slice A b.length c] w (Gives 5 (bv (sumB b)) w) := by
  obtain ⟨i0, hi, hz0, hz1, hz2⟩ := info_parts Try.infoByte
  have hown0 := World.ownsRow_lit (e := 5) (size := 1) (base := w.heap.size) w #[] 0 (Nat.le_refl _) (by simp) (by rfl)
  have HX := Lib.hid (show sumB b = b ++ leb 4 (crcM 0 b) from rfl)
  have hcl := crcM_lt 0 (by omega) b
  have HR := Lib.hid h
  have HS := Lib.hid (fun (W : World) (hr : Reads W W.heap.size A (bv b)) => rsum_any A b.length c b W _ rfl (by simp only [maxLen]; omega) hr)
  have HSL := Lib.hid (sumB_len b)
  obtain ⟨T, hT⟩ : ∃ T, T = sumB b := ⟨_, rfl⟩
  obtain ⟨q, hq⟩ : ∃ q, q = crcM 0 b := ⟨_, rfl⟩
  obtain ⟨n, hn⟩ : ∃ n, n = b.length := ⟨_, rfl⟩
  rw [← hT, ← hq] at HX
  rw [← hT, ← hn] at HSL
  rw [← hT, ← hn]
  rw [← hq] at hcl
  rw [← hn, ← hq] at HS
  rw [← hn] at hm
  have HNB := Lib.hid (show n = (bv b).length by rw [bv_len]; exact hn)
  clear h hT hq hn
  have HBY := Lib.hid (fun W => rbytes_any q (by omega) 4 (by omega) W)
  go_enter Try.func27, Try.ntmps27
  go_wp2_with (at_builtin; refine wpList_append_to _ rfl (.tmp 3) (.tmp 4) _ rfl w.heap.size 5 i0 _ 1 Try.underlying43 hi hz0 hz1 hz2 rfl _ 0 [] rfl hown0 _ A n c (bv b) rfl HNB.out (HR.out.alloc (Nat.le_refl _) _) (bv_one _) (by simp only [maxLen]; omega) (by omega) (by simp) ?_; intro A7 c7 w7 hown7 hg7 hb7 hl7; rw [Nat.zero_add, List.nil_append] at hown7; have HO7 := Lib.hid hown7; have HB7 := Lib.hid ((below_alloc1 w _).trans hb7); clear hown7 hg7 hb7 hl7)
  refine (HS.out _ (HR.out.ext HB7.out)).mono ?_
  rintro e w1 ⟨rfl, rfl⟩
  clear HS hown0
  go_wp2_with fail
  refine (HBY.out _).mono ?_
  rintro e w2 ⟨A2, c2, rfl, hown2, hb2⟩
  rw [bv_len, leb_len] at hown2
  rw [bv_len, leb_len]
  have HB2 := Lib.hid (HB7.out.trans (hb2.mono HB7.out.size))
  have HO2 := Lib.hid (own_keep HO7.out hb2)
  have HR2 := Lib.hid (Reads.of_own hown2)
  have HL5 := Lib.hid (show 4 = (bv (leb 4 q)).length by rw [bv_len, leb_len])
  clear hown2 hb2 HO7 HB7
  go_wp2_with (at_builtin; refine wpList_append_to _ rfl (.tmp 5) (.tmp 8) _ rfl w.heap.size 5 i0 _ 1 Try.underlying43 hi hz0 hz1 hz2 rfl _ n (bv b) rfl HO2.out _ _ 4 _ (bv (leb 4 q)) rfl HL5.out HR2.out (bv_one _) (by simp only [maxLen]; omega) (by omega) HB2.out.size ?_; intro A8 c8 w8 hown8 hg8 hb8 hl8; have HO8 := Lib.hid hown8; have HB8 := Lib.hid (HB2.out.trans hb8); clear hown8 hg8 hb8 hl8)
  go_ret
  have hln : n + 4 = (bv T).length := by rw [bv_len, HSL.out]
  have h9 := HO8.out
  rw [← bv_append, ← HX.out, hln] at h9
  exact ⟨A8, c8, by rw [← hln]; rfl, h9, HB8.out⟩
theorem own_either {v v' : Value} {a b : Nat} (h : v'.ownBlock = v.ownBlock ∨ v'.ownBlock = some b) (hv : ∀ k, v.ownBlock = some k → k < a) : ∀ k, v'.ownBlock = some k → k < a ∨ b ≤ k := fun k hk => by
  rcases h with e | e
  · exact .inl (hv k (e.symm.trans hk))
  · rw [e] at hk
    injection hk with hk
    exact .inr (by omega)
def GivesR1 (bs : List UInt8) (m : Nat) (w : World) (en : Ending) (w' : World) : Prop :=
  ∃ A c, en = .returned (.slice A m c) ∧ Hid (w'.ownsRow w.heap.size 5 1 (.slice A m c) m (bv bs)) ∧ Hid (Below w.heap.size w w')
set_option maxRecDepth 100000 in
set_option maxHeartbeats 4000000 in
theorem rpackI_any {w : World} {B g : Nat} {A : Option Addr} {c : Nat} {L : List (List UInt8)} (h : RImg w B g A c L) (hE : Each L) :
    Calls Try.prog 23 #[.pointer (some ⟨g, 0, none⟩)] w (Gives 5 (bv (pkB L)) w) := by
  obtain ⟨i0, hi, hz0, hz1, hz2⟩ := info_parts Try.infoByte
  have HI := Lib.hid h
  obtain ⟨N, hN⟩ : ∃ N, N = L.length := ⟨_, rfl⟩
  have HN := Lib.hid hN
  have hN2 : N ≤ 14400 := by have := h.2.2.1; omega
  have HUS := Lib.hid (rused_any h hE)
  have HFM := Lib.hid (fun (W : World) (hb : Below w.heap.size w W) (k : Nat) (hk : k < N) => (show ∃ h0, A = some ⟨h0, 0, none⟩ ∧ W.cell? ⟨h0, k, none⟩ = some (.string ⟨(L.getD k []).toArray⟩) ∧ (L.getD k []).length = 256 from by
    have h' := h.below hb
    obtain ⟨h0, hA, hcap⟩ := h'.form (by omega)
    have e : L.getD k [] = L[k] := by rw [List.getD_eq_getElem?_getD, List.getElem?_eq_getElem (by omega)]; rfl
    refine ⟨h0, hA, ?_, getD_each hE (by omega)⟩
    have hr := h'.2.1
    rw [hA] at hr
    rw [hr.cellAt k (by omega), e]
    exact sv_get L k (by omega)))
  have HFC := Lib.hid (fun (W : World) (hb : Below w.heap.size w W) => (show W.cell? ⟨g, 0, none⟩ = some (.slice A N c) by have := (h.below hb).cell; rw [← hN] at this; exact this))
  obtain ⟨U, hU⟩ : ∃ U, U = usedL L := ⟨_, rfl⟩
  rw [← hU] at HUS
  have HU := Lib.hid hU
  have hul : U.length ≤ N := by rw [hU, hN]; exact usedL_le L
  have HULT := Lib.hid (show ∀ k, k < U.length → U.getD k 0 < N ∧ U[k]? = some (U.getD k 0) from fun k hk => by
    have e : U[k]? = some (U.getD k 0) := by rw [List.getD_eq_getElem?_getD, List.getElem?_eq_getElem hk]; rfl
    refine ⟨?_, e⟩
    rw [hN]
    exact usedN_lt L L.length (U.getD k 0) (by rw [show usedN L L.length = U from hU.symm]; exact List.mem_of_getElem? e))
  clear h hN hE hU
  obtain ⟨M, hM⟩ : ∃ M, M = U.length := ⟨_, rfl⟩
  have HM := Lib.hid hM
  rw [← hM] at hul HULT
  clear hM
  have kc := fun (w : World) (C : Array Value) (n c : Nat) => Lib.run_convert_bytes_const (P := Try.prog) w 43 5 C n c Try.underlying43 Try.underlying5
  have HBY := Lib.hid (fun (q x : Nat) (hq : q < 4294967296) (hx : x ≤ 8) (W : World) => (show Calls Try.prog 47 #[.int .i64 q, .int .i64 x] W (GivesR1 (leb x q) x W) from by
    refine (rbytes_any q (by omega) x hx W).mono ?_
    rintro e w' ⟨A, c, rfl, hown, hb⟩
    rw [bv_len, leb_len] at hown
    rw [bv_len, leb_len]
    exact ⟨A, c, rfl, Lib.hid hown, Lib.hid hb⟩))
  go_enter Try.func23, Try.ntmps23
  go_wp2_with fail
  refine HUS.out.mono ?_
  rintro e w1 ⟨A1, c1, rfl, hown1, hb1⟩
  rw [ivn_len, ← HM.out] at hown1 ⊢
  have HB1 := Lib.hid hb1
  have HR1 := Lib.hid (Reads.of_own hown1)
  have HOm := Lib.hid (Hold.const w1 w1.heap.size 5 [.int .u8 83, .int .u8 67, .int .u8 65, .int .u8 78, .int .u8 80, .int .u8 65, .int .u8 67, .int .u8 75] (8, 9) (by decide) (by decide))
  have HBm := Lib.hid (below_alloc1 w1 (.cells #[.int .u8 83, .int .u8 67, .int .u8 65, .int .u8 78, .int .u8 80, .int .u8 65, .int .u8 67, .int .u8 75] 5 (8, 9)))
  have q1 := HFC.out _ (below_then HB1.out HBm.out)
  clear hown1 hb1 HUS HI
  go_wp2_with fail
  refine (HBY.out N 4 (by omega) (by omega) _).mono ?_
  rintro e w2 ⟨A2, c2, rfl, HO2, HB2⟩
  have HOm2 := Lib.hid (HOm.out.keep HB2.out)
  have HR2 := Lib.hid (Reads.of_own HO2.out)
  have HL2 := Lib.hid (show 4 = (bv (leb 4 N)).length by rw [bv_len, leb_len])
  have HB2' := Lib.hid (below_then HBm.out HB2.out)
  clear HO2 HB2 HOm HBm q1
  go_wp2_with (at_builtin; refine wpList_append_hold rfl (.tmp 10) (.tmp 16) _ rfl w1.heap.size 5 i0 _ 1 Try.underlying43 hi hz0 hz1 hz2 rfl _ 8 _ rfl HOm2.out _ _ 4 _ (bv (leb 4 N)) rfl HL2.out (by decide) HR2.out (bv_one _) (by simp only [maxLen]; omega) (by omega) HB2'.out.size ?_; intro A7 c7 w7 hown7 hb7; have HO7 := Lib.hid hown7; have HB7 := Lib.hid (HB2'.out.trans hb7); clear hown7 hb7)
  refine (HBY.out M 4 (by omega) (by omega) _).mono ?_
  rintro e w3 ⟨A3, c3, rfl, HO3, HB3⟩
  have HO7' := Lib.hid (own_keep HO7.out HB3.out)
  have HR3 := Lib.hid (Reads.of_own HO3.out)
  have HL3 := Lib.hid (show 4 = (bv (leb 4 M)).length by rw [bv_len, leb_len])
  have HB3' := Lib.hid (HB7.out.trans (HB3.out.mono HB7.out.size))
  clear HO3 HB3 HO7 HB7 HOm2 HR2 HL2 HB2'
  go_wp2_with (at_builtin; refine wpList_append_to _ rfl (.tmp 18) (.tmp 21) _ rfl w1.heap.size 5 i0 _ 1 Try.underlying43 hi hz0 hz1 hz2 rfl _ 12 _ rfl HO7'.out _ _ 4 _ (bv (leb 4 M)) rfl HL3.out HR3.out (bv_one _) (by simp only [maxLen]; omega) (by omega) HB3'.out.size ?_; intro A8 c8 w8 hown8 hg8 hb8 hl8; have HO8 := Lib.hid hown8; have HB8 := Lib.hid (HB3'.out.trans hb8); clear hown8 hg8 hb8 hl8)
  have HLM := Lib.hid (show [Value.int .u8 83, .int .u8 67, .int .u8 65, .int .u8 78, .int .u8 80, .int .u8 65, .int .u8 67, .int .u8 75] ++ bv (leb 4 N) ++ bv (leb 4 M) = bv (headB L) by
    unfold headB
    rw [← HN.out, ← HU.out, ← HM.out, List.append_assoc, ← bv_append, bv_append magicB]
    rfl)
  have HBN := Lib.hid (show ∀ i, i < M → bodyB L (i + 1) = bodyB L i ++ (leb 4 (U.getD i 0) ++ leb 2 (squeezeL (L.getD (U.getD i 0) [])).length ++ squeezeL (L.getD (U.getD i 0) [])) from fun i hi => by
    rw [bodyB_next L (x := U.getD i 0) (by rw [← HU.out]; exact (HULT.out i hi).2)]; rfl)
  clear kc HO7' HR3 HL3 HB3'
  go_loopw [4, 5, 6] (fun s4 s5 _ wr => ∃ (i mo : Nat) (A8 : Option Addr) (c8 : Nat), s4 = .slice A8 mo c8 ∧ s5 = .int .i64 (i : Int) ∧ i ≤ M ∧ mo ≤ 16 + 65542 * i ∧ Hid (wr.ownsRow w1.heap.size 5 1 (.slice A8 mo c8) mo (bv (headB L ++ bodyB L i))) ∧ Hid (Below w1.heap.size w1 wr)) (fun _ s5 _ _ => M - (intOf s5).toNat)
  case atStart => exact ⟨0, 16, A8, c8, rfl, rfl, by omega, by omega, Lib.hid (by rw [bodyB_zero, List.append_nil, ← HLM.out]; exact HO8.out), HB8⟩
  case round =>
    obtain ⟨i, mo, A8, c8, rfl, rfl, hi', hmo, HO, HB⟩ := hrel
    by_cases hlt : i < M
    · obtain ⟨hx, -⟩ := HULT.out i hlt
      have HBI := Lib.hid (HBN.out i hlt)
      obtain ⟨ad, rfl, hab, hcell⟩ := (HR1.out.below HB.out).at_ (k := i) (by rw [ivn_len, ← HM.out]; exact hlt)
      have hg := ivn_get U (k := i) (by rw [← HM.out]; exact hlt)
      rw [List.getElem?_eq_getElem (by rw [ivn_len, ← HM.out]; exact hlt)] at hg
      injection hg with hg
      rw [hg] at hcell
      have HG := Lib.hid hg
      clear hg
      obtain ⟨x, hxe⟩ : ∃ x, x = U.getD i 0 := ⟨_, rfl⟩
      rw [← hxe] at hx hcell HBI
      clear hxe HG
      have HCW := Lib.hid (fun (W : World) (hb : Below wr.heap.size wr W) => (show W.cell? (ad.add i) = some (.int .i64 (x : Int)) from (hb.cell (p := ad.add i) (by rw [block_add]; have := HB.out.size; omega)).trans hcell))
      have HBw := Lib.hid (below_then HB1.out HB.out)
      obtain ⟨h0, rfl, hcs, h256⟩ := HFM.out wr HBw.out x hx
      have q0 := HFC.out wr HBw.out
      obtain ⟨bk, hbk⟩ : ∃ bk, bk = L.getD x [] := ⟨_, rfl⟩
      rw [← hbk] at hcs h256 HBI
      obtain ⟨cc, O, hcv, hR, hcl⟩ := run_str_bytes (P := Try.prog) wr.drew 9 43 5 bk Try.underlying9 Try.underlying43 Try.underlying5
      have HBel := Lib.hid (show Below w1.heap.size w1 (wr.drew.drew.alloc O) from HB.out.drew.drew.alloc HB.out.size O)
      have HO2 := Lib.hid (show (wr.drew.drew.alloc O).ownsRow w1.heap.size 5 1 (.slice A8 mo c8) mo (bv (headB L ++ bodyB L i)) from HO.out.drew.drew.alloc O)
      have HSQ := Lib.hid (rsq_any (some ⟨wr.heap.size, 0, none⟩) cc bk (by omega) hcl (wr.drew.drew.alloc O) (hR.more (by simp)))
      rw [h256] at HSQ hcv
      have HSL := Lib.hid (show (squeezeL bk).length < 65536 from (sq_small h256).1)
      have i1 : (i : Int) < (M : Int) := by omega
      have i2 : (x : Int) < (N : Int) := by omega
      have HO0 := HO
      clear hbk h256 hR hcl
      go_wp2_with fail
      go_region_with (go_at_call 48; refine HSQ.out.mono ?_; rintro e w4 ⟨A4, c4, rfl, hown4, hb4⟩; have HB4 := Lib.hid (HBel.out.trans (hb4.mono HBel.out.size)); have HO4 := Lib.hid (own_keep HO2.out hb4); have HR4 := Lib.hid hown4; have HCL := Lib.hid hb4; clear hown4 hb4)
      all_goals
        rw [bv_len]
        rw [bv_len] at HR4
        obtain ⟨sl, hsl⟩ : ∃ sl, sl = (squeezeL bk).length := ⟨_, rfl⟩
        rw [← hsl] at HBI HSL HR4 ⊢
        have HSE := Lib.hid hsl
        have hs65 : sl < 65536 := HSL.out
        have HWW := Lib.hid (show Below wr.heap.size wr w4 from (((Below.refl _ wr).drew.drew).alloc (Nat.le_refl _) O).trans (HCL.out.mono (by simp)))
        have hc4 := HCW.out w4 HWW.out
        clear hsl q0 hcs hcell HSL HCL HSQ hcv HBel HO2 HO HB
        go_wp2_with fail
        refine (HBY.out x 4 (by omega) (by omega) _).mono ?_
        rintro e w5 ⟨A5, c5, rfl, HOb, HBb⟩
        have HB5 := Lib.hid (HB4.out.trans (HBb.out.mono HB4.out.size))
        have HO5 := Lib.hid (own_keep HO4.out HBb.out)
        have HR5 := Lib.hid (Reads.of_own HOb.out)
        have HS5 := Lib.hid (own_keep HR4.out HBb.out)
        have HLT := Lib.hid (show ∀ k, (Value.slice A8 mo c8).ownBlock = some k → k < (wr.drew.drew.alloc O).heap.size from fun k hk => by have := (HO0.out.lt k hk).2; simp; omega)
        have HRG := Lib.hid (show ∀ k, (Value.slice A4 sl c4).ownBlock = some k → (wr.drew.drew.alloc O).heap.size ≤ k ∧ k < w5.heap.size from fun k hk => HS5.out.lt k hk)
        have HL5 := Lib.hid (show 4 = (bv (leb 4 x)).length by rw [bv_len, leb_len])
        have HL6 := Lib.hid (show sl = (bv (squeezeL bk)).length by rw [bv_len]; exact HSE.out)
        clear HOb HBb HO4 HR4 HB4
        go_wp2_with (at_builtin; refine wpList_append_to _ rfl (.tmp 41) (.tmp 46) _ rfl w1.heap.size 5 i0 _ 1 Try.underlying43 hi hz0 hz1 hz2 rfl _ mo (bv (headB L ++ bodyB L i)) rfl HO5.out _ _ 4 _ (bv (leb 4 x)) rfl HL5.out HR5.out (bv_one _) (by simp only [maxLen]; omega) (by omega) HB5.out.size ?_; intro A8 c8 w8 hown8 hg8 hb8 hl8; have HO8 := Lib.hid hown8; have HB8 := Lib.hid (HB5.out.trans hb8); have HS8 := Lib.hid (HS5.out.kept hg8 (own_away HS5.out (fun k hk => HLT.out k hk))); have HL8 := Lib.hid (own_either hl8 (fun k hk => HLT.out k hk)); clear hown8 hg8 hb8 hl8)
        refine (HBY.out sl 2 (by omega) (by omega) _).mono ?_
        rintro e w9 ⟨A9, c9, rfl, HOc, HBc⟩
        have HB9 := Lib.hid (HB8.out.trans (HBc.out.mono HB8.out.size))
        have HO9 := Lib.hid (own_keep HO8.out HBc.out)
        have HR9 := Lib.hid (Reads.of_own HOc.out)
        have HS9 := Lib.hid (own_keep HS8.out HBc.out)
        have HL9 := Lib.hid (show 2 = (bv (leb 2 sl)).length by rw [bv_len, leb_len])
        clear HOc HBc HO8 HS8 HB8 hc4
        go_wp2_with (at_builtin; first
          | (refine wpList_append_to _ rfl (.tmp 47) (.tmp 50) _ rfl w1.heap.size 5 i0 _ 1 Try.underlying43 hi hz0 hz1 hz2 rfl _ (mo + 4) _ rfl HO9.out _ _ 2 _ (bv (leb 2 sl)) rfl HL9.out HR9.out (bv_one _) (by simp only [maxLen]; omega) (by omega) HB9.out.size ?_; intro A10 c10 w10 hown10 hg10 hb10 hl10; have HO10 := Lib.hid hown10; have HB10 := Lib.hid (HB9.out.trans hb10); have HS10 := Lib.hid (Reads.of_own (HS9.out.kept hg10 (by
              cases hv : (Value.slice A4 sl c4).ownBlock with
              | none => exact .inl rfl
              | some j =>
                right
                intro e
                have h1 := HRG.out j hv
                have h2 := HL8.out j e.symm
                omega))); clear hown10 hg10 hb10 hl10)
          | (refine wpList_append_to _ rfl (.tmp 52) (.tmp 53) _ rfl w1.heap.size 5 i0 _ 1 Try.underlying43 hi hz0 hz1 hz2 rfl _ (mo + 4 + 2) _ rfl HO10.out _ _ sl _ (bv (squeezeL bk)) rfl HL6.out HS10.out (bv_one _) (by simp only [maxLen]; omega) (by omega) HB10.out.size ?_; intro A11 c11 w11 hown11 hg11 hb11 hl11; have HO11 := Lib.hid hown11; have HB11 := Lib.hid (HB10.out.trans hb11); clear hown11 hg11 hb11 hl11))
        go_roundw
        case rel =>
          refine ⟨i + 1, mo + 4 + 2 + sl, A11, c11, rfl, by go_num, by omega, by omega, Lib.hid ?_, HB11⟩
          have h9 := HO11.out
          rw [← bv_append, ← bv_append, ← bv_append, List.append_assoc, List.append_assoc, List.append_assoc, ← List.append_assoc (leb 4 x), ← HBI.out] at h9
          exact h9
        case measure => simp [intOf]; omega
    · obtain rfl : i = M := by omega
      have HPK := Lib.hid (show pkB L = sumB (headB L ++ bodyB L i) by
        unfold pkB
        rw [← HU.out, ← HM.out])
      have HMO := Lib.hid (own_lenX HO.out)
      have hmd : mo = (headB L ++ bodyB L i).length := by have := HMO.out; rw [bv_len] at this; exact this
      obtain ⟨D, hD⟩ : ∃ D, D = headB L ++ bodyB L i := ⟨_, rfl⟩
      rw [← hD] at HO HPK hmd
      have HK5 := Lib.hid (sealed_any A8 c8 D wr (by omega) (Reads.of_own HO.out))
      rw [← hmd, ← HPK.out] at HK5
      have HBw := Lib.hid (below_then HB1.out HB.out)
      clear hD hmd HMO HO HB
      go_wp2_with fail
      refine HK5.out.mono ?_
      rintro e w3 ⟨A9, c9, rfl, hown9, hb9⟩
      go_wp2
      go_ret
      exact ⟨A9, c9, rfl, own_mono hown9 HBw.out.size, below_then HBw.out hb9⟩
end Go.Proofs.Ytcnalndhlonblaa
