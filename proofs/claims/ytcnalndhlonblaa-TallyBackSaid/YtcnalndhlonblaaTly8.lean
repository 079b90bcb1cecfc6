/-
  Chapter 21: tally.Join, walked.
-/
import Derived.Test.YtcnalndhlonblaaTly7
import Derived.Test.YtcnalndhlonblaaTlyP3
import Derived.Test.YtcnalndhlonblaaVal7
import Derived.Laws.OwnMore
namespace Go.Proofs.Ytcnalndhlonblaa
open Go.RowKit
theorem ent_at {over : List EntL} {k : Nat} (h : k < over.length) : over[k]? = some ⟨keyA over k, valA over k, (over.getD k zE).at_⟩ := by
  unfold keyA valA
  rw [List.getD_eq_getElem?_getD, List.getElem?_eq_getElem h]
  rfl
theorem gives_none {xs : List Value} {er er' : Int} (hx : xs = []) (he : er = er') {w w' : World} {t : TypeId} (hb : Below w.heap.size w w') : GivesE t xs er w (.returned (.tuple #[.slice none 0 0, .int .i64 er'])) w' := by
  subst hx he
  exact ⟨none, 0, rfl, World.ownsRow_nil _ _ _ _, hb⟩
set_option maxRecDepth 100000 in
set_option maxHeartbeats 8000000 in
theorem join_any (A : Option Addr) (c : Nat) (bits : List (List Int)) (A2 : Option Addr) (c2 : Nat) (over : List EntL) (hm : bits.length ≤ 100000) (hf : bits.flatten.length ≤ 100000) (ho : over.length ≤ 100000)
    (hk : ∀ k, k < over.length → (Lit.int .i64 (keyA over k)).wf = true ∧ (valA over k).length ≤ reachBytes) (w : World) (hr : Lists w w.heap.size A bits) (he : Ents w w.heap.size A2 over) :
    Calls Try.prog 16 #[.slice A bits.length c, .slice A2 over.length c2] w (GivesE 3 (iv (joinV bits over)) (joinE bits over) w) := by
  have KF := flat_any A c bits hm hf w hr
  have HE := Lib.hid he
  have HK := Lib.hid hk
  have hmi : (over.length : Int) ≤ 100000 := by omega
  clear hr he hk hm
  go_enter Try.func16, Try.ntmps16
  go_wp2_with fail
  refine KF.mono ?_
  rintro e w1 (⟨hfm, A1, c1, b, m, rfl, hown, hopen, hbg, hb1⟩ | ⟨hfm, rfl, hb1⟩)
  case inr =>
    have HJ := Lib.hid (join_form (over := over) hfm)
    have HB := Lib.hid hb1
    clear hfm hb1 KF
    go_wp2
    go_ret2
    exact gives_none (by rw [HJ.out.2]; rfl) HJ.out.1 HB.out
  have HFM := Lib.hid hfm
  have HO1 := Lib.hid hown
  have HM1 := Lib.hid hopen
  have HB1 := Lib.hid hb1
  have HBG := Lib.hid hbg
  clear KF hfm hown hopen hb1 hbg
  obtain ⟨N, hN⟩ : ∃ N, N = bits.flatten.length := ⟨_, rfl⟩
  rw [← hN] at HO1 ⊢
  have HN := Lib.hid hN
  rw [← hN] at hf
  clear hN
  go_wp2_with fail
  go_loopw [9, 24] (fun s9 s24 wr => ∃ k : Nat, k ≤ over.length ∧ s9 = .int .i64 (lastK over k) ∧ s24 = .int .i64 k ∧ Hid (errJ bits.flatten over k = 0) ∧ Hid (wr.ownsRow w.heap.size 3 1 (.slice A1 N c1) N (iv (outJ bits.flatten over k))) ∧ Hid (OpenM wr b m (openJ bits.flatten over k)) ∧ Hid (Below w.heap.size w wr)) (fun _ s24 _ => over.length - (intOf s24).toNat)
  case atStart => exact ⟨0, by omega, rfl, rfl, Lib.hid rfl, HO1, HM1, HB1⟩
  case round =>
    clear HO1 HM1 HB1
    obtain ⟨k, hk, rfl, rfl, HER, HO, HM, HB⟩ := hrel
    by_cases hlt : k < over.length
    · have hci : (k : Int) < (over.length : Int) := by omega
      obtain ⟨bb, oo, rfl, -, hc⟩ := (HE.out.below HB.out) (by omega)
      obtain ⟨e0, e1, e2⟩ := hc k _ (ent_at hlt)
      have HST := Lib.hid (fun er h h2 => join_stop (er := er) HFM.out hlt HER.out h h2)
      have HNX := Lib.hid (fun h => errJ_next HER.out h)
      have HAB := Lib.hid (fun h => openJ_above (x := keyA over k) HER.out h)
      obtain ⟨hwf, hvl⟩ := HK.out k hlt
      have HOJ := Lib.hid (show outJ bits.flatten over (k + 1) = (outJ bits.flatten over k).set (keyA over k).toNat (rd1 countP (valA over k)) from rfl)
      have HPJ := Lib.hid (show openJ bits.flatten over (k + 1) = (openJ bits.flatten over k).filter (fun y => decide (y ≠ keyA over k)) from rfl)
      have HLK := Lib.hid (show lastK over (k + 1) = keyA over k from rfl)
      have HND := Lib.hid (openJ_nodup bits.flatten over k)
      have HEE := Lib.hid (show entE bits.flatten (lastK over k) (keyA over k) (valA over k) = if keyA over k ≤ lastK over k then 8 else if keyA over k ∈ openL bits.flatten then rdE [countP] (valA over k) else 13 from rfl)
      have HRC := Lib.hid (fun (V : World) => vreadCount_any (valA over k) V hvl)
      clear hc hvl HER
      generalize entE bits.flatten (lastK over k) (keyA over k) (valA over k) = ee at *
      generalize lastK over k = lk at *
      generalize keyA over k = key at *
      generalize valA over k = val at *
      generalize (over.getD k zE).at_ = at0 at *
      obtain ⟨w2, hw2⟩ : ∃ w2, w2 = wr.alloc (.cells #[.int .i64 key, .string ⟨val.toArray⟩, .int .i64 at0] 41) := ⟨_, rfl⟩
      have hk2 : w2.heap[wr.heap.size]? = some (.cells #[.int .i64 key, .string ⟨val.toArray⟩, .int .i64 at0] 41) := by rw [hw2]; exact heap_alloc_new wr _
      have hb2 : Below wr.heap.size wr w2 := by rw [hw2]; exact below_alloc1 wr _
      have HO2 := Lib.hid (own_keep HO.out hb2)
      have HM2 := Lib.hid (HM.out.keep hb2)
      have HB2 := Lib.hid (HB.out.trans (hb2.mono HB.out.size))
      have HBL := Lib.hid HM.out.lt
      have HGL := Lib.hid (fun q hq => (HO.out.lt q hq).2)
      have HKK := Lib.hid (fun (V : World) (hb : Below w2.heap.size w2 V) => heap_keep hk2 hb)
      go_upto_region 8 with fail
      rw [show wr.alloc (.cells #[.int .i64 key, .string ⟨val.toArray⟩, .int .i64 at0] 41) = w2 from hw2.symm]
      have p0 := heap_cell hk2 0 rfl
      have p1 := heap_cell hk2 1 rfl
      clear hw2 hb2 hk2 HO HM HB e0 e1 e2
      have HBS := Lib.hid (show b < wr.heap.size from HBL.out)
      have hmem := HAB.out
      generalize openJ bits.flatten over k = S at *
      by_cases g1 : key ≤ lk
      · have HJ := Lib.hid (HST.out 8 (by rw [HEE.out, if_pos g1]) (by decide))
        clear HST HNX HAB HEE hmem
        go_wp2
        go_ret2
        exact gives_none (by rw [HJ.out.2]; rfl) HJ.out.1 HB2.out
      have d1 : decide (key ≤ lk) = false := decide_eq_false g1
      replace hmem := hmem (by omega)
      have HEE2 := Lib.hid (show ee = if key ∈ openL bits.flatten then rdE [countP] val else 13 from by rw [HEE.out, if_neg g1])
      clear HEE HAB g1
      by_cases g2 : key ∈ openL bits.flatten
      case neg =>
        have HJ := Lib.hid (HST.out 13 (by rw [HEE2.out, if_neg g2]) (by decide))
        have dm : decide (key ∈ S) = false := decide_eq_false (fun h => g2 (hmem.1 h))
        clear HST HNX HEE2 hmem g2
        go_wp2_with (at_lookup; refine wpList_look_open rfl (.tmp 32) (.tmp 34) rfl HM2.out key hwf rfl rfl ?_)
        go_ret2
        exact gives_none (by rw [HJ.out.2]; rfl) HJ.out.1 HB2.out
      have hin := hmem.2 g2
      have dm : decide (key ∈ S) = true := decide_eq_true hin
      have HIN := Lib.hid hin
      obtain ⟨p, hp, hkp, -⟩ := openL_mem.1 g2
      have HEE3 := Lib.hid (show ee = rdE [countP] val from by rw [HEE2.out, if_pos g2])
      have HP := Lib.hid (show p < N ∧ key = (p : Int) from ⟨by rw [HN.out]; exact hp, hkp⟩)
      clear HEE2 hmem g2 hin hp hkp
      go_wp2_with (at_lookup; refine wpList_look_open rfl (.tmp 32) (.tmp 34) rfl HM2.out key hwf rfl rfl ?_)
      refine (HRC.out _).mono ?_
      rintro e w3 ⟨rfl, hb3⟩
      have HO3 := Lib.hid (own_keep HO2.out hb3)
      have HM3 := Lib.hid (HM2.out.keep hb3)
      have HB3 := Lib.hid (HB2.out.trans (hb3.mono HB2.out.size))
      have hk3 := HKK.out w3 hb3
      have hsz3 : wr.heap.size < w3.heap.size := heap_lt hk3
      clear HRC HKK p0 p1 hb3 HO2 HM2 HB2 dm
      by_cases g3 : rdE [countP] val = 0
      case neg =>
        have HJ := Lib.hid (HST.out _ HEE3.out g3)
        have d3 : (rdE [countP] val != 0) = true := by rw [bne_iff_ne]; exact g3
        clear HST HNX HEE3 hk3
        generalize rdE [countP] val = er at *
        clear g3
        go_wp2
        go_ret2
        exact gives_none (by rw [HJ.out.2]; rfl) HJ.out.1 HB3.out
      have HER1 := Lib.hid (HNX.out (by rw [HEE3.out]; exact g3))
      rw [g3]
      clear HST HNX HEE3 g3
      generalize rd1 countP val = y at *
      obtain ⟨hpN, rfl⟩ := HP.out
      obtain ⟨g, rfl, -⟩ := own_cells HO3.out (by omega)
      have hgl : g < wr.heap.size := HGL.out g rfl
      have hcell := HO3.out.cellAt p (by omega)
      obtain ⟨y0, hy0⟩ : ∃ y0 : Int, (iv (outJ bits.flatten over k))[p]? = some (.int .i64 y0) := by
        refine ⟨(outJ bits.flatten over k).getD p 0, ?_⟩
        rw [List.getElem?_eq_getElem (by rw [iv_len, outJ_len, ← HN.out]; exact hpN), iv_at (by rw [outJ_len, ← HN.out]; exact hpN)]
      rw [hy0] at hcell
      have hfz := HO3.out.frozenAt p
      obtain ⟨s1, s2⟩ := HO3.out.stored p (.int .i64 y)
      have hM4 := HM3.out.kept s2 (HM3.out.not_row HO3.out)
      have HB4 := Lib.hid (HB3.out.grown s2 HB3.out.size (fun q hq => by cases hq; exact (HO3.out.lt g rfl).1))
      have hk4 := (s2.block wr.heap.size hsz3 (fun e => by injection e with e; omega)).trans hk3
      have HIVS := Lib.hid (show (iv (outJ bits.flatten over k)).set p (.int .i64 y) = iv (outJ bits.flatten over (k + 1)) from by
        rw [HOJ.out, Int.toNat_natCast]
        simp [iv, List.map_set])
      have HO4 := Lib.hid s1
      have HM4 := Lib.hid hM4
      have p0 := heap_cell hk3 0 rfl
      have p4 := heap_cell hk4 0 rfl
      have i1 : (p : Int) < (N : Int) := by omega
      have i0 : (0 : Int) ≤ (p : Int) := by omega
      have HK4 := Lib.hid hk4
      have HS4 := Lib.hid (show wr.heap.size < (w3.setCell ⟨g, p, none⟩ (.int .i64 y)).heap.size from by have := s2.size; omega)
      clear hk3 hk4 s1 s2 hM4 hy0 HO3 HM3 HB3 hgl
      go_wp2_with (at_delete; refine wpList_del_open rfl (.tmp 51) (.tmp 53) rfl HM4.out (p : Int) HND.out HIN.out hwf rfl rfl ?_; intro w5 hop5 hg5; have HO5 := Lib.hid (HO4.out.kept hg5 (.inr (HM4.out.not_row HO4.out).symm)); have p5 := heap_cell ((hg5.block _ HS4.out (fun e => by injection e with e; have := HBS.out; omega)).trans HK4.out) 0 rfl; have HB5 := Lib.hid (HB4.out.grown hg5 HB4.out.size (fun q hq => by cases hq; exact HBG.out)); have HM5 := Lib.hid hop5; clear hop5 hg5 p0 p4 hcell hfz HK4 HS4 HO4 HM4 HB4)
      go_roundw
      case rel => exact ⟨k + 1, by omega, by rw [HLK.out], by go_num, HER1, by rw [← HIVS.out]; exact HO5, by rw [HPJ.out]; exact HM5, HB5⟩
      case measure => simp [intOf]; omega
    · obtain rfl : k = over.length := by omega
      have HJE := Lib.hid (join_end HFM.out HER.out)
      clear hlt hk HER
      by_cases g1 : (openJ bits.flatten over over.length).length = 0
      · have HJ := Lib.hid (HJE.out.2 g1)
        have HLN := Lib.hid (outJ_len bits.flatten over over.length)
        clear HJE
        generalize openJ bits.flatten over over.length = S at *
        have dg : decide (0 < S.length) = false := decide_eq_false (by omega)
        go_wp2_with (refine wpList_len_open rfl (.tmp 57) rfl HM.out rfl ?_)
        go_ret2
        refine ⟨A1, c1, ?_, ?_, HB.out⟩
        · rw [HJ.out.1, HJ.out.2, iv_len, HLN.out, ← HN.out]; rfl
        · rw [HJ.out.2, iv_len, HLN.out, ← HN.out]; exact HO.out
      · have HJ := Lib.hid (HJE.out.1 g1)
        clear HJE
        generalize openJ bits.flatten over over.length = S at *
        have dg : 0 < S.length := by omega
        have dgi : (0 : Int) < (S.length : Int) := by omega
        clear g1
        go_wp2_with (refine wpList_len_open rfl (.tmp 57) rfl HM.out rfl ?_)
        go_ret2
        exact gives_none (by rw [HJ.out.2]; rfl) HJ.out.1 HB.out
end Go.Proofs.Ytcnalndhlonblaa
